import Derived.Test.YtmlmfpikncogpaaGreatL36
namespace Go.Proofs.YtmlmfpikncogpaaGreat
open Go.RowKit
set_option linter.unusedSimpArgs false
set_option linter.unusedVariables false
set_option maxRecDepth 100000
set_option maxHeartbeats 16000000
namespace Sn
section
open Go.RowKit Dk
theorem og {s:St} (h:bad s=0):s.down=false/\7<=s.n/\root s<=1:=by
 unfold bad at h;by_cases a:s.down=true
 ·rw[if_pos a] at h;cases h
 rw[if_neg a] at h;by_cases b:s.n<7\/65536<s.n
 ·rw[if_pos b] at h;cases h
 rw[if_neg b] at h;by_cases c:1<root s
 ·rw[if_pos c] at h;cases h
 exact⟨by simpa using a,by omega,by omega⟩
theorem uo (w:World) (a b:Nat) (s:St) (f:aZ w a b s) (i:bad s=0):
 Calls Tryz.prog 56 #[.pointer (V a)] w fun e w'=>e=.returned (.tuple #[.agg (bP s.n),I (root s:Nat),.agg (bg (sec s (1+root s))),I 0])/\aa [] w w':=by
  obtain⟨c,d,g⟩:=og i;rcases EQ.1 g with h | h
  ·rw[h];exact xU w a b s f c d h
  rw[h];exact xT w a b s f c d h
theorem yB {h:List UInt8} (a:h.length=64):hEp h<4294967296:=jI 4 _ (by rw[CY,a];rfl)
theorem uC {h:List UInt8} (a:h.length=64):hLen h<4294967296:=jI 4 _ (by rw[CY,Da,a];rfl)
theorem uB {h:List UInt8} (a:h.length=64):hSum h<18446744073709551616:=jI 8 _ (by rw[CY,Da,a];rfl)
theorem kW (s:St):∀(k a:Nat),cat s a (k+1)=cat s a k++sec s (a+k)
 | 0,a=>by show sec s a++[]=[]++sec s (a+0);simp
 | k+1,a=>by
  show sec s a++cat s (a+1) (k+1)=sec s a++cat s (a+1) k++sec s (a+(k+1));rw[kW s k (a+1),Dd,show a+1+k=a+(k+1) by omega]
theorem qi {s:St} (h:s.mem.length=64*s.n):∀(k a:Nat),a+k<=s.n->(cat s a k).length=64*k
 | 0,a,_=>rfl
 | k+1,a,hk=>by
  rw[kW,CU,qi h k a (by omega),fm h (by omega)];omega
theorem ze {s:St} (h:s.mem.length=64*s.n) {a k m len:Nat} (b:k<=m) (e:a+m<=s.n) (c:len<=64*k):(cat s a k).take len=(cat s a m).take len:=by
 obtain⟨d,rfl⟩:∃d,m=k+d:=⟨m - k,by omega⟩
 induction d with
 | zero=>rfl
 | succ d ih=>
  rw[ih (by omega) (by omega),show k+(d+1)=(k+d)+1 by omega,kW,DV (by rw[qi h _ _ (by omega)];omega)]
theorem sM {w:World} {base n:Nat} {A:Option Addr} {c:Nat} {l:List UInt8} (h:w.ownsRow base 5 1 (.slice A n c) n (l.map bv)) {k:Nat} (s:k<=n):w.ownsRow base 5 1 (.slice A k c) k ((l.take k).map bv):=by
 have j:l.length=n:=by have:=h.1;simpa using this
 refine⟨by simp[j];omega,?_⟩;rcases h.2 with ⟨b,e⟩ | ⟨g,d,a,q,f,i,r,m,o,p⟩
 ·injection b with b h3 h4;subst b e h4;obtain rfl:k=0:=by omega
  exact .inl ⟨rfl,rfl⟩
 injection q with hA _ hcap;subst hA hcap;refine .inr ⟨g,c,a,rfl,f,i,by omega,m,o,?_⟩;rw[El,<-p,Eu]
 congr 1
 omega
def l5 (w:World) (q:List UInt8×Nat×Int) (e:Ending) (w':World):Prop:=
 ∃A c,e=.returned (.tuple #[.slice A q.1.length c,.int .u32 (q.2.1:Nat),I q.2.2])/\w'.ownsRow w.heap.size 5 1 (.slice A q.1.length c) q.1.length (q.1.map bv)/\aa [] w w'
theorem l5.err {w w':World} {x:Int} (k:aa [] w w'):l5 w ([],0,x) (.returned (.tuple #[.slice none 0 0,.int .u32 0,I x])) w':=
 ⟨none,0,rfl,EX _ _ _ _,k⟩
theorem oW (w:World) (bd bs:Nat) (s:St) (K:aZ w bd bs s):
 Calls Tryz.prog 26 #[.pointer (V bd)] w (l5 w (dt s)):=by
  by_cases Y:bad s=0
  ·have y:=bZ (uo w bd bs s K Y);obtain⟨hd,h7,ap⟩:=og Y;have hn:=K.n;have g:=K.len;have a4:=uS s.n;have z:=fm g (i:=1+root s) (by omega);have f:dt s=if hEp (sec s (1+root s))=0 then ([],0,4) else
    if 64*area s.n<hLen (sec s (1+root s)) then ([],0,17) else
    if crc ((cat s (aS s.n (root s)) (area s.n)).take (hLen (sec s (1+root s))))≠hSum (sec s (1+root s)) then ([],0,17) else
    ((cat s (aS s.n (root s)) (area s.n)).take (hLen (sec s (1+root s))),hEp (sec s (1+root s)),0):=by
    unfold dt;rw[if_neg (by simp[Y])]
   have P:aS s.n (root s)+area s.n<=s.n:=by unfold aS;split<;>omega
   have hE:=yB z;have hL:=uC z;have hS:=uB z;have t:(bP s.n)[3+root s]? =some (I (aS s.n (root s):Nat)):=by
    rcases EQ.1 ap with h | h
    ·rw[h];rfl
    rw[h];rfl
   unfold bg bP at y;generalize hH:sec s (1+root s)=H at*;replace K:=bZ K;replace hH:=bZ hH;replace z:=bZ z;replace f:=bZ f;replace g:=bZ g;clear Y;obtain⟨r,hr⟩:∃r,root s=r:=⟨_,rfl⟩;rw[hr] at y ap f P t;obtain⟨n,q⟩:∃n,s.n=n:=⟨_,rfl⟩;rw[q] at y h7 hn a4 f P t;replace hr:=bZ hr;replace q:=bZ q;obtain⟨E,T⟩:∃E,hEp H=E:=⟨_,rfl⟩;obtain⟨L,W⟩:∃L,hLen H=L:=⟨_,rfl⟩;obtain⟨J,X⟩:∃J,hSum H=J:=⟨_,rfl⟩;rw[T,W,X] at y f;rw[T] at hE;rw[W] at hL;rw[X] at hS;obtain⟨d,B⟩:∃d,area n=d:=⟨_,rfl⟩;rw[B] at y a4 f P;obtain⟨l,S⟩:∃l,aS n r=l:=⟨_,rfl⟩;rw[S] at f P t;have ac:bP n=#[I 0,I 1,I 2,I 3,I (3+(d:Int)),I (d:Int),I (3+2*(d:Int)),I ((n:Int) - (3+2*(d:Int)))]:=by unfold bP;rw[B]
   rw[ac] at t;replace t:=bZ t;clear ac T W X B S;obtain⟨qq,an⟩:∃qq,dt s=qq:=⟨_,rfl⟩;rw[an] at f ⊢;clear an;go_enter Tryz.func26,Tryz.ntmps26;go_wp2_with fail;refine y.o.mono ?_;rintro e w1 ⟨rfl,R⟩;have M:=K.o.keep R (by simp) (by simp);have e1:IntKind.i64.wrap ((d:Int)*64)=(d:Int)*64:=C0 _ (by omega);have e2:IntKind.u64.wrap ((d:Int)*64)=(d:Int)*64:=EZ _ (by omega);replace R:=bZ R;replace M:=bZ M;clear y;by_cases N:E=0
   ·have b:=f.o;rw[if_pos N] at b;subst b;subst N;clear f;go_wp2_with fail;refine bodyPost_ret (v:=.tuple #[.slice none 0 0,.int .u32 0,I 4]) (by simp[results,Tryz.results26,go_sem]) rfl ?_;exact l5.err ((R.o.alloc _).alloc _)
   have ba:((E:Int)==0)=false:=by simp;omega
   by_cases bh:(d:Int)*64<(L:Int)
   ·have b:=f.o;rw[if_neg N,if_pos (by omega)] at b;subst b;clear f;go_wp2_with fail;refine bodyPost_ret (v:=.tuple #[.slice none 0 0,.int .u32 0,I 17]) (by simp[results,Tryz.results26,go_sem]) rfl ?_;exact l5.err ((R.o.alloc _).alloc _)
   have b:=f.o;rw[if_neg N,if_neg (by omega)] at b;replace f:=bZ b;clear b;have e3:IntKind.i64.wrap (L:Int)=L:=C0 _ (by omega);go_wp2_with fail;obtain⟨w2,u⟩:∃w2,w2=(w1.alloc (.cells #[I 0,I 1,I 2,I 3,I (3+(d:Int)),I (d:Int),I (3+2*(d:Int)),I ((n:Int) - (3+2*(d:Int)))] 85)).alloc (.cells #[.int .u64 (E:Int),.int .u64 (L:Int),.int .u64 (J:Int)] 134):=⟨_,rfl⟩;rw[<-u];have B5:Z (Blk w2 w1.heap.size 85 #[I 0,I 1,I 2,I 3,I (3+(d:Int)),I (d:Int),I (3+2*(d:Int)),I ((n:Int) - (3+2*(d:Int)))]):=bZ (by rw[u];exact(Blk.new w1 85 _).alloc _);have B7:Z (Blk w2 (w1.heap.size+1) 134 #[.int .u64 (E:Int),.int .u64 (L:Int),.int .u64 (J:Int)]):=bZ (by
    rw[u];have:=Blk.new (w1.alloc (.cells #[I 0,I 1,I 2,I 3,I (3+(d:Int)),I (d:Int),I (3+2*(d:Int)),I ((n:Int) - (3+2*(d:Int)))] 85)) 134 #[.int .u64 (E:Int),.int .u64 (L:Int),.int .u64 (J:Int)];simpa using this)
   have D2:Z (aZ w2 bd bs s):=bZ (by rw[u];exact M.o.keep (((aa.refl [] w1).alloc _).alloc _) (by simp) (by simp));have K2:Z (aa [] w w2):=bZ (by rw[u];exact(R.o.alloc _).alloc _);have b4:=bZ info5;clear u M R K;generalize w1.heap.size=g5 at*;have b7:L<=64*d:=by omega
   go_loopw [9,10] (fun ov iv wr=>∃i:Nat,iv=I i/\64*i<L+64/\Z (wr.ownsRow w2.heap.size 5 1 ov (64*i) ((cat s l i).map bv))/\Z (aa [] w2 wr)) (fun ov _ _=>L+64 - lenOf ov)
   case atStart=>exact⟨0,rfl,by omega,bZ (EX _ _ _ _),bZ (aa.refl _ _)⟩
   case round=>
    obtain⟨i,rfl,hi,ho,D⟩:=hrel;obtain⟨A,c,rfl,hc,bn⟩:=ib ho.o;have q7:∀j,wr.cell? (U (g5+1) j)=(#[.int .u64 (E:Int),.int .u64 (L:Int),.int .u64 (J:Int)]:Array Value)[j]?:=(B7.o.keep D.o (by simp)).cell;by_cases bp:64*i<L
    ·have b6:((64*i:Nat):Int)<(L:Int):=by omega
     have a6:cKd s ((l+i:Nat):Int)=0:=by unfold cKd;rw[hd];simp;have:=q.o;omega
     have HR:=fU wr bd bs s (l+i) (D2.o.keep D.o (by simp) (by simp)) a6 (by have:=q.o;omega);rw[show ((l+i:Nat):Int)=(l:Int)+(i:Int) by omega] at HR;have Q:=fm g.o (i:=l+i) (by have:=q.o;omega);have a1:=kW s i l;have C:=qi g.o i l (by have:=q.o;omega);generalize a5:sec s (l+i)=b0 at*;replace a5:=bZ a5;replace HR:=bZ HR;replace a1:=bZ a1;replace C:=bZ C;replace Q:=bZ Q;have qA:wr.cell? (U g5 (3+r))=some (I (l:Int)):=((B5.o.keep D.o (by simp)).cell (3+r)).trans t.o;have ew:IntKind.i64.wrap ((l:Int)+(i:Int))=(l:Int)+(i:Int):=C0 _ (by omega);have c0:(r:Int)<2:=by omega
     have bt:(0:Int)<=(r:Int):=by omega
     clear a6;go_wp2_with fail;refine HR.o.mono ?_;rintro e w3 ⟨rfl,hB,k3⟩;have b2:=bZ (ej hB);have ak:=bZ (cV ho.o k3 (by simp));have a8:=bZ (D.o.trans k3);have a9:w2.heap.size<=w3.heap.size:=a8.o.size;have b9:Z (64*i+64=64*(i+1)):=bZ (by omega);clear HR hB k3 q7 qA;go_wp2_with (at_builtin;refine ai rfl (.tmp 58) (.tmp 59) 79 rfl w2.heap.size 5 Tryz.underlying79 b4.o (.slice A (64*i) c) (cat s l i) b0 rfl ?_ _ 64 64 rfl Q.o b2.o ?_ ?_ ?_;(rw[C.o];exact ak.o);(rw[C.o,Q.o];omega);(exact a9);(rw[C.o,<-a1.o]);intro A' c' w4 G1 G2 G3;have b5:=bZ (a8.o.over (C9 _) (f7 ak.o a9 G2.o));clear G2 G3);go_roundw
     case rel=>exact⟨i+1,by go_num,by omega,G1,b5⟩
     case measure=>simp[lenOf];omega
    have b6:¬((64*i:Nat):Int)<(L:Int):=by omega
    have a3:L<=64*i:=by omega
    have a7:=ze g.o (a:=l) (k:=i) (m:=d) (len:=L) (by omega) (by have:=q.o;omega) a3;have F:=nD (sM ho.o a3) K2.o.size;rw[a7] at F;generalize b1:(cat s l d).take L=OO at*;obtain⟨a2,O,_,_,_⟩:=bK F;have bi:L<=c:=by omega
    have b8:(L:Int)<=(c:Int):=by omega
    have HS:=bZ (fun m=>tV (wr.drewN m) A OO L c (a2.keep ((aa.refl [] wr).drewN m) (by simp)) O (by omega));have bb:(0:Int)<=(L:Int):=by omega
    replace F:=bZ F;replace O:=bZ O;have e4:IntKind.u32.wrap (E:Int)=E:=IntWalk.u32_in _ (by omega);have e5:(E:Int)%4294967296=E:=by omega
    have KF:=bZ (K2.o.trans D.o);clear ho a7 a2 b1;generalize bl:crc OO=CC at*;by_cases p:CC=J
    ·have b:=f.o;rw[if_neg (by simp[p])] at b;have b3:((CC:Int) !=(J:Int))=false:=by simp[p]
     subst b;clear f;replace p:=bZ p;go_wp2_with fail;go_quiet ((go_at_call 58;exact bw (HS.o _)));go_wp2_with fail;go_quiet (fail);go_wp2_with fail;refine bodyPost_ret (v:=.tuple #[.slice A L c,.int .u32 (E:Int),I 0]) (by simp[results,Tryz.results26,go_sem]) rfl ?_;unfold l5;rw[O.o];exact⟨A,c,rfl,cV F.o (((aa.refl [] wr).drewN _).drewN _) (by simp),(KF.o.drewN _).drewN _⟩
    have b:=f.o;rw[if_pos p] at b;have b3:((CC:Int) !=(J:Int))=true:=by simp;omega
    subst b;clear f;go_wp2_with fail;go_quiet ((go_at_call 58;exact bw (HS.o _)));go_wp2_with fail;refine bodyPost_ret (v:=.tuple #[.slice none 0 0,.int .u32 0,I 17]) (by simp[results,Tryz.results26,go_sem]) rfl ?_;exact l5.err (KF.o.drewN _)
  have y:=bZ (rm w bd bs s K Y);have f:dt s=([],0,bad s):=by unfold dt;rw[if_pos Y]
  rw[f];have bk:(bad s !=0)=true:=by simp[Y]
  generalize bad s=x at*;unfold bN bF at y;clear K f;go_enter Tryz.func26,Tryz.ntmps26;go_wp2_with fail;refine y.o.mono ?_;rintro e w1 ⟨rfl,R⟩;clear y;go_wp2_with fail;refine bodyPost_ret (v:=.tuple #[.slice none 0 0,.int .u32 0,I x]) (by simp[results,Tryz.results26,go_sem]) rfl ?_;exact l5.err ((R.alloc _).alloc _)
end
section
open Go.RowKit Dk
def Ct (w:World) (a b:Nat) (q:St×Int) (e:Ending) (w':World):Prop:=e=.returned (I q.2)/\aZ w' a b q.1/\aa [a,b] w w'
theorem Ak (ep:Nat) (b:List UInt8):(hdr ep b).length=16:=by unfold hdr;simp[bX]
theorem gW:∀(f:Nat) (s:St) (i:Nat) (d:List UInt8),0<=s.writes->0<=(sws s i f d).1.writes/\(sws s i f d).1.writes<=s.writes+(d.length+63)/64
 | 0,s,i,d,h=>⟨h,by show s.writes<=_;omega⟩
 | f+1,s,i,d,h=>by
  by_cases a:d=[]
  ·subst a;rw[gX];exact⟨h,by show s.writes<=_;simp⟩
  have e:0<d.length:=E5.2 a;have c:=de s i (pad (d.take 64)) h;by_cases b:(wr s i (pad (d.take 64))).2=0
  ·rw[jK a b];have:=gW f (wr s i (pad (d.take 64))).1 (i+1) (d.drop 64) c.1;rw[Da] at this;omega
  rw[gY a b];omega
def j4 (s:St) (o a ep:Nat) (b:List UInt8):St×Int:=
 if (sws s a b.length b).2≠0 then sws s a b.length b else
 if (wr (sws s a b.length b).1 ((1+o:Nat):Int) (pad (hdr ep b))).2≠0 then wr (sws s a b.length b).1 ((1+o:Nat):Int) (pad (hdr ep b)) else
 wr (wr (sws s a b.length b).1 ((1+o:Nat):Int) (pad (hdr ep b))).1 0 (pad [UInt8.ofNat o])
theorem sD (w:World) (W X:Nat) (s:St) (ep:Nat) (A:Option Addr) (b:List UInt8) (n c:Nat) (hD:aZ w W X s) (hB:Bts w A b) (hn:b.length=n) (f1:n<=c) (er:c<=maxLen) (ev:ep<4294967296)
 (hA:∀a,A=some a->a.block≠W/\a.block≠X) (dc:0<=s.writes) (hw:s.writes<=900000):
 Calls Tryz.prog 54 #[.pointer (V W),.int .u32 ep,.slice A n c] w (Ct w W X (bG s ep b)):=by
  by_cases hb:bad s=0
  ·have HO:=bZ (uo w W X s hD hb);obtain⟨hd,h7,c5⟩:=og hb;have d2:=hD.n;have ak:=hD.len;have cj:=uS s.n;have b4:=fm ak (i:=1+root s) (by omega);have z:bG s ep b=if ep<=hEp (sec s (1+root s)) then (s,1) else if 64*area s.n<b.length then (s,16) else j4 s (1 - root s) (aS s.n (1 - root s)) ep b:=by
    unfold bG j4;rw[if_neg (by simp[hb])]
   have a7:aS s.n (1 - root s)+area s.n<=s.n:=by unfold aS;split<;>omega
   have hE:=yB b4;have hL:=uC b4;have hS:=uB b4;have R:(bP s.n)[3+(1 - root s)]? =some (I (aS s.n (1 - root s):Nat)):=by
    rcases EQ.1 c5 with h | h
    ·rw[h];rfl
    rw[h];rfl
   have a3:(bP s.n)[1+(1 - root s)]? =some (I ((1+(1 - root s):Nat):Int)):=by
    rcases EQ.1 c5 with h | h
    ·rw[h];rfl
    rw[h];rfl
   unfold bg bP at HO;generalize hH:sec s (1+root s)=H at*;obtain⟨r,hr⟩:∃r,root s=r:=⟨_,rfl⟩;rw[hr] at HO c5 z a7 R a3;obtain⟨nn,ap⟩:∃nn,s.n=nn:=⟨_,rfl⟩;rw[ap] at HO h7 d2 cj z a7 R a3;obtain⟨E,cb⟩:∃E,hEp H=E:=⟨_,rfl⟩;rw[cb] at HO z hE;obtain⟨D,a8⟩:∃D,area nn=D:=⟨_,rfl⟩;rw[a8] at HO cj z a7;obtain⟨o,ho⟩:∃o,1 - r=o:=⟨_,rfl⟩;rw[ho] at z a7 R a3;obtain⟨T,ba⟩:∃T,aS nn o=T:=⟨_,rfl⟩;rw[ba] at z a7 R;have cn:bP nn=#[I 0,I 1,I 2,I 3,I (3+(D:Int)),I (D:Int),I (3+2*(D:Int)),I ((nn:Int) - (3+2*(D:Int)))]:=by unfold bP;rw[a8]
   rw[cn] at R a3;have f2:o<=1:=by omega
   have d6:1 - (r:Int)=(o:Int):=by omega
   have dr:IntKind.i64.wrap (1 - (r:Int))=(o:Int):=by rw[d6];exact C0 _ (by omega)
   generalize bG s ep b=qq at*;rw[hn] at z;replace z:=bZ z;replace R:=bZ R;replace a3:=bZ a3;replace hD:=bZ hD;replace hB:=bZ hB;replace hn:=bZ hn;replace hA:=bZ hA;replace ak:=bZ ak;replace ho:=bZ ho;replace ap:=bZ ap;generalize hLen H=L at*;generalize hSum H=SS at*;clear hb cn cb a8 ba hH b4 hr hL hS;go_enter Tryz.func54,Tryz.ntmps54;go_wp2_with fail;refine HO.o.mono ?_;rintro e w1 ⟨rfl,k1⟩;have F:=bZ (hD.o.keep k1 (by simp) (by simp));have c9:=bZ (hB.o.keep k1 (by simp));have e1:IntKind.i64.wrap ((D:Int)*64)=(D:Int)*64:=C0 _ (by omega);have e2:IntKind.u64.wrap (ep:Int)=ep:=EZ _ (by omega);have e0:(ep:Int)%18446744073709551616=ep:=by omega
   replace k1:=bZ k1;clear HO hD hB;by_cases cq:(ep:Int)<=(E:Int)
   ·have J:=z.o;rw[if_pos (by omega)] at J;subst J;clear z;go_wp2_with fail;go_ret;exact⟨rfl,F.o.keep (((aa.refl [] w1).alloc _).alloc _) (by simp) (by simp),((k1.o.alloc _).alloc _).nil⟩
   have eg:decide ((ep:Int)<=(E:Int))=false:=decide_eq_false cq;have dn:decide (ep<=E)=false:=decide_eq_false (by omega);by_cases cr:(D:Int)*64<(n:Int)
   ·have J:=z.o;rw[if_neg (by omega),if_pos (by omega)] at J;subst J;clear z;go_wp2_with fail;go_ret;exact⟨rfl,F.o.keep (((aa.refl [] w1).alloc _).alloc _) (by simp) (by simp),((k1.o.alloc _).alloc _).nil⟩
   have J:=z.o;rw[if_neg (by omega),if_neg (by omega)] at J;replace z:=bZ J;have ek:decide ((D:Int)*64<(n:Int))=false:=decide_eq_false cr;clear J;go_wp2_with fail;obtain⟨w2,a6⟩:∃w2,w2=(w1.alloc (.cells #[I 0,I 1,I 2,I 3,I (3+(D:Int)),I (D:Int),I (3+2*(D:Int)),I ((nn:Int) - (3+2*(D:Int)))] 85)).alloc (.cells #[.int .u64 (E:Int),.int .u64 (L:Int),.int .u64 (SS:Int)] 134):=⟨_,rfl⟩;rw[<-a6];have B7:Z (Blk w2 w1.heap.size 85 #[I 0,I 1,I 2,I 3,I (3+(D:Int)),I (D:Int),I (3+2*(D:Int)),I ((nn:Int) - (3+2*(D:Int)))]):=bZ (by rw[a6];exact(Blk.new w1 85 _).alloc _);have D2:Z (aZ w2 W X s):=bZ (by rw[a6];exact F.o.keep (((aa.refl [] w1).alloc _).alloc _) (by simp) (by simp));have bp:Z (Bts w2 A b):=bZ (by rw[a6];exact c9.o.keep (((aa.refl [] w1).alloc _).alloc _) (by simp));have K2:Z (aa [] w w2):=bZ (by rw[a6];exact(k1.o.alloc _).alloc _);have Y:Z (w1.heap.size∉[W,X]):=bZ (by have:=F.o.d.lt;have:=F.o.m.lt;simp;omega);have d0:=bZ info5;clear a6 F k1 c9;generalize w1.heap.size=g7 at*;obtain⟨Q,hQ⟩:∃Q,sws s T n b=Q:=⟨_,rfl⟩;have b9:Z (qq=j4 s o T ep b):=z;have dq:n<=64*D:=by omega
   have cc:=bZ hQ;go_loopw [12] (fun iv wr=>∃(i:Nat) (s':St),iv=I i/\64*i<n+64/\Z (aZ wr W X s')/\Z (sws s' (T+i) (n - i) (b.drop (64*i))=Q)/\Z (0<=s'.writes/\s'.writes<=s.writes+(i:Int))/\Z (aa [W,X] w2 wr)) (fun iv _=>n+64 - (intOf iv).toNat)
   case atStart=>exact⟨0,s,rfl,by omega,D2,bZ (by simpa using hQ),bZ ⟨dc,by omega⟩,bZ (aa.refl _ _)⟩
   clear hQ;obtain⟨i,s',rfl,hi,c0,b6,c7,a2⟩:=hrel;have bn:=bZ (B7.o.keep a2.o Y.o);have e6:IntKind.i64.wrap ((i:Int)*64)=(i:Int)*64:=C0 _ (by omega);by_cases f0:64*i<n
   ·have d1:(i:Int)*64<(n:Int):=by omega
    obtain⟨k,hk⟩:∃k,k=min 64 (n - 64*i):=⟨_,rfl⟩;have ew:1<=k:=by omega
    have cl:Z ((64*i+64<=n/\k=64)\/(n<64*i+64/\k=n - 64*i)):=bZ (by omega);have bb:k<=64:=by omega
    have ex:64*i+k<=n:=by omega
    have co:min (((i:Int)+1)*64) (n:Int)=((64*i+k:Nat):Int):=by omega
    have e7:IntKind.i64.wrap ((i:Int)+1)=(i:Int)+1:=C0 _ (by omega);have e9:IntKind.i64.wrap (((i:Int)+1)*64)=((i:Int)+1)*64:=C0 _ (by omega);have ee:(0:Int)<=(i:Int)*64:=by omega
    have f3:((i:Int)*64).toNat=64*i:=by omega
    have es:¬c=64*i:=by omega
    have en:((64*i+k:Nat):Int)<=(c:Int):=by omega
    have ey:(i:Int)*64<=((64*i+k:Nat):Int):=by omega
    obtain⟨gA,oA,rfl⟩:∃g o,A=some (U g o):=by
     rcases bp.o with h | ⟨g,o,h,_⟩
     ·have:=hn.o;rw[h] at this;simp at this;omega
     exact⟨g,o,h⟩
    have b7:=(iV (k:=64*i) (bp.o.keep a2.o (fun a ha=>by cases ha;have:=hA.o _ rfl;simp;exact this))).take 64;obtain⟨ch,O⟩:∃ch,(b.drop (64*i)).take 64=ch:=⟨_,rfl⟩;rw[O] at b7;have b8:Z (ch.length=k):=bZ (by rw[<-O,CY,Da,hn.o];omega);have hz:Z (([]:List UInt8).length+k=k):=bZ (Dl k);have ct:=bZ b7;have qA:wr.cell? (U g7 (3+o))=some (I (T:Int)):=(bn.o.cell (3+o)).trans R.o;have ec:IntKind.i64.wrap ((T:Int)+(i:Int))=(T:Int)+(i:Int):=C0 _ (by omega);have d4:(o:Int)<2:=by omega
    have d3:(0:Int)<=(o:Int):=by omega
    have y:Z (0<=s'.writes/\s'.writes<=950000):=bZ (by have:=c7.o;omega);obtain⟨q,p⟩:∃q,Go.Proofs.YtmlmfpikncogpaaGreat.Dk.wr s' ((T:Int)+(i:Int)) (pad ch)=q:=⟨_,rfl⟩;have z:=bZ p;have cp:=bZ (de s' ((T:Int)+(i:Int)) (pad ch) y.o.1);rw[p] at cp;have an:b.drop (64*i)≠[]:=by
     intro h0;have:=congrArg List.length h0;rw[Da,hn.o] at this;simp at this;omega
    have M:Z ((q.2=0->sws q.1 (T+(i+1)) (n - (i+1)) (b.drop (64*(i+1)))=Q)/\(q.2≠0->q=Q)):=bZ (by
     have h1:=b6.o;rw[show n - i=(n - (i+1))+1 by omega] at h1;have c3:((T+i:Nat):Int)=(T:Int)+(i:Int):=by omega
     rw[<-p,<-h1,<-c3,<-O,show 64*(i+1)=64*i+64 by omega,<-Eo];exact⟨fun h=>(jK an h).symm,fun h=>(gY an h).symm⟩)
    replace O:=bZ O;replace hk:=bZ hk;clear p b7 an b6 co;go_upto_region 12 with fail;go_cut [13] from 50 to 59 (fun dl wx=>dl=.slice (some (U gA (oA+64*i))) k (c - 64*i)/\wx=wr)
    case first=>
     by_cases cv:((i:Int)+1)*64<=(n:Int)
     ·have P:k=64:=by rcases cl.o with ⟨_,h⟩ | ⟨h,_⟩<;>omega
      have a1:=bZ P;clear P;have cs:((i:Int)+1)*64<=(c:Int):=by omega
      have cm:(i:Int)*64<=((i:Int)+1)*64:=by omega
      have ds:(((i:Int)+1)*64).toNat=64*i+64:=by omega
      go_wp2_with fail
      all_goals
       go_meet;refine⟨?_,rfl⟩
       first
        | (rw[a1.o];done)
        | (rw[a1.o];simp;done)
        | (rw[a1.o];congr 1;omega)
     have P:k=n - 64*i:=by rcases cl.o with ⟨h,_⟩ | ⟨_,h⟩<;>omega
     have a1:=bZ P;clear P;have cm:(i:Int)*64<=(n:Int):=by omega
     have cs:(n:Int)<=(c:Int):=by omega
     go_wp2_with fail
     all_goals
      go_meet;refine⟨?_,rfl⟩
      first
       | (rw[a1.o];done)
       | (rw[a1.o];simp;done)
       | (rw[a1.o];congr 1;omega)
    obtain⟨rfl,rfl⟩:=hcut;go_wp2_with fail;refine eo (S:=(fun w'=>w'.cell? (U g7 (3+o))=some (I (T:Int)))) (n:=13) (by kernel_rfl) ?_;have j:wc.drew.cell? (U g7 (3+o))=some (I (T:Int)):=qA;refine az (i:=0) (v:=?_) (by kernel_rfl) rfl (by kernel_rfl) (by kernel_rfl) (by kernel_rfl) (fun _ _ _ h=>h) j (Ey ⟨by rfl,?_⟩) ?_;rotate_left
    ·(intro w f;obtain C:=f;go_simp;try with_reducible rfl)
    try simp only[PT,Y1,Y2,Y3]
    refine az (i:=1) (v:=?_) (by kernel_rfl) rfl (by kernel_rfl) (by kernel_rfl) (by kernel_rfl) (fun _ _ _ h=>h) j (Ey ⟨by rfl,?_⟩) ?_;rotate_left
    ·(intro w f;obtain C:=f;go_simp;try with_reducible rfl)
    try simp only[PT,Y1,Y2,Y3]
    refine az (i:=2) (v:=?_) (by kernel_rfl) rfl (by kernel_rfl) (by kernel_rfl) (by kernel_rfl) (fun _ _ _ h=>h) j (Ey ⟨by rfl,?_⟩) ?_;rotate_left
    ·(intro w f;obtain C:=f;go_simp;try with_reducible rfl)
    try simp only[PT,Y1,Y2,Y3]
    refine az (i:=3) (v:=?_) (by kernel_rfl) rfl (by kernel_rfl) (by kernel_rfl) (by kernel_rfl) (fun _ _ _ h=>h) j (Ey ⟨by rfl,?_⟩) ?_;rotate_left
    ·(intro w f;obtain C:=f;go_simp;try with_reducible rfl)
    try simp only[PT,Y1,Y2,Y3]
    refine az (i:=4) (v:=?_) (by kernel_rfl) rfl (by kernel_rfl) (by kernel_rfl) (by kernel_rfl) (fun _ _ _ h=>h) j (Ey ⟨by rfl,?_⟩) ?_;rotate_left
    ·(intro w f;obtain C:=f;go_simp;try with_reducible rfl)
    try simp only[PT,Y1,Y2,Y3]
    refine az (i:=5) (v:=?_) (by kernel_rfl) rfl (by kernel_rfl) (by kernel_rfl) (by kernel_rfl) (fun _ _ _ h=>h) j (Ey ⟨by rfl,?_⟩) ?_;rotate_left
    ·(intro w f;obtain C:=f;go_simp;try with_reducible rfl)
    try simp only[PT,Y1,Y2,Y3]
    refine az (i:=6) (v:=?_) (by kernel_rfl) rfl (by kernel_rfl) (by kernel_rfl) (by kernel_rfl) (fun _ _ _ h=>h) j (Ey ⟨by rfl,?_⟩) ?_;rotate_left
    ·(intro w f;obtain C:=f;go_simp;try with_reducible rfl)
    try simp only[PT,Y1,Y2,Y3]
    refine az (i:=8) (v:=?_) (by kernel_rfl) rfl (by kernel_rfl) (by kernel_rfl) (by kernel_rfl) (fun _ _ _ h=>h) j (Ey ⟨by rfl,?_⟩) ?_;rotate_left
    ·(intro w f;obtain C:=f;go_simp;try with_reducible rfl)
    try simp only[PT,Y1,Y2,Y3]
    refine aM (i:=7) rfl (by kernel_rfl) (fun K u=>?_);dsimp only[Y1,Y2,Y3];go_simp;have j:=((aa.refl [] wc).drew.alloc (.cells #[] 5)).cellEq qA (by simp);have HM:Z ((wc.drew.alloc (.cells #[] 5)).ownsRow wc.heap.size 5 1 (.slice (V wc.heap.size) 0 0) ([]:List UInt8).length (([]:List UInt8).map bv)):=bZ (Fd wc.drew #[] 0 (C9 _) (by simp[maxLen]) (by simp));have K1:Z (aa [] wc (wc.drew.alloc (.cells #[] 5))):=bZ ((aa.refl [] wc).drew.alloc _);refine u _ _ (.inr j) ?_;clear u K
    try simp only[PT,Y1,Y2,Y3]
    refine aM (i:=9) rfl (by kernel_rfl) (fun K u=>?_);dsimp only[Y1,Y2,Y3];rw[if_pos (by rfl)];refine jy (.tmp 67) (.tmp 68) 79 (by rfl) wc.heap.size 5 Tryz.underlying79 d0.o (.slice (V wc.heap.size) 0 0) [] ch (by rfl) HM.o _ k _ (by rfl) b8.o (ct.o.keep K1.o (by simp)) (by rw[b8.o,D6];omega) K1.o.size ?_;rw[hz.o];intro A1 c1 w1 G1 G2 G3;have g1:=G1.o;rw[Dm] at g1;have K2:Z (aa [] wc w1):=bZ (K1.o.over (C9 _) (f7 HM.o K1.o.size G2.o));have o1:=bZ g1;have j:=K2.o.cellEq qA (by simp);clear G1 G2 G3 g1 HM K1;refine u _ _ (.inr j) ?_;clear u K
    try simp only[PT,Y1,Y2,Y3]
    refine aM (i:=10) rfl (by kernel_rfl) (fun K u=>?_);dsimp only[Y1,Y2,Y3];go_simp;go_wp2_with ((refine(jM _ wc.heap.size _ ch k b8.o o1.o K2.o.size bb).mono ?_);rintro e v2 ⟨A2,c2,rfl,o2,b2⟩);have K3:Z (aa [] wc v2):=bZ (K2.o.over (C9 _) b2);replace o2:=bZ o2;have j:=K3.o.cellEq qA (by simp);clear b2 o1 K2;refine u _ _ (.inr j) ?_;clear u K
    try simp only[PT,Y1,Y2,Y3]
    refine aM (i:=11) rfl (by kernel_rfl) (fun K u=>?_);dsimp only[Y1,Y2,Y3];go_simp;have t:=bK o2.o;have HW:=jd v2 W X s' ((T:Int)+(i:Int)) A2 (pad ch) 64 c2 (jg (by rw[b8.o];exact bb)) (c0.o.keep K3.o (by simp) (by simp)) t.1 (fun _ a ha=>by
     have h1:=(t.2.2.2.2 a ha).1;have h2:=c0.o.d.lt;omega) t.2.2.1 y.o.1 (by have:=y.o.2;omega)
    rw[z.o] at HW;go_wp2_with ((refine HW.mono ?_);rintro e w3 ⟨rfl,B,k3⟩);have K4:Z (aa [W,X] wc w3):=bZ (K3.o.nil.trans k3);replace B:=bZ B;have j:=K4.o.cellEq qA Y.o;clear HW k3 K3 o2 t;refine u _ _ (.inr j) ?_;clear u K
    try simp only[PT,Y1,Y2,Y3]
    refine az (i:=12) (v:=?_) (by kernel_rfl) rfl (by kernel_rfl) (by kernel_rfl) (by kernel_rfl) (fun _ _ _ h=>h) j (Ey ⟨by rfl,?_⟩) ?_;rotate_left
    ·(intro w f;obtain C:=f;go_simp;try with_reducible rfl)
    try simp only[PT,Y1,Y2,Y3]
    refine cS (by kernel_rfl) ?_ _;by_cases p:q.2=0
    ·have c4:(q.2 !=0)=false:=by simp[p]
     have b5:=bZ (M.o.1 p);have ac:=bZ (a2.o.trans K4.o);clear z M;go_wp2_with fail;go_roundw
     case rel=>exact⟨i+1,q.1,by go_num,by omega,B,b5,bZ (by have:=cp.o;have:=c7.o;omega),ac⟩
     case measure=>simp[intOf];omega
    have c4:(q.2 !=0)=true:=by simp[p]
    have b5:=M.o.2 p;have a9:qq=q:=by
     rw[b9.o];unfold j4;rw[hn.o,cc.o,<-b5,if_pos p]
    have ac:=bZ (K2.o.nil.trans (a2.o.trans K4.o));subst a9;clear z M b9 b5;go_wp2_with fail;go_ret;exact⟨rfl,B.o,ac.o⟩
   have d1:¬(i:Int)*64<(n:Int):=by omega
   have bi:b.drop (64*i)=[]:=DB (by rw[hn.o];omega);have cd:=b6.o;rw[bi,gX] at cd;obtain⟨s1,db⟩:∃s1,s1=s':=⟨_,rfl⟩;subst db;have y:Z (0<=s1.writes/\s1.writes<=950000):=bZ (by have:=c7.o;omega);have F:=c0;obtain⟨q1,a4⟩:∃q1,Go.Proofs.YtmlmfpikncogpaaGreat.Dk.wr s1 ((1+o:Nat):Int) (pad (hdr ep b))=q1:=⟨_,rfl⟩;have d7:=bZ a4;have bk:=bZ (de s1 ((1+o:Nat):Int) (pad (hdr ep b)) y.o.1);rw[a4] at bk;have a5:Z (qq=if q1.2≠0 then q1 else Go.Proofs.YtmlmfpikncogpaaGreat.Dk.wr q1.1 0 (pad [UInt8.ofNat o])):=bZ (by
    rw[b9.o];unfold j4;rw[hn.o,cc.o,<-cd];simp only[a4];rw[if_neg (by simp)])
   have qH:wr.cell? (U g7 (1+o))=some (I ((1+o:Nat):Int)):=(bn.o.cell (1+o)).trans a3.o;have qR:wr.cell? (U g7 0)=some (I 0):=(bn.o.cell 0).trans rfl;have ck:Z ((hdr ep b).length=16):=bZ (Ak ep b);have H1:=kh wr wr.heap.size (.slice none 0 0) [] 0 ep 4 rfl (EX _ _ _ _) (C9 _) (by decide) (by omega) (by omega);rw[Dm,Dl] at H1;replace H1:=bZ H1;have e5:IntKind.u64.wrap (n:Int)=n:=EZ _ (by omega);have e3:(n:Int)%18446744073709551616=n:=by omega
   clear b9 a4 b6 bi z;go_wp2_with fail;refine H1.o.mono ?_;rintro e u1 ⟨A1,c1,rfl,p1,b1⟩;have H2:=kh u1 wr.heap.size (.slice A1 4 c1) (be 4 ep) 4 n 4 (bX _ _) p1 b1.size (by decide) (by omega) (by omega);rw[show 4+4=8 from rfl] at H2;replace H2:=bZ H2;replace b1:=bZ b1;clear H1 p1;go_wp2_with fail;refine H2.o.mono ?_;rintro e u2 ⟨A2,c2,rfl,p2,b2⟩;have b3:=bZ (fZ b1.o b2);have c8:aa [] wr u2:=(aa.refl [] wr).over (C9 _) b3.o;have H3:=bZ (tV u2 A b n c ((bp.o.keep a2.o (fun a ha=>by have:=hA.o _ ha;simp;exact this)).keep c8 (by simp)) hn.o (by omega));have H4:=kh u2 wr.heap.size (.slice A2 8 c2) (be 4 ep++be 4 n) 8 (crc b) 8 (by rw[CU,bX,bX]) p2 b3.o.size (by decide) (yV b) (by omega);rw[show 8+8=16 from rfl,show be 4 ep++be 4 n++be 8 (crc b)=hdr ep b by unfold hdr;rw[hn.o]] at H4;replace H4:=bZ H4;clear H2 p2 b2 b1 c8;go_wp2_with fail;refine H3.o.mono ?_;rintro e u3 ⟨rfl,rfl⟩;clear H3;go_wp2_with fail;refine H4.o.mono ?_;rintro e wh ⟨Ah,ch,rfl,oh,bh⟩;have Kh:Z (aa [] wr wh):=bZ ((aa.refl [] wr).over (C9 _) (fZ b3.o bh));replace oh:=bZ oh;have d4:(o:Int)<2:=by omega
   have d3:(0:Int)<=(o:Int):=by omega
   clear H4 b3 bh;go_wp2_with fail;refine eo (S:=(fun w'=>w'.cell? (U g7 (1+o))=some (I ((1+o:Nat):Int)))) (n:=9) (by kernel_rfl) ?_;have j:=(Kh.o.drew).cellEq qH (by simp);refine az (i:=0) (v:=?_) (by kernel_rfl) rfl (by kernel_rfl) (by kernel_rfl) (by kernel_rfl) (fun _ _ _ h=>h) j (Ey ⟨by rfl,?_⟩) ?_;rotate_left
   ·(intro w f;obtain C:=f;go_simp;try with_reducible rfl)
   try simp only[PT,Y1,Y2,Y3]
   refine az (i:=1) (v:=?_) (by kernel_rfl) rfl (by kernel_rfl) (by kernel_rfl) (by kernel_rfl) (fun _ _ _ h=>h) j (Ey ⟨by rfl,?_⟩) ?_;rotate_left
   ·(intro w f;obtain C:=f;go_simp;try with_reducible rfl)
   try simp only[PT,Y1,Y2,Y3]
   refine az (i:=2) (v:=?_) (by kernel_rfl) rfl (by kernel_rfl) (by kernel_rfl) (by kernel_rfl) (fun _ _ _ h=>h) j (Ey ⟨by rfl,?_⟩) ?_;rotate_left
   ·(intro w f;obtain C:=f;go_simp;try with_reducible rfl)
   try simp only[PT,Y1,Y2,Y3]
   refine az (i:=3) (v:=?_) (by kernel_rfl) rfl (by kernel_rfl) (by kernel_rfl) (by kernel_rfl) (fun _ _ _ h=>h) j (Ey ⟨by rfl,?_⟩) ?_;rotate_left
   ·(intro w f;obtain C:=f;go_simp;try with_reducible rfl)
   try simp only[PT,Y1,Y2,Y3]
   refine az (i:=4) (v:=?_) (by kernel_rfl) rfl (by kernel_rfl) (by kernel_rfl) (by kernel_rfl) (fun _ _ _ h=>h) j (Ey ⟨by rfl,?_⟩) ?_;rotate_left
   ·(intro w f;obtain C:=f;go_simp;try with_reducible rfl)
   try simp only[PT,Y1,Y2,Y3]
   refine az (i:=5) (v:=?_) (by kernel_rfl) rfl (by kernel_rfl) (by kernel_rfl) (by kernel_rfl) (fun _ _ _ h=>h) j (Ey ⟨by rfl,?_⟩) ?_;rotate_left
   ·(intro w f;obtain C:=f;go_simp;try with_reducible rfl)
   try simp only[PT,Y1,Y2,Y3]
   refine aM (i:=6) rfl (by kernel_rfl) (fun K u=>?_);dsimp only[Y1,Y2,Y3];go_simp;go_wp2_with ((refine(jM _ wr.heap.size _ (hdr ep b) 16 ck.o (cV oh.o (aa.refl [] wh).drew (by simp)) Kh.o.drew.size (by decide)).mono ?_);rintro e v2 ⟨A2,c2,rfl,o2,b2⟩);have K3:Z (aa [] wr v2):=bZ (Kh.o.drew.over (C9 _) b2);replace o2:=bZ o2;have j:=K3.o.cellEq qH (by simp);clear b2;refine u _ _ (.inr j) ?_;clear u K
   try simp only[PT,Y1,Y2,Y3]
   refine aM (i:=7) rfl (by kernel_rfl) (fun K u=>?_);dsimp only[Y1,Y2,Y3];go_simp;have t:=bK o2.o;have HW:=jd v2 W X s1 ((1+o:Nat):Int) A2 (pad (hdr ep b)) 64 c2 (jg (by rw[ck.o];decide)) (F.o.keep K3.o (by simp) (by simp)) t.1 (fun _ a ha=>by
    have h1:=(t.2.2.2.2 a ha).1;have h2:=F.o.d.lt;omega) t.2.2.1 y.o.1 (by have:=y.o.2;omega)
   rw[d7.o] at HW;go_wp2_with ((refine HW.mono ?_);rintro e w3 ⟨rfl,B,k3⟩);have K4:Z (aa [W,X] wr w3):=bZ (K3.o.nil.trans k3);replace B:=bZ B;have j:=K4.o.cellEq qH Y.o;clear HW k3 K3 o2 t;refine u _ _ (.inr j) ?_;clear u K
   try simp only[PT,Y1,Y2,Y3]
   refine az (i:=8) (v:=?_) (by kernel_rfl) rfl (by kernel_rfl) (by kernel_rfl) (by kernel_rfl) (fun _ _ _ h=>h) j (Ey ⟨by rfl,?_⟩) ?_;rotate_left
   ·(intro w f;obtain C:=f;go_simp;try with_reducible rfl)
   try simp only[PT,Y1,Y2,Y3]
   refine cS (by kernel_rfl) ?_ _;by_cases p:q1.2=0
   ·have c4:(q1.2 !=0)=false:=by simp[p]
    obtain⟨s3,c6⟩:∃s3,q1.1=s3:=⟨_,rfl⟩;have b0:=a5.o;rw[if_neg (by simp[p]),c6] at b0;rw[c6] at B;have da:Z (Go.Proofs.YtmlmfpikncogpaaGreat.Dk.wr s3 0 (pad [UInt8.ofNat o])=qq):=bZ b0.symm;have bl:Z (0<=s3.writes/\s3.writes<=960000):=bZ (by rw[<-c6];have:=bk.o;have:=y.o;omega);have d5:Z ((Value.int .u8 (o:Int))=bv (UInt8.ofNat o)):=bZ (by unfold bv;rw[Eg];congr 1;omega);have e8:IntKind.u8.wrap (o:Int)=o:=IntWalk.u8_in _ (by omega);have e4:(o:Int)%256=o:=by omega
    clear a5 b0;go_wp2_with fail;refine eo (S:=(fun w'=>w'.cell? (U g7 0)=some (I 0))) (n:=9) (by kernel_rfl) ?_;have j:=(K4.o.drew).cellEq qR Y.o;refine az (i:=0) (v:=?_) (by kernel_rfl) rfl (by kernel_rfl) (by kernel_rfl) (by kernel_rfl) (fun _ _ _ h=>h) j (Ey ⟨by rfl,?_⟩) ?_;rotate_left
    ·(intro w f;obtain C:=f;go_simp;try with_reducible rfl)
    try simp only[PT,Y1,Y2,Y3]
    refine az (i:=1) (v:=?_) (by kernel_rfl) rfl (by kernel_rfl) (by kernel_rfl) (by kernel_rfl) (fun _ _ _ h=>h) j (Ey ⟨by rfl,?_⟩) ?_;rotate_left
    ·(intro w f;obtain C:=f;go_simp;try with_reducible rfl)
    try simp only[PT,Y1,Y2,Y3]
    refine az (i:=2) (v:=?_) (by kernel_rfl) rfl (by kernel_rfl) (by kernel_rfl) (by kernel_rfl) (fun _ _ _ h=>h) j (Ey ⟨by rfl,?_⟩) ?_;rotate_left
    ·(intro w f;obtain C:=f;go_simp;try with_reducible rfl)
    try simp only[PT,Y1,Y2,Y3]
    refine az (i:=3) (v:=?_) (by kernel_rfl) rfl (by kernel_rfl) (by kernel_rfl) (by kernel_rfl) (fun _ _ _ h=>h) j (Ey ⟨by rfl,?_⟩) ?_;rotate_left
    ·(intro w f;obtain C:=f;go_simp;try with_reducible rfl)
    try simp only[PT,Y1,Y2,Y3]
    refine az (i:=4) (v:=?_) (by kernel_rfl) rfl (by kernel_rfl) (by kernel_rfl) (by kernel_rfl) (fun _ _ _ h=>h) j (Ey ⟨by rfl,?_⟩) ?_;rotate_left
    ·(intro w f;obtain C:=f;go_simp;try with_reducible rfl)
    try simp only[PT,Y1,Y2,Y3]
    refine aM (i:=5) rfl (by kernel_rfl) (fun K u=>?_);dsimp only[Y1,Y2,Y3];go_simp;have K5:Z (aa [] w3 (w3.drew.alloc (.cells #[.int .u8 (o:Int)] 5))):=bZ ((aa.refl [] w3).drew.alloc _);have o5:Z ((w3.drew.alloc (.cells #[.int .u8 (o:Int)] 5)).ownsRow w3.heap.size 5 1 (.slice (V w3.heap.size) 1 1) 1 ([UInt8.ofNat o].map bv)):=bZ (by rw[d5.o];exact nC (l:=[UInt8.ofNat o]) (Blk.new w3.drew 5 _) (C9 _) (by simp[maxLen]));have j:=(K4.o.trans K5.o.nil).cellEq qR Y.o;refine u _ _ (.inr j) ?_;clear u K
    try simp only[PT,Y1,Y2,Y3]
    refine aM (i:=6) rfl (by kernel_rfl) (fun K u=>?_);dsimp only[Y1,Y2,Y3];go_simp;go_wp2_with ((refine(jM _ w3.heap.size _ [UInt8.ofNat o] 1 (by simp) o5.o K5.o.size (by decide)).mono ?_);rintro e w6 ⟨A2,c2,rfl,o2,b2⟩);have K6:Z (aa [] w3 w6):=bZ (K5.o.over (C9 _) b2);replace o2:=bZ o2;have j:=(K4.o.trans K6.o.nil).cellEq qR Y.o;clear b2 o5 K5;refine u _ _ (.inr j) ?_;clear u K
    try simp only[PT,Y1,Y2,Y3]
    refine aM (i:=7) rfl (by kernel_rfl) (fun K u=>?_);dsimp only[Y1,Y2,Y3];go_simp;have t:=bK o2.o;have HW:=jd w6 W X s3 0 A2 (pad [UInt8.ofNat o]) 64 c2 (jg (by simp)) (B.o.keep K6.o (by simp) (by simp)) t.1 (fun _ a ha=>by
     have h1:=(t.2.2.2.2 a ha).1;have h2:=B.o.d.lt;omega) t.2.2.1 bl.o.1 (by have:=bl.o.2;omega)
    rw[da.o] at HW;go_wp2_with ((refine HW.mono ?_);rintro e w7 ⟨rfl,bt,k7⟩);have K7:Z (aa [W,X] w2 w7):=bZ ((a2.o.trans K4.o).trans (K6.o.nil.trans k7));replace bt:=bZ bt;have j:=(K4.o.trans (K6.o.nil.trans k7)).cellEq qR Y.o;clear HW k7 K6 o2 t;refine u _ _ (.inr j) ?_;clear u K
    try simp only[PT,Y1,Y2,Y3]
    refine az (i:=8) (v:=?_) (by kernel_rfl) rfl (by kernel_rfl) (by kernel_rfl) (by kernel_rfl) (fun _ _ _ h=>h) j (Ey ⟨by rfl,?_⟩) ?_;rotate_left
    ·(intro w f;obtain C:=f;go_simp;try with_reducible rfl)
    try simp only[PT,Y1,Y2,Y3]
    refine cS (by kernel_rfl) ?_ _;go_wp2_with fail;go_ret;exact⟨rfl,bt.o,K2.o.nil.trans K7.o⟩
   have c4:(q1.2 !=0)=true:=by simp[p]
   have a9:qq=q1:=by rw[a5.o,if_pos p]
   have ac:=bZ (K2.o.nil.trans (a2.o.trans K4.o));subst a9;clear a5;go_wp2_with fail;go_ret;exact⟨rfl,B.o,ac.o⟩
  have HO:=bZ (rm w W X s hD hb);have z:bG s ep b=(s,bad s):=by unfold bG;rw[if_pos hb]
  rw[z];have b7:(bad s !=0)=true:=by simp[hb]
  replace hD:=bZ hD;generalize bad s=x at*;unfold bN bF at HO;clear z hB;go_enter Tryz.func54,Tryz.ntmps54;go_wp2_with fail;refine HO.o.mono ?_;rintro e w1 ⟨rfl,k1⟩;clear HO;go_wp2_with fail;go_ret;exact⟨rfl,hD.o.keep ((k1.alloc _).alloc _) (by simp) (by simp),((k1.alloc _).alloc _).nil⟩
end
end Sn
end Go.Proofs.YtmlmfpikncogpaaGreat
