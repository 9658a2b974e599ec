import Derived.Test.YtmlmfpikncogpaaGreatL35
import Derived.Test.YtmlmfpikncogpaaGreatL37
import Derived.Test.YtmlmfpikncogpaaGreatL41
namespace Go.Proofs.YtmlmfpikncogpaaGreat
open Go.RowKit
set_option linter.unusedSimpArgs false
set_option linter.unusedVariables false
set_option maxRecDepth 100000
set_option maxHeartbeats 16000000
theorem rM (w:World) (A:Option Addr) (c:Nat) (P:Nat->Prop) (j:List (List Value)) (p:dU w P A j []) (a:Option Addr) (b:Nat):Calls Tryz.prog 30 #[.slice A 0 c,.slice a 0 b] w (fM w []):=by
 have n:=bZ (ly w A 0 c P j [] p rfl (by omega));clear p;go_enter Tryz.func30,Tryz.ntmps30;go_wp2_with (go_at_call 50;refine n.o.mono ?_;rintro e w1 ⟨m,F,rfl,d,h,l⟩;obtain⟨z,B,t,r,s,x,u,v,f,_⟩:=d.o.out_;have k:=(aa.refl [] w1).alloc (.cells #[.slice a 0 b,.bool false] 144);have C:(w1.alloc (.cells #[.slice a 0 b,.bool false] 144)).cell? (U m 1)=G r 0 s:=(f.keep k (by simp)).cell 1);have g:Z (fM w [] (.returned (.tuple #[.pointer (V m),I 0])) (w1.alloc (.cells #[.slice a 0 b,.bool false] 144))):=bZ ⟨m,F,rfl,bZ (d.o.keep k (fun y q=>by cases q)),bZ (h.o.trans k),l⟩;have D:=(Blk.new w1 144 #[.slice a 0 b,.bool false]).cell 0;have E:=(Blk.new w1 144 #[.slice a 0 b,.bool false]).cell 1;clear d h f k n;go_loopw [19] (fun i wr=>i=I 0/\wr=w1.alloc (.cells #[.slice a 0 b,.bool false] 144)) (fun i _=>0)
 case atStart=>exact⟨rfl,rfl⟩
 obtain⟨rfl,rfl⟩:=hrel;go_wp2_with fail;go_ret2;exact g.o
theorem cu.tok {w:World} {j:Nat} {ts:List TS} {F:List Nat} (h:cu w j ts F) (f:∀t∈ts,t.l.length<=400):∀t∈ts,TOk t:=fun t b=>by
 obtain⟨i,e⟩:=DQ b;obtain⟨p,m,a,_⟩:=h.at e;refine⟨a.hc,a.asc,a.ids,a.nx,fun x g=>?_,f t b⟩;obtain⟨o,q,u,s,rs,k,v,n,_,_,_,_,_,_,c,_⟩:=a.out_;obtain⟨r,_,d⟩:=c.right x g;exact d.2.2.2
def jc (w:World) (ts:List TS) (e:Ending) (w':World):Prop:=∃a F,e=.returned (.pointer (V a))/\Z (cu w' a ts F)/\Z (aa [] w w')/\Z (∀x∈F,w.heap.size<=x)
theorem rR (w:World) (b:Nat) (ts:List TS) (F:List Nat) (h:cu w b ts F) (hb:(aN ts).length<=1000000) (f:∀t∈ts,t.l.length<=400):Calls Tryz.prog 36 #[ptr b] w (jc w ts):=by
 have i:=h.tok f;obtain⟨a,j,v,tA,tc,pf,b0,b1,Y,h2,_⟩:=h.out_;have L:=h.few;obtain⟨m,B⟩:∃m,m=ts.length:=⟨_,rfl⟩;have T:w.cell? (U b 0)=G a m j:=by rw[Y.cell 0,B];rfl
 have H1:Z (∀W,aa [] w W->Calls Tryz.prog 70 #[.pointer (V b)] W (im W (aN ts))):=bZ (fun W k=>uD W b ts F (h.keep k (fun y hy=>by cases hy)) hb f);have H2:Z (∀W A n c,aa [] w W->Bts W A (aN ts)->(aN ts).length=n->n<=c->c<=9223372036854775807->Calls Tryz.prog 30 #[.slice a m j,.slice A n c] W (fM W ts)):=bZ (fun W A n c k z hn R hc=>by
  have hS:dU W (fun x=>b0<=x/\x<b1) a v (ts.map (·.cols)):=h2.move k (fun x _ hp=>⟨by simp,hp⟩);by_cases X:ts=[]
  ·subst X;obtain rfl:n=0:=by rw[<-hn];rfl
   obtain rfl:m=0:=B;exact rM W a j _ v hS A c
  have u:0<(aN ts).length:=by
   cases ts with
   | nil=>exact absurd rfl X
   | cons t r=>
    have:aN (t::r)=fP t++aN r:=by simp[aN]
    rw[this,CU];unfold fP;rw[CU,Cod.ag];omega
  rcases z with z | ⟨g,o,rfl,z⟩
  ·rw[z] at u;simp at u
  have P:=block_lt_of_cell (z 0 _ (CT u));exact rN W a m j _ v _ hS (by rw[Df,B]) (by rw[B];exact L) g o n c ts rfl i (.inr ⟨g,o,rfl,z⟩) hn R hc P)
 replace B:=bZ B;clear h Y h2 i;unfold ptr;go_enter Tryz.func36,Tryz.ntmps36;go_wp2_with fail;refine ad (S:=(fun w':World=>w'.cell? (U b 0)=G a m j)) (n:=12) (by kernel_rfl) ?_;have d:w.drew.cell? (U b 0)=G a m j:=T;have s:Z (aa [] w w.drew):=bZ (aa.refl [] w).drew;generalize w.drew=wd at*;refine ord [0,1,2,3,4] ?_
 iterate 5 (refine tq d ?_;try simp only[PT,Y1,Y2,Y3])
 refine av ?_;refine J1 5 fun K E=>?_;dsimp only[Y1,Y2,Y3];go_simp;refine(H1.o wd s.o).mono ?_;rintro e w1 ⟨A1,n1,c1,rfl,Q,C,p,J⟩;have d:w1.cell? (U b 0)=G a m j:=p.o.cellEq d (by simp);have O:Z (aa [] w w1):=bZ (s.o.trans p.o);refine E _ _ (.inr d) ?_;clear E K p s
 try simp only[PT,Y1,Y2,Y3]
 refine J1 6 fun K E=>?_;dsimp only[Y1,Y2,Y3];go_simp;refine(H2.o w1 A1 n1 c1 O.o C.o Q J.o.1 J.o.2).mono ?_;rintro e w2 ⟨N,F2,rfl,H,q,D⟩;have d:w2.cell? (U b 0)=G a m j:=q.o.cellEq d (by simp);refine E _ _ (.inr d) ?_;clear E K
 try simp only[PT,Y1,Y2,Y3]
 refine ord [7,8,9,10,11] ?_
 iterate 5 (refine tq d ?_;try simp only[PT,Y1,Y2,Y3])
 refine av ?_;refine JD ?_;have M:Z (jc w ts (.returned (.pointer (V N))) w2):=bZ ⟨N,F2,rfl,H,bZ (O.o.trans q.o),bZ (fun x T=>Dc O.o.size (D.o x T))⟩;clear H q D O C;go_wp2_with fail;go_ret;exact M.o
def gE (f:Nat->Int) (k:Nat):List UInt8:=(List.range k).flatMap (fun j=>Cod.num (f j))
theorem nF (f:Nat->Int) (k:Nat):gE f (k+1)=gE f k++Cod.num (f k):=by unfold gE;rw[List.range_succ,List.flatMap_append];simp
theorem eX (f:Nat->Int):∀k,(gE f k).length=8*k
 | 0=>rfl
 | k+1=>by rw[nF,CU,eX f k,Cod.ag];omega
def stB (ts:List TS) (f:Nat->Int):List UInt8:=gE f 8++aN ts
def fB (f:Nat->Int):Array Value:=#[I (f 0),I (f 1),I (f 2),I (f 3),I (f 4),I (f 5),I (f 6),I (f 7)]
theorem zX {f:Nat->Int} {s:Nat} (a:s<8):(fB f)[s]? =some (I (f s)):=by
 have h:s=0\/s=1\/s=2\/s=3\/s=4\/s=5\/s=6\/s=7:=by omega
 rcases h with rfl | rfl | rfl | rfl | rfl | rfl | rfl | rfl<;>rfl
def dbV (a c:Nat) (f:Nat->Int) (ep:Nat) (b:Value):Array Value:=#[.pointer (V a),I 0,I 1,I 2,I 3,I 17,I 14,I 31,I 29,.pointer (V c),
 I (f 0),I (f 1),I (f 2),I (f 3),I (f 4),I (f 5),I (f 6),I (f 7),.int .u32 (ep:Int),b]
theorem mB {a c:Nat} {f:Nat->Int} {ep:Nat} {b:Value} {s:Nat} (d:s<8):(dbV a c f ep b)[10+s]? =some (I (f s)):=by
 have h:s=0\/s=1\/s=2\/s=3\/s=4\/s=5\/s=6\/s=7:=by omega
 rcases h with rfl | rfl | rfl | rfl | rfl | rfl | rfl | rfl<;>rfl
theorem Aw {a c:Nat} {f:Nat->Int} {ep:Nat} {b:Value} {x:Int} {s:Nat} (d:s<8):(dbV a c f ep b).setIfInBounds (10+s) (I x)=dbV a c (upd f s x) ep b:=by
 have h:s=0\/s=1\/s=2\/s=3\/s=4\/s=5\/s=6\/s=7:=by omega
 rcases h with rfl | rfl | rfl | rfl | rfl | rfl | rfl | rfl<;>rfl
structure jH (lo:Nat->Prop) (w:World) (x bd bs:Nat) (s:Dk.St) (ts:List TS) (f:Nat->Int) (ep:Nat) (lv:Value):Prop where
 ex:∃st F,Blk w x 93 (dbV bd st f ep lv)/\cu w st ts F/\x∉F/\bd∉F/\bs∉F/\∀y∈F,lo y
 d:Dk.aZ w bd bs s
structure cx (lo:Nat->Prop) (w:World) (x bd bs bl:Nat) (s:Dk.St) (ts:List TS) (f:Nat->Int) (ep:Nat) (L:List UInt8) (rc:Nat):Prop where
 ex:∃st F,Blk w x 93 (dbV bd st f ep (.pointer (V bl)))/\cu w st ts F/\x∉F/\bd∉F/\bs∉F/\bl∉F/\∀y∈F,lo y
 d:Dk.aZ w bd bs s
 log:Wa.lg [] w bl bd 31 29 ep L rc
theorem cx.low {lo a:Nat->Prop} {w:World} {x b d c:Nat} {s:Dk.St} {ts:List TS} {f:Nat->Int} {ep:Nat} {L:List UInt8} {e:Nat} (h:cx lo w x b d c s ts f ep L e) (q:∀y,lo y->a y):cx a w x b d c s ts f ep L e:=by
 obtain⟨⟨t,F,g,i,j,k,l,m,n⟩,o,p⟩:=h;exact⟨⟨t,F,g,i,j,k,l,m,fun y r=>q y (n y r)⟩,o,p⟩
theorem cx.pre {lo:Nat->Prop} {w:World} {x a c b:Nat} {s:Dk.St} {ts:List TS} {f:Nat->Int} {ep:Nat} {L:List UInt8} {m:Nat} (h:cx lo w x a c b s ts f ep L m):jH lo w x a c s ts f ep (.pointer (V b)):=by
 obtain⟨⟨n,F,d,e,g,i,j,o,k⟩,l,p⟩:=h;exact⟨⟨n,F,d,e,g,i,j,k⟩,l⟩
def Cd (w:World) (A:Option Addr) (m c:Nat) (n:Int) (R:List UInt8) (e:Ending) (w':World):Prop:=∃a,e=.returned (.tuple #[I n,.slice a (m - 8) (c - 8),.bool true])/\Z (Bts w' a R)/\Z (aa [] w w')/\Z (fb a=fb A)
theorem lp (w:World) (g o m c:Nat) (n:Int) (R:List UInt8) (x: -9223372036854775808<=n/\n<9223372036854775808) (j:Bts w (some (U g o)) (Cod.num n++R)) (l:(Cod.num n++R).length=m) (t:m<=c) (z:c<=9223372036854775807):
 Calls Tryz.prog 29 #[.slice (some (U g o)) m c] w (Cd w (some (U g o)) m c n R):=by
  have y:8<=m:=by rw[<-l,CU,Cod.ag];omega
  have p:Z (∀W,Calls Tryz.prog 59 #[.string ⟨(Cod.num n).toArray⟩] W fun e w'=>e=.returned (.tuple #[I n,I 0])/\W=w'):=bZ (fun W=>by
   have:=lC W (Cod.num n) (Cod.ag n);rwa [qe n x] at this)
  have h:Z (Bts w (some (U g o)) (Cod.num n)):=bZ (by have:=j.take 8;rwa [DS (Cod.ag n)] at this);have hcut:Z (Bts w (if c=8 then some (U g o) else some (U g (o+8))) R):=bZ (by have:=j.cut (c:=c) (k:=8) (by omega);rwa [Ei (Cod.ag n)] at this);have u:¬(m:Int)<8:=by omega
  have q:(8:Int)<=(m:Int):=by omega
  have r:(m:Int)<=(c:Int):=by omega
  have s:(8:Int)<=(c:Int):=by omega
  replace l:=bZ l;clear j;by_cases d:c=8
  ·rw[if_pos d] at hcut;subst d;obtain rfl:m=8:=by omega
   go_enter Tryz.func29,Tryz.ntmps29;go_wp2_with (first
    | (refine br rfl 79 9 (.tmp 12) rfl 5 Tryz.underlying79 Tryz.underlying5 Tryz.underlying9 (some (U g o)) (Cod.num n) 8 8 rfl (Cod.ag n) h.o ?_)
    | (go_at_call 59;refine(p.o _).mono ?_;rintro e w1 ⟨rfl,rfl⟩))
   refine ad (S:=(fun w':World=>True)) (n:=8) (by kernel_rfl) ?_;have f:Z (aa [] w w.drew):=bZ (aa.refl [] w).drew;have i:True:=trivial;have a:Z (Bts w.drew (some (U g o)) R):=hcut;generalize w.drew=wd at*;refine ord [0,1,2,3,4,5,6,7] ?_
   iterate 8 (refine tq i ?_;try simp only[PT,Y1,Y2,Y3])
   refine av ?_;refine JD ?_;have b:Z (Cd w (some (U g o)) 8 8 n R (.returned (.tuple #[I n,.slice (some (U g o)) (8 - 8) (8 - 8),.bool true])) wd):=bZ ⟨some (U g o),rfl,a,f,bZ rfl⟩;go_wp2_with fail;refine bodyPost_ret (v:=.tuple #[I n,.slice (some (U g o)) (8 - 8) (8 - 8),.bool true]) (by simp[results,Tryz.results29,go_sem]) rfl ?_;exact b.o
  rw[if_neg d] at hcut;go_enter Tryz.func29,Tryz.ntmps29;go_wp2_with (first
   | (refine br rfl 79 9 (.tmp 12) rfl 5 Tryz.underlying79 Tryz.underlying5 Tryz.underlying9 (some (U g o)) (Cod.num n) 8 c rfl (Cod.ag n) h.o ?_)
   | (go_at_call 59;refine(p.o _).mono ?_;rintro e w1 ⟨rfl,rfl⟩))
  refine ad (S:=(fun w':World=>True)) (n:=8) (by kernel_rfl) ?_;have f:Z (aa [] w w.drew):=bZ (aa.refl [] w).drew;have i:True:=trivial;have a:Z (Bts w.drew (some (U g (o+8))) R):=hcut;generalize w.drew=wd at*;refine ord [0,1,2,3,4,5,6,7] ?_
  iterate 8 (refine tq i ?_;try simp only[PT,Y1,Y2,Y3])
  refine av ?_;refine JD ?_;have b:Z (Cd w (some (U g o)) m c n R (.returned (.tuple #[I n,.slice (some (U g (o+8))) (m - 8) (c - 8),.bool true])) wd):=bZ ⟨some (U g (o+8)),rfl,a,f,bZ rfl⟩;go_wp2_with fail;refine bodyPost_ret (v:=.tuple #[I n,.slice (some (U g (o+8))) (m - 8) (c - 8),.bool true]) (by simp[results,Tryz.results29,go_sem]) rfl ?_;exact b.o
theorem vO (W:World) (f:Nat->Int) {j:Nat} (a:j<8):(Instr.index 90 (.agg (fB f)) (I (j:Int))).run Tryz.prog W=.ok (I (f j)) W:=by
 have h:j=0\/j=1\/j=2\/j=3\/j=4\/j=5\/j=6\/j=7:=by omega
 rcases h with rfl | rfl | rfl | rfl | rfl | rfl | rfl | rfl<;>rfl
theorem nG (w:World) (f:Nat->Int) (D:∀j,j<8-> -9223372036854775808<=f j/\f j<9223372036854775808) (z:Nat) (ts:List TS) (F:List Nat) (h:cu w z ts F) (P:(aN ts).length<=1000000) (b:∀t∈ts,t.l.length<=400):
 Calls Tryz.prog 41 #[.agg (fB f),ptr z] w (bx w none (stB ts f)):=by
  have K:aa [] w (w.alloc (.cells (fB f) 90)):=(aa.refl [] w).alloc _;have X:=bZ (Blk.new w 90 (fB f));have Y:Z (∀W,aa [] w W->Calls Tryz.prog 70 #[.pointer (V z)] W (im W (aN ts))):=bZ (fun W k=>uD W z ts F (h.keep k (by simp)) P b);have u:Z (bC w none (w.alloc (.cells (fB f) 90)) none 0 0 (gE f 0)):=bZ ((bC.nil w).keep K);replace D:=bZ D;replace K:=bZ K;clear h b;unfold ptr;go_enter Tryz.func41,Tryz.ntmps41;go_wp2_with (refine al rfl 90 (.tmp 2) rfl w.heap.size rfl 90 (fB f) _ X.o Tryz.underlying90 rfl (by kernel_rfl) ?_);go_loopw [5,9] (fun ov i wr=>∃(j:Nat) (A:Option Addr) (n c:Nat),j<=8/\i=I (j:Int)/\ov=.slice A n c/\Z (n=8*j)/\Z (bC w none wr A n c (gE f j))) (fun _ i _=>8 - (intOf i).toNat)
  case atStart=>exact⟨0,none,0,0,C3 _,rfl,rfl,bZ rfl,u⟩
  obtain⟨j,A,n,c,hj,rfl,rfl,R,m⟩:=hrel;clear u;have S:n<=64:=by rw[R.o];omega
  by_cases s:j<8
  ·have a2:(j:Int)<8:=by omega
   have wj:IntKind.i64.wrap ((j:Int)+1)=(j:Int)+1:=C0 _ (by omega);have Q:=vO wr f s;have HN:Z (∀W,Calls Tryz.prog 38 #[I (f j)] W fun e w'=>e=.returned (.string ⟨(Cod.num (f j)).toArray⟩)/\Z (aa [] W w')):=bZ (fun W=>dB W (f j) (D.o j s));have J:Z (ByteArray.size ⟨(Cod.num (f j)).toArray⟩=8):=bZ (by rw[<-Cod.ag (f j)];rfl);have g:Z (gE f (j+1)=gE f j++Cod.num (f j)):=bZ (nF f j);go_wp2_with (first
    | (go_at_call 38;refine(HN.o _).mono ?_;rintro e w1 ⟨rfl,a⟩)
    | (at_builtin;refine fh rfl (.tmp 12) (.tmp 14) 79 9 rfl 0 5 Tryz.underlying79 Tryz.underlying9 cY A n c (gE f j) rfl (ab m.o.own a.o) _ rfl (by rw[J.o];omega) (C3 _) ?_;intro L N w2 v x y;have B:Z (bC w none w2 L (n+ByteArray.size ⟨(Cod.num (f j)).toArray⟩) N (gE f (j+1))):=bZ (by rw[g.o];exact m.o.app a.o v x y);clear v x y))
   go_roundw
   case rel=>exact⟨j+1,L,_,N,by omega,by go_num,rfl,bZ (by rw[Cod.ag,R.o];omega),B⟩
   case measure=>simp[intOf];omega
  obtain rfl:j=8:=by omega
  obtain⟨q,p⟩:∃q,(aN ts).length=q:=⟨_,rfl⟩;have a0:q<=1000000:=by rw[<-p];exact P
  have d:=bZ m.o.len;replace p:=bZ p;go_wp2_with (first
   | (go_at_call 70;refine(Y.o _ m.o.kp).mono ?_;rintro e w1 ⟨T,n1,c1,rfl,E,C,a,a1⟩;have H:q=n1:=p.o.symm.trans E;subst H)
   | (at_builtin;refine ai rfl (.tmp 17) (.tmp 19) 79 rfl 0 5 Tryz.underlying79 cY _ (gE f 8) (aN ts) rfl (by rw[d.o];exact ab m.o.own a.o) T q c1 rfl p.o C.o (by rw[d.o,p.o];omega) (C3 _) ?_;intro M O w4 v x y;rw[d.o];have r:Z (bx w none (stB ts f) (.returned (.slice M (n+q) O)) w4):=bZ ⟨M,_,O,rfl,bZ (lL m.o a.o v x y)⟩;clear v x y))
  go_ret;exact r.o
def Cf (w:World) (c:Nat) (ts:List TS) (F:List Nat) (l:List Chg) (e:Ending) (w':World):Prop:=
 Z (aa F w w')/\((aQ ts l=none/\e=.returned (.bool false))\/∃a b,aQ ts l=some a/\e=.returned (.bool true)/\Z (cu w' c a b)/\Z (∀x∈b,x∈F\/w.heap.size<=x))
theorem ol (w:World) (Q:Nat) (ts:List TS) (F:List Nat) (h:cu w Q ts F) (hg:Gd 52 ts) (lA:Option Addr) (l:List Chg) (m d:Nat) (hl:l.length=m) (hm:m<=40) (hC:iC w F lA l) (n:∀c∈l,c.old.length<=1000/\c.new.length<=1000/\(∀v∈c.old,v.fits)/\(∀v∈c.new,v.fits)):
 Calls Tryz.prog 37 #[.pointer (V Q),.slice lA m d] w (Cf w Q ts F l):=by
  replace hg:=bZ hg;replace hl:=bZ hl;replace hC:=bZ hC;replace n:=bZ n;replace h:=bZ h;go_enter Tryz.func37,Tryz.ntmps37;go_wp2_with fail;go_loopw [9] (fun L wr=>∃(i:Nat) (a:List TS) (A:List Nat),i<=m/\L=I (i:Int)/\Z (aQ ts (l.take i)=some a)/\Z (cu wr Q a A)/\Z (∀x∈A,x∈F\/w.heap.size<=x)/\Z (aa F w wr)) (fun L _=>m - (intOf L).toNat)
  case atStart=>exact⟨0,ts,F,C3 _,rfl,bZ rfl,h,bZ (fun x f=>.inl f),bZ (aa.refl _ _)⟩
  obtain⟨i,a,A,hi,rfl,j,hS,hF,hk⟩:=hrel;clear h;have a2:Z (Gd (52+i) a):=bZ (by have:=gS hg.o j.o;rw[CY,hl.o,Es hi] at this;exact this);by_cases a4:i<m
  ·have a7:(i:Int)<(m:Int):=by omega
   have wi:IntKind.i64.wrap ((i:Int)+1)=(i:Int)+1:=C0 _ (by omega);obtain⟨x,f⟩:∃x,l[i]? =some x:=⟨_,CT (by rw[hl.o];exact a4)⟩;have K:l.take (i+1)=l.take i++[x]:=by rw[Dq,f];rfl
   have p:l=l.take i++x::l.drop (i+1):=by rw[<-dS f,Du]
   obtain⟨O,P,R,S⟩:=n.o x (CW f);have E:Z (aQ ts (l.take (i+1))=apC a x):=bZ (by rw[K];exact lZ j.o);have J:Z (apC a x=none->aQ ts l=none):=bZ (fun h=>by rw[p];exact lY j.o h);have B:=hC.o.shift (X':=A) hk.o (fun y hy=>.inl hy) hF.o;obtain⟨g,off,Ao,co,An,cn,rfl,Y,y0,y1,y2,y3,r5,r6⟩:=B i x f;obtain⟨tb,id,old,b⟩:=x;dsimp only at y0 y1 y2 y3 O P R S r5 r6;obtain⟨on,r⟩:∃on,old.length=on:=⟨_,rfl⟩;obtain⟨nn,q⟩:∃nn,b.length=nn:=⟨_,rfl⟩;rw[r] at y2 O;rw[q] at y3 P;have s:aa [] wr (wr.alloc (.cells #[I tb,I id,.slice Ao on co,.slice An nn cn] 64)):=(aa.refl [] wr).alloc _;have u:=hS.o.keep s (by simp);have z:=r5.shift (X':=[]) s (by simp) (by simp);have M:=r6.shift (X':=[]) s (by simp) (by simp);have N:=r6.shift (X':=A) s (by simp) (fun x f=>.inl f);by_cases C:chk a tb id old b=0
   ·obtain⟨k,t,a3,ht,W⟩:=tB C;subst a3;have H:=bZ (zi _ Q a A u k t ht id Ao An on co nn cn old b r q z N O P R S W (by have:=(a2.o.2 t (CW ht)).len;omega));have a5:Z (aQ ts (l.take (i+1))=some (a.set k (eH t id b))):=bZ (by rw[E.o];unfold apC;dsimp only;rw[if_pos C,EH,ht];rfl);replace s:=bZ s;clear u r5 r6 z M N W ht C f K p B O P R S Y r q;unfold ptr at H;go_wp2_with (go_at_call 71;refine H.o.mono ?_;rintro e w2 ⟨F2,rfl,a1,D,a0⟩);go_roundw
    case rel=>exact⟨i+1,_,F2,by omega,by go_num,a5,a1,bZ (fun x f=>by
     rcases a0.o x f with h | h
     ·exact hF.o x h
     have h1:=s.o.size;have h2:=hk.o.size;exact .inr (by omega)),bZ ((hk.o.more (s.o.nil.trans D.o) hF.o))⟩
    case measure=>simp[intOf];omega
   have H:=bZ (wP _ Q a A u tb id Ao An on co nn cn old b r q z M O P R S _ rfl C);have X:Z (aQ ts l=none):=bZ (J.o (r9.2 C));have a6:(chk a tb id old b !=0)=true:=by simpa using C
   replace s:=bZ s;clear u r5 r6 z M N C f K p B O P R S Y r q;unfold ptr at H;go_wp2_with (go_at_call 71;refine H.o.mono ?_;rintro e w2 ⟨rfl,D⟩);go_ret;exact⟨bZ (hk.o.trans ((s.o.trans D.o).nil)),.inl ⟨X.o,rfl⟩⟩
  obtain rfl:i=m:=by omega
  have T:l.take i=l:=C6 (by rw[hl.o];exact C9 _);rw[T] at j;go_wp2_with fail;go_ret;exact⟨hk,.inr ⟨a,A,j.o,rfl,hS,hF⟩⟩
theorem zK {lo:Nat->Prop} (w:World) (x n p:Nat) (s:Dk.St) (ts:List TS) (f:Nat->Int) (ep:Nat) (r:Value) (h:jH lo w x n p s ts f ep r) (q:(aN ts).length<=1000000) (a:∀t∈ts,t.l.length<=400):Calls Tryz.prog 44 #[.pointer (V x)] w (jc w ts):=by
 obtain⟨k,F,i,j,_⟩:=h.ex;have H:=bZ (rR w k ts F j q a);have y:=i.cell 9;have u:w.cell? (U x 9)=some (.pointer (V k)):=y;clear y h i j;unfold ptr at H;go_enter Tryz.func44,Tryz.ntmps44;go_wp2_with (go_at_call 36;refine H.o.mono ?_;rintro e w1 ⟨g,m,rfl,c,d,b⟩);go_ret;exact⟨g,m,rfl,c,d,b⟩
theorem lW {lo:Nat->Prop} (w:World) (x d g:Nat) (s:Dk.St) (ts:List TS) (f:Nat->Int) (ep:Nat) (l:Value) (h:jH lo w x d g s ts f ep l) (k:Nat) (i:k<8):Calls Tryz.prog 18 #[.pointer (V x),I (k:Int)] w fun e w'=>e=.returned (I (f k))/\w=w':=by
 obtain⟨m,F,a,_⟩:=h.ex;have y:w.cell? (U x (10+k))=some (I (f k)):=by rw[a.cell];exact mB i
 have c:((8:Int)<=(k:Int))=False:=eq_false (by omega);have b:((k:Int)<0)=False:=eq_false (by omega);have j:(k:Int)<8:=by omega
 clear h a;go_enter Tryz.func18,Tryz.ntmps18;go_wp2_with fail;go_ret;exact⟨rfl,rfl⟩
theorem tW:∀(L M:List Nat),L.Nodup->(∀x∈L,x∈M)->L.length<=M.length
 | [],M,_,_=>C3 _
 | x::L,M,hn,hs=>by
  obtain⟨c,d⟩:=E7.1 hn;have a:=hs x (by simp);have e:=tW L (M.erase x) d (fun y b=>(List.mem_erase_of_ne (fun h:y=x=>c (h▸b))).2 (hs y (by simp[b])));rw[List.length_erase_of_mem a] at e;have:=List.length_pos_of_mem a;rw[Dj];omega
theorem qI {s:Dk.St} {ep:Nat} (h:∀e,ep<=e->e<ep+30->Wa.lN s 31 29 e):False:=by
 have:=tW (List.range' ep 30) ((List.range 29).map (fun j=>Wa.epo (Dk.sec s (31+j)))) (List.nodup_range' (step:=1) (by decide)) (fun x a=>by
  rw[List.mem_range'_1] at a;obtain⟨j,c,b⟩:=h x a.1 a.2;exact Dt.2 ⟨j,List.mem_range.2 c,b⟩)
 rw[List.length_range',Df,List.length_range] at this;omega
theorem jR {s:Dk.St} {ep m:Nat} (h:Wa.em (Wa.lN s 31 29) ep m) (j:ep+30<4294967296):ep<=m/\m<=ep+29/\¬Wa.lN s 31 29 m:=by
 rcases h with ⟨d,b,f,g⟩ | ⟨rfl,b⟩
 ·refine⟨d,?_,f⟩;rcases DR (ep+29) m with c | c
  ·exact(qI (fun e a i=>g e a (by omega))).elim
  exact c
 exact(qI (fun e a i=>b e a (by omega))).elim
theorem jH.blks {lo:Nat->Prop} {w:World} {x a b:Nat} {s:Dk.St} {ts:List TS} {f:Nat->Int} {ep:Nat} {e:Value} (h:jH lo w x a b s ts f ep e):x≠a/\x≠b:=by
 obtain⟨g,F,c,_⟩:=h.ex;exact⟨c.ne_ h.d.d (by decide),c.ne_ h.d.m (by decide)⟩
theorem Bj (s:Dk.St) (i:Int) (b:List UInt8):(Dk.wr s i b).1.n=s.n:=by
 unfold Dk.wr Dk.fail
 split
 ·rfl
 split
 ·rfl
 split<;>rfl
theorem Ba:∀(k:Nat) (s:Dk.St) (i:Nat) (d:List UInt8),(Sn.sws s i k d).1.n=s.n
 | 0,s,i,d=>rfl
 | k+1,s,i,d=>by
  by_cases a:d=[]
  ·subst a;rw[Sn.gX]
  by_cases h:(Dk.wr s i (Sn.pad (d.take 64))).2=0
  ·rw[Sn.jK a h,Ba k,Bj]
  rw[Sn.gY a h,Bj]
theorem xi (s:Dk.St) (ep:Nat) (b:List UInt8):(Sn.bG s ep b).1.n=s.n:=by
 unfold Sn.bG
 split
 ·rfl
 split
 ·rfl
 split
 ·rfl
 (repeat' split)<;>simp only[Bj,Ba]
def jq (lo:Nat->Prop) (w:World) (x a b:Nat) (s:Dk.St) (ts:List TS) (f:Nat->Int) (ep:Nat) (e:Ending) (w':World):Prop:=
 ∃m q,Wa.em (Wa.lN s 31 29) (ep+1) m/\q=Sn.bG s m (stB ts f)/\e=.returned (I q.2)/\Z (aa [x,a,b] w w')/\Z (Dk.aZ w' a b q.1)/\(q.2=0->∃bl,Z (cx lo w' x a b bl q.1 ts f m [] 0)/\w.heap.size<=bl)
theorem pU {lo:Nat->Prop} (w:World) (x b M:Nat) (s:Dk.St) (ts:List TS) (f:Nat->Int) (ep:Nat) (T:Value) (c2:T.oneCell'=true) (h:jH lo w x b M s ts f ep T) (hd:s.down=false) (a1:s.n=60) (c1:ep<=1000000) (hf:∀j,j<8-> -9223372036854775808<=f j/\f j<9223372036854775808) (bh:0<=s.writes) (hw:s.writes<=900000)
 (hb:(aN ts).length<=1000000) (Y:∀t∈ts,t.l.length<=400):Calls Tryz.prog 25 #[.pointer (V x)] w (jq lo w x b M s ts f ep):=by
  obtain⟨ar,b6⟩:=h.blks;obtain⟨B,F,hB,hS,ak,an,ap,b0⟩:=h.ex;have hD:=h.d;have HF:Z (∀W,aa [] w W->Calls Tryz.prog 53 #[.pointer (V b),I 31,I 29,.int .u32 ((ep:Int)+1)] W (Wa.oD s 31 29 (ep+1) W)):=bZ (fun W k=>by
   have:=Wa.yE W b M s 31 29 (ep+1) (hD.keep k (by simp) (by simp)) hd ⟨by omega,by omega,by rw[a1];omega,by omega⟩ (by omega) (by omega);rwa [show (((ep+1:Nat)):Int)=(ep:Int)+1 by omega] at this)
  have HN:Z (∀W,aa [] w W->Calls Tryz.prog 41 #[.agg (fB f),.pointer (V B)] W (bx W none (stB ts f))):=bZ (fun W k=>nG W f hf B ts F (hS.keep k (by simp)) hb Y);have HC:Z (∀W,aa [] w W->∀i,W.cell? (U x i)=#[.pointer (V b),I 0,I 1,I 2,I 3,I 17,I 14,I 31,I 29,.pointer (V B),I (f 0),I (f 1),I (f 2),I (f 3),I (f 4),I (f 5),I (f 6),I (f 7),.int .u32 (ep:Int),T][i]?):=bZ (fun W k=>(hB.keep k (by simp)).cell);have y4:w.cell? (U x 18)=some (.int .u32 (ep:Int)):=hB.cell 18;have c5:IntKind.u32.wrap ((ep:Int)+1)=(ep:Int)+1:=by unfold IntKind.wrap;simp[IntKind.signed,IntKind.bits];omega
  have bi:((ep:Int)==4294967295)=false:=beq_false_of_ne (by omega);have bk:((ep:Int)=4294967295)=False:=eq_false (by omega);replace hD:=bZ hD;replace hB:=bZ hB;replace hS:=bZ hS;clear h Y hf hb;go_enter Tryz.func25,Tryz.ntmps25;go_wp2_with fail;refine ad (S:=(fun w':World=>∀i,w'.cell? (U x i)=#[.pointer (V b),I 0,I 1,I 2,I 3,I 17,I 14,I 31,I 29,.pointer (V B),I (f 0),I (f 1),I (f 2),I (f 3),I (f 4),I (f 5),I (f 6),I (f 7),.int .u32 (ep:Int),T][i]?)) (n:=25) (by kernel_rfl) ?_;have a6:Z (aa [] w w.drew):=bZ (aa.refl [] w).drew;have c:=HC.o w.drew a6.o;generalize w.drew=wd at*;refine ord [0,1,2,3,4,5,6,7,8,9,10,11,12,13,14,15,16,17,18] ?_
  iterate 19 (refine tq c ?_;try simp only[PT,Y1,Y2,Y3])
  refine av ?_;refine J1 19 fun K D=>?_;dsimp only[Y1,Y2,Y3];go_simp;refine(HF.o wd a6.o).mono ?_;rintro e w2 ⟨m,v,a0,he,a9⟩;obtain⟨m1,m2,m3⟩:=jR v (by omega);rw[if_neg (by omega)] at he;subst he;have X:Z (aa [] w w2):=bZ (a6.o.trans a9);have c:=HC.o w2 X.o;clear a9;refine D _ _ (.inr c) ?_;clear D K
  try simp only[PT,Y1,Y2,Y3]
  refine ord [20,21,22,23,24] ?_
  iterate 5 (refine tq c ?_;try simp only[PT,Y1,Y2,Y3])
  refine av ?_;refine JD ?_;replace v:=bZ v;clear m3 c;go_wp2_with fail;refine ad (S:=(fun w':World=>∀i,w'.cell? (U x i)=#[.pointer (V b),I 0,I 1,I 2,I 3,I 17,I 14,I 31,I 29,.pointer (V B),I (f 0),I (f 1),I (f 2),I (f 3),I (f 4),I (f 5),I (f 6),I (f 7),.int .u32 (ep:Int),T][i]?)) (n:=16) (by kernel_rfl) ?_;have r:Z (aa [] w w2.drew):=bZ X.o.drew;have c:=HC.o w2.drew r.o;generalize w2.drew=wf at*;refine ord [0,1,2,3,4,5,6,7,8,9,10,11,12] ?_
  iterate 13 (refine tq c ?_;try simp only[PT,Y1,Y2,Y3])
  refine av ?_;refine J1 13 fun K D=>?_;dsimp only[Y1,Y2,Y3];go_simp;refine(HN.o wf r.o).mono ?_;rintro e w3 ⟨A3,n3,c3,rfl,O⟩;have Q:Z (aa [] w w3):=bZ (r.o.trans O.o.kp);have c:=HC.o w3 Q.o;have a2:=O.o.own;obtain⟨b1,b2,b3,b4,b5⟩:=bK a2;have a7:=bZ (Sn.sD w3 b M s m A3 (stB ts f) n3 c3 (hD.o.keep Q.o (by simp) (by simp)) b1 b2 b3 b4 a0 (fun a ha=>by
   have bt:=hD.o.d.lt;have c0:=hD.o.m.lt;have bb:=r.o.size;have:=O.o.nw a.block (by rw[ha];simp[fb]);rcases this with h | h
   ·simp[fb] at h
   exact⟨by omega,by omega⟩) bh hw)
  clear a2 b1 b2 b3 b4 b5 O;refine D _ _ (.inr c) ?_;clear D K
  try simp only[PT,Y1,Y2,Y3]
  refine J1 14 fun K D=>?_;dsimp only[Y1,Y2,Y3];go_simp;refine a7.o.mono ?_;rintro e L ⟨rfl,A,a5⟩;have C:=(hB.o.keep Q.o (by simp)).keep a5 (by simp;exact⟨ar,b6⟩);have c:∀i,L.cell? (U x i)=#[.pointer (V b),I 0,I 1,I 2,I 3,I 17,I 14,I 31,I 29,.pointer (V B),I (f 0),I (f 1),I (f 2),I (f 3),I (f 4),I (f 5),I (f 6),I (f 7),.int .u32 (ep:Int),T][i]?:=C.cell;replace C:=bZ C;replace A:=bZ A;have H:Z (aa [b,M] w L):=bZ (Q.o.nil.trans a5);clear a5;refine D _ _ (.inr c) ?_;clear D K
  try simp only[PT,Y1,Y2,Y3]
  refine ord [15] ?_
  (refine tq c ?_;try simp only[PT,Y1,Y2,Y3])
  refine av ?_;refine JD ?_;clear c a7;obtain⟨q,hq⟩:∃q,q=Sn.bG s m (stB ts f):=⟨_,rfl⟩;rw[<-hq] at A;rw[<-hq];replace hq:=bZ hq;by_cases R:q.2=0
  ·have ba:(q.2 !=0)=false:=by simp[R]
   have HL:=bZ (fun W (k:aa [] L W)=>Wa.z9 [] W b M q.1 31 29 m (A.o.keep k (by simp) (by simp)) a0 ⟨by omega,by omega,by rw[hq.o,xi,a1];omega,by omega⟩);go_wp2_with fail;refine ad (S:=(fun w':World=>∀i,w'.cell? (U x i)=#[.pointer (V b),I 0,I 1,I 2,I 3,I 17,I 14,I 31,I 29,.pointer (V B),I (f 0),I (f 1),I (f 2),I (f 3),I (f 4),I (f 5),I (f 6),I (f 7),.int .u32 (ep:Int),T][i]?)) (n:=21) (by kernel_rfl) ?_;have u:Z (aa [] L L.drew):=bZ (aa.refl [] L).drew;have c:∀i,L.drew.cell? (U x i)=#[.pointer (V b),I 0,I 1,I 2,I 3,I 17,I 14,I 31,I 29,.pointer (V B),I (f 0),I (f 1),I (f 2),I (f 3),I (f 4),I (f 5),I (f 6),I (f 7),.int .u32 (ep:Int),T][i]?:=C.o.cell;generalize L.drew=wg at*;refine ord [0,1,2,3,4,5,6,7,8,9,10,11,12,13,14] ?_
   iterate 15 (refine tq c ?_;try simp only[PT,Y1,Y2,Y3])
   refine av ?_;refine J1 15 fun K D=>?_;dsimp only[Y1,Y2,Y3];go_simp;refine(HL.o wg u.o).mono ?_;rintro e w5 ⟨rfl,N,ac⟩;have J:Z (aa [] L w5):=bZ (u.o.trans ac);have z:=C.o.keep J.o (by simp);have c:∀i,w5.cell? (U x i)=#[.pointer (V b),I 0,I 1,I 2,I 3,I 17,I 14,I 31,I 29,.pointer (V B),I (f 0),I (f 1),I (f 2),I (f 3),I (f 4),I (f 5),I (f 6),I (f 7),.int .u32 (ep:Int),T][i]?:=z.cell;have bp:=z.frozen;replace z:=bZ z;replace N:=bZ N;have P:Z (L.heap.size<=wg.heap.size):=bZ u.o.size;clear ac;refine D _ _ (.inr c) ?_;clear D K
   try simp only[PT,Y1,Y2,Y3]
   refine ord [16,17,18,19,20] ?_
   iterate 5 (refine tq c ?_;try simp only[PT,Y1,Y2,Y3])
   refine av ?_;refine JD ?_;obtain⟨bl,p⟩:∃bl,bl=wg.heap.size:=⟨_,rfl⟩;rw[<-p] at N P;rw[<-p];replace p:=bZ p;have E:Z (∀W,aa [x] w5 W->Blk W x 93 (dbV b B f m (.pointer (V bl)))->jq lo w x b M s ts f ep (.returned (I 0)) W):=bZ (fun W k a4=>by
    have bb:=u.o.size;have c4:=H.o.size;have k4:aa [x,b,M] w W:=(H.o.mono (by simp)).trans ((J.o.nil).trans (k.mono (by simp)));have b7:=A.o.keep J.o (by simp) (by simp);have a3:b∉[x]/\M∉[x]:=⟨by simp;exact fun h=>ar h.symm,by simp;exact fun h=>b6 h.symm⟩;have a8:=b7.keep k a3.1 a3.2;have b9:=hS.o.keep k4 (fun y hy v=>by simp at hy;rcases hy with rfl | rfl | rfl;exact ak v;exact an v;exact ap v);have b8:=N.o.keep k (by simp;intro h;have:=hB.o.lt;have:=P.o;omega) (fun g bn hg _ v=>by simp at v;subst v;exact(z.o.ne_ hg (by decide)) rfl);refine⟨m,q,v.o,hq.o,by rw[R],bZ k4,bZ a8,fun _=>⟨bl,bZ ⟨⟨B,F,a4,b9,ak,an,ap,fun v=>by have:=hS.o.lt bl v;have:=P.o;omega,b0⟩,a8,b8⟩,by have:=P.o;omega⟩⟩)
   have a4:Z (Blk ((w5.setCell (U x 18) (.int .u32 (m:Int))).setCell (U x 19) (.pointer (V bl))) x 93 (dbV b B f m (.pointer (V bl)))):=bZ ((z.o.set_ 18 _).set_ 19 _);go_wp2_with fail;go_ret;exact E.o _ (((aa.refl [x] w5).setCell (.inl (by simp)) _).setCell (.inl (by simp)) _) a4.o
  have ba:(q.2 !=0)=true:=by simpa using R
  have E:Z (jq lo w x b M s ts f ep (.returned (I q.2)) L):=bZ ⟨m,q,v.o,hq.o,rfl,bZ (H.o.mono (by simp)),A,fun h=>absurd h R⟩;go_wp2_with fail;go_ret;exact E.o
end Go.Proofs.YtmlmfpikncogpaaGreat
