import Derived.Test.YtmlmfpikncogpaaGreatL38
namespace Go.Proofs.YtmlmfpikncogpaaGreat
open Go.RowKit
set_option linter.unusedSimpArgs false
set_option linter.unusedVariables false
set_option maxRecDepth 100000
set_option maxHeartbeats 16000000
namespace Wa
section
open Go.RowKit Dk
theorem _root_.Go.Proofs.YtmlmfpikncogpaaGreat.Bts.cutw {w:World} {l:List UInt8} {g o c k:Nat} (h:Bts w (some (U g o)) l) (f:l.length<=c):Bts w (if c=k then some (U g o) else some (U g (o+k))) (l.drop k):=by
 by_cases b:c=k
 ·exact .inl (D0 (by omega))
 rw[if_neg b];rcases h with rfl | ⟨d,i,e,h⟩
 ·exact .inl (by simp)
 injection e with e;injection e with e1 e2;subst e1 e2;refine .inr ⟨_,_,rfl,fun j v a=>?_⟩;rw[DK] at a;rw[Ej];exact h _ _ a
def dY (base:Nat) (w:World) (v:Value) (rs:List (List UInt8)):Prop:=
 ∃b:List Value,w.ownsRow base 79 1 v rs.length b/\∀(j:Nat) (r:List UInt8),rs[j]? =some r->∃(B:Option Addr) (c:Nat),b[j]? =some (Value.slice B r.length c)/\r.length<=c/\c<=maxLen/\Bts w B r/\∀a,B=some a->base<=a.block/\∃cur,Blk w a.block 5 cur
theorem dY.keep {base:Nat} {w w':World} {v:Value} {rs:List (List UInt8)} (h:dY base w v rs) (d:aa [] w w'):dY base w' v rs:=by
 obtain⟨s,f,g⟩:=h;refine⟨s,cV f d (by simp),fun j r n=>?_⟩;obtain⟨B,c,e,o,p,m,q⟩:=g j r n;refine⟨B,c,e,o,p,m.keep d (by simp),fun a l=>?_⟩;obtain⟨i,b,k⟩:=q a l;exact⟨i,b,k.keep d (by simp)⟩
theorem dY.nil (base:Nat) (w:World):dY base w (.slice none 0 0) []:=⟨[],EX _ _ _ _,fun j r a=>by cases a⟩
theorem dY.slice {base:Nat} {w:World} {v:Value} {rs:List (List UInt8)} (h:dY base w v rs):∃A c,v=.slice A rs.length c/\rs.length<=c/\c<=maxLen:=by
 obtain⟨o,e,_⟩:=h;rcases e.2 with ⟨rfl,d⟩ | ⟨g,a,b,j,k,l,f,i,m,n⟩
 ·exact⟨none,0,by rw[d],by omega,by simp[maxLen]⟩
 exact⟨_,a,j,f,i⟩
theorem dY.push {base:Nat} {w1 w2:World} {v F:Value} {rs:List (List UInt8)} {q:List Value} {r:List UInt8} {B:Option Addr} {c n:Nat} {o:Obj} (Q:r.length=n)
 (x:∀(j:Nat) (r:List UInt8),rs[j]? =some r->∃(B:Option Addr) (c:Nat),q[j]? =some (Value.slice B r.length c)/\r.length<=c/\c<=maxLen/\Bts w1 B r/\∀a,B=some a->base<=a.block/\∃b,Blk w1 a.block 5 b)
 (f:w1.ownsRow base 79 1 v rs.length q) (R:w1.ownsRow base 5 1 (.slice B n c) n (r.map bv))
 (k:w2.ownsRow base 79 1 F (rs.length+1) (q++[.slice B n c])) (N:(w1.alloc o).grownBy w2 v.ownBlock):dY base w2 F (rs++[r]):=by
  have t:aa v.ownBlock.toList w1 w2:=((aa.refl _ _).alloc o).trans (aa.grown N (by intro g h;rw[h];simp));have z:q.length=rs.length:=by have:=f.1;simpa using this
  have d:∀g b,Blk w1 g 5 b->g∉v.ownBlock.toList:=by
   intro g b L u;obtain⟨_,A,w⟩:=eN f (g:=g) (by simpa using u);exact L.ne_ w (by decide) rfl
  refine⟨q++[.slice B n c],by rw[CU];exact k,fun j E m=>?_⟩;by_cases y:j<rs.length
  ·rw[DC y] at m;obtain⟨H,c',e,O,P,M,u⟩:=x j E m;refine⟨H,c',by rw[DC (by omega)];exact e,O,P,M.keep t (fun a i=>?_),fun a i=>?_⟩
   ·obtain⟨_,b,l⟩:=u a i;exact d _ _ l
   obtain⟨C,b,l⟩:=u a i;exact⟨C,b,l.keep t (d _ _ l)⟩
  have p:j=rs.length:=by
   have:=(CV.1 m).1;simp at this;omega
  subst p;rw[Dv (C9 _),Ez] at m;obtain rfl:r=E:=by simpa using m
  obtain⟨J,S,C,l,D⟩:=bK R;refine⟨B,c,by rw[Dv (by omega),z,Ez,Q];rfl,by omega,l,J.keep t (fun a i=>?_),fun a i=>?_⟩
  ·obtain⟨_,_,b,s⟩:=D a i;exact d _ _ s
  obtain⟨K,_,b,s⟩:=D a i;exact⟨K,b,s.keep t (d _ _ s)⟩
def lenOf:Value->Nat
 | .slice _ n _=>n
 | _=>0
theorem BK:(Tryz.prog.info? 79).map (fun i=>(i.zero,i.size,i.bytes))=some (G none 0 0,1,24):=by kernel_rfl
theorem tX (S:Nat->List UInt8) (ep:Nat):∀k i,(cT S ep k i).length<=59*k
 | 0,i=>C9 _
 | k+1,i=>by
  unfold cT
  split
  ·simp
  rename_i h;have a:=tX S ep k (i+1);rw[CU,CY]
  split<;>simp<;>omega
theorem ib {w:World} {base:Nat} {e:TypeId} {v:Value} {n:Nat} {j:List Value} (h:w.ownsRow base e 1 v n j):∃A c,v=.slice A n c/\n<=c/\c<=maxLen:=by
 rcases h.2 with ⟨rfl,rfl⟩ | ⟨g,a,b,i,k,l,d,f,m,o⟩
 ·exact⟨none,0,rfl,C9 _,by simp[maxLen]⟩
 exact⟨_,a,i,d,f⟩
theorem nD {w:World} {base a:Nat} {e:TypeId} {size n:Nat} {v:Value} {d:List Value} (h:w.ownsRow a e size v n d) (i:base<=a):w.ownsRow base e size v n d:=by
 refine⟨h.1,?_⟩;rcases h.2 with h | ⟨g,b,c,k,f,j⟩
 ·exact .inl h
 exact .inr ⟨g,b,c,k,Dc i f,j⟩
def sj (rs:List (List UInt8)) (w:World) (e:Ending) (w':World):Prop:=
 ∃v,e=.returned (.tuple #[v,I 0])/\dY w.heap.size w' v rs/\aa [] w w'
theorem mr {w:World} {a b:Nat} {s:St} (c:aZ w a b s) {i:Nat} (d:i<s.n):(sec s i).length=64:=by
 unfold sec;rw[CY,Da,c.len];omega
theorem bH {w w1 w2:World} {base:Nat} {e:TypeId} {size n:Nat} {v:Value} {f:List Value} (a:w1.ownsRow base e size v n f) (k:aa [] w w1) (c:w.heap.size<=base) (d:w1.grownBy w2 v.ownBlock):aa [] w w2:=by
 refine(k.nil.trans (aa.grown (X:=v.ownBlock.toList) d (by intro g h;rw[h];simp))).mono ?_;intro x b;right;simp only[D8] at b;exact Dc c (eN a b).1
theorem lw (S:Nat->List UInt8) (ep k i:Nat):cT S ep (k+1) i=if epo (S i)≠ep\/59<cnt (S i) then [] else (S i).take (cnt (S i))++(if cnt (S i)<59 then [] else cT S ep k (i+1)):=rfl
theorem dL {w w1 w2:World} {base:Nat} {e:TypeId} {size n:Nat} {v:Value} {c:List Value} (a:w1.ownsRow base e size v n c) (b:w1.grownBy w2 v.ownBlock) (k:aa [] w w1):aa v.ownBlock.toList w w2:=
 k.nil.trans (aa.grown b (by intro g h;rw[h];simp))
theorem Bw {w:World} {base n g:Nat} {v:Value} {h:List Value} {b:Array Value} (a:w.ownsRow base 79 1 v n h) (e:Blk w g 5 b):g∉v.ownBlock.toList:=by
 intro f;obtain⟨_,d,c⟩:=eN a (g:=g) (by simpa using f);exact e.ne_ c (by decide) rfl
theorem je {w3 f:World} {base n g o:Nat} {v:Value} {l:List Value} {R:List UInt8} (j:∃b,Blk w3 g 5 b) (d:w3.ownsRow base 79 1 v n l) (k:aa v.ownBlock.toList w3 f) (i:Bts w3 (some (U g o)) R):
 Bts f (some (U g o)) R/\∀a,(some (U g o):Option Addr)=some a->∃b,Blk f a.block 5 b:=by
  obtain⟨b,h⟩:=j;have c:=Bw d h;refine⟨i.keep k (by intro a e;cases e;exact c),fun a e=>?_⟩;cases e;exact⟨b,h.keep k c⟩
theorem lx {S:Nat->List UInt8} {ep k i:Nat} (h:epo (S i)≠ep\/59<cnt (S i)):cT S ep k i=[]:=by
 cases k with
 | zero=>rfl
 | succ k=>unfold cT;rw[if_pos h]
theorem vu {S:Nat->List UInt8} {ep k i:Nat} (b:epo (S i)=ep) (a:cnt (S i)<59):cT S ep (k+1) i=(S i).take (cnt (S i)):=by
 rw[lw,if_neg (by omega),if_pos a,DA]
theorem vt {S:Nat->List UInt8} {ep k i:Nat} (b:epo (S i)=ep) (a:cnt (S i)=59):cT S ep (k+1) i=(S i).take 59++cT S ep k (i+1):=by
 rw[lw,if_neg (by omega),if_neg (by omega),a]
theorem zM (w:World) (bd bs:Nat) (s:St) (fi co ep:Nat) (hD:aZ w bd bs s) (ac:s.down=false) (hx:okR s.n fi co ep) (bt:ep<4294967296):
 Calls Tryz.prog 31 #[.pointer (V bd),I fi,I co,.int .u32 ep] w (sj (cg (cT (sec s) ep co fi)) w):=by
  have hn:=hD.n;have c4:=hx;unfold okR at c4;have HV:=eV w bd bs s fi co ep hD bt (by omega) (by omega);rw[decide_eq_true hx] at HV;have HF:=eb w bd bs s hD;rw[ac] at HF;have hT:=tX (sec s) ep co fi;generalize a5:cT (sec s) ep co fi=T at*;replace a5:=bZ a5;replace HV:=bZ HV;replace HF:=bZ HF;replace hD:=bZ hD;replace hx:=bZ hx;go_enter Tryz.func31,Tryz.ntmps31;go_wp2_with fail;refine HV.o.mono ?_;rintro e w1 ⟨rfl,rfl⟩;go_wp2_with fail;refine HF.o.mono ?_;rintro e w1 ⟨rfl,rfl⟩;clear HV HF;go_upto_block 0 with fail;go_cut [10] from 11 to 61 (fun st wx=>Z (wx.ownsRow w.heap.size 5 1 st T.length (T.map bv))/\Z (aa [] w wx))
  case first=>
   go_wp2_with fail;go_loopw [10,26] (fun st i wr=>∃(k:Nat) (acc:List UInt8),k<=co/\i=I k/\acc.length<=59*k/\Z (wr.ownsRow w.heap.size 5 1 st acc.length (acc.map bv))/\Z (cT (sec s) ep co fi=acc++cT (sec s) ep (co - k) (fi+k))/\Z (aa [] w wr)) (fun _ i _=>co - (intOf i).toNat)
   case atStart=>exact⟨0,[],C3 _,rfl,by simp,bZ (EX _ _ _ _),bZ (by simp),bZ (aa.refl _ _)⟩
   obtain⟨k,acc,hk,rfl,c6,p,x,d⟩:=hrel;by_cases cj:k<co
   ·have hi:fi+k<s.n:=by omega
    have ba:cKd s ((fi+k:Nat):Int)=0:=by unfold cKd;rw[ac];simp;omega
    have HR:=fU wr bd bs s (fi+k) (hD.o.keep d.o (by simp) (by simp)) ba hi;rw[show ((fi+k:Nat):Int)=(fi:Int)+(k:Int) by omega] at HR;have cc:=mr hD.o hi;generalize hb:sec s (fi+k)=b at*;replace hb:=bZ hb;replace HR:=bZ HR;have ch:(k:Int)<(co:Int):=by omega
    clear ba;go_wp2_with fail;refine HR.o.mono ?_;rintro e w1 ⟨rfl,hB,k1⟩;replace p:=bZ (cV p.o k1 (by simp));replace d:=bZ (d.o.trans k1);have bh:w1.cell? (U wr.heap.size 59)=some (.int .u8 (cnt b:Nat)):=by
     rw[hB.cell];simp only[cnt,Ec,DW,De];rw[CT (by omega)];rfl
    have a3:Bts w1 (V wr.heap.size) b:=.inr ⟨_,0,rfl,fun j v hj=>by
     rw[hB.cell,Dl];simp[hj]⟩
    have b0:Bts w1 (some (U wr.heap.size 60)) (b.drop 60):=.inr ⟨_,60,rfl,fun j v hj=>by
     rw[hB.cell];rw[DK] at hj;simp[hj]⟩
    have HG:=bZ (dy w1 (some (U wr.heap.size 60)) (b.drop 60) 4 4 b0 (by rw[Da];omega) (by omega));rw[show num (b.drop 60)=epo b from rfl] at HG;have cl:cnt b<256:=by unfold cnt;exact(b.getD 59 0).toNat_lt
    have c8:epo b<4294967296:=sN _;generalize hq:cnt b=q at*;generalize hE:epo b=E at*;replace hq:=bZ hq;replace hE:=bZ hE;replace a3:=bZ a3;clear HR hB b0 k1;go_wp2_with fail;refine HG.o.mono ?_;rintro e w2 ⟨rfl,m,rfl⟩;replace p:=bZ (cV p.o ((aa.refl [] w1).drewN m) (by simp));replace d:=bZ (d.o.drewN m);replace a3:=bZ (a3.o.keep ((aa.refl [] w1).drewN m) (by simp));clear HG bh;generalize w1.drewN m=w2 at*;by_cases b3:E=ep
    ·have bk:((E:Int) !=(ep:Int))=false:=by simp;omega
     rcases(by omega:59<q\/q<59\/q=59) with W | W | W
     ·have bb:(59:Int)<(q:Int):=by omega
      have u:cT (sec s) ep (co - k) (fi+k)=[]:=lx (.inr (by rw[hb.o,hq.o];omega));rw[u,DA,a5.o] at x;go_wp2_with fail;go_meet;have:=x.o;subst this;exact⟨p,d⟩
     ·have bb:(q:Int)<59:=by omega
      have L:=bZ (show (b.take q).length=q by rw[CY];omega);have u:cT (sec s) ep (co - k - 1+1) (fi+k)=b.take q:=by
       rw[vu (by rw[hb.o,hE.o,b3]) (by rw[hb.o,hq.o];exact W),hb.o,hq.o]
      rw[show co - k - 1+1=co - k by omega] at u;rw[u,a5.o] at x;go_wp2_with (refine ai rfl (.tmp 53) (.tmp 56) 79 rfl w.heap.size 5 Tryz.underlying79 (by kernel_rfl) u10 acc (b.take q) rfl p.o (V wr.heap.size) q 64 rfl L.o (a3.o.take q) ?_ d.o.size ?_;(rw[L.o];omega);intro A' c' w3 G1 G2 G3;have b6:=bZ (bH p.o d.o (C9 _) G2.o));have M:=G1.o;rw[show acc.length+q=(acc++b.take q).length by rw[CU,L.o]] at M;replace M:=bZ M;clear G1 G2 G3 p d;go_wp2_with fail;go_meet;have hl:acc.length+q=T.length:=by rw[x.o,CU,L.o]
      rw[<-x.o] at M;rw[hl];exact⟨M,b6⟩
     have bb:¬(q:Int)<59:=by omega
     have ck:¬(59:Int)<(q:Int):=by omega
     have L:=bZ (show (b.take q).length=q by rw[CY];omega);have u:cT (sec s) ep (co - k - 1+1) (fi+k)=b.take 59++cT (sec s) ep (co - (k+1)) (fi+(k+1)):=by
      rw[vt (by rw[hb.o,hE.o,b3]) (by rw[hb.o,hq.o];exact W),hb.o,show co - k - 1=co - (k+1) by omega,show fi+k+1=fi+(k+1) by omega]
     rw[show co - k - 1+1=co - k by omega] at u;rw[u,<-Dd] at x;rw[show b.take 59=b.take q by rw[W]] at x;clear u hq hE;replace W:=bZ W;go_wp2_with (refine ai rfl (.tmp 53) (.tmp 56) 79 rfl w.heap.size 5 Tryz.underlying79 (by kernel_rfl) u10 acc (b.take q) rfl p.o (V wr.heap.size) q 64 rfl L.o (a3.o.take q) ?_ d.o.size ?_;(rw[L.o];omega);intro A' c' w3 G1 G2 G3;have b6:=bZ (bH p.o d.o (C9 _) G2.o));have M:=G1.o;rw[show acc.length+q=(acc++b.take q).length by rw[CU,L.o]] at M;replace M:=bZ M;clear G1 G2 G3 p d;go_wp2_with fail;go_roundw
     case rel=>exact⟨k+1,acc++b.take q,by omega,by go_num,by rw[CU,L.o];have:=W.o;omega,by rw[show acc.length+q=(acc++b.take q).length by rw[CU,L.o]];exact M,x,b6⟩
     case measure=>simp[intOf];omega
    have bk:((E:Int) !=(ep:Int))=true:=by simp;omega
    have u:cT (sec s) ep (co - k) (fi+k)=[]:=lx (.inl (by rw[hb.o,hE.o];exact b3));rw[u,DA,a5.o] at x;go_wp2_with fail;go_meet;have:=x.o;subst this;exact⟨p,d⟩
   obtain rfl:k=co:=by omega
   go_wp2_with fail;go_meet;have:=x.o;rw[a5.o,Ez] at this;simp only[cT,DA] at this;subst this;exact⟨p,d⟩
  obtain⟨p,d⟩:=hcut;obtain⟨A0,c0,rfl,_,_⟩:=ib p.o;obtain⟨ar,_,bl,c3,b9⟩:=bK p.o;have b8:Z (Bts wc A0 T/\∀a,A0=some a->∃B,Blk wc a.block 5 B):=bZ ⟨ar,fun a ha=>(b9 a ha).2.2⟩;clear ar b9;clear p;obtain⟨i0,hi,a7,a8,a9⟩:=info_parts BK;replace hi:=bZ hi;replace a7:=bZ a7;replace a8:=bZ a8;replace a9:=bZ a9;go_wp2_with fail;go_loopw [10,15] (fun st c5 wr=>∃(A:Option Addr) (l c:Nat) (done:List (List UInt8)) (rest:List UInt8),st=.slice A l c/\Z (rest.length=l)/\l<=c/\c<=maxLen/\done.length+l<=T.length/\Z (Bts wr A rest/\∀a,A=some a->∃B,Blk wr a.block 5 B)/\Z (dY w.heap.size wr c5 done)/\Z (cg T=done++cg rest)/\Z (aa [] w wr)) (fun st _ _=>lenOf st)
  case atStart=>exact⟨A0,T.length,c0,[],T,rfl,bZ rfl,bl,c3,by simp,b8,bZ (dY.nil _ _),bZ rfl,d⟩
  clear b8 d;obtain⟨A,l,c,done,rest,rfl,hl,c2,bp,cd,b2,D,x,d⟩:=hrel;have hB:=bZ b2.o.1;have an:=bZ b2.o.2;clear b2;unfold maxLen at bp;by_cases h4:4<=l
  ·have HG:=bZ (dy wr A rest l c hB.o hl.o h4);have hN:=sN rest;have c7:(4:Int)<=(l:Int):=by omega
   obtain⟨N,O⟩:∃N,num rest=N:=⟨_,rfl⟩;rw[O] at HG hN;replace O:=bZ O;go_wp2_with fail;refine HG.o.mono ?_;rintro e w2 ⟨rfl,m,rfl⟩;have kd:=(aa.refl [] wr).drewN m;replace hB:=bZ (hB.o.keep kd (by simp));replace an:=bZ (fun a ha=>(an.o a ha).imp fun B h=>h.keep kd (by simp));replace D:=bZ (D.o.keep kd);replace d:=bZ (d.o.drewN m);clear HG kd;generalize wr.drewN m=w2 at*;by_cases c9:(16777216:Int)<(N:Int)
   ·have u:=iK (s:=rest) (by have:=hl.o;omega) (.inl (by rw[O.o];omega));rw[u,DA] at x;go_wp2_with fail;go_ret2;exact⟨_,rfl,by rw[x.o];exact D.o,d.o⟩
   by_cases cb:(l:Int) - 4<(N:Int)
   ·have u:=iK (s:=rest) (by have:=hl.o;omega) (.inr (by rw[O.o];have:=hl.o;omega));rw[u,DA] at x;go_wp2_with fail;go_ret2;exact⟨_,rfl,by rw[x.o];exact D.o,d.o⟩
   have P:=lR (s:=rest) (by have:=hl.o;omega) (by rw[O.o];omega) (by rw[O.o];have:=hl.o;omega);rw[O.o] at P;obtain⟨g,o,rfl⟩:∃g o,A=some (U g o):=by
    rcases hB.o with h | ⟨g,o,h,_⟩
    ·have:=hl.o;rw[h] at this;simp at this;omega
    exact⟨g,o,h⟩
   have C:((rest.drop 4).take N).length=N:=by rw[CY,Da];have:=hl.o;omega
   have e1:(4:Int)+N<=l:=by omega
   have e2:4+N<=c:=by omega
   obtain⟨R,hR⟩:∃R,(rest.drop 4).take N=R:=⟨_,rfl⟩;obtain⟨R2,ak⟩:∃R2,rest.drop (N+4)=R2:=⟨_,rfl⟩;rw[hR] at C;rw[hR,ak] at P;have a0:Z (R2.length=l - (4+N)):=bZ (by rw[<-ak,Da,hl.o];omega);have b5:rest.length<=c:=by rw[hl.o];exact c2
   rw[P] at x;have bn:∃A1 c1 A2,Z (A1=if c=4 then some (U g o) else some (U g (o+4)))/\Z (A2=if c=4+N then some (U g o) else some (U g (o+(4+N))))/\Z (Bts w2 A1 R)/\Z (Bts w2 A2 R2)/\c1=c - 4:=
    ⟨_,_,_,bZ rfl,bZ rfl,bZ (by rw[<-hR];exact(hB.o.cutw (k:=4) b5).take N),bZ (by rw[<-ak,Nat.add_comm N 4];exact hB.o.cutw (k:=4+N) b5),rfl⟩
   obtain⟨A1,c1,A2,a2,S,bi,K,rfl⟩:=bn;clear hR ak b5 hB P O hl;have b4:Z (∃B,Blk w2 g 5 B):=bZ (an.o _ rfl);clear an;have b1:=d;replace C:=bZ C;by_cases k0:N=0
   ·subst k0;obtain⟨vs,f,F⟩:=D.o.keep ((aa.refl [] w2).alloc (.cells #[] 5));replace f:=bZ f;replace F:=bZ F;have a4:Z (∃B,Blk (w2.alloc (.cells #[] 5)) g 5 B):=bZ (b4.o.imp fun B h=>h.alloc _);replace K:=bZ (K.o.keep ((aa.refl [] w2).alloc (.cells #[] 5)) (by simp));have a6:Z ((w2.alloc (.cells #[] 5)).ownsRow w.heap.size 5 1 (.slice (V w2.heap.size) 0 0) 0 (R.map bv)):=bZ (by
     rw[Dh C.o];exact nD (Fd w2 #[] 0 (C9 _) (by simp[maxLen]) (by simp)) d.o.size)
    by_cases k4:c=4
    ·have q1:l=4:=by omega
     subst q1 k4;have Q:=a2.o;have z:=S.o;rw[if_pos rfl] at Q z;subst Q z;clear a2 S;go_wp2_with (at_builtin;refine wpList_append_own _ rfl (.tmp 76) (.tmp 84) 98 rfl w.heap.size 79 i0 (.slice none 0 0) 1 24 Tryz.underlying98 hi.o a7.o a8.o a9.o rfl (by decide) u15 done.length vs rfl (f.o.alloc _) (U (w2.heap.size+1) 0) 1 1 [.slice (V w2.heap.size) 0 0] rfl rfl (World.news_of_block (cs:=#[.slice (V w2.heap.size) 0 0]) (t:=79) (fr:=(0,0)) (heap_alloc2_new w2 _ _)) (by simp[Value.oneCell']) ?_ ?_ ?_ ?_;(unfold maxLen;omega);omega;(have:=d.o.size;simp;omega);intro v' w4 H y X;have kg:=bZ (bH (w:=w) (f.o.alloc (.cells #[.slice (V w2.heap.size) 0 0] 79)) ((d.o.alloc _).alloc _) (C9 _) y);have Y:=bZ (dL (w:=w2.alloc (.cells #[] 5)) (f.o.alloc (.cells #[.slice (V w2.heap.size) 0 0] 79)) y ((aa.refl [] (w2.alloc (.cells #[] 5))).alloc _));have ho:=bZ (dY.push (r:=R) C.o F.o f.o a6.o H y);clear X H y);go_roundw
     case rel=>
      refine⟨some (U g o),0,0,done++[R],R2,?_,?_,?_,?_,?_,?_,ho,?_,kg⟩
      ·first | rfl | rw[kN]
      ·exact a0
      ·omega
      ·unfold maxLen;omega
      ·rw[CU,DE];omega
      ·exact bZ (je a4.o f.o Y.o K.o)
      exact bZ (by rw[x.o,Dd];rfl)
     case measure=>
      first | (simp[lenOf];done) | (simp[lenOf];omega)
    have z:=S.o;rw[if_neg (by omega)] at z;subst z;clear a2 S;go_wp2_with (at_builtin;refine wpList_append_own _ rfl (.tmp 76) (.tmp 84) 98 rfl w.heap.size 79 i0 (.slice none 0 0) 1 24 Tryz.underlying98 hi.o a7.o a8.o a9.o rfl (by decide) u15 done.length vs rfl (f.o.alloc _) (U (w2.heap.size+1) 0) 1 1 [.slice (V w2.heap.size) 0 0] rfl rfl (World.news_of_block (cs:=#[.slice (V w2.heap.size) 0 0]) (t:=79) (fr:=(0,0)) (heap_alloc2_new w2 _ _)) (by simp[Value.oneCell']) ?_ ?_ ?_ ?_;(unfold maxLen;omega);omega;(have:=d.o.size;simp;omega);intro v' w4 H y X;have kg:=bZ (bH (w:=w) (f.o.alloc (.cells #[.slice (V w2.heap.size) 0 0] 79)) ((d.o.alloc _).alloc _) (C9 _) y);have Y:=bZ (dL (w:=w2.alloc (.cells #[] 5)) (f.o.alloc (.cells #[.slice (V w2.heap.size) 0 0] 79)) y ((aa.refl [] (w2.alloc (.cells #[] 5))).alloc _));have ho:=bZ (dY.push (r:=R) C.o F.o f.o a6.o H y);clear X H y);go_roundw
    case rel=>
     refine⟨some (U g (o+(4+0))),l - (4+0),c - (4+0),done++[R],R2,?_,?_,?_,?_,?_,?_,ho,?_,kg⟩
     ·first | rfl | rw[kN]
     ·exact a0
     ·omega
     ·unfold maxLen;omega
     ·rw[CU,DE];omega
     ·exact bZ (je a4.o f.o Y.o K.o)
     exact bZ (by rw[x.o,Dd];rfl)
    case measure=>
     first | (simp[lenOf];done) | (simp[lenOf];omega)
   have ap:Z (([]:List UInt8).length+(4+N - 4)=N):=bZ (by rw[Ff];exact Dl N);have a1:Z (([]:List UInt8).length+N=N):=bZ (Dl N);have k4:¬c=4:=by omega
   have Q:=a2.o;rw[if_neg k4] at Q;subst Q;have HM:Z ((w2.alloc (.cells #[] 5)).ownsRow w2.heap.size 5 1 (.slice (V w2.heap.size) 0 0) ([]:List UInt8).length (([]:List UInt8).map bv)):=bZ (Fd w2 #[] 0 (C9 _) (by simp[maxLen]) (by simp));have info5:Z ((Tryz.prog.info? 5).map (fun i=>(i.zero,i.size,i.bytes))=some (some (.int .u8 0),1,1)):=bZ (by kernel_rfl);have KA:Z (aa [] w2 (w2.alloc (.cells #[] 5))):=bZ ((aa.refl [] _).alloc _);have b7:=bZ (bi.o.keep KA.o (by simp));by_cases kN:c=4+N
   ·have z:=S.o;rw[if_pos kN] at z;subst z;clear a2 S;go_wp2_with (first
     | (at_builtin;refine ai rfl (.tmp 77) (.tmp 82) 79 rfl w2.heap.size 5 Tryz.underlying79 info5.o (.slice (V w2.heap.size) 0 0) [] R rfl ?_ _ _ _ rfl ?_ ?_ ?_ ?_ ?_;(exact HM.o);(first | exact C.o | exact C.o.trans (Ff 4 N).symm);(exact b7.o);(rw[C.o,D6];omega);(exact KA.o.size);intro A' c' w3 G1 G2 G3;(first | rw[ap.o] | rw[a1.o]);have M:=G1.o;(first | rw[ap.o,Dm] at M | rw[a1.o,Dm] at M);have J:=bH (w:=w2) HM.o KA.o (C9 _) G2.o;obtain⟨vs,f,F⟩:=D.o.keep J;replace d:=bZ (d.o.trans J);replace K:=bZ (K.o.keep J (fun _ _=>Dw));have a4:Z (∃B,Blk w3 g 5 B):=bZ (b4.o.imp fun B h=>h.keep J Dw);have a6:=bZ (nD M b1.o.size);replace f:=bZ f;replace F:=bZ F;clear G1 G2 G3 M J)
     | (at_builtin;refine wpList_append_own _ rfl (.tmp 76) (.tmp 84) 98 rfl w.heap.size 79 i0 (.slice none 0 0) 1 24 Tryz.underlying98 hi.o a7.o a8.o a9.o rfl (by decide) u15 done.length vs rfl (f.o.alloc _) (U w3.heap.size 0) 1 1 [.slice A' N c'] rfl rfl (World.news_of_block (cs:=#[.slice A' N c']) (t:=79) (fr:=(0,0)) (heap_alloc_new w3 _)) (by simp[Value.oneCell']) ?_ ?_ ?_ ?_;(unfold maxLen;omega);omega;(have:=d.o.size;simp;omega);intro v' w4 H y X;have kg:=bZ (bH (w:=w) (f.o.alloc (.cells #[.slice A' N c'] 79)) (d.o.alloc _) (C9 _) y);have Y:=bZ (dL (w:=w3) (f.o.alloc (.cells #[.slice A' N c'] 79)) y ((aa.refl [] w3).alloc _));have ho:=bZ (dY.push (r:=R) C.o F.o f.o a6.o H y);clear X H y))
    go_roundw
    case rel=>
     refine⟨some (U g o),l - (4+N),c - (4+N),done++[R],R2,?_,?_,?_,?_,?_,?_,ho,?_,kg⟩
     ·first | rfl | rw[kN]
     ·exact a0
     ·omega
     ·unfold maxLen;omega
     ·rw[CU,DE];omega
     ·exact bZ (je a4.o f.o Y.o K.o)
     exact bZ (by rw[x.o,Dd];rfl)
    case measure=>
     first | (simp[lenOf];done) | (simp[lenOf];omega)
   have z:=S.o;rw[if_neg kN] at z;subst z;clear a2 S;go_wp2_with (first
    | (at_builtin;refine ai rfl (.tmp 77) (.tmp 82) 79 rfl w2.heap.size 5 Tryz.underlying79 info5.o (.slice (V w2.heap.size) 0 0) [] R rfl ?_ _ _ _ rfl ?_ ?_ ?_ ?_ ?_;(exact HM.o);(first | exact C.o | exact C.o.trans (Ff 4 N).symm);(exact b7.o);(rw[C.o,D6];omega);(exact KA.o.size);intro A' c' w3 G1 G2 G3;(first | rw[ap.o] | rw[a1.o]);have M:=G1.o;(first | rw[ap.o,Dm] at M | rw[a1.o,Dm] at M);have J:=bH (w:=w2) HM.o KA.o (C9 _) G2.o;obtain⟨vs,f,F⟩:=D.o.keep J;replace d:=bZ (d.o.trans J);replace K:=bZ (K.o.keep J (fun _ _=>Dw));have a4:Z (∃B,Blk w3 g 5 B):=bZ (b4.o.imp fun B h=>h.keep J Dw);have a6:=bZ (nD M b1.o.size);replace f:=bZ f;replace F:=bZ F;clear G1 G2 G3 M J)
    | (at_builtin;refine wpList_append_own _ rfl (.tmp 76) (.tmp 84) 98 rfl w.heap.size 79 i0 (.slice none 0 0) 1 24 Tryz.underlying98 hi.o a7.o a8.o a9.o rfl (by decide) u15 done.length vs rfl (f.o.alloc _) (U w3.heap.size 0) 1 1 [.slice A' N c'] rfl rfl (World.news_of_block (cs:=#[.slice A' N c']) (t:=79) (fr:=(0,0)) (heap_alloc_new w3 _)) (by simp[Value.oneCell']) ?_ ?_ ?_ ?_;(unfold maxLen;omega);omega;(have:=d.o.size;simp;omega);intro v' w4 H y X;have kg:=bZ (bH (w:=w) (f.o.alloc (.cells #[.slice A' N c'] 79)) (d.o.alloc _) (C9 _) y);have Y:=bZ (dL (w:=w3) (f.o.alloc (.cells #[.slice A' N c'] 79)) y ((aa.refl [] w3).alloc _));have ho:=bZ (dY.push (r:=R) C.o F.o f.o a6.o H y);clear X H y))
   go_roundw
   case rel=>
    refine⟨some (U g (o+(4+N))),l - (4+N),c - (4+N),done++[R],R2,?_,?_,?_,?_,?_,?_,ho,?_,kg⟩
    ·first | rfl | rw[kN]
    ·exact a0
    ·omega
    ·unfold maxLen;omega
    ·rw[CU,DE];omega
    ·exact bZ (je a4.o f.o Y.o K.o)
    exact bZ (by rw[x.o,Dd];rfl)
   case measure=>
    first | (simp[lenOf];done) | (simp[lenOf];omega)
  have u:=dg (s:=rest) (by have:=hl.o;omega);rw[u,DA] at x;go_wp2_with fail;go_ret2;exact⟨_,rfl,by rw[x.o];exact D.o,d.o⟩
end
end Wa
end Go.Proofs.YtmlmfpikncogpaaGreat
