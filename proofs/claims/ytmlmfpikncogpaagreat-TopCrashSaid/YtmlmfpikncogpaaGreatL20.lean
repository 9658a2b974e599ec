import Derived.ControlIn
import Derived.LoopIn
import Derived.LoopNIn
import Derived.RangeFuncBound
import Derived.RangeFuncCalls
import Derived.RangeFuncLeaves
import Derived.RangeFuncNested
import Derived.Shelf.Abstract
import Derived.Shelf.RegionOpen
import Derived.TacticsInMore
import Derived.Test.YtmlmfpikncogpaaGreatL19
namespace Go.Proofs.YtmlmfpikncogpaaGreat
open Go.RowKit
set_option linter.unusedSimpArgs false
set_option linter.unusedVariables false
set_option maxRecDepth 100000
set_option maxHeartbeats 16000000
section
open Go.RowKit Go.Shelf
attribute [local go_sem] Oper.semAt_some
theorem sR {w w':World} (k:aa [] w w'):w.grownBy w' none:=⟨k.os,k.tape,k.output,k.size,fun g a _=>k.block g a (by simp)⟩
def MuB (B:Nat) (W:World):List Nat:=B::(match W.cell? (U B 0) with | some (.slice A _ _)=>fb A | _=>[])
theorem lQ {B:Nat} {W:World} {A:Option Addr} {n c:Nat} (h:W.cell? (U B 0)=G A n c):MuB B W=B::fb A:=by unfold MuB;rw[h]
theorem fJ {B:Nat} {W a:World} (h:a.cell? (U B 0)=W.cell? (U B 0)):MuB B a=MuB B W:=by unfold MuB;rw[h]
def KpM (B:Nat) (W b:World):Prop:=W.heap.size<=b.heap.size/\((W.cell? (U B 0)).isSome=true->(∀(a:Addr) (v:Value),a.block∉MuB B W->W.cell? a=some v->b.cell? a=some v)/\(∀x∈MuB B b,x∈MuB B W\/W.heap.size<=x)/\(b.cell? (U B 0)).isSome=true)
theorem ya {B:Nat} {a b c:World} (h:KpM B a b) (k:KpM B b c):KpM B a c:=by
 refine⟨Dc h.1 k.1,fun m=>?_⟩;obtain⟨i,e,j⟩:=h.2 m;obtain⟨o,q,r⟩:=k.2 j;refine⟨fun p v f g=>?_,fun x n=>?_,r⟩
 ·refine o p v (fun l=>?_) (i p v f g);rcases e _ l with d | d
  ·exact f d
  have:=block_lt_of_cell g;omega
 rcases q x n with d | d
 ·exact e x d
 exact .inr (Dc h.1 d)
theorem yd {B:Nat} {w:World} (W:World) (l:Nat) (o d:Obj) (_:w.heap.size<=l) (h:W.heap[l]? =some o) (g:o.isCells=false) (_:o.isWalk=false):KpM B W (W.putObj l d):=by
 have f:=grownBy_putObj' W l d;have c:∀(a:Addr) (v:Value),W.cell? a=some v->(W.putObj l d).cell? a=some v:=fun a v b=>cell_kept b f (fun r e=>by cases e;exact⟨o,h,g⟩);refine⟨f.size,fun i=>?_⟩;obtain⟨v,b⟩:=Ep.1 i;refine⟨fun a v _ b=>c a v b,fun x j=>.inl ?_,by rw[c _ _ b];rfl⟩;rwa [fJ ((c _ _ b).trans b.symm)] at j
structure lP (B:Nat) (W:World) (A:Option Addr) (L:List Nat):Prop where
 some_:(W.cell? (U B 0)).isSome=true
 ap:∀g∈L,g∉MuB B W
 lt:∀g∈L,g<W.heap.size
theorem lP.start {B:Nat} {W b:World} {A:Option Addr} {L:List Nat} (e:(W.cell? (U B 0)).isSome=true) (f:∀x∈MuB B W,x<W.heap.size) (k:aa [] W b) (l:∀g∈L,W.heap.size<=g) (i:∀g∈L,g<b.heap.size):lP B b A L:=by
 obtain⟨v,d⟩:=Ep.1 e;have c:=k.cellEq d (by simp);have j:MuB B b=MuB B W:=fJ (c.trans d.symm);refine⟨by rw[c];rfl,fun g h a=>?_,i⟩;rw[j] at a;have:=f g a;have:=l g h;omega
theorem lP.alloc {B:Nat} {W:World} {A:Option Addr} {L:List Nat} (h:lP B W A L) (o:Obj):lP B (W.alloc o) A L:=by
 obtain⟨v,b⟩:=Ep.1 h.some_;have k:=(aa.refl [] W).alloc o;have a:=k.cellEq b (by simp);have d:MuB B (W.alloc o)=MuB B W:=fJ (a.trans b.symm);exact⟨by rw[a];rfl,by rw[d];exact h.ap,fun g c=>Dr (h.lt g c) k.size⟩
theorem lP.kp {B:Nat} {W b:World} {A:Option Addr} {L:List Nat} (h:lP B W A L) (k:KpM B W b):lP B b A L:=by
 obtain⟨i,e,f⟩:=k.2 h.some_;refine⟨f,fun g a d=>?_,fun g a=>Dr (h.lt g a) k.1⟩;rcases e g d with c | c
 ·exact h.ap g a c
 have:=h.lt g a;omega
def fL (W:World) (A:Option Addr) (a:List Ent):Prop:=∀(i:Nat) (e:Ent),a[i]? =some e->∃g,A=V g/\W.cell? (U g (i*2))=some e.1/\W.cell? (U g (i*2+1))=some e.2
theorem fL.alloc {W:World} {A:Option Addr} {a:List Ent} (h:fL W A a) (o:Obj):fL (W.alloc o) A a:=fun i e f=>by
 obtain⟨g,b,c,d⟩:=h i e f;have k:=(aa.refl [] W).alloc o;exact⟨g,b,k.cellEq c (by simp),k.cellEq d (by simp)⟩
theorem fL.kp {B:Nat} {W a:World} {A:Option Addr} {b:List Ent} (h:fL W A b) (m:lP B W A (fb A)) (k:KpM B W a):fL a A b:=fun i e j=>by
 obtain⟨g,rfl,d,f⟩:=h i e j;have c:g∉MuB B W:=m.ap g (by simp[fb]);exact⟨g,rfl,(k.2 m.some_).1 _ _ c d,(k.2 m.some_).1 _ _ c f⟩
theorem jm:∀(l:List Ent) (i:Nat) (e:Ent),l[i]? =some e->(bE l)[i*2]? =some e.1/\(bE l)[i*2+1]? =some e.2
 | [],i,e,h=>by cases h
 | x::r,0,e,h=>by
  obtain rfl:x=e:=by simpa using h
  exact⟨rfl,rfl⟩
 | x::r,i+1,e,h=>by
  have a:=jm r i e (by simpa using h);rw[show (i+1)*2=i*2+1+1 by omega];exact a
theorem rJ {w:World} {n c:Nat} {A:Option Addr} {a:List Ent} (h:w.ownsRow 0 304 2 (.slice A n c) n (bE a)) (m:a.length=n):fL w A a:=fun i e d=>by
 have k:=(CV.1 d).1;obtain⟨g,c',l,_,_,_,_,b,_⟩:=ax h (by omega);injection l with hA _ _;obtain⟨f,j⟩:=jm a i e d;exact⟨g,hA,b _ _ f,b _ _ j⟩
theorem zV {w:World} {b e size n c:Nat} {A:Option Addr} {d:List Value} (h:w.ownsRow b e size (.slice A n c) n d) {g:Nat} (a:g∈fb A):g<w.heap.size:=(aw h a).2.1
structure aD where
 k:Int
 A:Option Addr
 n:Nat
 c:Nat
def aD.ent (r:aD):Ent:=(I r.k,.slice r.A r.n r.c)
theorem p9 {rs:List aD}:∀x∈rs.map aD.ent,cX x.1/\dk x.2:=fun x a=>by
 obtain⟨r,_,rfl⟩:=Dt.1 a;exact⟨⟨_,rfl⟩,_,_,_,rfl⟩
def mh (r:aD):Array Value:=#[I r.k,.slice r.A r.n r.c]
theorem AP (l L M N q B:Nat) (rs:List aD) (F:List Nat) (n:Int) (J Jx:List aD->World->Prop) (W:World) (hJ:AbidesFrom W.heap.size J)
 (hY:∀pre x W,J pre W->pre.length<rs.length->YieldAt Fence.wide 3 Tryz.prog l (mh x) W fun e C=>
  (e=.returned (.bool true)/\J (pre++[x]) C/\KpM B W C)\/(e=.returned (.bool false)/\Jx (pre++[x]) C))
 (h3:W.cell? (U L 0)=some (.pointer (V q))) (h4:W.cell? (U M 0)=some (.pointer none)) (h5:W.cell? (U N 0)=some (.pointer none))
 (hT:aR tyI 204 W q (rs.map aD.ent) F n) (ac:rs.length<=100000) (hB:(W.cell? (U B 0)).isSome=true) (d:∀x∈MuB B W,x<W.heap.size) (h0:J [] W):
 CallsIn Fence.wide 4 Tryz.prog 203 #[.func (.yield l) #[] #[],.pointer (V L),.pointer (V M),.pointer (V N)] W fun e C=>(∃v,e=.returned v)/\
  (J rs C\/(∃pre,(∃k,k<=rs.length/\pre=rs.take k)/\Jx pre C)):=by
 obtain⟨s,b⟩:∃s,s=rs.map aD.ent:=⟨_,rfl⟩
 have f:∀x∈s,cX x.1/\dk x.2:=by rw[b];exact p9
 have a8:s.length=rs.length:=by rw[b,Df]
 rw[<-b] at hT
 obtain⟨root,h,m,Fn,hb,a1,hr,hm,Y,a7,rfl⟩:=hT.out_
 have zr:=hb.cell 0
 have y:Z (aa [] W W.drew):=bZ (aa.refl [] W).drew
 have CC:=bZ (Ax h W.drew root m s Fn none 0 0 [] ((a1.keep y.o (by simp)).rep hr) Y hm (by simp[fb]) f (bQ _ _ _ _) rfl (by omega))
 have c:W.drew.cell? (U L 0)=some (.pointer (V q))/\W.drew.cell? (U M 0)=some (.pointer none)/\W.drew.cell? (U N 0)=some (.pointer none)/\W.drew.cell? (U q 0)=some (.pointer (V root)):=⟨h3,h4,h5,zr⟩
 replace b:=bZ b
 clear a8
 replace hB:=bZ hB
 replace d:=bZ d
 clear hT hb a1 hr hm Y a7 zr h3 h4 h5
 unfold ptr at CC
 refine callsIn_wide.2 ?_
 go_enter Tryz.func203,Tryz.ntmps203
 go_wp2_with fail
 refine ad (S:=(fun w':World=>w'.cell? (U L 0)=some (.pointer (V q))/\w'.cell? (U M 0)=some (.pointer none)/\w'.cell? (U N 0)=some (.pointer none)/\w'.cell? (U q 0)=some (.pointer (V root)))) (n:=9) (by kernel_rfl) ?_
 generalize W.drew=wd at*
 refine ord [0,1,2,3,4,5,8] ?_
 iterate 7 (refine tq c ?_;try simp only[PT,Y1,Y2,Y3])
 refine av ?_
 refine J1 6 fun K hK=>?_
 dsimp only[Y1,Y2,Y3]
 go_simp
 refine CC.o.mono ?_
 clear CC
 rintro e w ⟨A,z,c1,rfl,a⟩
 have c:w.cell? (U L 0)=some (.pointer (V q))/\w.cell? (U M 0)=some (.pointer none)/\w.cell? (U N 0)=some (.pointer none)/\w.cell? (U q 0)=some (.pointer (V root)):=⟨a.o.kp.cellEq c.1 (by simp[fb]),a.o.kp.cellEq c.2.1 (by simp[fb]),a.o.kp.cellEq c.2.2.1 (by simp[fb]),a.o.kp.cellEq c.2.2.2 (by simp[fb])⟩
 refine hK _ _ (.inr c) ?_;clear hK K
 try simp only[PT,Y1,Y2,Y3]
 refine ord [7] ?_
 (refine tq c ?_;try simp only[PT,Y1,Y2,Y3])
 refine av ?_
 refine JD ?_
 have kz:Z (aa [] W w):=bZ (y.o.trans (a.o.kp.mono (by simp[fb])))
 clear c
 go_wp2_with fail
 refine(wpIn_wide (n:=4)).1 ?_
 have X:s.length=z:=by have:=a.o.len;simpa using this
 have a9:rs.length=z:=by rw[<-X,b.o,Df]
 have a5:J (rs.take 0) w:=hJ _ _ _ none h0 (sR kz.o) (fun r e=>by cases e)
 have a2:Z (lP B w A (fb A)):=bZ (lP.start hB.o d.o kz.o (fun g hg=>by
  rcases a.o.nw g hg with h | h
  ·simp[fb] at h
  exact Dc y.o.size h) (fun g hg=>(zV a.o.own hg)))
 have a6:Z (fL w A s):=bZ (rJ (by have:=a.o.own;simpa using this) X)
 clear a h0 hB d
 gi_wp2
 gi_loopw [15] (fun i wr=>∃k:Nat,k<=z/\i=I (k:Int)/\J (rs.take k) wr/\Z (lP B wr A (fb A))/\Z (fL wr A s)) (fun i _=>z - (intOf i).toNat)
 case atStart=>exact⟨0,C3 _,rfl,a5,a2,a6⟩
 case round=>
  obtain⟨k,hk,rfl,j,Q,hE⟩:=hrel;by_cases ar:k<z
  ·have ap:(k:Int)<(z:Int):=by omega
   obtain⟨⟨H,D,en,E⟩,p⟩:∃e,rs[k]? =some e:=⟨_,CT (by omega)⟩;obtain⟨g,rfl,ck,cv⟩:=hE.o k (I H,.slice D en E) (by rw[b.o,De,p];rfl);have O:J (rs.take k) (wr.alloc (.cells #[I H,.slice D en E] 304)):=hJ _ _ _ none j (World.grownBy_alloc wr _ none) (fun r e=>by cases e);obtain⟨fn,tmps,assign,body,hy,hR⟩:=hY _ ⟨H,D,en,E⟩ _ O (by rw[CY];omega);have a0:Z (rs.take k++[(⟨H,D,en,E⟩:aD)]=rs.take (k+1)):=bZ (by rw[Dq,p];rfl);unfold mh at hy;dsimp only at hy;have b0:wrap64 ((k:Int)+1)=(k:Int)+1:=by unfold wrap64;omega
   have u:=bZ (Q.o.alloc (.cells #[I H,.slice D en E] 304));have a3:=bZ (hE.o.alloc (.cells #[I H,.slice D en E] 304));have an:(k:Int)*2=((k*2:Nat):Int):=by omega
   replace p:=bZ p;clear Q hE j O
   gi_wp2
   refine hR.mono ?_;rintro e W3 (⟨rfl,P,T⟩ | ⟨rfl,t⟩)
   ·rw[a0.o] at P;have R:=bZ (u.o.kp T);have a4:=bZ (a3.o.kp u.o T)
    gi_wp2
    go_roundw
    case rel=>exact⟨k+1,by omega,by first | rfl | (congr 1;done) | (congr 1;omega),P,R,a4⟩
    case measure=>(simp[intOf])<;>omega
   rw[a0.o] at t
   gi_wp2
   refine bodyPost_ret (results_none rfl _ _ _) rfl ?_;exact⟨⟨_,rfl⟩,.inr ⟨_,⟨k+1,by omega,rfl⟩,t⟩⟩
  obtain rfl:k=z:=by omega
  have ak:¬((k:Int)<(k:Int)):=by omega
  rw[<-a9,List.take_length] at j
  gi_wp2
  go_end0;exact⟨⟨_,rfl⟩,.inl j⟩
end
section
open Go.RowKit Go.Shelf
attribute [local go_sem] Oper.semAt_some
theorem wQ (c d f i B:Nat) (rs:List aD) (F:List Nat) (n:Int) (w:World) (r:w.cell? (U c 0)=some (.pointer (V i))) (s:w.cell? (U d 0)=some (.pointer none)) (t:w.cell? (U f 0)=some (.pointer none))
 (z:aR tyI 204 w i (rs.map aD.ent) F n) (a:rs.length<=100000) (u:(w.cell? (U B 0)).isSome=true) (j:∀x∈MuB B w,x<w.heap.size):
 SeqStopsK Fence.wide 4 Tryz.prog 203 #[.pointer (V c),.pointer (V d),.pointer (V f)] mh (KpM B) (fun E=>E=rs) (fun pre=>∃k,k<=rs.length/\pre=rs.take k) rs.length w:=fun l J p W A y _ C q=>by
 have k:aa [] w W:=aa.of_below A (fun g K L=>by omega)
 obtain⟨v,m⟩:=Ep.1 u
 have b:=k.cellEq m (by simp)
 refine(AP l c d f i B rs F n J p W y C (k.cellEq r (by simp)) (k.cellEq s (by simp)) (k.cellEq t (by simp)) (z.keep k (by simp)) a (by rw[b];rfl) (fun x o=>?_) q).mono (fun e H h=>⟨h.1,h.2.imp (fun D=>⟨_,rfl,D⟩) (fun h=>h)⟩)
 rw[fJ (b.trans m.symm)] at o
 exact Dr (j x o) k.size
def qp (w:World) (a:Nat):World:=((w.alloc (.cells #[.pointer (V a)] 172)).alloc (.cells #[.pointer none] 300)).alloc (.cells #[.pointer none] 300)
def AO (b:Nat):Value:=.func (.func 203) #[] #[.pointer (V b),.pointer (V (b+1)),.pointer (V (b+2))]
theorem rZ (w:World) (a:Nat):Calls Tryz.prog 177 #[.pointer (V a),.pointer none,.pointer none] w fun e w'=>e=.returned (AO w.heap.size)/\w'=qp w a:=by
 go_enter Tryz.func177,Tryz.ntmps177;go_wp2_with fail;go_ret;exact⟨rfl,rfl⟩
theorem xg (w:World) (a:Nat):Calls Tryz.prog 154 #[.pointer (V a)] w fun e w'=>e=.returned (AO w.heap.size)/\w'=qp w a:=by
 have H:=rZ w a;go_enter Tryz.func154,Tryz.ntmps154;go_wp2_with fail;refine H.mono ?_;rintro e w' ⟨rfl,rfl⟩;unfold AO;go_wp2_with fail;go_ret;exact⟨rfl,rfl⟩
theorem tK (w:World) (a:Nat):aa [] w (qp w a):=(((aa.refl [] w).alloc _).alloc _).alloc _
theorem tL (w:World) (a:Nat):(qp w a).cell? (U w.heap.size 0)=some (.pointer (V a))/\(qp w a).cell? (U (w.heap.size+1) 0)=some (.pointer none)/\(qp w a).cell? (U (w.heap.size+2) 0)=some (.pointer none)/\(qp w a).heap.size=w.heap.size+3:=by
 have d:=Blk.new w 172 #[.pointer (V a)];have b:=Blk.new (w.alloc (.cells #[.pointer (V a)] 172)) 300 #[.pointer none];have c:=Blk.new ((w.alloc (.cells #[.pointer (V a)] 172)).alloc (.cells #[.pointer none] 300)) 300 #[.pointer none];simp only[Fl] at b c;exact⟨((d.alloc _).alloc _).cell 0,(b.alloc _).cell 0,c.cell 0,by simp[qp]⟩
end
section
open Go.RowKit Go.Shelf
attribute [local go_sem] Oper.semAt_some
theorem ju {F:Fence} {n:Nat} {P:Program} (w:World) {j:Array Oper} {rest:List Oper} {o:Oper} {a:Act} {Q:Exit->Act->World->Prop}
 (S:o.guard=none) (s x:Operand) (t:TypeId) (d:o.op=Op.call { callee:=Callee.builtin Builtin.append,args:=#[s,x],argTypes:=#[t,t] })
 (base:Nat) (e:TypeId) (i:TypeInfo) (z:Value) (size bytes:Nat) (D:P.underlying t=some (.slice e)) (E:P.info? e=some i) (H:i.zero=some z) (J:i.size=size) (L:i.bytes=bytes) (M:z.cells.size=size) (N:0<size)
 (v:Value) (k:Nat) (r:List Value) (W:a.eval s=v) (g:w.ownsRow base e size v k r) (A:Option Addr) (m c:Nat) (b:List Value) (X:a.eval x=.slice A m c) (T:b.length=m*size)
 (O:bm w A m b) (l:∀u∈b,u.oneCell'=true) (y:k+m<=maxLen) (B:(k+m)*bytes<=140737488355328) (C:base<=w.heap.size)
 (R:∀f w',Z (w'.ownsRow base e size f (k+m) (r++b))->Z (w.grownBy w' v.ownBlock)->Z (f.ownBlock=v.ownBlock\/f.ownBlock=some w.heap.size)->wpListIn F n P j Q rest (a.put o.dst f) w'):
 wpListIn F n P j Q (o::rest) a w:=by
  refine wpListIn_plain S fun K p=>?_;obtain⟨f,w',h,Y,r2,r3,r4⟩:=fo (P:=P) (w:=w) t o.type base e i z size bytes D E H J L M N v k r g A m c b T O l y B C;unfold Oper.wpIn;refine⟨?_,?_⟩
  ·simp[Oper.about,d,resolve,Target.leads,DZ]
  rw[Oper.semAt_plain F _ _ (by rw[d];intro c q;cases q)];simp[execOp,d,resolve,invoke,builtin,W,X,h,Result.andThen];exact p _ _ (R f w' (bZ Y) (bZ r2) (bZ r4))
theorem bR {e:TypeId} {size base:Nat} {w w':World} {A:Option Addr} {n m c:Nat} {v:Value} {i j:List Value} (h:Z (w'.ownsRow base e size v (n+m) (i++j))) (l:Z (w.grownBy w' (Value.slice A n c).ownBlock)) (a:Z (v.ownBlock=(Value.slice A n c).ownBlock\/v.ownBlock=some w.heap.size)):
 ∃b c',v=.slice b (n+m) c'/\Z (w'.ownsRow base e size (.slice b (n+m) c') (n+m) (i++j))/\Z (aa (fb A) w w')/\Z (∀g∈fb b,g∈fb A\/w.heap.size<=g):=by
  obtain⟨b,c',rfl,_⟩:=aH h.o;refine⟨b,c',rfl,h,bZ (aa.grown l.o (fun k p=>cW p)),bZ (fun g d=>?_)⟩;have f:(Value.slice b (n+m) c').ownBlock=some g:=by rw[<-D8,iR];exact d
  rcases a.o with a | a
  ·rw[f] at a;exact .inl (cW a.symm)
  rw[f] at a;injection a with a;exact .inr (by omega)
theorem nE {β:Type} {X:List Nat} {W0:World}:OwnFrom W0.heap.size (fun (_:β) W=>aa X W0 W):=by
 intro s W b row i e f;have k:aa row.toList W b:=aa.grown e (by intro g h;rw[h];simp);have c:aa (X++row.toList) W0 W:=i.mono (fun x a=>.inl (Di _ a));have d:aa (X++row.toList) W b:=k.mono (fun x a=>.inl (Dg _ a));refine(c.trans d).mono (fun x a=>?_);rcases CX.1 a with h | h
 ·exact .inl h
 exact .inr (f x (D8.1 h)).1
theorem od {W a:World} {row:Option Nat} {B:Nat} {t:TypeId} {cs:Array Value} (h:Blk W B t cs) (e:W.grownBy a row) (i:∀r,row=some r->∃o:Obj,W.heap[r]? =some o/\o.isCells=false):Blk a B t cs:=by
 have k:aa row.toList W a:=aa.grown e (by intro g h;rw[h];simp);refine h.keep k (fun f=>?_);obtain⟨o,b,d⟩:=i B (D8.1 f);have c:W.heap[B]? =some (.cells cs t (0,0)):=h;rw[c] at b;cases b;cases d
theorem nB {W a:World} {row:Option Nat} {b e size n:Nat} {v:Value} {i:List Value} (h:W.ownsRow b e size v n i) (p:W.grownBy a row) (s:∀r,row=some r->∃o:Obj,W.heap[r]? =some o/\o.isCells=false):a.ownsRow b e size v n i:=by
 have k:aa row.toList W a:=aa.grown p (by intro g h;rw[h];simp);refine cV h k (fun g d q=>?_);obtain⟨_,c,l⟩:=eN h d;obtain⟨o,f,m⟩:=s g (D8.1 q);have j:W.heap[g]? =some (.cells c e (0,0)):=l;rw[j] at f;cases f;cases m
theorem x8 {s m o gf B:Nat} {lb:Array Value} {assign body:Code} {Q:Exit->Act->World->Prop} {T:Array Value} {W0:World} (rs:List aD)
 (J:T[s]? =some (.func (.func gf) #[] lb)) (C:∀args w,(callFunc gf args).run Tryz.prog w=.ok (.enter gf args) w) {z:List aD->Prop} {N:Nat}
 (j:SeqStopsK Fence.wide 4 Tryz.prog gf lb mh (KpM B) (fun L=>L=rs) z N W0)
 (b:List aD->World->Prop) (F:OwnFrom W0.heap.size b) (E:b [] W0) (a:aD->Array Value)
 (d:∀(l:Nat) (r:aD) (W:World) (K:Act->World->Prop),K { tmps:=a r,defers:=[] } W->
  assign.wpIn (Fence.wide.inRound l) 3 Tryz.prog (Exit.then K (fun _ _ _=>False)) { tmps:=(T.setIfInBounds m (I r.k)).setIfInBounds o (.slice r.A r.n r.c),defers:=[] } W)
 (f:∀(l:Nat) (pre:List aD) (r:aD) (W:World),b pre W->pre.length<N->body.wpIn (Fence.wide.inRound l) 3 Tryz.prog (ownPostK (KpM B) b (fun _ _ _=>False) (pre++[r]) W) { tmps:=a r,defers:=[] } W)
 (g:∀(D:Nat) (W:World),W0.heap.size<=D->b rs W->W.heap[D]? =some (.deferred (some []))->Q .normal { tmps:=T,defers:=[{ target:=.collected D,args:=#[] }] } W):
 (Code.rangeFunc (.tmp s) #[m,o] assign body).wpIn Fence.wide 5 Tryz.prog Q { tmps:=T,defers:=[] } W0:=by
  refine wpIn_rangeFunc_ownF rfl (by omega) (gf:=gf) (lb:=lb) (by simp[Act.eval,J]) trivial C j ya (yd (w:=W0)) (Below.refl _ _) (fun _=>rfl) b (fun _ _ _=>False) F (fun _ _ _ _ _ h _ _=>h) E (fun r=> { tmps:=a r,defers:=[] }) ?_ ?_ ?_ ?_
  ·intro l r W K H;have e:((#[m,o].zip (mh r)).foldl (fun t (p,v)=>t.setIfInBounds p v) T)=(T.setIfInBounds m (I r.k)).setIfInBounds o (.slice r.A r.n r.c):=by simp[mh]
   rw[e];exact d l r W K H
  ·intro l pre r W i q;exact f l pre r W i q
  ·intro D M W u y i x;subst y;exact g D W u i x
  intro D c pre W u y i x;exact i.elim
theorem Co (w:World) (v:Value):Calls Tryz.prog 132 #[v] w fun e w'=>e=.returned (.bool true)/\w=w':=by
 go_enter Tryz.func132,Tryz.ntmps132;go_wp2_with fail;go_ret;exact⟨rfl,rfl⟩
theorem Af:(Tryz.prog.info? 258).map (fun i=>(i.zero,i.size,i.bytes))=some (some (Value.agg #[I 0,.slice none 0 0]),2,32):=by kernel_rfl
def AW (W0:World) (B:Nat) (pre:List aD) (W:World):Prop:=(∃A c,Blk W B 230 #[.slice A pre.length c]/\W.ownsRow W0.heap.size 258 2 (.slice A pre.length c) pre.length (bE (pre.map aD.ent)))/\aa [B] W0 W
theorem yg (W0:World) (B:Nat):OwnFrom W0.heap.size (AW W0 B):=fun s W d row i a b=>by
 obtain⟨⟨A,c,f,g⟩,h⟩:=i;exact⟨⟨A,c,od f a (fun r e=>(b r e).2),nB g a (fun r e=>(b r e).2)⟩,nE (β:=List aD) s W d row h a b⟩
theorem xN {w:World} {b d e size n:Nat} {v:Value} {f:List Value} (h:w.ownsRow b e size v n f) (j:d<=b):w.ownsRow d e size v n f:=by
 refine⟨h.1,?_⟩;rcases h.2 with h | ⟨g,a,c,k,i,r⟩
 ·exact .inl h
 exact .inr ⟨g,a,c,k,Dc j i,r⟩
theorem vM {W0 W M j:World} {B c e:Nat} {pre:List aD} {r:aD} {A d:Option Addr} (R:B<W0.heap.size) (F:Blk W B 230 #[.slice A pre.length c]) (m:W.ownsRow W0.heap.size 258 2 (.slice A pre.length c) pre.length (bE (pre.map aD.ent))) (T:aa [B] W0 W)
 (L:aa [] W M) (k:aa (fb A) M j) (nf:∀g∈fb d,g∈fb A\/M.heap.size<=g) (o:j.ownsRow W0.heap.size 258 2 (.slice d (pre.length+1) e) (pre.length+1) (bE (pre.map aD.ent)++[I r.k,.slice r.A r.n r.c])):
 KeepsOthers W (j.setCell (U B 0) (.slice d (pre.length+1) e))/\KpM B W (j.setCell (U B 0) (.slice d (pre.length+1) e))/\AW W0 B (pre++[r]) (j.setCell (U B 0) (.slice d (pre.length+1) e)):=by
  have z:∀g∈fb A,W0.heap.size<=g:=fun g w=>(aw m w).1;have C:∀g∈fb d,W0.heap.size<=g:=fun g w=>(aw o w).1;have K:∀g∈fb A,∃q,Blk W g 258 q:=fun g w=>(aw m w).2.2;have P:aa [B] j (j.setCell (U B 0) (.slice d (pre.length+1) e)):=(aa.refl [B] j).setCell (p:=(U B 0)) (.inl (by simp)) _;have b:aa (B::fb A) W (j.setCell (U B 0) (.slice d (pre.length+1) e)):=(L.nil.trans (k.mono (fun x l=>.inl (by simp[l])))).trans (P.mono (fun x l=>.inl (by simp at l;simp[l])));have J:B∉fb A:=fun f=>by have:=z B f;omega
  have u:B∉fb d:=fun f=>by have:=C B f;omega
  have H:=(F.keep L (by simp)).keep k J;have s:Blk (j.setCell (U B 0) (.slice d (pre.length+1) e)) B 230 #[.slice d (pre.length+1) e]:=by simpa using H.set_ 0 (.slice d (pre.length+1) e)
  have Q:=lQ (F.cell 0);have Y:=lQ (s.cell 0);refine⟨⟨b.size,fun i ob t O=>(b.block i (Dy.1 t).1 (fun f=>?_)).trans t⟩,⟨b.size,fun _=>⟨fun a v N X=>b.cellEq X (by rw[Q] at N;exact N),fun x l=>?_,by rw[s.cell 0];rfl⟩⟩,⟨⟨d,e,by simpa using s,?_⟩,?_⟩⟩
  ·rcases Db.1 f with rfl | f
   ·have E:W.heap[i]? =some (.cells #[.slice A pre.length c] 230 (0,0)):=F;rw[E] at t;cases t;cases O
   obtain⟨q,S⟩:=K i f;have E:W.heap[i]? =some (.cells q 258 (0,0)):=S;rw[E] at t;cases t;cases O
  ·rw[Y] at l;rw[Q];rcases Db.1 l with rfl | l
   ·exact .inl (by simp)
   rcases nf x l with h | h
   ·exact .inl (by simp[h])
   exact .inr (Dc L.size h)
  ·have:=aq o P (fun y D f=>by rw[CZ.1 D] at f;exact u f);rw[DX,eQ,CU];exact this
  exact T.more b (fun y D=>by
   rcases Db.1 D with rfl | D
   ·exact .inl (by simp)
   exact .inr (z y D))
theorem xp (w:World) (s q:Nat) (rs:List aD) (F:List Nat) (n:Int) (hs:w.cell? (U s 1)=some (.pointer (V q))) (S:aR tyI 204 w q (rs.map aD.ent) F n) (T:rs.length<=100000):
 Calls Tryz.prog 131 #[.pointer (V s),.func (.func 132) #[] #[]] w fun e w'=>∃A c,e=.returned (.slice A rs.length c)/\Z (w'.ownsRow w.heap.size 258 2 (.slice A rs.length c) rs.length (bE (rs.map aD.ent)))/\Z (aa [] w w'):=by
  obtain⟨i5,y,E,H,J⟩:=info_parts Af;have a5:=block_lt_of_cell hs;refine(callsIn_wide (n:=5)).1 ?_;refine callsIn_of_wp_marks Tryz.func131 rfl trivial ?_ rfl;refine wpIn_wide.2 ?_;simp only[Tryz.ntmps131,Ew,Dj,D6,Nat.reduceAdd,Nat.reduceSub,Array.replicate_succ,Array.replicate_zero,List.push_toArray,List.append_toArray,Dm,D3];have k1:=(aa.refl [] w).alloc (.cells #[.func (.func 132) #[] #[]] 69);have k2:=k1.alloc (.cells #[.slice none 0 0] 230);have ap:=k2.cellEq hs (by simp);have B1:=(Blk.new w 69 #[.func (.func 132) #[] #[]]).alloc (.cells #[.slice none 0 0] 230);have L:=Blk.new (w.alloc (.cells #[.func (.func 132) #[] #[]] 69)) 230 #[.slice none 0 0];rw[Fl] at L;replace S:=bZ (S.keep k2 (by simp));go_wp2_with fail;obtain⟨R,m⟩:∃x,x=(w.alloc (.cells #[.func (.func 132) #[] #[]] 69)).alloc (.cells #[.slice none 0 0] 230):=⟨_,rfl⟩;rw[<-m] at S B1 L k2 ⊢;refine(xg R q).mono ?_;rintro e w' ⟨rfl,rfl⟩;obtain⟨a1,a2,a3,a4⟩:=tL R q;have M:=tK R q;obtain⟨W0,u⟩:∃x,x=qp R q:=⟨_,rfl⟩;rw[<-u] at a1 a2 a3 a4 M ⊢;obtain⟨bI,i⟩:∃b,b=w.heap.size:=⟨_,rfl⟩;obtain⟨f,h⟩:∃b,b=bI+1:=⟨_,rfl⟩;obtain⟨b3,p⟩:∃b,b=R.heap.size:=⟨_,rfl⟩;rw[<-i] at B1 L ⊢;rw[<-h] at L ⊢;rw[<-p] at a1 a2 a3 a4 ⊢;have a6:b3=f+1:=by rw[p,m,h,i];simp
  have kw:aa [] w W0:=k2.trans M;have C1:=bZ (B1.keep M (by simp));have C2:=bZ (L.keep M (by simp));have a7:=bZ (S.o.keep M (by simp));have Y:MuB f W0=[f]:=by rw[lQ (C2.o.cell 0)];rfl
  have a0:=bZ (wQ b3 (b3+1) (b3+2) q f rs F n W0 a1 a2 a3 a7.o T (by rw[C2.o.cell 0];rfl) (fun x j=>by rw[Y,CZ] at j;omega));have ac:w.heap.size<=W0.heap.size:=kw.size;have a9:f<W0.heap.size:=by omega
  replace kw:=bZ kw;replace i:=bZ i;replace h:=bZ h;replace u:=bZ u;replace m:=bZ m;replace p:=bZ p;replace a6:=bZ a6;replace a4:=bZ a4;have t:AW W0 f [] W0:=⟨⟨none,0,C2.o,bQ _ _ _ _⟩,aa.refl _ _⟩;replace t:=bZ t;replace y:=bZ y;replace E:=bZ E;replace H:=bZ H;replace J:=bZ J;clear hs ap k1 B1 L S Y a1 a2 a3 k2 M a5;unfold AO;go_wp2_with fail;refine(wpIn_wide (n:=5)).1 (x8 (B:=f) rs (by rfl) (enters_of Tryz.func203 (by kernel_rfl) rfl) a0.o (AW W0 f) (yg W0 f) t.o ?sl ?assign ?body ?done)
  case assign=>
   intro l r W K hK
   gi_wp2
   exact hK
  case body=>
   intro l pre r W hI b5;obtain⟨⟨A,c,d,a⟩,z⟩:=hI;have y1:W.cell? (U bI 0)=some (.func (.func 132) #[] #[]):=z.cellEq (C1.o.cell 0) (by simp;have:=h.o;omega);have y2:=d.cell 0;have y3:=d.frozen;obtain⟨P,N,Q,O⟩:=r;have b7:pre.length<=100000:=by omega
   have an:Z (∀g∈fb A,W0.heap.size<=g):=bZ (fun g hg=>(aw a hg).1);have a8:Z (f∉fb A):=bZ (fun hm=>by have:=an.o f hm;omega);have b0:Z (W0.heap.size<=W.heap.size):=bZ z.size;replace a:=bZ a;replace z:=bZ z;replace d:=bZ d
   gi_wp2
   refine⟨trivial,?_⟩;refine(CallsIn.inRound l (callsIn_wide.2 (Co _ _))).mono ?_;rintro e w' ⟨rfl,rfl⟩;obtain⟨b6,v⟩:∃b,b=W.heap.size:=⟨_,rfl⟩;have kz:Z (aa [] W (W.alloc (.cells #[I P,.slice N Q O] 258))):=bZ ((aa.refl [] W).alloc _);have B6:=bZ (Blk.new W 258 #[I P,.slice N Q O]);rw[<-v] at B6;have b4:f<b6:=by rw[v];exact d.o.lt
   have C:=bZ (ab a.o kz.o);have ar:Z (bm (W.alloc (.cells #[I P,.slice N Q O] 258)) (V b6) 1 [I P,.slice N Q O]):=bZ (aI (off:=0) B6.o (by simp) 1);have ak:W0.heap.size<=(W.alloc (.cells #[I P,.slice N Q O] 258)).heap.size:=Dc b0.o kz.o.size;have b8:=kz.o.cellEq y2 (by simp);have Bz:=bZ (d.o.keep kz.o (by simp))
   gi_wp2_with (gi_at_builtin;rw[<-v];refine ju _ rfl (.tmp 18) (.tmp 22) 230 rfl W0.heap.size 258 i5 (.agg #[I 0,.slice none 0 0]) 2 32 Tryz.underlying230 y.o E.o H.o J.o rfl (by decide) (.slice A pre.length c) pre.length (bE (pre.map aD.ent)) rfl C.o (V b6) 1 _ [I P,.slice N Q O] rfl rfl ar.o (by simp[Value.oneCell']) (by unfold maxLen;omega) (by omega) ak ?_;intro v4 w4 q1 q2 q4;obtain⟨A2,c2,rfl,o,k,nf⟩:=bR q1 q2 q4;have B4:=Bz.o.keep k.o a8.o;have b1:=B4.cell 0;have b2:=B4.frozen)
   exact vM a9 d.o a.o z.o kz.o k.o nf.o o.o
  intro D W hD hI hd;obtain⟨⟨A,c,d,a⟩,z⟩:=hI;have y2:=d.cell 0;go_wp2_with fail;refine⟨by simp,.inl ⟨_,_,rfl,run_takeDeferred hd,?_⟩⟩;refine⟨.slice A rs.length c,by simp[results,Tryz.results131,go_sem],A,c,rfl,bZ ?_,bZ ?_⟩
  ·have:=nB a (grownBy_putObj' W D (.deferred none)) (fun r e=>by cases e;exact⟨_,hd,rfl⟩);exact xN this ac
  have k5:aa [D] W (W.putObj D (.deferred none)):=aa.grown (grownBy_putObj' W D (.deferred none)) (fun r e=>by cases e;simp);refine aa.mono (X:=[f,D]) ((kw.o.nil.trans (z.mono (fun x j=>.inl (by simp at j;simp[j])))).trans (k5.mono (fun x j=>.inl (by simp at j;simp[j])))) (fun x j=>.inr ?_);have h1:=h.o;have h2:=i.o;simp only[Db,Dw,or_false] at j;rcases j with rfl | rfl
  ·omega
  omega
end
section
open Go.RowKit Go.Shelf
def Cv (gf:Nat) (lb:Array Value) (Hand:aD->World->Prop) (B:Nat) (S:List aD->Prop) (N:Nat) (w:World):Prop:=
 ∀(l:Nat) (J:List aD->World->Prop) (W:World),Below w.heap.size w W->AbidesFrom W.heap.size J->
  (∀pre x b,J pre b->pre.length<N->Hand x b->YieldAt Fence.wide 3 Tryz.prog l (mh x) b fun e a=>e=.returned (.bool true)/\J (pre++[x]) a/\KpM B b a)->J [] W->
  CallsIn Fence.wide 4 Tryz.prog gf (#[.func (.yield l) #[] #[]]++lb) W fun e a=>(∃v,e=.returned v)/\∃xs,S xs/\J xs a
def zw (B:Nat) (a:List aD->World->Prop) (b:List aD) (W:World):Exit->Act->World->Prop
 | .normal,_,W'=>KeepsOthers W W'/\KpM B W W'/\a b W'
 | _,_,_=>False
end
def ox (w:World) (l:List Val) (n:Nat) (e:Ending) (w':World):Prop:=∃A c,e=.returned (.slice A n c)/\Z (ah w' [] A l)/\Z (lj w.heap.size A)/\Z (aa [] w w')/\Z (∀g∈fb A,∃cur,Blk w' g 60 cur)
theorem wI (w:World) (X:List Nat) (A:Option Addr) (l:List Val) (n c:Nat) (j:l.length=n) (p:ah w X A l) (M:n<=1000000):
 Calls Tryz.prog 82 #[.slice A n c] w (ox w l n):=by
  cases A with
  | none=>
   have u:l=[]:=by
    cases l with
    | nil=>rfl
    | cons x r=>obtain⟨g,off,E,_⟩:=p 0 x rfl;cases E
   subst u;obtain rfl:0=n:=j;have F:∀w':World,(binOp .eql 62 (.slice none 0 c) (.slice none 0 0)).run Tryz.prog w'=.ok (.bool true) w':=fun w'=>Dz w' 62 60 none 0 c 0 0 Tryz.underlying62;have b:ox w [] 0 (.returned (.slice none 0 0)) w:=⟨none,0,rfl,bZ (ah.nil _ _ _),bZ (fun a h=>by cases h),bZ (aa.refl _ _),bZ (fun g s=>by simp[fb] at s)⟩;replace b:=bZ b;clear p;go_enter Tryz.func82,Tryz.ntmps82;go_wp2_with fail;go_ret;exact b.o
  | some a=>
   obtain⟨H,t,e,f,i⟩:=info_parts jP;have F:∀w':World,(binOp .eql 62 (.slice (some a) n c) (.slice none 0 0)).run Tryz.prog w'=.ok (.bool false) w':=fun w'=>Dz w' 62 60 (some a) n c 0 0 Tryz.underlying62;have d:=mp (p.keep ((aa.refl [] w).alloc (.cells #[] 60)) (by simp));rw[j] at d;have q:Z ((bz l).length=n*3):=bZ (by rw[eY,j]);replace d:=bZ d;have v:=bZ (bD w 60 3);have k:w.heap.size<=(w.alloc (.cells #[] 60)).heap.size:=(aa.alloc (aa.refl [] w) _).size;replace t:=bZ t;replace e:=bZ e;replace f:=bZ f;replace i:=bZ i;replace j:=bZ j;clear p;go_enter Tryz.func82,Tryz.ntmps82;go_wp2_with (at_builtin;refine ae (by rfl) (.tmp 5) (.tmp 6) 62 rfl w.heap.size 60 H (.agg #[I 0,I 0,.string ⟨#[]⟩]) 3 32 Tryz.underlying62 t.o e.o f.o i.o rfl (by decide) _ 0 [] rfl v.o (some a) n c (bz l) rfl q.o d.o (gI l) (by unfold maxLen;omega) (by omega) k ?_;intro L w1 C D J K);have z:=bZ (aF ((aa.refl [] w).alloc _) (aa.refl [] _) v.o D.o);have m:Z (w1.ownsRow w.heap.size 60 3 L n (bz l)):=bZ (by have:=C.o;rw[Dm,Dl] at this;exact this);clear C D J K d v k;obtain⟨y,B,rfl,_⟩:=aH m.o;have b:Z (ox w l n (.returned (.slice y n B)) w1):=bZ ⟨y,B,rfl,bZ (ia m.o j.o),bZ (ii m.o),z,bZ (fun g s=>(aw m.o s).2.2)⟩;clear m z;go_ret;exact b.o
end Go.Proofs.YtmlmfpikncogpaaGreat
