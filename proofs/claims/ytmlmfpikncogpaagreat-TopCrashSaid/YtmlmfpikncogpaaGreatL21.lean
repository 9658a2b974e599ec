import Derived.Test.YtmlmfpikncogpaaGreatL09
import Derived.Test.YtmlmfpikncogpaaGreatL20
namespace Go.Proofs.YtmlmfpikncogpaaGreat
open Go.RowKit
set_option linter.unusedSimpArgs false
set_option linter.unusedVariables false
set_option maxRecDepth 100000
set_option maxHeartbeats 16000000
section
open Go.RowKit Go.Shelf
attribute [local go_sem] Oper.semAt_some
theorem wR (w:World) (d s b:Nat) (rs:List aD) (F:List Nat) (n:Int) (j:w.cell? (U d 0)=some (.pointer (V s))) (g:w.cell? (U s 1)=some (.pointer (V b))) (f:aR tyI 204 w b (rs.map aD.ent) F n) (a:rs.length<=100000):
 Calls Tryz.prog 130 #[.pointer (V d)] w fun e w'=>∃A c,e=.returned (.slice A rs.length c)/\Z (w'.ownsRow w.heap.size 258 2 (.slice A rs.length c) rs.length (bE (rs.map aD.ent)))/\Z (aa [] w w'):=by
  have H:=xp w s b rs F n g f a;clear f g;go_enter Tryz.func130,Tryz.ntmps130;go_wp2_with fail;refine H.mono ?_;rintro e w' ⟨A,c,rfl,h,i⟩;clear H;go_wp2_with fail;go_ret;exact⟨A,c,rfl,h,i⟩
def rK (w:World) (s:Nat):World:=(w.alloc (.cells #[.pointer (V s)] 111)).alloc (.cells #[.func (.func 130) #[] #[.pointer (V w.heap.size)]] 232)
def yN (b:Nat):Value:=.func (.func 153) #[] #[.pointer (V (b+1))]
theorem yM (w:World) (b:Nat):Calls Tryz.prog 129 #[.func (.func 130) #[] #[.pointer (V b)]] w fun e w'=>e=.returned (.func (.func 153) #[] #[.pointer (V w.heap.size)])/\w'=w.alloc (.cells #[.func (.func 130) #[] #[.pointer (V b)]] 232):=by
 go_enter Tryz.func129,Tryz.ntmps129;go_wp2_with fail;go_ret;exact⟨rfl,rfl⟩
theorem xy (w:World) (s:Nat):Calls Tryz.prog 102 #[.pointer (V s)] w fun e w'=>e=.returned (yN w.heap.size)/\w'=rK w s:=by
 have H:=fun w' b=>yM w' b;go_enter Tryz.func102,Tryz.ntmps102;go_wp2_with fail;refine(H _ _).mono ?_;rintro e w' ⟨rfl,rfl⟩;clear H;go_wp2_with fail;go_ret;exact⟨by simp[yN],rfl⟩
theorem sZ {w:World} {b n c:Nat} {A:Option Addr} {a:List Ent} (h:w.ownsRow b 258 2 (.slice A n c) n (bE a)) (o:a.length=n):fL w A a:=fun i e f=>by
 have l:=(CV.1 f).1;obtain⟨g,c',m,_,_,_,_,d,_⟩:=ax h (by omega);injection m with hA _ _;obtain⟨j,k⟩:=jm a i e f;exact⟨g,hA,d _ _ j,d _ _ k⟩
def Rng (k:Int):Prop:= -9223372036854775808<=k/\k<9223372036854775808
def Hand (a:Int->List Val) (x:aD) (W:World):Prop:=ah W [] x.A (a x.k)/\x.n=(a x.k).length/\Rng x.k/\∀g∈fb x.A,∃cur,Blk W g 60 cur
theorem ah.grow {W c:World} {row:Option Nat} {A:Option Addr} {l:List Val} (h:ah W [] A l) (a:W.grownBy c row) (b:∀k,row=some k->∃o:Obj,W.heap[k]? =some o/\o.isCells=false):ah c [] A l:=fun i v n=>by
 obtain⟨g,off,d,e,f,j,m⟩:=h i v n;exact⟨g,off,d,e,cell_kept f a b,cell_kept j a b,cell_kept m a b⟩
theorem vP (c:Int->List Val) (r:aD) (W b:World) (row:Option Nat) (h:Hand c r W) (d:W.grownBy b row) (e:∀k,row=some k->∃o:Obj,W.heap[k]? =some o/\o.isCells=false):Hand c r b:=⟨h.1.grow d e,h.2.1,h.2.2.1,fun g i=>by obtain⟨a,f⟩:=h.2.2.2 g i;exact⟨a,od f d e⟩⟩
structure jb (B:Nat) (ct:Int->List Val) (W:World) (A1:Option Addr) (rs:List aD):Prop where
 mu:lP B W A1 (fb A1++rs.flatMap (fun r=>fb r.A))
 ents:fL W A1 (rs.map aD.ent)
 rows:∀r∈rs,ah W [] r.A (ct r.k)/\r.n=(ct r.k).length/\r.n<=1000000/\Rng r.k
theorem ah.kp {B:Nat} {W c:World} {A:Option Addr} {l:List Val} (h:ah W [] A l) (b:(W.cell? (U B 0)).isSome=true) (n:∀g∈fb A,g∉MuB B W) (k:KpM B W c):ah c [] A l:=fun i v m=>by
 obtain⟨g,off,rfl,d,e,f,j⟩:=h i v m;have a:g∉MuB B W:=n g (by simp[fb]);exact⟨g,off,rfl,d,(k.2 b).1 _ _ a e,(k.2 b).1 _ _ a f,(k.2 b).1 _ _ a j⟩
theorem jb.kp {B:Nat} {f:Int->List Val} {W d:World} {c:Option Addr} {rs:List aD} (h:jb B f W c rs) (k:KpM B W d):jb B f d c rs:=by
 refine⟨h.mu.kp k,fun i e m=>?_,fun r b=>⟨(h.rows r b).1.kp h.mu.some_ (fun g a=>h.mu.ap g (Dg _ (Ea.2 ⟨r,b,a⟩))) k,(h.rows r b).2⟩⟩;obtain⟨g,rfl,j,l⟩:=h.ents i e m;have a:g∉MuB B W:=h.mu.ap g (by simp[fb]);exact⟨g,rfl,(k.2 h.mu.some_).1 _ _ a j,(k.2 h.mu.some_).1 _ _ a l⟩
theorem jb.keep {B:Nat} {c:Int->List Val} {W a:World} {b:Option Addr} {rs:List aD} (h:jb B c W b rs) (k:aa [] W a):jb B c a b rs:=by
 obtain⟨v,j⟩:=Ep.1 h.mu.some_;have d:=k.cellEq j (by simp);have q:MuB B a=MuB B W:=fJ (d.trans j.symm);refine⟨⟨by rw[d];rfl,by rw[q];exact h.mu.ap,fun g o=>Dr (h.mu.lt g o) k.size⟩,fun i e p=>?_,fun r f=>⟨(h.rows r f).1.keep k (by simp),(h.rows r f).2⟩⟩;obtain⟨g,l,m,n⟩:=h.ents i e p;exact⟨g,l,k.cellEq m (by simp),k.cellEq n (by simp)⟩
theorem yO (l c1 c0 s bt B:Nat) (rs:List aD) (F:List Nat) (n:Int) (K:Int->List Val) (J:List aD->World->Prop) (W:World) (hJ:AbidesFrom W.heap.size J)
 (hY:∀pre x W,J pre W->pre.length<rs.length->Hand K x W->YieldAt Fence.wide 3 Tryz.prog l (mh x) W fun e W'=>e=.returned (.bool true)/\J (pre++[x]) W'/\KpM B W W')
 (h1:W.cell? (U c1 0)=some (.func (.func 130) #[] #[.pointer (V c0)])) (h0:W.cell? (U c0 0)=some (.pointer (V s))) (hs:W.cell? (U s 1)=some (.pointer (V bt)))
 (hT:aR tyI 204 W bt (rs.map aD.ent) F n) (w:rs.length<=100000) (hB:(W.cell? (U B 0)).isSome=true) (P:∀x∈MuB B W,x<W.heap.size)
 (y:∀r∈rs,ah W [] r.A (K r.k)/\r.n=(K r.k).length/\r.n<=1000000/\Rng r.k) (S:∀r∈rs,∀g∈fb r.A,g∉MuB B W/\g<W.heap.size) (Q:J [] W):
 CallsIn Fence.wide 4 Tryz.prog 153 #[.func (.yield l) #[] #[],.pointer (V c1)] W fun e W'=>(∃v,e=.returned v)/\∃f,f.map (·.k)=rs.map (·.k)/\J f W':=by
  have H:=bZ (wR W c0 s bt rs F n h0 hs hT w);have O:=bZ hB;have u:=bZ P;have c:=bZ y;have h:=bZ S;clear hT hs h0 hB P y S;refine callsIn_of_wp Tryz.func153 rfl trivial ?_ rfl;simp only[Tryz.ntmps153,Ew,Dj,D6,Nat.reduceAdd,Nat.reduceSub,Array.replicate_succ,Array.replicate_zero,List.push_toArray,List.append_toArray,Dm,D3]
  gi_wp2
  refine⟨trivial,?_⟩;refine(callsIn_wide.2 H.o).mono ?_;rintro e w1 ⟨A1,cc,rfl,ho,kz⟩;clear H;have a5:J [] w1:=hJ _ _ _ none Q (sR kz.o) (fun r e=>by cases e);have hR:Z (jb B K w1 A1 rs):=bZ (by
   obtain⟨v,hv⟩:=Ep.1 O.o;have hc:=kz.o.cellEq hv (by simp);have hm:MuB B w1=MuB B W:=fJ (hc.trans hv.symm);refine⟨⟨by rw[hc];rfl,fun g a=>?_,fun g a=>?_⟩,sZ ho.o (by simp),fun r L=>⟨(c.o r L).1.keep kz.o (by simp),(c.o r L).2⟩⟩
   ·rw[hm];rcases CX.1 a with a | a
    ·intro ak;have h2:=u.o g ak;have h3:=(aw ho.o a).1;omega
    obtain⟨r,L,a⟩:=Ea.1 a;exact(h.o r L g a).1
   rcases CX.1 a with a | a
   ·exact(aw ho.o a).2.1
   obtain⟨r,L,a⟩:=Ea.1 a;exact Dr (h.o r L g a).2 kz.o.size)
  obtain⟨z,d⟩:∃z,z=rs.length:=⟨_,rfl⟩;rw[<-d] at w hY ⊢;replace d:=bZ d;have ap:=d;clear Q O u c h ho h1
  gi_wp2
  gi_loopw [8] (fun i wr=>∃(k:Nat) (f:List aD),k<=z/\i=I (k:Int)/\f.length=k/\Z (f.map (·.k)=(rs.take k).map (·.k))/\J f wr/\Z (jb B K wr A1 rs)) (fun i _=>z - (intOf i).toNat)
  case atStart=>exact⟨0,[],C3 _,rfl,rfl,bZ rfl,a5,hR⟩
  obtain⟨k,f,hk,rfl,t,a1,R,E⟩:=hrel;replace t:=bZ t;by_cases a9:k<z
  ·have b1:(k:Int)<(z:Int):=by omega
   obtain⟨⟨p,C,en,D⟩,j⟩:∃e,rs[k]? =some e:=⟨_,CT (by rw[<-d.o];exact a9)⟩;obtain⟨g,rfl,ck,cv⟩:=E.o.ents k (I p,.slice C en D) (by rw[De,j];rfl);obtain⟨X,m,Y,q⟩:=E.o.rows _ (CW j);dsimp only at X m Y q;replace q:=bZ q;have b3:wrap64 ((k:Int)+1)=(k:Int)+1:=by unfold wrap64;omega
   have M:aa [] wr (wr.alloc (.cells #[I p,.slice C en D] 258)):=(aa.refl [] wr).alloc _;have CL:=bZ (wI (wr.alloc (.cells #[I p,.slice C en D] 258)).drew [] C (K p) en D m.symm (X.keep M.drew (by simp)) Y);have a7:Z (f.map (·.k)++[p]=(rs.take (k+1)).map (·.k)):=bZ (by rw[Dq,j,a1.o];simp);have N:=Blk.new wr 258 #[I p,.slice C en D];replace j:=bZ j;replace m:=bZ m;have ac:f.length<z:=by have:=t.o;omega
   gi_wp2
   obtain⟨b6,T⟩:∃b,b=wr.heap.size:=⟨_,rfl⟩;obtain⟨wa,a0⟩:∃x,x=wr.alloc (.cells #[I p,.slice C en D] 258):=⟨_,rfl⟩;rw[<-a0] at M CL N ⊢;rw[<-T] at N ⊢;have z0:wa.drew.cell? (U b6 0)=some (I p):=N.cell 0;have z1:wa.drew.cell? (U b6 1)=G C en D:=N.cell 1;replace M:=bZ M;clear a0 T N ck cv;have b2:Tryz.prog.follows .mixedOrders=true:=by kernel_rfl
   gi_region_with_o (first
    | (refine⟨trivial,?_⟩;refine(callsIn_wide.2 CL.o).mono ?_;rintro e w5 ⟨A6,c6,rfl,an,b0,k6,a2⟩;have z5:=k6.o.cellEq z0 (by simp);have a4:J f w5:=hJ _ _ _ none R (sR ((M.o.drew).trans k6.o)) (fun r e=>by cases e);obtain⟨fn,tmps,assign,body,hy,hR⟩:=hY f ⟨p,A6,en,c6⟩ w5 a4 ac ⟨an.o,m.o,q.o,a2.o⟩;unfold mh at hy;dsimp only at hy)
    | (refine hR.mono ?_;rintro e W3 ⟨rfl,a3,a8⟩))
   all_goals
    have a6:=bZ ((E.o.keep ((M.o.drew).trans k6.o)).kp a8);clear hR hy
    gi_wp2
    go_roundw
    case rel=>exact⟨k+1,f++[⟨p,A6,en,c6⟩],by omega,by first | rfl | (congr 1;done) | (congr 1;omega),by rw[CU,t.o];rfl,bZ (by rw[DX];exact a7.o),a3,a6⟩
    case measure=>(simp[intOf])<;>omega
  obtain rfl:k=z:=by omega
  have ar:¬((k:Int)<(k:Int)):=by omega
  gi_wp2
  go_end0;exact⟨⟨_,rfl⟩,f,by rw[a1.o,d.o,List.take_length],R⟩
theorem wG (c1 i s h B:Nat) (rs:List aD) (F:List Nat) (n:Int) (f:Int->List Val) (w:World)
 (o:w.cell? (U c1 0)=some (.func (.func 130) #[] #[.pointer (V i)])) (y:w.cell? (U i 0)=some (.pointer (V s))) (K:w.cell? (U s 1)=some (.pointer (V h)))
 (D:aR tyI 204 w h (rs.map aD.ent) F n) (c:rs.length<=100000) (z:(w.cell? (U B 0)).isSome=true) (j:∀x∈MuB B w,x<w.heap.size)
 (a:∀r∈rs,ah w [] r.A (f r.k)/\r.n=(f r.k).length/\r.n<=1000000/\Rng r.k) (b:∀r∈rs,∀g∈fb r.A,g∉MuB B w/\g<w.heap.size):
 Cv 153 #[.pointer (V c1)] (Hand f) B (fun L=>L.map (·.k)=rs.map (·.k)) rs.length w:=fun l J W E C H m=>by
 have k:aa [] w W:=aa.of_below E (fun g o M=>by omega)
 obtain⟨v,t⟩:=Ep.1 z
 have e:=k.cellEq t (by simp)
 have q:MuB B W=MuB B w:=fJ (e.trans t.symm)
 exact yO l c1 i s h B rs F n f J W C H (k.cellEq o (by simp)) (k.cellEq y (by simp)) (k.cellEq K (by simp)) (D.keep k (by simp)) c (by rw[e];rfl) (fun x u=>by rw[q] at u;exact Dr (j x u) k.size)
  (fun r d=>⟨(a r d).1.keep k (by simp),(a r d).2⟩) (fun r d g p=>by rw[q];exact⟨(b r d g p).1,Dr (b r d g p).2 k.size⟩) m
end
def aJ {α β:Type} (R:α->β->Prop):List α->List β->Prop
 | [],[]=>True
 | a::l,b::k=>R a b/\aJ R l k
 | [],_::_=>False
 | _::_,[]=>False
section
variable {α β:Type} {R Q:α->β->Prop}
theorem aJ.len:∀ {l:List α} {k:List β},aJ R l k->l.length=k.length
 | [],[],_=>rfl
 | _::l,_::k,h=>by simp[aJ.len h.2]
 | [],_::_,h=>h.elim
 | _::_,[],h=>h.elim
theorem aJ.mono:∀ {l:List α} {k:List β},aJ R l k->(∀a∈l,∀b∈k,R a b->Q a b)->aJ Q l k
 | [],[],_,_=>trivial
 | a::l,b::k,h,f=>⟨f a (by simp) b (by simp) h.1,aJ.mono h.2 (fun x c y d=>f x (DL _ c) y (DL _ d))⟩
 | [],_::_,h,_=>h.elim
 | _::_,[],h,_=>h.elim
theorem aJ.left:∀ {l:List α} {k:List β},aJ R l k->∀a∈l,∃b∈k,R a b
 | [],[],_,a,c=>by cases c
 | x::l,y::k,h,a,c=>by
  rcases Db.1 c with rfl | c
  ·exact⟨y,by simp,h.1⟩
  obtain⟨b,d,e⟩:=aJ.left h.2 a c;exact⟨b,by simp[d],e⟩
 | [],_::_,h,_,_=>h.elim
 | _::_,[],h,_,_=>h.elim
theorem aJ.right:∀ {l:List α} {k:List β},aJ R l k->∀b∈k,∃a∈l,R a b
 | [],[],_,a,c=>by cases c
 | x::l,y::k,h,a,c=>by
  rcases Db.1 c with rfl | c
  ·exact⟨x,by simp,h.1⟩
  obtain⟨b,d,e⟩:=aJ.right h.2 a c;exact⟨b,by simp[d],e⟩
 | [],_::_,h,_,_=>h.elim
 | _::_,[],h,_,_=>h.elim
theorem aJ.filter {p:α->Bool} {q:β->Bool}:∀ {l:List α} {k:List β},aJ R l k->(∀a∈l,∀b∈k,R a b->p a=q b)->aJ R (l.filter p) (k.filter q)
 | [],[],_,_=>trivial
 | a::l,b::k,h,f=>by
  have d:=f a (by simp) b (by simp) h.1;have c:=aJ.filter (p:=p) (q:=q) h.2 (fun x e y g=>f x (DL _ e) y (DL _ g));simp only[DF,d];cases q b with
  | true=>exact⟨h.1,c⟩
  | false=>exact c
 | [],_::_,h,_=>h.elim
 | _::_,[],h,_=>h.elim
theorem aJ.find {p:α->Bool} {q:β->Bool}:∀ {l:List α} {k:List β},aJ R l k->(∀a∈l,∀b∈k,R a b->p a=q b)->(∃a b,l.find? p=some a/\k.find? q=some b/\R a b)\/(l.find? p=none/\k.find? q=none)
 | [],[],_,_=>.inr ⟨rfl,rfl⟩
 | a::l,b::k,h,f=>by
  have c:=f a (by simp) b (by simp) h.1;have d:=aJ.find (p:=p) (q:=q) h.2 (fun x e y g=>f x (DL _ e) y (DL _ g));simp only[List.find?_cons,c];cases q b with
  | true=>exact .inl ⟨a,b,rfl,rfl,h.1⟩
  | false=>exact d
 | [],_::_,h,_=>h.elim
 | _::_,[],h,_=>h.elim
theorem aJ.get:∀ {l:List α} {k:List β},aJ R l k->∀(i:Nat) a,l[i]? =some a->∃b,k[i]? =some b/\R a b
 | [],[],_,i,a,ha=>by simp at ha
 | x::l,y::k,h,0,a,ha=>by
  obtain rfl:x=a:=by simpa using ha
  exact⟨y,rfl,h.1⟩
 | x::l,y::k,h,i+1,a,ha=>aJ.get h.2 i a (by simpa using ha)
 | [],_::_,h,_,_,_=>h.elim
 | _::_,[],h,_,_,_=>h.elim
end
abbrev Tab:=List (Int×List Val)
def gG (id:Int) (row:List Val):Tab->Tab
 | []=>[(id,row)]
 | e::r=>if e.1<id then e::gG id row r else if id<e.1 then (id,row)::e::r else (id,row)::r
def bS (id:Int) (l:Tab):Tab:=l.filter (fun e=>!decide (e.1=id))
def dm (id:Int) (l:Tab):Bool:=l.any (fun e=>decide (e.1=id))
def cJ (id:Int) (l:Tab):Option (List Val):=(l.find? (fun e=>decide (e.1=id))).map (·.2)
def fN (l:Tab):Prop:=l.Pairwise (fun a b=>a.1<b.1)
theorem kU {id:Int} {l:Tab} (h:fN l):fN (bS id l):=h.sublist List.filter_sublist
theorem eB {id:Int} {l:Tab} {x:Int×List Val}:x∈bS id l↔x∈l/\x.1≠id:=by simp[bS]
theorem kF {id:Int} {row:List Val}:∀ {l:Tab} {x:Int×List Val},x∈gG id row l->x∈l\/x=(id,row)
 | [],x,h=>by simpa [gG] using h
 | e::r,x,h=>by
  unfold gG at h
  split at h
  ·rcases Db.1 h with rfl | h
   ·exact .inl (by simp)
   rcases kF h with h | h
   ·exact .inl (by simp[h])
   exact .inr h
  split at h
  ·rcases Db.1 h with rfl | h
   ·exact .inr rfl
   exact .inl h
  rcases Db.1 h with rfl | h
  ·exact .inr rfl
  exact .inl (by simp[h])
theorem rz {id:Int} {row:List Val}:∀ {l:Tab},fN l->fN (gG id row l)
 | [],_=>by simp[gG,fN]
 | e::r,h=>by
  have b:=DJ.1 h;unfold gG
  split
  ·rename_i hlt;refine DJ.2 ⟨fun x a=>?_,rz b.2⟩;rcases kF a with a | rfl
   ·exact b.1 x a
   exact hlt
  split
  ·rename_i hlt;refine DJ.2 ⟨fun x a=>?_,h⟩;rcases Db.1 a with rfl | a
   ·exact hlt
   have:=b.1 x a;show id<x.1;omega
  rename_i h1 h2;refine DJ.2 ⟨fun x a=>?_,b.2⟩;have:=b.1 x a;show id<x.1;omega
theorem kG {id:Int} {row:List Val}:∀ {l:Tab},(∀x∈l,x.1≠id)->(gG id row l).length=l.length+1
 | [],_=>rfl
 | e::r,h=>by
  have a:=h e (by simp);have b:=kG (id:=id) (row:=row) (l:=r) (fun x c=>h x (DL _ c));unfold gG
  split
  ·simp[b]
  split
  ·simp
  exact absurd (by omega:e.1=id) a
theorem nV {id:Int}:∀ {l:Tab},fN l->(bS id l).length+(if dm id l then 1 else 0)=l.length
 | [],_=>rfl
 | e::r,h=>by
  have g:=DJ.1 h;have i:=nV (id:=id) g.2;by_cases b:e.1=id
  ·have f:dm id r=false:=by
    unfold dm;rw[EP];intro x j;have:=g.1 x j;simp;omega
   have c:bS id (e::r)=bS id r:=by simp[bS,b]
   have d:dm id (e::r)=true:=by simp[dm,b]
   rw[f] at i;rw[c,d];simpa using i
  have c:bS id (e::r)=e::bS id r:=by simp[bS,b]
  have d:dm id (e::r)=dm id r:=by simp[dm,b]
  rw[c,d,Dj,Dj];omega
theorem ah.part {w w':World} {X Y:List Nat} {A:Option Addr} {l:List Val} (h:ah w X A l) (a:aa Y w w') (f:∀g∈fb A,g∉Y):ah w' X A l:=by
 intro i v k;obtain⟨g,off,rfl,j,c,d,e⟩:=h i v k;have b:g∉Y:=f g (by simp[fb]);exact⟨g,off,rfl,j,a.cellEq c b,a.cellEq d b,a.cellEq e b⟩
theorem ah.lt {w:World} {X:List Nat} {A:Option Addr} {l:List Val} (h:ah w X A l) (c:0<l.length):∀g∈fb A,g<w.heap.size/\g∉X:=by
 obtain⟨g,off,rfl,b,a,_⟩:=h 0 _ (CT c);intro x d;obtain rfl:x=g:=by simpa [fb] using d
 exact⟨block_lt_of_cell a,b⟩
theorem ah.apart {w:World} {X Y:List Nat} {A:Option Addr} {l:List Val} (h:ah w X A l) (b:∀g∈fb A,g∉Y):ah w Y A l:=by
 intro i v c;obtain⟨g,off,rfl,d,a⟩:=h i v c;exact⟨g,off,rfl,b g (by simp[fb]),a⟩
theorem aY.part {w w':World} {Y:List Nat} {A:Option Addr} {l:List Int} (h:aY w A l) (d:aa Y w w') (b:∀g∈fb A,g∉Y):aY w' A l:=fun i x c=>by
 obtain⟨g,off,rfl,a⟩:=h i x c;exact⟨g,off,rfl,d.cellEq a (b g (by simp[fb]))⟩
def jG (w:World) (p:Value×Value) (c:List Nat):Prop:=∃(a:Option Addr) (d h:Nat) (cols:List Int) (e:Nat) (f:List Ent) (b:List Nat) (n:Int),
 p=(.slice a d h,ptr e)/\cols.length=d/\d<=10000/\aY w a cols/\aR tyS 250 w e f b n/\(∀x∈f,dP x.1/\dW x.2)/\(∀g∈fb a,g<w.heap.size)/\(fb a++b).Nodup/\c=fb a++b
theorem jG.keep {w w':World} {p:Value×Value} {a Y:List Nat} (h:jG w p a) (c:aa Y w w') (e:∀y∈Y,y∉a):jG w' p a:=by
 obtain⟨j,l,k,cols,i,m,f,n,rfl,o,q,r,s,t,u,v,rfl⟩:=h;exact⟨j,l,k,cols,i,m,f,n,rfl,o,q,r.part c (fun g b d=>e g d (by simp[b])),s.keep c (fun y d x=>e y d (by simp[x])),t,fun g b=>Dr (u g b) c.size,v,rfl⟩
theorem jG.lt {w:World} {p:Value×Value} {a:List Nat} (h:jG w p a):∀x∈a,x<w.heap.size:=by
 obtain⟨g,j,i,cols,f,k,e,n,rfl,l,m,o,c,q,d,r,rfl⟩:=h;intro x b;rcases CX.1 b with b | b
 ·exact d x b
 exact c.lt x b
theorem jG.nd {w:World} {p:Value×Value} {a:List Nat} (h:jG w p a):a.Nodup:=by
 obtain⟨e,g,f,cols,d,i,c,n,rfl,j,k,l,m,o,q,b,rfl⟩:=h;exact b
abbrev fK (w:World) (b:List (Value×Value)) (a:List (List Nat)):Prop:=aJ (jG w) b a
def cZ (a:List (Value×Value)):List Value:=a.flatMap (fun p=>[p.1,p.2])
theorem pm:∀(l:List (Value×Value)) (i:Nat) (e:Value×Value),l[i]? =some e->(cZ l)[i*2]? =some e.1/\(cZ l)[i*2+1]? =some e.2
 | [],i,e,h=>by simp at h
 | x::r,0,e,h=>by
  obtain rfl:x=e:=by simpa using h
  exact⟨rfl,rfl⟩
 | x::r,i+1,e,h=>by
  have a:=pm r i e (by simpa using h);rw[show (i+1)*2=i*2+1+1 by omega];simpa [cZ] using a
theorem dh {w w':World} {Y:List Nat} (g:aa Y w w') {c:List (Value×Value)} {b:List (List Nat)} (h:fK w c b) (e:∀y∈Y,y∉b.flatten):fK w' c b:=
 aJ.mono h (fun p k a d f=>f.keep g (fun y j i=>e y j (Fm.2 ⟨a,d,i⟩)))
theorem kK {w:World} {g:List (Value×Value)} {b:List (List Nat)} (h:fK w g b):∀x∈b.flatten,x<w.heap.size:=fun x f=>by
 obtain⟨a,c,d⟩:=Fm.1 f;obtain⟨p,_,e⟩:=h.right a c;exact e.lt x d
theorem pj {w w':World} {Y:List Nat} (t:aa Y w w'):∀ {n:List (Value×Value)} {f:List (List Nat)},fK w n f->f.flatten.Nodup->∀(i:Nat) p G00 G',n[i]? =some p->f[i]? =some G00->(∀y∈Y,y∈G00\/w.heap.size<=y)->jG w' p G'->(∀x∈G',x∈G00\/w.heap.size<=x)->
 ∃d,fK w' n d/\d.flatten.Nodup/\∀x∈d.flatten,x∈f.flatten\/w.heap.size<=x
 | [],_,_,_,i,p,G00,G',hp,_,_,_,_=>by simp at hp
 | _::_,[],h,_,_,_,_,_,_,_,_,_,_=>h.elim
 | q::n,H::f,h,hn,0,p,G00,G',hp,hG,hY,hO,hs=>by
  obtain rfl:q=p:=by simpa using hp
  obtain rfl:H=G00:=by simpa using hG
  rw[Ed] at hn;obtain⟨_,v,m⟩:=Dp.1 hn;have e:=kK h.2;refine⟨G'::f,⟨hO,dh t h.2 (fun y u l=>?_)⟩,?_,fun x c=>?_⟩
  ·rcases hY y u with g | g
   ·exact m y g y l rfl
   have:=e y l;omega
  ·rw[Ed];refine Dp.2 ⟨hO.nd,v,fun a o b r j=>?_⟩;subst j;rcases hs a o with g | g
   ·exact m a g a r rfl
   have:=e a r;omega
  rw[Ed,CX] at c ⊢;rcases c with c | c
  ·exact(hs x c).imp_left .inl
  exact .inl (.inr c)
 | q::n,H::f,h,hn,i+1,p,G00,G',hp,hG,hY,hO,hs=>by
  rw[Ed] at hn;obtain⟨B,v,m⟩:=Dp.1 hn;have s:G00∈f:=CW (by simpa using hG);obtain⟨d,g,A,z⟩:=pj t h.2 v i p G00 G' (by simpa using hp) (by simpa using hG) hY hO hs;have e:=h.1.lt;refine⟨H::d,⟨h.1.keep t (fun y u l=>?_),g⟩,?_,fun x c=>?_⟩
  ·rcases hY y u with k | k
   ·exact m y l y (Fm.2 ⟨G00,s,k⟩) rfl
   have:=e y l;omega
  ·rw[Ed];refine Dp.2 ⟨B,A,fun a o b r j=>?_⟩;subst j;rcases z a r with k | k
   ·exact m a o a k rfl
   have:=e a o;omega
  rw[Ed,CX] at c ⊢;rcases c with c | c
  ·exact .inl (.inl c)
  exact(z x c).imp_left .inr
def ei (w:World) (X:List Nat) (cols:Nat) (r:aD) (x:Int×List Val):Prop:=r.k=x.1/\r.n=x.2.length/\ah w X r.A x.2/\x.2.length=cols/\∀v∈x.2,v.ok
def eL (rs:List aD):List Nat:=rs.flatMap (fun r=>fb r.A)
structure ci (w:World) (t cols:Nat) (l:Tab) (next:Int) (F:List Nat):Prop where
 out_:∃(bt:Nat) (xA:Option Addr) (xn xc:Nat) (rs:List aD) (F1:List Nat) (xs:List (Value×Value)) (Gs:List (List Nat)),
  Blk w t 175 #[I cols,ptr bt,I next,.slice xA xn xc]/\aR tyI 204 w bt (rs.map aD.ent) F1 (l.length:Nat)/\
  w.ownsRow 0 225 2 (.slice xA xn xc) xn (cZ xs)/\xs.length=xn/\fK w xs Gs/\(t::(fb xA++(F1++Gs.flatten))).Nodup/\
  aJ (ei w (t::(fb xA++(F1++Gs.flatten))) cols) rs l/\F=(t::(fb xA++(F1++Gs.flatten)))++eL rs
 hc:1<=cols/\cols<=1000
 asc:fN l
 ids:∀x∈l,1<=x.1/\x.1<next
 nx:1<=next/\next<=4611686018427387905
theorem ft {w w':World} {X X' Y:List Nat} {cols:Nat} (u:1<=cols) (p:aa Y w w') {rs:List aD} {l:Tab} (h:aJ (ei w X cols) rs l) (n:∀y∈Y,y∉eL rs) (m:∀x∈X',x∈X\/w.heap.size<=x):aJ (ei w' X' cols) rs l:=
 aJ.mono h (fun r s x v o=>by
  obtain⟨f,i,d,j,k⟩:=o;have a:=d.lt (by omega);have c:∀g∈fb r.A,g∉Y:=fun g b t=>n g t (Ea.2 ⟨r,s,b⟩);refine⟨f,i,(d.part p c).apart (fun g b q=>?_),j,k⟩;rcases m g q with e | e
  ·exact(a g b).2 e
  have:=(a g b).1;omega)
theorem jO {w:World} {X:List Nat} {cols:Nat} (j:1<=cols) {rs:List aD} {l:Tab} (h:aJ (ei w X cols) rs l):∀x∈eL rs,x<w.heap.size/\x∉X:=fun x d=>by
 obtain⟨r,c,b⟩:=Ea.1 d;obtain⟨y,_,e,f,a,g,i⟩:=h.left r c;exact a.lt (by omega) x b
theorem ci.keep {w w':World} {t cols:Nat} {l:Tab} {b:Int} {F Y:List Nat} (h:ci w t cols l b F) (e:aa Y w w') (d:∀y∈Y,y∉F):ci w' t cols l b F:=by
 obtain⟨i,s,v,u,rs,f,z,g,j,k,m,n,o,p,q,rfl⟩:=h.out_;refine⟨⟨i,s,v,u,rs,f,z,g,j.keep e (fun a=>d t a (by simp)),k.keep e (fun y c a=>d y c (by simp[a])),aq m e (fun y c a=>d y c (by simp[a])),n,dh e o (fun y c a=>d y c (Di _ (DL _ (Dg _ (Dg _ a))))),p,ft h.hc.1 e q (fun y c a=>d y c (Dg _ a)) (fun x r=>.inl r),rfl⟩,h.hc,h.asc,h.ids,h.nx⟩
theorem ci.lt {w:World} {t cols:Nat} {l:Tab} {b:Int} {F:List Nat} (h:ci w t cols l b F):∀x∈F,x<w.heap.size:=by
 obtain⟨k,o,q,p,rs,i,r,j,c,d,e,m,f,n,g,rfl⟩:=h.out_;intro x a;rcases CX.1 a with a | a
 ·rcases Db.1 a with rfl | a
  ·exact c.lt
  simp only[CX] at a;rcases a with a | a | a
  ·exact(aw e a).2.1
  ·exact d.lt x a
  exact kK f x a
 exact(jO h.hc.1 g x a).1
theorem ci.mem {w:World} {t cols:Nat} {l:Tab} {a:Int} {F:List Nat} (h:ci w t cols l a F):t∈F:=by
 obtain⟨d,n,p,o,rs,b,q,c,e,f,g,i,j,k,m,rfl⟩:=h.out_;simp
theorem mt {w:World} {X:List Nat} {cols:Nat}:∀ {rs:List aD} {l:Tab},aJ (ei w X cols) rs l->fN l->Asc (rs.map aD.ent)
 | [],[],_,_=>List.Pairwise.nil
 | r::rs,x::l,h,ha=>by
  have b:=DJ.1 ha;refine DJ.2 ⟨fun e f=>?_,mt h.2 b.2⟩;obtain⟨c,a,rfl⟩:=Dt.1 f;obtain⟨y,g,d,_⟩:=h.2.left c a;have:=b.1 y g;show r.k<c.k;rw[h.1.1,d];exact this
 | [],_::_,h,_=>h.elim
 | _::_,[],h,_=>h.elim
theorem ui {w:World} {X:List Nat} {cols:Nat} {b:aD} {e:Int×List Val} (d:ei w X cols b e):∀ {rs:List aD} {l:Tab},aJ (ei w X cols) rs l->
 ∃rs',eu (I b.k) (.slice b.A b.n b.c) (rs.map aD.ent)=rs'.map aD.ent/\aJ (ei w X cols) rs' (gG e.1 e.2 l)/\∀r∈rs',r∈rs\/r=b
 | [],[],_=>⟨[b],rfl,⟨d,trivial⟩,by simp⟩
 | r::rs,x::l,h=>by
  have f:kI r.ent=x.1:=h.1.1;have g:iv (I b.k)=e.1:=d.1;unfold gG;rw[D1];unfold eu;rw[f,g]
  split
  ·obtain⟨rs',i,j,m⟩:=ui d h.2;refine⟨r::rs',by rw[i];rfl,⟨h.1,j⟩,fun y a=>?_⟩;rcases Db.1 a with rfl | a
   ·exact .inl (by simp)
   exact(m y a).imp_left (DL _)
  split
  ·exact⟨b::r::rs,rfl,⟨d,h⟩,fun y a=>by
    rcases Db.1 a with rfl | a
    ·exact .inr rfl
    exact .inl a⟩
  exact⟨b::rs,rfl,⟨d,h.2⟩,fun y a=>by
   rcases Db.1 a with rfl | a
   ·exact .inr rfl
   exact .inl (by simp[a])⟩
 | [],_::_,h=>h.elim
 | _::_,[],h=>h.elim
theorem zQ {w:World} {X:List Nat} {cols:Nat} {id:Int} {rs:List aD} {l:Tab} (h:aJ (ei w X cols) rs l):
 ∃rs',jT (I id) (rs.map aD.ent)=rs'.map aD.ent/\aJ (ei w X cols) rs' (bS id l)/\∀r∈rs',r∈rs:=by
  refine⟨rs.filter (fun r=>!decide (r.k=id)),?_,aJ.filter h (fun a _ b _ c=>by rw[c.1]),fun r c=>(List.mem_filter.1 c).1⟩;unfold jT;rw[List.filter_map];rfl
theorem j9 {w:World} {X:List Nat} {cols:Nat} {id:Int}:∀ {rs:List aD} {l:Tab},aJ (ei w X cols) rs l->dw (I id) (rs.map aD.ent)=dm id l
 | [],[],_=>rfl
 | r::rs,x::l,h=>by
  have a:=j9 (id:=id) h.2;have b:kI r.ent=x.1:=h.1.1;unfold dw dm at a ⊢;rw[D1,List.any_cons,List.any_cons,a,b];rfl
 | [],_::_,h=>h.elim
 | _::_,[],h=>h.elim
theorem uj {w:World} {X:List Nat} {cols:Nat} {id:Int} {rs:List aD} {l:Tab} (h:aJ (ei w X cols) rs l):
 (∃r row,r∈rs/\gj (I id) (rs.map aD.ent)=G r.A r.n r.c/\cJ id l=some row/\ei w X cols r (id,row))\/(gj (I id) (rs.map aD.ent)=none/\cJ id l=none):=by
  have g:=aJ.find (p:=fun r:aD=>decide (r.k=id)) (q:=fun x=>decide (x.1=id)) h (fun a _ b _ m=>by rw[m.1]);have f:gj (I id) (rs.map aD.ent)=(rs.find? (fun r=>decide (r.k=id))).map (fun r=>.slice r.A r.n r.c):=by
   unfold gj;rw[List.find?_map,Option.map_map];rfl
  rcases g with ⟨a,b,d,e,i⟩ | ⟨d,e⟩
  ·left;have j:b.1=id:=by simpa using List.find?_some e
   refine⟨a,b.2,List.mem_of_find?_eq_some d,by rw[f,d];rfl,by unfold cJ;rw[e];rfl,?_⟩;rw[<-j];exact i
  right;exact⟨by rw[f,d];rfl,by unfold cJ;rw[e];rfl⟩
theorem kL {id:Int} {l:Tab}:dm id l=(cJ id l).isSome:=by
 unfold dm cJ;rw[Option.isSome_map]
 induction l with
 | nil=>rfl
 | cons x l ih=>
  rw[List.any_cons,List.find?_cons,ih];cases decide (x.1=id) with
  | true=>rfl
  | false=>rfl
theorem ci.cells {w:World} {t cols:Nat} {l:Tab} {a:Int} {F:List Nat} (h:ci w t cols l a F):∃b c e d,Blk w t 175 #[I cols,ptr b,I a,.slice c e d]:=by
 obtain⟨b,c,e,d,rs,g,j,i,f,_⟩:=h.out_;exact⟨b,c,e,d,f⟩
theorem Al (w:World) (t cols:Nat) (l:Tab) (a:Int) (F:List Nat) (h:ci w t cols l a F) (c:Int):Calls Tryz.prog 142 #[ptr t,I c] w fun e w'=>e=.returned (.bool (decide (0<=c/\c<cols)))/\w=w':=by
 obtain⟨i,k,n,m,f⟩:=h.cells;have j:=f.cell 0;clear f h;unfold ptr;by_cases d:0<=c
 ·by_cases b:c<(cols:Int)
  ·have g:decide (c<(cols:Int))=true:=decide_eq_true b;go_enter Tryz.func142,Tryz.ntmps142;go_wp2_with fail;go_ret;exact⟨by simp[d,b],rfl⟩
  have g:decide (c<(cols:Int))=false:=decide_eq_false b;go_enter Tryz.func142,Tryz.ntmps142;go_wp2_with fail;go_ret;exact⟨by simp[d,b],rfl⟩
 rw[show decide (0<=c/\c<(cols:Int))=false from decide_eq_false (fun h=>d h.1)];go_enter Tryz.func142,Tryz.ntmps142;go_wp2_with fail;go_ret;exact⟨rfl,rfl⟩
theorem ku (w:World) (t cols:Nat) (l:Tab) (a:Int) (F:List Nat) (h:ci w t cols l a F):Calls Tryz.prog 101 #[ptr t] w fun e w'=>e=.returned (I a)/\w=w':=by
 obtain⟨c,f,i,g,b⟩:=h.cells;have d:=b.cell 2;clear b h;unfold ptr;go_enter Tryz.func101,Tryz.ntmps101;go_wp2_with fail;go_ret;exact⟨rfl,rfl⟩
theorem qP (w:World) (t cols:Nat) (l:Tab) (a:Int) (F:List Nat) (h:ci w t cols l a F):Calls Tryz.prog 46 #[ptr t] w fun e w'=>e=.returned (I (l.length:Nat))/\w=w':=by
 obtain⟨d,j,m,k,rs,g,n,i,b,c,_⟩:=h.out_;have f:=b.cell 1;have H:=bZ (Ab w d _ _ _ c);clear b h c;unfold ptr at H f ⊢;go_enter Tryz.func46,Tryz.ntmps46;go_wp2_with (refine H.o.mono ?_;rintro e w' ⟨rfl,rfl⟩);go_ret;exact⟨rfl,rfl⟩
def eq (cols:Nat) (r:List Val):Bool:=decide (r.length=cols) && dF r
theorem d8 {cols:Nat} {r:List Val}:eq cols r=true↔r.length=cols/\∀v∈r,v.ok:=by
 unfold eq;rw[Bool.and_eq_true,decide_eq_true_iff,cE]
theorem pO (w:World) (t cols:Nat) (l:Tab) (a:Int) (F:List Nat) (h:ci w t cols l a F) (A:Option Addr) (r:List Val) (n c:Nat) (i:r.length=n) (g:ah w [] A r) (m:n<=10000) (j:∀v∈r,v.fits):
 Calls Tryz.prog 124 #[ptr t,.slice A n c] w fun e w'=>e=.returned (.bool (eq cols r))/\Z (aa [] w w'):=by
  obtain⟨p,z,C,B,f⟩:=h.cells;have u:=h.hc.2;have y:=f.cell 0;have H:=bZ (rS w A r n c i g m j);clear f h g j;unfold eq ptr;rw[i];by_cases b:n=cols
  ·subst b;have x:(n:Int)=(n:Int):=rfl;go_enter Tryz.func124,Tryz.ntmps124;go_wp2_with (refine H.o.mono ?_;rintro e w' ⟨rfl,k⟩);go_ret;exact⟨by simp,k⟩
  have d:¬(n:Int)=(cols:Int):=by omega
  have q:decide ((n:Int)=(cols:Int))=false:=decide_eq_false d;have s:((n:Int)==(cols:Int))=false:=by simpa using d
  go_enter Tryz.func124,Tryz.ntmps124;go_wp2_with fail;go_ret;exact⟨by simp[b],bZ (aa.refl _ _)⟩
def ot (w:World) (id:Int) (l:Tab) (e:Ending) (w':World):Prop:=∃A n c b,e=.returned (.tuple #[.slice A n c,.bool b])/\Z (b=dm id l)/\Z (∀row,cJ id l=some row->row.length=n/\ah w' [] A row)/\Z (aa [] w w')/\Z (b=false->n=0)
theorem qQ (w:World) (t cols:Nat) (l:Tab) (g:Int) (F:List Nat) (h:ci w t cols l g F) (id:Int):Calls Tryz.prog 47 #[ptr t,I id] w (ot w id l):=by
 obtain⟨K,xA,xn,xc,rs,X,xs,Y,x,z,_,_,_,_,i,_⟩:=h.out_;have W:=x.cell 1;have H:=bZ (dy w K _ _ _ id z p9);have R:=h.hc;have B:=mt i h.asc;have k:Z (∀v b,li (rs.map aD.ent) (I id) b v->∃A n c row,v=.slice A n c/\row.length=n/\n<=1000/\ah w [] A row/\b=dm id l/\(∀r,cJ id l=some r->r=row)/\(b=false->n=0)):=bZ (fun v b j=>by
  obtain⟨f1,O,P⟩:=j;obtain⟨f,Q⟩:=O B;rw[j9 i] at f;rcases uj (id:=id) i with ⟨r,row,D,g1,g2,g3⟩ | ⟨g1,g2⟩
  ·have d:b=true:=by rw[f,kL,g2];rfl
   have:=Q d;rw[g1] at this;injection this with this;obtain⟨e1,u,M,N,e5⟩:=g3;exact⟨r.A,r.n,r.c,row,this.symm,u.symm,by rw[u,N];exact R.2,M.apart (by simp),f,fun T a=>by rw[g2] at a;injection a with a;exact a.symm,fun h=>by rw[d] at h;cases h⟩
  have d:b=false:=by rw[f,kL,g2];rfl
  exact⟨none,0,0,[],P d,rfl,by omega,ah.nil _ _ _,f,(fun T a=>by rw[g2] at a;cases a),fun _=>rfl⟩)
 clear x h z i B;unfold ptr at H W ⊢;go_enter Tryz.func47,Tryz.ntmps47;go_wp2_with (refine H.o.mono ?_;rintro e w' ⟨v,b,rfl,j,rfl⟩;obtain⟨A,n,c,row,rfl,C,S,y,d,m,s⟩:=k.o _ _ j.o;have J:=bZ (pz w [] A row n c C y (by omega));replace d:=bZ d;replace m:=bZ m;replace s:=bZ s;clear y j);go_wp2_with (refine J.o.mono ?_;rintro e w' ⟨E,L,rfl,q,_,p⟩);go_ret2;exact⟨E,n,L,b,rfl,d,bZ (fun r D=>by rw[m.o r D];exact⟨C,q.o⟩),p,s⟩
end Go.Proofs.YtmlmfpikncogpaaGreat
