import Derived.Test.YtldmkbhgdbafhaaGreatL18
namespace Go.Proofs.YtldmkbhgdbafhaaGreat
open Go.RowKit
set_option linter.unusedSimpArgs false
set_option linter.unusedVariables false
set_option maxRecDepth 100000
set_option maxHeartbeats 64000000
def OfC (k:FuncId) (x:E) (w:World) (g a:Nat):Prop:=∃d b B m c,(∀W,ad [] w W->aC W g a x d b B m c)/\∀W,ad [] w W->Calls Tryz.prog k #[exV x d b B m c] W (TeP W (fun g=>W.heap.size<=g) (ofE x))
theorem rE (w:World) (i:Int) (v:Vl) (x:E) (tb nm:ByteArray) (g F c:Nat) (hg:g<w.heap.size) (hc:1<=c/\c<=maxLen) (z:(ofE x).2=0->Nm (ofE x).1) (L:(ofE x).1.wd<=10000)
 (p:0<=(ofE x).2/\(ofE x).2<=100) (HX:OfC 182 x w g F):
 Calls Tryz.prog 182 #[exV (.a 3 i v x) tb nm (some (U g F)) 1 c] w (TeP w (fun g=>w.heap.size<=g) (ofE (.a 3 i v x))):=by
  obtain⟨tx,nx,B,m,c',Xx,Cx⟩:=HX;obtain⟨W0,d,t1,t2,P,a0⟩:=dX w 26 38 (exC (.a 3 i v x) tb nm (some (U g F)) 1 c) #[.int .i64 0,.slice none 0 0];obtain⟨gr,j⟩:∃g,g=w.heap.size+1:=⟨_,rfl⟩;rw[<-j] at t2;obtain⟨D,N⟩:∃D:Nat->Prop,D=fun g=>w.heap.size<=g:=⟨_,rfl⟩;rw[<-N];have l:Z (w.heap.size<=gr/\gr<W0.heap.size/\w.heap.size<=W0.heap.size):=bZ (by omega);have X0:=Xx _ P;have t:=bZ (Cx W0 P);unfold aC at X0;rw[d] at X0;obtain⟨Q,R,S,T,X,Y,x6,x7⟩:=X0;obtain⟨r,hr⟩:∃r,r=ofE (.a 3 i v x):=⟨_,rfl⟩;rw[<-hr];have f:r=if (ofE x).2=0 then al (az (ofE x).1 (-1)) else (.c 0,(ofE x).2):=by rw[hr,ofE,if_neg (by decide)]
  have a2:g<w.heap.size+1:=by omega
  have a3:g<w.heap.size+1+1:=by omega
  replace N:=bZ N;have yr:=bZ t2;have M:=bZ P;unfold exV at t ⊢;unfold exC at d Q R S T X Y x6 x7;simp only[opa,ixa,lta] at d Q R S T X Y x6 x7 ⊢;clear t1 t2 P a0 Xx Cx hr hc;generalize x.ix=ix at*;generalize x.lit.k=vk at*;generalize x.lit.n=vn at*;generalize x.lit.s=vs at*;generalize x.op=o at*;generalize ofE x=q at*;obtain⟨q,k⟩:=q;dsimp only at*;by_cases O:k=0
  ·subst O;rw[if_pos rfl] at f;have HS:Z (∀W A c,TA W A q->Calls Tryz.prog 155 #[tmV q A c,.int .i64 (-1)] W (TeP W (fun g=>W.heap.size<=g) r)):=bZ (fun W A c hT=>by rw[f];exact fq (fun _=>True) q (-1) W A c (z rfl) (by decide) (by omega) hT);unfold tmV at HS;clear z L f p;go_enter Tryz.func182,Tryz.ntmps182;go_wp2_with (go_at_call 182;rw[<-d,<-j];clear d j Q R S T X Y x6 x7;refine t.o.mono ?_;intro e w5 u;replace u:=aS u;obtain⟨A5,c5,rfl,m5,n5,T5,C⟩:=u;have b:=bZ (yr.o.keep C.o (by simp));have xr:=b.o.cell;have H:=b.o.frozen;have lr:=b.o.lt);go_wp2_with (go_at_call 155;refine(HS.o _ A5 c5 (T5.o.all.keep0 ((ad.refl [] w5).alloc _))).mono ?_;intro e w6 h6;obtain⟨A6,c6,rfl,m6,n6,T6,k6⟩:=h6;have k7:=bZ (((ad.refl [] w5).alloc _).trans k6.o);have J:=bZ (b.o.keep k7.o (by simp));clear xr H;have xr:=J.o.cell;have H:=J.o.frozen);have y:=bZ (aM (D:=D) (r:=r) l.o.1 ((M.o.trans C.o).trans k7.o) ⟨m6,n6⟩ (T6.o.mono (fun g _ h=>⟨by rw[N.o];have:=l.o;have:=C.o.size;simp at h;omega,by have:=l.o;have:=C.o.size;simp at h;omega⟩)));have K:=(J.o.set_ 0 (.int .i64 r.1.con)).set_ 1 (.slice A6 r.1.pts.length c6);have d0:=K.cell 0;have d1:=K.cell 1;refine bodyPost_ret (v:=.tuple #[.agg #[.int .i64 r.1.con,.slice A6 r.1.pts.length c6],.int .i64 r.2]) (by simp[results,Tryz.results182,go_sem,d0,d1]) rfl ?_;exact y.o
  rw[if_neg O] at f;have a1:(k !=0)=true:=by rw[bne_iff_ne];exact O
  replace f:=bZ f;clear z L p O;go_enter Tryz.func182,Tryz.ntmps182;go_wp2_with (go_at_call 182;rw[<-d,<-j];clear d j Q R S T X Y x6 x7;refine t.o.mono ?_;intro e w5 u;replace u:=aS u;obtain⟨A5,c5,rfl,m5,n5,T5,C⟩:=u;have b:=bZ (yr.o.keep C.o (by simp));have xr:=b.o.cell;have H:=b.o.frozen;have lr:=b.o.lt);have K:=((b.o.set_ 0 (.int .i64 0)).set_ 1 (.slice none 0 0)).alloc (.cells #[.int .i64 q.con,.slice A5 q.pts.length c5] 38);have d0:=K.cell 0;have d1:=K.cell 1;refine bodyPost_ret (v:=.tuple #[.agg #[.int .i64 0,.slice none 0 0],.int .i64 k]) (by simp[results,Tryz.results182,go_sem,d0,d1]) rfl ?_;rw[f.o];exact ch (eO k l.o.1 (M.o.trans C.o)) _
theorem rF (w:World) (o i:Int) (v:Vl) (x y:E) (tb nm:ByteArray) (g T c:Nat) (ho:4<=o/\o<=8) (hg:g<w.heap.size) (hc:2<=c/\c<=maxLen) (O:(ofE x).2=0->Nm (ofE x).1) (Q:(ofE x).1.wd<=10000) (P:(ofE y).2=0->Nm (ofE y).1) (R:(ofE y).1.wd<=10000)
 (HX:OfC 182 x w g T) (HY:OfC 182 y w g (T+8)):
 Calls Tryz.prog 182 #[exV (.b o i v x y) tb nm (some (U g T)) 2 c] w (TeP w (fun g=>w.heap.size<=g) (ofE (.b o i v x y))):=by
  obtain⟨tx,nx,B,m,c',Xx,Cx⟩:=HX;obtain⟨ty,ny,B',m',c2,Xy,Cy⟩:=HY;obtain⟨W0,j,t1,t2,k0,aa⟩:=dX w 26 38 (exC (.b o i v x y) tb nm (some (U g T)) 2 c) #[.int .i64 0,.slice none 0 0];obtain⟨gb,C⟩:∃g,g=w.heap.size:=⟨_,rfl⟩;obtain⟨gr,t⟩:∃g,g=w.heap.size+1:=⟨_,rfl⟩;rw[<-t] at t2;rw[<-C] at t1;obtain⟨D,hD⟩:∃D:Nat->Prop,D=fun g=>w.heap.size<=g:=⟨_,rfl⟩;rw[<-hD];have J:Z (w.heap.size<=gr/\gr<W0.heap.size/\w.heap.size<=W0.heap.size/\gb<W0.heap.size):=bZ (by omega);have X0:=Xx _ k0;have u:=bZ (Cx W0 k0);unfold aC at X0 Xy;rw[j] at X0;obtain⟨X,Y,x2,x3,x4,L,x6,x7⟩:=X0;obtain⟨r,hr⟩:∃r,r=ofE (.b o i v x y):=⟨_,rfl⟩;rw[<-hr];have f:r=if (ofE x).2=0 then (if (ofE y).2=0 then eF o (ofE x).1 (ofE y).1 else (.c 0,(ofE y).2)) else (.c 0,(ofE x).2):=by rw[hr,ofE]
  have a3:g<w.heap.size+1:=by omega
  have a4:g<w.heap.size+1+1:=by omega
  replace hD:=bZ hD;have yr:=bZ t2;have yb:=bZ t1;have a1:=bZ k0;unfold exV at u Cy ⊢;unfold exC at j X Y x2 x3 x4 L x6 x7 yb;simp only[opb,ixb,ltb] at j X Y x2 x3 x4 L x6 x7 yb ⊢;replace Xy:=bZ Xy;replace Cy:=bZ Cy;replace hg:=bZ hg;clear t1 t2 k0 aa Xx Cx hr hc;generalize x.ix=ix at*;generalize x.lit.k=vk at*;generalize x.lit.n=vn at*;generalize x.lit.s=vs at*;generalize x.op=xo at*;generalize y.ix=iy at*;generalize y.lit.k=yk at*;generalize y.lit.n=yn at*;generalize y.lit.s=ys at*;generalize y.op=yo at*;generalize ofE x=q at*;generalize ofE y=z at*;obtain⟨q,k⟩:=q;obtain⟨z,kz⟩:=z;dsimp only at*;by_cases hk:k=0
  ·subst hk;rw[if_pos rfl] at f;by_cases N:kz=0
   ·subst N;rw[if_pos rfl] at f;have HS:Z (∀W A c B d,TA W A q->TA W B z->(q.pts.length<=c/\c<=maxLen)->Calls Tryz.prog 214 #[.int .i64 o,tmV q A c,tmV z B d] W (TeP W (fun g=>W.heap.size<=g) r)):=bZ (fun W A c B d hT hU hc=>by rw[f];exact pN W o q z A c B d ho (O rfl) (P rfl) Q R hT hU hc);unfold tmV at HS;clear O Q P R f;rcases(by omega:o=4\/o=5\/o=6\/o=7\/o=8) with rfl | rfl | rfl | rfl | rfl
    all_goals
     clear ho;go_enter Tryz.func182,Tryz.ntmps182;go_wp2_with (go_at_call 182;rw[<-j,<-t,<-C];clear j t X Y x2 x3 x4 L x6 x7;(with_reducible refine u.o.mono ?_);intro e w5 H;replace H:=aS H;obtain⟨A5,c5,rfl,m5,n5,T5,K⟩:=H;have a:=bZ (yr.o.keep K.o (by simp));have F:=bZ (yb.o.keep K.o (by simp));have xr:=a.o.cell;have p:=a.o.frozen;have lr:=a.o.lt;have xb:=F.o.cell;have lb:=F.o.lt;have M:=bZ (a1.o.trans K.o);obtain⟨X,Y,x2,x3,x4,L,x6,x7⟩:=Xy.o _ M.o;have lg:=Dr hg.o M.o.size;clear C a3 a4 u);go_wp2_with (go_at_call 182;(with_reducible refine(Cy.o _ (M.o.alloc _)).mono ?_);intro e w6 h6;replace h6:=aS h6;obtain⟨A6,c6,rfl,m6,n6,T6,k6⟩:=h6;have b5:=bZ ((Blk.new w5 38 #[.int .i64 q.con,.slice A5 q.pts.length c5]).keep k6.o (by simp));have S:=bZ (((ad.refl [] w5).alloc _).trans k6.o);have l:=bZ (a.o.keep S.o (by simp));have a5:=bZ (F.o.keep S.o (by simp));clear xr p xb X Y x2 x3 x4 L x6 x7;have xr:=l.o.cell;have p:=l.o.frozen;have xb:=a5.o.cell;have L:=b5.o.cell;have ac:=l.o.lt;have am:=a5.o.lt;have ak:=b5.o.lt;have a6:=bZ (T5.o.all.keep0 S.o));go_wp2_with (go_at_call 214;refine(HS.o _ A5 c5 A6 c6 (a6.o.keep0 ((ad.refl [] w6).alloc _)) (T6.o.all.keep0 ((ad.refl [] w6).alloc _)) ⟨m5,n5⟩).mono ?_;intro e w7 h7;obtain⟨A7,c7,rfl,m7,n7,T7,ab⟩:=h7;have k8:=bZ (((ad.refl [] w6).alloc _).trans ab.o);have a2:=bZ (l.o.keep k8.o (by simp));clear xr p xb L;have xr:=a2.o.cell;have p:=a2.o.frozen);have a0:=bZ (aM (D:=D) (r:=r) J.o.1 ((M.o.trans S.o).trans k8.o) ⟨m7,n7⟩ (T7.o.mono (fun g _ h=>⟨by rw[hD.o];have:=J.o;have:=M.o.size;have:=S.o.size;simp at h;omega,by have:=J.o;have:=K.o.size;have:=S.o.size;simp at h;omega⟩)));have bf:=(a2.o.set_ 0 (.int .i64 r.1.con)).set_ 1 (.slice A7 r.1.pts.length c7);have d0:=bf.cell 0;have d1:=bf.cell 1;refine bodyPost_ret (v:=.tuple #[.agg #[.int .i64 r.1.con,.slice A7 r.1.pts.length c7],.int .i64 r.2]) (by simp[results,Tryz.results182,go_sem,d0,d1]) rfl ?_;exact a0.o
   rw[if_neg N] at f;have a9:(kz !=0)=true:=by rw[bne_iff_ne];exact N
   replace f:=bZ f;clear O Q P R N;rcases(by omega:o=4\/o=5\/o=6\/o=7\/o=8) with rfl | rfl | rfl | rfl | rfl
   all_goals
    clear ho;go_enter Tryz.func182,Tryz.ntmps182;go_wp2_with (go_at_call 182;rw[<-j,<-t,<-C];clear j t X Y x2 x3 x4 L x6 x7;(with_reducible refine u.o.mono ?_);intro e w5 H;replace H:=aS H;obtain⟨A5,c5,rfl,m5,n5,T5,K⟩:=H;have a:=bZ (yr.o.keep K.o (by simp));have F:=bZ (yb.o.keep K.o (by simp));have xr:=a.o.cell;have p:=a.o.frozen;have lr:=a.o.lt;have xb:=F.o.cell;have lb:=F.o.lt;have M:=bZ (a1.o.trans K.o);obtain⟨X,Y,x2,x3,x4,L,x6,x7⟩:=Xy.o _ M.o;have lg:=Dr hg.o M.o.size;clear C a3 a4 u);go_wp2_with (go_at_call 182;(with_reducible refine(Cy.o _ (M.o.alloc _)).mono ?_);intro e w6 h6;replace h6:=aS h6;obtain⟨A6,c6,rfl,m6,n6,T6,k6⟩:=h6;have S:=bZ (((ad.refl [] w5).alloc _).trans k6.o);have l:=bZ (a.o.keep S.o (by simp));clear xr p xb X Y x2 x3 x4 L x6 x7;have xr:=l.o.cell;have p:=l.o.frozen;have ac:=l.o.lt);have bf:=((l.o.set_ 0 (.int .i64 0)).set_ 1 (.slice none 0 0)).alloc (.cells #[.int .i64 z.con,.slice A6 z.pts.length c6] 38);have d0:=bf.cell 0;have d1:=bf.cell 1;refine bodyPost_ret (v:=.tuple #[.agg #[.int .i64 0,.slice none 0 0],.int .i64 kz]) (by simp[results,Tryz.results182,go_sem,d0,d1]) rfl ?_;rw[f.o];exact ch (eO kz J.o.1 (M.o.trans S.o)) _
  rw[if_neg hk] at f;have a9:(k !=0)=true:=by rw[bne_iff_ne];exact hk
  replace f:=bZ f;clear O Q P R hk;rcases(by omega:o=4\/o=5\/o=6\/o=7\/o=8) with rfl | rfl | rfl | rfl | rfl
  all_goals
   clear ho;go_enter Tryz.func182,Tryz.ntmps182;go_wp2_with (go_at_call 182;rw[<-j,<-t,<-C];clear j t X Y x2 x3 x4 L x6 x7;(with_reducible refine u.o.mono ?_);intro e w5 H;replace H:=aS H;obtain⟨A5,c5,rfl,m5,n5,T5,K⟩:=H;have a:=bZ (yr.o.keep K.o (by simp));have xr:=a.o.cell;have p:=a.o.frozen;have lr:=a.o.lt);have bf:=((a.o.set_ 0 (.int .i64 0)).set_ 1 (.slice none 0 0)).alloc (.cells #[.int .i64 q.con,.slice A5 q.pts.length c5] 38);have d0:=bf.cell 0;have d1:=bf.cell 1;refine bodyPost_ret (v:=.tuple #[.agg #[.int .i64 0,.slice none 0 0],.int .i64 k]) (by simp[results,Tryz.results182,go_sem,d0,d1]) rfl ?_;rw[f.o];exact ch (eO k J.o.1 (a1.o.trans K.o)) _
theorem dm {d:Nat} {e x:E} (h:e.short (d+1)=true) (c:x∈e.args):x.short d=true:=by
 cases e with
 | z=>cases c
 | a=>rw[CZ.1 c];exact h
 | b o i v y z=>
  simp only[E.short,Bool.and_eq_true] at h;simp only[E.args,Db,Dw,or_false] at c;rcases c with rfl | rfl
  ·exact h.1
  exact h.2
 | many=>cases c
theorem lS {d:Nat} {e:E} (h:e.short d=true) (a:d<=12):(ofE e).1.wd<=4096:=Dc (jZ h).1 (by
 have:=E3 (n:=2) (by decide) a;simpa using this)
structure EOk (l:List Vb) (e:E):Prop where
 sh:∃d,d<=12/\e.short d=true
 rg:e.rg
 int_:e.int l=true
 nn:e.null=false
theorem EOk.nm {l:List Vb} {e:E} (h:EOk l e):((ofE e).2=0->Nm (ofE e).1)/\(ofE e).1.wd<=4096:=by
 obtain⟨⟨d,b,c⟩,_,f,g⟩:=h;exact⟨fun a=>eP l f g (by rw[<-a]),lS c b⟩
theorem EOk.ok2 {l:List Vb} {e:E} (h:EOk l e):e.ok2=true:=by
 obtain⟨⟨d,b,a⟩,_⟩:=h;exact cw a
theorem EOk.neg {l:List Vb} {i:Int} {v:Vl} {x:E} (h:EOk l (.a 3 i v x)):EOk l x:=by
 obtain⟨⟨d,g,b⟩,e,f,c⟩:=h;cases d with
 | zero=>cases b
 | succ d=>
  simp only[E.null,Bool.or_eq_false_iff] at c;exact⟨⟨d,by omega,b⟩,e.2,f,c.2⟩
theorem EOk.bin {l:List Vb} {o i:Int} {v:Vl} {x y:E} (h:EOk l (.b o i v x y)):4<=o/\o<=8/\EOk l x/\EOk l y:=by
 obtain⟨⟨d,g,c⟩,f,a,e⟩:=h;cases d with
 | zero=>cases c
 | succ d=>
  simp only[E.null,Bool.or_eq_false_iff] at e;simp only[E.short,Bool.and_eq_true] at c;unfold E.int at a
  split at a
  ·rename_i ho;simp only[Bool.and_eq_true] at a;exact⟨ho.1,ho.2,⟨⟨d,by omega,c.1⟩,f.2.1,a.1,e.1.2⟩,⟨⟨d,by omega,c.2⟩,f.2.2,a.2,e.2⟩⟩
  cases a
theorem EOk.a {l:List Vb} {o i:Int} {v:Vl} {x:E} (h:EOk l (.a o i v x)):o=3\/(E.a o i v x).lf=true:=by
 have c:=h.int_;unfold E.int at c
 split at c
 ·right;cases x with
  | z=>simp[E.lf,E.leaf, *]
  | a=>cases c
  | b=>cases c
  | many=>cases c
 split at c
 ·exact .inl ‹_›
 cases c
theorem EOk.z {l:List Vb} {o i:Int} {v:Vl} (h:EOk l (.z o i v)):(E.z o i v).lf=true:=by
 have a:=h.int_;unfold E.int at a
 split at a
 ·simp[E.lf, *]
 split at a
 ·simp[E.lf, *]
 cases a
theorem vw {l:List Vb}:∀ {e:E},e.int l=true->0<=(ofE e).2/\(ofE e).2<=100:=by
 have c:∀t:T,0<=(al t).2/\(al t).2<=100:=fun t=>by unfold al;split<;>simp
 have d:∀o a b,0<=(eF o a b).2/\(eF o a b).2<=100:=fun o a b=>by
  unfold eF
  split
  ·exact c _
  split
  ·split
   ·exact c _
   simp
  split
  ·split
   ·exact c _
   split
   ·exact c _
   simp
  split
  ·split
   ·split
    ·simp
    split
    ·exact c _
    simp
   simp
  simp
 intro e
 induction e with
 | z o i v=>intro _;unfold ofE;split;exact c _;simp
 | a o i v x ih=>
  intro h;unfold E.int at h;rw[ofE]
  split
  ·split<;>simp
  rename_i h9;rw[if_neg h9] at h
  split at h
  ·have:=ih h
   split
   ·exact c _
   exact this
  cases h
 | b o i v x y ih1 ih2=>
  intro h;unfold E.int at h;rw[ofE]
  split at h
  ·simp only[Bool.and_eq_true] at h;have f:=ih1 h.1;have g:=ih2 h.2
   split
   ·split
    ·exact d _ _ _
    exact g
   exact f
  cases h
 | many o i v=>intro h;cases h
theorem xm (C:Nat->Prop) (l:List Vb):∀(e:E) (w:World) (s q:ByteArray) (A:Option Addr) (n c:Nat),EOk l e->aY w C e A n->n<=c->c<=maxLen->
 Calls Tryz.prog 182 #[exV e s q A n c] w (TeP w (fun g=>w.heap.size<=g) (ofE e)):=by
  refine E.ind (fun e Q=>?_);intro w s q A n c k L J H;have j:e.lf=true->Calls Tryz.prog 182 #[exV e s q A n c] w (TeP w (fun g=>w.heap.size<=g) (ofE e)):=fun f=>
   pi w e s q A n c (ofE e) (by
    cases e with
    | z o i v=>simp only[E.lf,Bool.or_eq_true,decide_eq_true_eq] at f;show o=1\/o=2\/o=9;omega
    | a o i v x=>simp only[E.lf,Bool.and_eq_true,decide_eq_true_eq] at f;show o=1\/o=2\/o=9;omega
    | b=>cases f
    | many=>cases f) (bZ (fun W F=>vO C l e W s q A n c f k.rg k.int_ k.nn (L.keep0 F)))
  have N:∀x∈e.args,EOk l x->∀g a D u B m t,XAt w C g a x D u B m t->OfC 182 x w g a:=fun x K d g a D u B m t h=>
   ⟨D,u,B,m,t,fun W F=>(h.keep0 F).cells,fun W F=>Q x K W D u B m t d ((h.keep0 F).ar) h.mc h.cm⟩
  cases e with
  | z o i v=>exact j k.z
  | a o i v x=>
   rcases k.a with rfl | h
   ·obtain⟨rfl,g,r,D,u,B,m,t,rfl,O,M,K⟩:=L.get1;have d:=k.neg;exact rE w i v x s q g r c M ⟨J,H⟩ d.nm.1 (Dc d.nm.2 (by decide)) (vw d.int_) (N x (by simp[E.args]) d _ _ _ _ _ _ _ K)
   exact j h
  | b o i v x y=>
   obtain⟨rfl,g,r,D,u,B,m,t,ty,Y,T,X,c2,rfl,O,M,K,P⟩:=L.get2;obtain⟨R,S,d,p⟩:=k.bin;exact rF w o i v x y s q g r c ⟨R,S⟩ M ⟨J,H⟩ d.nm.1 (Dc d.nm.2 (by decide)) p.nm.1 (Dc p.nm.2 (by decide)) (N x (by simp[E.args]) d _ _ _ _ _ _ _ K) (N y (by simp[E.args]) p _ _ _ _ _ _ _ P)
  | many=>exact absurd k.int_ (by simp[E.int])
def LeP (w:World) (D:Nat->Prop) (t:T) (b:Bool) (e:Ending) (a:World):Prop:=
 ∃A c,e=.returned (.tuple #[.agg #[I t.con,.slice A t.pts.length c],.bool b])/\t.pts.length<=c/\c<=maxLen/\Z (TAt a D A t)/\Z (ad [] w a)
theorem jb (w:World) (e:E) (i f:ByteArray) (A:Option Addr) (n c:Nat) (h:e.op≠9):Calls Tryz.prog 127 #[exV e i f A n c] w (LeP w (fun g=>w.heap.size<=g) (.c 0) false):=by
 unfold exV;have j:(e.op !=9)=true:=by rw[bne_iff_ne];exact h
 generalize e.op=o at*;generalize e.ix=ix at*;generalize e.lit.k=vk at*;generalize e.lit.n=vn at*;generalize e.lit.s=vs at*;have b:Z (∀W,ad [] w W->LeP w (fun g=>w.heap.size<=g) (.c 0) false (.returned (.tuple #[.agg #[I 0,.slice none 0 0],.bool false])) W):=bZ (fun W d=>⟨none,0,rfl,C9 _,by simp[maxLen],bZ (bH _ _ _ _ (fun a h=>by cases h)),bZ d⟩);clear h;go_enter Tryz.func127,Tryz.ntmps127;go_wp2_with fail;refine bodyPost_ret (v:=.tuple #[.agg #[I 0,.slice none 0 0],.bool false]) (by simp[results,Tryz.results127,go_sem]) rfl ?_;exact b.o _ (((ad.refl [] w).alloc _).alloc _)
theorem pD (w:World) (i i' n:Int) (v:Vl) (r q f e s:ByteArray) (g d c j:Nat) (B:Option Addr) (D:g<w.heap.size)
 (l:aC w g d (.z 1 i' ⟨2,n,s⟩) f e B 0 j) (y:E):
 Calls Tryz.prog 127 #[exV (.a 9 i v y) r q (some (U g d)) 1 c] w (LeP w (fun g=>w.heap.size<=g) (.c (s.size:Int)) true):=by
  unfold exV;simp only[opa,ixa,lta];obtain⟨t,F,H,u,x,A,C,J⟩:=l;simp only[opz,ixz,ltz] at t u x A C;have b:Z (∀W,ad [] w W->LeP w (fun g=>w.heap.size<=g) (.c (s.size:Int)) true (.returned (.tuple #[.agg #[I (s.size:Int),.slice none 0 0],.bool true])) W):=bZ (fun W k=>⟨none,0,rfl,C9 _,by simp[maxLen],bZ (bH _ _ _ _ (fun a h=>by cases h)),bZ k⟩);have m:g<w.heap.size+1:=by omega
  have p:g<w.heap.size+1+1:=by omega
  go_enter Tryz.func127,Tryz.ntmps127;go_wp2_with fail;refine bodyPost_ret (v:=.tuple #[.agg #[I (s.size:Int),.slice none 0 0],.bool true]) (by simp[results,Tryz.results127,go_sem]) rfl ?_;exact b.o _ ((((ad.refl [] w).alloc _).alloc _).alloc _)
theorem pE (w:World) (i i' n k':Int) (v:Vl) (u t f e s:ByteArray) (g d c k:Nat) (B:Option Addr) (J:0<=i') (H:g<w.heap.size)
 (l:aC w g d (.z 2 i' ⟨k',n,s⟩) f e B 0 k) (y:E):
 Calls Tryz.prog 127 #[exV (.a 9 i v y) u t (some (U g d)) 1 c] w (LeP w (fun g=>w.heap.size<=g) (.p 1 1 i' 0 (.c 0) (.c 0)) true):=by
  unfold exV;simp only[opa,ixa,lta];obtain⟨x,K,L,A,C,D,F,M⟩:=l;simp only[opz,ixz,ltz] at x A C D F;have b:Z (∀W,ad [] w W->W.heap.size=w.heap.size+1+1+1->LeP w (fun g=>w.heap.size<=g) (.p 1 1 i' 0 (.c 0) (.c 0)) true (.returned (.tuple #[.agg #[I 0,.slice (V (w.heap.size+1+1+1)) 1 1],.bool true])) (W.alloc (.cells #[I 1,I 1,I i',I 0,.slice none 0 0] 221))):=bZ (fun W j m=>
   ⟨V (w.heap.size+1+1+1),1,rfl,by simp[T.pts],by simp[maxLen],bZ (by rw[<-m];exact(iT W i' 1 (by decide)).mono (fun g _ h=>by have:=j.size;have h:W.heap.size<=g:=h;omega)),bZ (j.alloc _)⟩)
  have q:g<w.heap.size+1:=by omega
  have r:g<w.heap.size+1+1:=by omega
  go_enter Tryz.func127,Tryz.ntmps127;go_wp2_with fail;refine bodyPost_ret (v:=.tuple #[.agg #[I 0,.slice (V (w.heap.size+1+1+1)) 1 1],.bool true]) (by simp[results,Tryz.results127,go_sem]) rfl ?_;exact b.o _ ((((ad.refl [] w).alloc _).alloc _).alloc _) (by simp)
theorem pU (w:World) (k:Int) (h: -9223372036854775808<=k/\k<9223372036854775808):Calls Tryz.prog 201 #[tmV (.c k) none 0] w (RoP w (I (bdv (.c k)))):=by
 by_cases d: -1099511627776<=k/\k<=1099511627776
 ·exact oE (fun _=>True) (.c k) w none 0 (by simp[T.ok]) ⟨by show k.natAbs<=_;omega,fun p j=>by cases j⟩ (by simp[T.pts]) (by simp[T.wd]) (bH _ _ _ _ (fun a h=>by cases h))
 have b:bdv (.c k)=1152921504606846977:=by unfold bdv;rw[if_neg];intro h;have:=h.1;simp only[T.con] at this;omega
 rw[b];have i:=bZ (decide_eq_false d);unfold tmV;simp only[T.con,T.pts,D6];have g:Z (∀W,Calls Tryz.prog 157 #[I k,I (-1099511627776),I 1099511627776] W fun e f=>e=.returned (.bool false)/\f=W):=bZ (fun W=>by have:=cj W k (-1099511627776) 1099511627776;rw[i.o] at this;exact this);clear d b h;go_enter Tryz.func201,Tryz.ntmps201;go_wp2_with (go_at_call 157;refine(g.o _).mono ?_;rintro e f ⟨rfl,rfl⟩);go_ret;exact⟨rfl,bZ ((ad.refl [] w).alloc _)⟩
theorem nh (w:World) (k:Int) (h: -9223372036854775808<=k/\k<9223372036854775808):Calls Tryz.prog 159 #[tmV (.c k) none 0] w (RoP w (.bool (decide (Sm (.c k))))):=by
 have a:Z (∀W,Calls Tryz.prog 201 #[tmV (.c k) none 0] W (RoP W (I (bdv (.c k))))):=bZ (fun W=>pU W k h);have d:Z (decide (bdv (.c k)<=1152921504606846976)=decide (Sm (.c k))):=bZ (by
  unfold bdv;by_cases h:Sm (.c k)
  ·rw[if_pos h];exact decide_eq_decide.2 ⟨fun _=>h,fun _=>by have:=h.2.2;omega⟩
  rw[if_neg h];exact decide_eq_decide.2 ⟨fun h=>absurd h (by decide),fun f=>absurd f h⟩)
 rw[<-d.o];unfold tmV at a ⊢;have g:Z (ad [] w (w.alloc (.cells #[I k,.slice none 0 0] 38))):=bZ ((ad.refl [] w).alloc _);simp only[T.con,T.pts,D6] at a ⊢;generalize bdv (.c k)=b at*;clear d h;go_enter Tryz.func159,Tryz.ntmps159;go_wp2_with (go_at_call 201;refine(a.o _).mono ?_;rintro e j ⟨rfl,i⟩);go_ret;exact⟨rfl,bZ (g.o.trans i.o)⟩
theorem mm (w:World) (C:Nat->Prop) (k:Int) (h: -9223372036854775808<=k/\k<9223372036854775808):Calls Tryz.prog 128 #[tmV (.c k) none 0] w (TeP w C (al (.c k))):=
 gi C (.c k) w none 0 ⟨C9 _,by simp[maxLen]⟩ (bH _ _ _ _ (fun a h=>by cases h)) (bZ (fun W _=>nh W k h))
def T.tt (t:T):Tr:=.v (I t.con) (.sl 5 t.tr .nil)
theorem T.tt_len (t:T):t.tt.len=2:=rfl
theorem qf {w:World} {C:Nat->Prop} {t:T} {cs:List Value}:Is w C t.tt cs↔∃A c,cs=[I t.con,.slice A t.pts.length c]/\t.pts.length<=c/\c<=maxLen/\TAt w C A t:=by
 constructor
 ·rintro⟨_,rfl,_,A,n,c,f,_,rfl,g,a,b,d,e,rfl⟩;obtain rfl:n=t.pts.length:=by rw[T.tr_len] at g;omega
  exact⟨A,c,rfl,a,b,f,d,e⟩
 rintro⟨A,c,rfl,a,b,f,d,e⟩;exact⟨_,rfl,rfl,A,_,c,f,_,rfl,by rw[T.tr_len],a,b,d,e,rfl⟩
theorem xT:(Tryz.prog.info? 38).map (fun i=>(i.zero,i.size,i.bytes))=some (some (.agg #[I 0,.slice none 0 0]),2,32):=by kernel_rfl
theorem lu (w:World) (e:E) (tb nm:ByteArray) (g a9 n c:Nat) (r:T×Int) (hg:g<w.heap.size) (hc:n<=c/\c<=maxLen) (hn:n=e.args.length) (bu:n<=2) (av:e.op≠9)
 (z:∀x∈e.args,((ofE x).2=0->Nm (ofE x).1)/\(ofE x).1.wd<=10000)
 (M:∀j x,e.args[j]? =some x->(ofE x).2≠0->(∀y∈e.args.take j,(ofE y).2=0)->r=(.c 0,(ofE x).2))
 (q:(∃x,e.args=[x]/\e.op=3/\((ofE x).2=0->r=al (az (ofE x).1 (-1))))\/(∃x y,e.args=[x,y]/\4<=e.op/\e.op<=8/\((ofE x).2=0->(ofE y).2=0->r=eF e.op (ofE x).1 (ofE y).1)))
 (HX:∀j x,e.args[j]? =some x->OfC 90 x w g (a9+j*8)):
 Calls Tryz.prog 90 #[exV e tb nm (some (U g a9)) n c] w (TeP w (fun g=>w.heap.size<=g) r):=by
  obtain⟨W1,am,t1,t2,k1,b7⟩:=dX w 26 38 (exC e tb nm (some (U g a9)) n c) #[I 0,.slice none 0 0];obtain⟨gb,ao⟩:∃g,g=w.heap.size:=⟨_,rfl⟩;obtain⟨gr,ap⟩:∃g,g=w.heap.size+1:=⟨_,rfl⟩;rw[<-ap] at t2;rw[<-ao] at t1;obtain⟨D,hD⟩:∃D:Nat->Prop,D=fun g=>w.heap.size<=g:=⟨_,rfl⟩;rw[<-hD];have a1:Z (w.heap.size<=gr/\gr<W1.heap.size/\w.heap.size<=W1.heap.size/\gb<W1.heap.size/\gb≠gr):=bZ (by omega);have Q:=bZ (jb W1 e tb nm (some (U g a9)) n c av);replace hD:=bZ hD;replace HX:=bZ HX;replace M:=bZ M;replace z:=bZ z;have a2:=bZ hn;have yr:=bZ t2;have yb:=bZ t1;have b9:=bZ k1;have bq:=bZ hg;replace q:=bZ q;unfold exV at Q ⊢;unfold exC at am yb;generalize e.ix=ix at*;generalize e.lit.k=vk at*;generalize e.lit.n=vn at*;generalize e.lit.s=vs at*;generalize e.op=o at*;generalize e.args=xs at*;clear t1 t2 k1 b7 hn av hg;go_enter Tryz.func90,Tryz.ntmps90;go_wp2_with (go_at_call 127;rw[<-am,<-ap,<-ao];clear am ap ao;refine Q.o.mono ?_;intro e w5 h5;obtain⟨A5,c5,rfl,m5,n5,T5,k5⟩:=h5;have bo:=bZ (yr.o.keep k5.o (by simp));have bm:=bZ (yb.o.keep k5.o (by simp)));obtain⟨W0,ak⟩:∃W,W=w5.alloc (.cells #[I (T.c 0).con,.slice A5 (T.c 0).pts.length c5] 38):=⟨_,rfl⟩;have k6:Z (ad [] W1 W0):=bZ (by rw[ak];exact k5.o.alloc _);have b0:Z (ad [] w W0):=bZ (b9.o.trans k6.o);have bp:Z (Blk W0 gr 38 #[I 0,.slice none 0 0]):=bZ (yr.o.keep k6.o (by simp));have bn:=bZ (yb.o.keep k6.o (by simp));have ac:Z (W1.heap.size<=W0.heap.size):=bZ k6.o.size;rw[<-ak];clear ak bo bm yr yb T5 k5 k6 m5 n5 Q;obtain⟨F,hF⟩:∃F:Nat->Prop,F=fun g=>W0.heap.size<=g:=⟨_,rfl⟩;replace hF:=bZ hF;go_loopw [6,7] (fun s6 s7 wr=>∃(j:Nat) (L:List T) (vA:Option Addr) (vc:Nat),j<=n/\s6=.slice vA j vc/\s7=I j/\Z (L.length=j)/\Z (L=(xs.take j).map (fun x=>(ofE x).1))/\Z (∀y∈xs.take j,(ofE y).2=0)/\Z (af T.tt 2 38 F W0.heap.size wr vA vc L)/\Z (ad [] W0 wr)) (fun _ s7 _=>n - (intOf s7).toNat)
  case atStart=>exact⟨0,[],none,0,C3 _,rfl,rfl,bZ rfl,bZ (by simp),bZ (by simp),bZ af.nil,bZ (ad.refl _ _)⟩
  obtain⟨j,L,vA,vc,hj,rfl,rfl,Y,hL,hz,hG,d⟩:=hrel;obtain⟨P,b8⟩:∃x,x=wr:=⟨_,rfl⟩;subst b8;have J:=bZ (bp.o.keep d.o (by simp));have b2:=bZ (bn.o.keep d.o (by simp));have y0:=b2.o.cell;have lb:=b2.o.lt;by_cases b5:j<n
  ·obtain⟨x,hx⟩:=aI (l:=xs) (j:=j) (by rw[<-a2.o];exact b5);obtain⟨tx,nx,B,m,c',Xx,Cx⟩:=HX.o j x hx;have kw:=bZ (b0.o.trans d.o);have Xo:=Xx _ kw.o;have HC:=bZ (Cx P kw.o);unfold aC at Xo;obtain⟨x0,x1,x2,x3,x4,x5,x6,x7⟩:=Xo;have br:g<P.heap.size:=block_lt_of_cell x0;have bs:(j:Int)<(n:Int):=by omega
   have wj:IntKind.i64.wrap ((j:Int)+1)=(j:Int)+1:=C0 _ (by omega);have ax:=bZ hx;have a:=bZ (z.o x (CW hx));have a0:=bZ (M.o j x hx);clear Xx Cx hx;unfold exV at HC;generalize x.ix=xix at*;generalize x.lit.k=xk at*;generalize x.lit.n=xn at*;generalize x.lit.s=xs_ at*;generalize x.op=xo at*;obtain⟨t,k,N⟩:∃t k,(t,k)=ofE x:=⟨_,_,rfl⟩;rw[<-N] at HC a a0;dsimp only at a a0;replace N:=bZ N;by_cases O:k=0
   ·subst O;clear a0;go_wp2_with (first | (go_at_call 90;clear J y0 lb x0 x1 x2 x3 x4 x5 x6 x7;refine HC.o.mono ?_;intro e w7 h7;replace h7:=aS h7;obtain⟨A7,c7,rfl,m7,n7,T7,k7⟩:=h7) | (at_builtin;refine aw (f:=T.tt) (W0:=W0) (X:=[]) (by rfl) (.tmp 40) (.tmp 42) 219 rfl 32 _ Tryz.underlying219 xT rfl (by decide) (L:=L) t ((hG.o.keep0 k7.o).keep0 (((ad.refl [] w7).alloc _).alloc _)) (((d.o.trans k7.o).alloc _).alloc _) (by rw[Y.o];rfl) (V (w7.heap.size+1)) 1 [I t.con,.slice A7 t.pts.length c7] rfl rfl (dA _ _ _ _ _) (qf.2 ⟨A7,c7,rfl,m7,n7,(T7.o.keep0 (((ad.refl [] w7).alloc _).alloc _)).mono (fun g _ h=>⟨by rw[hF.o];exact Dc d.o.size h,fun he=>absurd (hG.o.own he).2 (Nat.not_lt.2 h)⟩)⟩) (by rw[Y.o];omega) (by rw[Y.o];unfold maxLen;omega) ?_;intro bd bk w1 bb bc bx;rw[Y.o]));go_roundw
    case rel=>exact⟨j+1,L++[t],bd,bk,by omega,by first | rfl | simp,by go_num,bZ (by simp[Y.o]),bZ (by rw[Dq,ax.o,hL.o];simp[<-N.o]),bZ (fun y hy=>by
     rw[Dq,ax.o] at hy;rcases CX.1 hy with hy | hy
     ·exact hz.o y hy
     simp at hy;subst hy;rw[<-N.o]),bb,bc⟩
    case measure=>simp[intOf];omega
   have bt:(k !=0)=true:=by rw[bne_iff_ne];exact O
   have b6:=bZ (a0.o O hz.o);clear a0 a O;go_wp2_with (go_at_call 90;clear y0 lb x0 x1 x2 x3 x4 x5 x6 x7;refine HC.o.mono ?_;intro e w7 h7;replace h7:=aS h7;obtain⟨A7,c7,rfl,m7,n7,T7,k7⟩:=h7;have ab:=bZ (J.o.keep k7.o (by simp));have xr:=ab.o.cell;have aa:=ab.o.frozen;have lr:=ab.o.lt);have bf:=((ab.o.set_ 0 (I 0)).set_ 1 (.slice none 0 0)).alloc (.cells #[I t.con,.slice A7 t.pts.length c7] 38);have d0:=bf.cell 0;have d1:=bf.cell 1;refine bodyPost_ret (v:=.tuple #[.agg #[I 0,.slice none 0 0],I k]) (by simp[results,Tryz.results90,go_sem,d0,d1]) rfl ?_;rw[b6.o];exact ch (eO k a1.o.1 (kw.o.trans k7.o)) _
  obtain rfl:j=n:=by omega
  have a6:Z (L=xs.map (fun x=>(ofE x).1)):=bZ (by rw[hL.o,C6 (by rw[<-a2.o];exact C9 _)]);have a4:Z (∀y∈xs,(ofE y).2=0):=bZ (fun y hy=>hz.o y (by rw[C6 (by rw[<-a2.o];exact C9 _)];exact hy));clear hL hz HX M;have kw:=bZ (b0.o.trans d.o);have lr:=J.o.lt;rcases q.o with ⟨x,rfl,rfl,hr⟩ | ⟨x,y,rfl,o1,o2,hr⟩
  ·obtain rfl:j=1:=a2.o;obtain⟨t,k,N⟩:∃t k,(t,k)=ofE x:=⟨_,_,rfl⟩;have a:=z.o x (by simp);have O:=a4.o x (by simp);have A:=a6.o;rw[<-N] at hr a O;simp only[D1,Er,<-N] at A;dsimp only at hr a O;subst O;have p:=hG.o.rows;rw[A] at p;obtain⟨g1,b,rc,rfl,a5,b4,hI,C⟩:=p.get T.tt_len (by decide) (j:=0) rfl;obtain⟨A9,c9,rfl,m9,n9,T9⟩:=qf.1 hI;have x0:=C 0 _ rfl;have x1:=C 1 _ rfl;simp only[Nat.zero_mul,Fg] at x0 x1;have R:Z (∀W,ad [] P W->Calls Tryz.prog 129 #[tmV t A9 c9,I (-1)] W (TeP W (fun g=>(F g\/W0.heap.size<=g)\/W.heap.size<=g) r)):=bZ (fun W hW=>by rw[hr rfl];exact ld _ t (-1) W A9 c9 (a.1 rfl) (by decide) a.2 (T9.keep0 hW));have xr:=J.o.cell;have aa:=J.o.frozen;unfold tmV at R;clear hr a N A p C hI a6 a4 q z hG T9;go_wp2_with (go_at_call 129;refine(R.o _ (ad.refl _ _)).mono ?_;intro e w8 h8;obtain⟨A8,c8,rfl,m8,n8,T8,k8⟩:=h8;have i:=bZ (J.o.keep k8.o (by simp));clear xr aa lr x0 x1;have xr:=i.o.cell;have aa:=i.o.frozen;have lr:=i.o.lt);have ar:Z (∀g,(F g\/W0.heap.size<=g)\/P.heap.size<=g->D g/\g≠gr):=bZ (fun g h=>by
    rw[hF.o] at h;rw[hD.o];have:=a1.o;have:=ac.o;have:=d.o.size;have h9:W0.heap.size<=g:=by rcases h with (h | h) | h<;>omega
    exact⟨by show w.heap.size<=g;omega,by omega⟩)
   have H:=bZ (aM (D:=D) (r:=r) a1.o.1 (kw.o.trans k8.o) ⟨m8,n8⟩ (T8.o.mono (fun g _ h=>ar.o g h)));have bf:=(i.o.set_ 0 (I r.1.con)).set_ 1 (.slice A8 r.1.pts.length c8);have d0:=bf.cell 0;have d1:=bf.cell 1;refine bodyPost_ret (v:=.tuple #[.agg #[I r.1.con,.slice A8 r.1.pts.length c8],I r.2]) (by simp[results,Tryz.results90,go_sem,d0,d1]) rfl ?_;exact H.o
  obtain rfl:j=2:=a2.o;obtain⟨t,k,N⟩:∃t k,(t,k)=ofE x:=⟨_,_,rfl⟩;obtain⟨u,l,hv⟩:∃t k,(t,k)=ofE y:=⟨_,_,rfl⟩;have a:=z.o x (by simp);have a3:=z.o y (by simp);have O:=a4.o x (by simp);have hl:=a4.o y (by simp);have A:=a6.o;rw[<-N] at hr a O;rw[<-hv] at hr a3 hl;simp only[D1,Er,<-N,<-hv] at A;dsimp only at hr a a3 O hl;subst O;subst hl;have p:=hG.o.rows;rw[A] at p;obtain⟨g1,b,rc,rfl,a5,b4,hI,C⟩:=p.get T.tt_len (by decide) (j:=0) rfl;obtain⟨_,_,bz,e,_,_,au,an⟩:=p.get T.tt_len (by decide) (j:=1) rfl;cases e;obtain⟨A9,c9,rfl,m9,n9,T9⟩:=qf.1 hI;obtain⟨B9,d9,rfl,p9,q9,U9⟩:=qf.1 au;have x0:=C 0 _ rfl;have x1:=C 1 _ rfl;have x2:=an 0 _ rfl;have x3:=an 1 _ rfl;simp only[Nat.zero_mul,Fg,Nat.one_mul] at x0 x1 x2 x3;have R:Z (∀W,ad [] P W->Calls Tryz.prog 130 #[I o,tmV t A9 c9,tmV u B9 d9] W (TeP W (fun g=>(F g\/W0.heap.size<=g)\/W.heap.size<=g) r)):=bZ (fun W hW=>by rw[hr rfl rfl];exact se _ W o t u A9 c9 B9 d9 ⟨o1,o2⟩ (a.1 rfl) (a3.1 rfl) a.2 a3.2 (T9.keep0 hW) (U9.keep0 hW) ⟨m9,n9⟩ ⟨p9,q9⟩);have ho:o=4\/o=5\/o=6\/o=7\/o=8:=by omega
  unfold tmV at R;clear hr a a3 N hv A p C an hI au a6 a4 q z hG T9 U9 o1 o2;have p0:=y0 0;obtain⟨ov,aq⟩:∃v,v=I o:=⟨_,rfl⟩;have b1:P.cell? (U gb 0)=some ov:=by rw[aq];exact p0
  rw[<-aq] at R;clear p0;have b3:Z (∀W',ad [] P W'->(fun w'=>w'.cell? (U gb 0)=some ov/\(w'.cell? (U g1 b)=some (I t.con)/\w'.cell? (U g1 (b+1))=G A9 t.pts.length c9)/\w'.cell? (U g1 (b+2))=some (I u.con)/\w'.cell? (U g1 (b+2+1))=G B9 u.pts.length d9) W'):=bZ (fun W' h=>⟨h.cellEq b1 (by simp),⟨h.cellEq x0 (by simp),h.cellEq x1 (by simp)⟩,h.cellEq x2 (by simp),h.cellEq x3 (by simp)⟩);have a5:=bZ (R.o _ (ad.refl [] P).drew);clear R b1 aq;rcases ho with rfl | rfl | rfl | rfl | rfl
  all_goals
   go_wp2_with fail;clear x0 x1 x2 x3;refine ae (S:=(fun w'=>w'.cell? (U gb 0)=some ov/\(w'.cell? (U g1 b)=some (I t.con)/\w'.cell? (U g1 (b+1))=G A9 t.pts.length c9)/\w'.cell? (U g1 (b+2))=some (I u.con)/\w'.cell? (U g1 (b+2+1))=G B9 u.pts.length d9)) (n:=8) (by kernel_rfl) ?_;have R:=b3.o P.drew (ad.refl [] P).drew
   try dsimp only at R
   repeat' first
    |
     refine at_ 8 ?_;dsimp only[Y1,Y2,Y3];go_simp;refine a5.o.mono ?_;intro e w8 h8;obtain⟨A8,c8,rfl,m8,n8,T8,ba⟩:=h8;have k8:=bZ ((ad.refl [] P).drew.trans ba.o);have i:=bZ (J.o.keep k8.o (by simp));clear lr;have xr:=i.o.cell;have aa:=i.o.frozen;have lr:=i.o.lt;refine d _ _ (.inl (by omega)) ?_;clear d K
     try simp only[PT,Y1,Y2,Y3]
    |
     refine at_ 9 ?_;dsimp only[Y1,Y2,Y3];go_simp;refine d _ _ (.inl (by omega)) ?_;clear d K
     try simp only[PT,Y1,Y2,Y3]
    |
     refine at_ 10 ?_;dsimp only[Y1,Y2,Y3];go_simp;refine d _ _ (.inl (by omega)) ?_;clear d K
     try simp only[PT,Y1,Y2,Y3]
    |
     refine at_ 11 ?_;dsimp only[Y1,Y2,Y3];go_simp;refine d _ _ (.inl (by omega)) ?_;clear d K
     try simp only[PT,Y1,Y2,Y3]
    |
     refine at_ 12 ?_;dsimp only[Y1,Y2,Y3];go_simp;refine d _ _ (.inl (by omega)) ?_;clear d K
     try simp only[PT,Y1,Y2,Y3]
    |
     refine r8 [0,2,5] [0,1,2,3,4,5,6,7] ?_
     iterate 8 (refine tq R ?_;try simp only[PT,Y1,Y2,Y3])
     refine aB ?_
    |
     refine J1' 8 (fun K d=>?_)
    |
     refine J2 9 10 (fun K d=>?_) (fun K d=>?_)
    |
     refine J1' 10 (fun K d=>?_)
    |
     refine J1' 11 (fun K d=>?_)
    |
     refine J1' 12 (fun K d=>?_)
    |
     refine J1' 9 (fun K d=>?_)
    |
     refine JD ?_;clear R a5;go_wp2_with fail;have ar:Z (∀g,(F g\/W0.heap.size<=g)\/P.heap.size<=g->D g/\g≠gr):=bZ (fun g h=>by
     rw[hF.o] at h;rw[hD.o];have:=a1.o;have:=ac.o;have:=d.o.size;have h9:W0.heap.size<=g:=by rcases h with (h | h) | h<;>omega
     exact⟨by show w.heap.size<=g;omega,by omega⟩)
     have H:=bZ (aM (D:=D) (r:=r) a1.o.1 (kw.o.trans k8.o) ⟨m8,n8⟩ (T8.o.mono (fun g _ h=>ar.o g h)));have bf:=(i.o.set_ 0 (I r.1.con)).set_ 1 (.slice A8 r.1.pts.length c8);have d0:=bf.cell 0;have d1:=bf.cell 1;refine bodyPost_ret (v:=.tuple #[.agg #[I r.1.con,.slice A8 r.1.pts.length c8],I r.2]) (by simp[results,Tryz.results90,go_sem,d0,d1]) rfl ?_;exact H.o
end Go.Proofs.YtldmkbhgdbafhaaGreat
