import Derived.Test.YtldmkbhgdbafhaaGreatL26
namespace Go.Proofs.YtldmkbhgdbafhaaGreat
open Go.RowKit
set_option linter.unusedSimpArgs false
set_option linter.unusedVariables false
set_option maxRecDepth 100000
set_option maxHeartbeats 64000000
theorem qQ:(Tryz.prog.info? 2).map (fun i=>(i.zero,i.size,i.bytes))=some (some (I 0),1,8):=by kernel_rfl
theorem lN (n:Nat) (xs:List Ax) (x:Ax):bV n (xs++[x])=bV n xs++[axB n (bV n xs) x]:=by simp[bV,List.foldl_append]
theorem eI (n:Nat) (xs:List Ax):(bV n xs).length=xs.length:=by
 have:∀(xs:List Ax) (a:List Nat),(xs.foldl (fun a x=>a++[axB n a x]) a).length=a.length+xs.length:=by
  intro xs
  induction xs with
  | nil=>intro a;rfl
  | cons x xs ih=>intro a;rw[List.foldl_cons,ih];simp;omega
 simpa [bV] using this xs []
theorem oJ {K:Int}:∀ {l:List (Int×Int)} {a:Int},kR l->(∀x∈l,a<=x.1/\x.1<K)->(l.length:Int)<=max 0 (K - a)
 | [],a,_,_=>by simp;omega
 | x::l,a,h,hb=>by
   rw[kR,DJ] at h;have c:=hb x (by simp);have:=oJ (l:=l) (a:=x.1+1) h.2 (fun y b=>⟨by have:=h.1 y b;omega,(hb y (by simp[b])).2⟩);simp only[Dj];omega
theorem gD {l:List Vb} {nn:List Int} {b:List Nat} {f:Lin} (h:dw l nn b f) (d:l.length<=10) (e:b.length<=90000000):f.cs.length<=100000000:=by
 have:=oJ (K:=(l.length:Int)+(b.length:Int)) (a:=0) h.asc (fun x c=>⟨(h.co x c).2.2.1,(h.co x c).2.2.2.1⟩);omega
theorem ve {M b:Nat} (h:M<=1152921504606846977):∃Q a:Nat,a=M/b+1/\Int.tdiv (M:Int) (b:Int)=(Q:Int)/\wrap64 (Q:Int)=(Q:Int)/\IntKind.i64.wrap (Q:Int)=(Q:Int)/\wrap64 ((Q:Int)+1)=(a:Int)/\IntKind.i64.wrap ((Q:Int)+1)=(a:Int):=by
 have:=Nat.div_le_self M b;refine⟨M/b,M/b+1,rfl,(Int.ofNat_tdiv M b).symm,?_⟩;generalize M/b=q at*;refine⟨IntWalk.wrap64_in _ (by omega),C0 _ (by omega),?_,?_⟩
 ·rw[IntWalk.wrap64_in _ (by omega)];omega
 rw[C0 _ (by omega)];omega
theorem uP (C:Nat->Prop) (l:List Vb) (c:Cla) (s:Sv) (w:World) (L:Option Addr) (r cl:Nat) (P:r=l.length) (hs:pY l c) (T:c.ax.length<=90000000/\c.is.length<=90000000/\c.ts.length<=90000000/\c.sm.length<=90000000/\c.df.length<=90000000) (hC:er w C c s) (hV:bR w L l):
 Calls Tryz.prog 49 #[.agg (clL c s).toArray,.slice L r cl] w (RoP w (.bool true)):=by
  have e9:r<=10:=by rw[P];exact hs.l0
  have A0:Z (∀W,ad [] w W->Calls Tryz.prog 81 #[.slice s.A0 c.nul.length s.c0,I r] W (RoP W (.bool true))):=bZ (fun W u=>jp C W c.nul s.A0 c.nul.length s.c0 r rfl (by have:=(j0 hs).1;omega) hs.ok.nul.1 (fun v hv=>by have:=hs.ok.nul.2 v hv;unfold inV at this;omega) (hC.r0.keep0 u));have A1:Z (∀W,ad [] w W->Calls Tryz.prog 81 #[.slice s.A1 c.nn.length s.c1,I r] W (RoP W (.bool true))):=bZ (fun W u=>jp C W c.nn s.A1 c.nn.length s.c1 r rfl (by have:=(j0 hs).2;omega) hs.ok.nn.1 (fun v hv=>by have:=hs.ok.nn.2 v hv;unfold inV at this;omega) (hC.r1.keep0 u));have TX:Z (∀W v,ad [] w W->txU l c.nn v->Calls Tryz.prog 82 #[I v,.agg (clL c s).toArray,.slice L r cl] W (RoP W (.bool true))):=bZ (fun W v u hv=>sC C l c s W v L r cl P hs hv (hC.keep0 u) (hV.keep0 u));have WI:Z (∀W (v a b:Int),a<=v->v<=b->Calls Tryz.prog 84 #[I v,I a,I b] W (RoP W (.bool true))):=bZ (fun W v a b h1 h2=>by
   have:=mM W v a b;rwa [show (decide (a<=v) && decide (v<=b))=true by simp[h1,h2]] at this)
  have FO:Z (∀(W:World) (f:Lin) (fA:Option Addr) (fc j:Nat) (bA:Option Addr) (bn bc:Nat) (E D:Nat->Prop),ad [] w W->dw l c.nn (bV r (c.ax.take j)) f->bn=(bV r (c.ax.take j)).length->ag bh W D fA f.cs->ag a8 W E bA ((bV r (c.ax.take j)).map Int.ofNat)->
   Calls Tryz.prog 83 #[.agg #[I f.k,.slice fA f.cs.length fc],.agg (clL c s).toArray,.slice L r cl,.slice bA bn bc] W (RoP W (I (lbd r (bV r (c.ax.take j)) f:Nat)))):=bZ (fun W f fA fc j bA bn bc E D u hf cm hF hB=>by
   have ee:bn<=90000000:=by rw[cm,eI,CY];have:=T.1;omega
   exact xU C D E l c s W f fA f.cs.length fc _ bA bn bc L r cl rfl (gD hf (by omega) (by omega)) cm (by omega) P hs hf hF hB (hC.keep0 u) (hV.keep0 u))
  have PA:Z (∀W,ad [] w W->Calls Tryz.prog 86 #[.slice s.A5 c.sm.length s.c5,.agg (clL c s).toArray,.slice L r cl] W (RoP W (.bool true))):=bZ (fun W u=>qw C C l c s W c.sm s.A5 c.sm.length s.c5 L r cl rfl (by omega) P hs hs.ok.sm (hC.r5.keep0 u) (hC.keep0 u) (hV.keep0 u));have PB:Z (∀W,ad [] w W->Calls Tryz.prog 86 #[.slice s.A6 c.df.length s.c6,.agg (clL c s).toArray,.slice L r cl] W (RoP W (.bool true))):=bZ (fun W u=>qw C C l c s W c.df s.A6 c.df.length s.c6 L r cl rfl (by omega) P hs hs.ok.df (hC.r6.keep0 u) (hC.keep0 u) (hV.keep0 u));have OK:=bZ hs.ok;have RA:=bZ hC.r2;have RI:=bZ hC.r3;have RT:=bZ hC.r4;have b3:=T.1;have b4:=T.2.1;have b5:=T.2.2.1;obtain⟨xs,a6⟩:∃x,x=c.ax:=⟨_,rfl⟩;obtain⟨es,aq⟩:∃x,x=c.is:=⟨_,rfl⟩;obtain⟨ts,a0⟩:∃x,x=c.ts:=⟨_,rfl⟩;have OX:Z (∀(j:Nat) x,xs[j]? =some x->(x.b=0/\x.of=⟨0,[]⟩/\txU l c.nn x.x)\/(1<=x.b/\x.b<=1000/\x.x=0/\dw l c.nn (bV r (xs.take j)) x.of)):=bZ (fun j x hx=>by rw[P,a6];exact OK.o.ax j x (by rw[<-a6];exact hx));have OI:Z (∀e∈es,dw l c.nn (bV r xs) e.1):=bZ (fun e he=>by rw[P,a6];exact OK.o.is e (by rw[<-aq];exact he));have OT:Z (∀t∈ts,0<=t.kd/\t.kd<=3/\iQ t.s=true/\txU l c.nn t.v):=bZ (fun t ht=>OK.o.ts t (by rw[<-a0];exact ht));have ck:Z (∀(j:Nat) (f:Lin),dw l c.nn (bV r (xs.take j)) f->lbd r (bV r (xs.take j)) f<=1152921504606846977):=bZ (fun j f hf=>by have:=hf.bd;rwa [<-P] at this);rw[<-a6] at FO RA b3;rw[<-aq] at RI b4;rw[<-a0] at RT b5;unfold clL at*;generalize au:c.ax.length=n2 at*;generalize av:c.is.length=n3 at*;generalize b0:c.ts.length=n4 at*;rw[<-a6] at au;rw[<-aq] at av;rw[<-a0] at b0;rw[au] at b3;rw[av] at b4;rw[b0] at b5;have Y:=bZ au.symm;have cr:=bZ av.symm;have ct:=bZ b0.symm;generalize c.nul.length=n0 at*;generalize c.nn.length=n1 at*;generalize c.sm.length=n5 at*;generalize c.df.length=n6 at*;clear hs T hC hV P a6 aq a0 au av b0 OK;obtain⟨W1,an⟩:∃W,W=w.alloc (.cells #[.slice s.A0 n0 s.c0,.slice s.A1 n1 s.c1,.slice s.A2 n2 s.c2,.slice s.A3 n3 s.c3,.slice s.A4 n4 s.c4,.slice s.A5 n5 s.c5,.slice s.A6 n6 s.c6] 114):=⟨_,rfl⟩;obtain⟨i,bk⟩:∃g,g=w.heap.size:=⟨_,rfl⟩;have k1:Z (ad [] w W1):=bZ (by rw[an];exact(ad.refl [] w).alloc _);have b2:Z (Blk W1 i 114 #[.slice s.A0 n0 s.c0,.slice s.A1 n1 s.c1,.slice s.A2 n2 s.c2,.slice s.A3 n3 s.c3,.slice s.A4 n4 s.c4,.slice s.A5 n5 s.c5,.slice s.A6 n6 s.c6]):=bZ (by rw[an,bk];exact Blk.new w 114 _);go_enter Tryz.func49,Tryz.ntmps49;go_upto_region 1 with fail;rw[<-an,<-bk];clear an bk;have z:=b2.o.cell;have zl:=b2.o.lt;go_wp2_with (first | (go_at_call 81;clear z zl;(with_reducible refine(A0.o _ k1.o).mono ?_);clear A0;rintro e w5 ⟨rfl,k5⟩;have c2:=bZ (b2.o.keep k5.o (by simp));have z:=c2.o.cell;have zl:=c2.o.lt) | (go_at_call 81;clear z zl;(with_reducible refine(A1.o _ (k1.o.trans k5.o)).mono ?_);rintro e w6 ⟨rfl,k6⟩));have e6:=bZ ((k1.o.trans k5.o).trans k6.o);have d2:=bZ ((b2.o.keep k5.o (by simp)).keep k6.o (by simp));clear b2 c2 A1;go_loopw [5,6] (fun s5 s6 wr=>∃(j:Nat) (vA:Option Addr) (vc:Nat) (F:List Int),j<=n2/\s5=.slice vA j vc/\s6=I (j:Int)/\Z (F.length=j)/\Z (F=(bV r (xs.take j)).map Int.ofNat)/\Z (af a8 1 2 (fun _=>False) w6.heap.size wr vA vc F)/\Z (ad [] w6 wr)) (fun _ s6 _=>n2 - (intOf s6).toNat)
  case atStart=>exact⟨0,none,0,[],C3 _,rfl,rfl,bZ rfl,bZ rfl,bZ af.nil,bZ (ad.refl _ _)⟩
  obtain⟨j,vA,vc,F,hj,rfl,rfl,J,bf,hG,ba⟩:=hrel;obtain⟨wo,dy⟩:∃x,x=wr:=⟨_,rfl⟩;subst dy;have bp:=bZ (e6.o.trans ba.o);have e2:=bZ (d2.o.keep ba.o (by simp));by_cases dc:j<n2
  ·obtain⟨x,hx⟩:∃v,xs[j]? =some v:=⟨_,CT (by rw[<-Y.o];exact dc)⟩;obtain⟨g,d,rc,ab,a2,hg,hI,y⟩:=(RA.o.keep0 bp.o).get fO (by decide) hx;obtain⟨fA,fc,rfl,ar,d9,a4⟩:=rj.1 hI;have x0:=y 0 _ rfl;have x1:=y 1 _ rfl;have x2:=y 2 _ rfl;have x3:=y 3 _ rfl;rw[Fg] at x0;have ef:(j:Int)<(n2:Int):=by omega
   have wj:IntKind.i64.wrap ((j:Int)+1)=(j:Int)+1:=C0 _ (by omega);have ap:Z ((bV r (xs.take (j+1))).map Int.ofNat=F++[((axB r (bV r (xs.take j)) x:Nat):Int)]):=bZ (by rw[cN hx,lN,DX,<-bf.o];rfl);have dr:=OX.o j x hx;generalize s.A2=A2 at*;subst ab;obtain⟨W2,O⟩:∃W,W=wo.alloc (.cells #[I x.of.k,.slice fA x.of.cs.length fc,I x.b,I x.x] 168):=⟨_,rfl⟩;obtain⟨g7,ac⟩:∃g,g=wo.heap.size:=⟨_,rfl⟩;have k2:Z (ad [] wo W2):=bZ (by rw[O];exact(ad.refl [] wo).alloc _);have b7:Z (Blk W2 g7 168 #[I x.of.k,.slice fA x.of.cs.length fc,I x.b,I x.x]):=bZ (by rw[O,ac];exact Blk.new wo 168 _);have f2:=bZ (e2.o.keep k2.o (by simp));have cy:=bZ (bp.o.trans k2.o);have b8:=bZ (fun (W:World) (u:ad [] W2 W)=>hG.o.keep0 (k2.o.trans u));have ca:=bZ (fun (W:World) (u:ad [] W2 W)=>(ba.o.trans k2.o).trans u);rcases dr with ⟨cb,bm,a5⟩ | ⟨cc,cd,bo,a3⟩
   ·obtain⟨⟨xk,e8⟩,xb,xx⟩:=x;dsimp only at cb bm a5 x0 x1 x2 x3 O b7;obtain⟨rfl,rfl⟩:xk=0/\e8=[]:=by simpa using bm
    subst cb;simp only[D6] at x1 O b7;have a1:Z ((bV r (xs.take (j+1))).map Int.ofNat=F++[16]):=bZ (by rw[ap.o];rfl);have T7:=bZ (fun W u=>TX.o W xx (cy.o.trans u) a5);clear bm a5 ap hI y hx a2 ar a4;have y2:=e2.o.cell;have B:=e2.o.lt;go_upto_region 8 with fail;rw[<-O,<-ac];clear O ac x0 x1 x2 x3 y2 B;have p7:=b7.o.cell;have aa:=b7.o.lt;have p2:=f2.o.cell;have br:=f2.o.lt;go_wp2_with (first
     | (go_at_call 82;clear p7 aa p2 br;refine(T7.o _ (ad.refl _ _)).mono ?_;rintro e w8 ⟨rfl,k8⟩)
     | (at_builtin;refine aw (f:=a8) (W0:=w6) (X:=[]) (by rfl) (.tmp 59) (.tmp 60) 163 rfl 8 _ Tryz.underlying163 qQ rfl (by decide) (L:=F) 16 ((b8.o _ k8.o).keep0 ((ad.refl [] w8).alloc _)) ((ca.o _ k8.o).alloc _) (by rw[J.o];rfl) (V w8.heap.size) 1 [I 16] rfl rfl aF (cU.2 rfl) (by rw[J.o];omega) (by rw[J.o];unfold maxLen;omega) ?_;intro bt bu w9 G9 K9 q9;rw[J.o]))
    go_roundw
    case rel=>exact⟨j+1,bt,bu,F++[16],by omega,by first | rfl | simp,by go_num,bZ (by simp[J.o]),bZ a1.o.symm,G9,K9⟩
    case measure=>simp[intOf];omega
   obtain⟨bb,ao⟩:∃b:Nat,(b:Int)=x.b:=⟨x.b.toNat,by omega⟩;have co:x.b.toNat=bb:=by omega
   have d5:=bZ (fun (W:World) (u:ad [] W2 W)=>FO.o W x.of fA fc j vA j vc _ _ (cy.o.trans u) a3 (by rw[eI,CY,<-Y.o];omega) ((a4.keep0 k2.o).keep0 u) (by rw[<-bf.o];exact((b8.o W u).rows)));have hM:=ck.o j x.of a3;have a1:Z ((bV r (xs.take (j+1))).map Int.ofNat=F++[((lbd r (bV r (xs.take j)) x.of/bb+1:Nat):Int)]):=bZ (by
    rw[ap.o];unfold axB;rw[if_neg (by omega),co])
   have c9:=bZ (fun W=>WI.o W x.b 1 1000 cc cd);rw[<-ao] at c9;rw[bo,<-ao] at b7 O;rw[bo] at x3;rw[<-ao] at x2;generalize lbd r (bV r (xs.take j)) x.of=M at*;obtain⟨Q,b6,hU,td,bx,bz,c7,c8⟩:=ve (b:=bb) hM;rw[<-hU] at a1;generalize x.of.k=xk at*;generalize x.of.cs.length=xl at*;have el:((bb:Int)==0)=false:=by simp;omega
   have en:¬(bb:Int)=0:=by omega
   have dk:((M:Int)<0)=False:=eq_false (by omega);clear a3 ap hI y hx a2 ar a4 ao co bo cc cd hU hM;replace bx:=bZ bx;replace bz:=bZ bz;replace c7:=bZ c7;replace c8:=bZ c8;have y2:=e2.o.cell;have B:=e2.o.lt;go_upto_region 8 with fail;rw[<-O,<-ac];clear O ac x0 x1 x2 x3 y2 B;have p7:=b7.o.cell;have aa:=b7.o.lt;have p2:=f2.o.cell;have br:=f2.o.lt;have d0:=bx.o;have d1:=bz.o;have d3:=c7.o;have d4:=c8.o;go_wp2_with (first
    | (go_at_call 83;clear p7 aa p2 br;refine(d5.o _ (ad.refl _ _)).mono ?_;rintro e w8 ⟨rfl,k8⟩;have f7:=bZ (b7.o.keep k8.o (by simp));have p7:=f7.o.cell;have aa:=f7.o.lt)
    | (go_at_call 84;clear p7 aa;refine(c9.o _).mono ?_;rintro e w8 ⟨rfl,e7⟩;have k8:=bZ (k8.o.trans e7.o);have f7:=bZ (b7.o.keep k8.o (by simp));have p7:=f7.o.cell;have aa:=f7.o.lt)
    | (at_builtin;refine aw (f:=a8) (W0:=w6) (X:=[]) (by rfl) (.tmp 81) (.tmp 87) 163 rfl 8 _ Tryz.underlying163 qQ rfl (by decide) (L:=F) (b6:Int) ((b8.o _ k8.o).keep0 ((ad.refl [] w8).alloc _)) ((ca.o _ k8.o).alloc _) (by rw[J.o];rfl) (V w8.heap.size) 1 [I (b6:Int)] rfl rfl aF (cU.2 rfl) (by rw[J.o];omega) (by rw[J.o];unfold maxLen;omega) ?_;intro bt bu w9 G9 K9 q9;rw[J.o]))
   clear d0 d1 d3 d4;go_roundw
   case rel=>exact⟨j+1,bt,bu,F++[(b6:Int)],by omega,by first | rfl | simp,by go_num,bZ (by simp[J.o]),bZ a1.o.symm,G9,K9⟩
   case measure=>simp[intOf];omega
  obtain rfl:j=n2:=by omega
  have d8:Z (F=(bV r xs).map Int.ofNat):=bZ (by rw[bf.o,C6 (by rw[<-Y.o];exact C9 _)]);have y2:=e2.o.cell;have B:=e2.o.lt;go_upto_region 17 with fail;clear y2 B;obtain⟨wb,ds⟩:∃x,x=wo:=⟨_,rfl⟩;subst ds;go_loopw [9] (fun s9 wr=>∃q:Nat,q<=n3/\s9=I (q:Int)/\Z (ad [] wb wr)) (fun s9 _=>n3 - (intOf s9).toNat)
  case atStart=>exact⟨0,C3 _,rfl,bZ (ad.refl _ _)⟩
  obtain⟨q,hq,rfl,am⟩:=hrel;obtain⟨wp,e1⟩:∃x,x=wr:=⟨_,rfl⟩;subst e1;have bq:=bZ (bp.o.trans am.o);have e3:=bZ (e2.o.keep am.o (by simp));have y2:=e3.o.cell;have B:=e3.o.lt;by_cases cp:q<n3
  ·obtain⟨x,hx⟩:∃v,es[q]? =some v:=⟨_,CT (by rw[<-cr.o];exact cp)⟩;obtain⟨g,d,rc,ab,a2,hg,hI,y⟩:=(RI.o.keep0 bq.o).get il (by decide) hx;obtain⟨fA,fc,rfl,ar,d9,a4⟩:=pL.1 hI;have x0:=y 0 _ rfl;have x1:=y 1 _ rfl;rw[Fg] at x0;have ek:(q:Int)<(n3:Int):=by omega
   have wq:IntKind.i64.wrap ((q:Int)+1)=(q:Int)+1:=C0 _ (by omega);have a3:=OI.o x (CW hx);have b1:xs.take j=xs:=C6 (by rw[<-Y.o];exact C9 _);have d6:=bZ (fun (W:World) (u:ad [] wp W)=>FO.o W x.1 fA fc j vA j vc _ _ (bq.o.trans u) (by rw[b1];exact a3) (by rw[b1,eI];exact Y.o) (a4.keep0 u) (by rw[b1,<-d8.o];exact((hG.o.keep0 (am.o.trans u)).rows)));generalize lbd r (bV r (xs.take j)) x.1=M at*;generalize x.1.k=xk at*;generalize x.1.cs.length=fl at*;have dk:((M:Int)<0)=False:=eq_false (by omega);generalize s.A3=A3 at*;subst ab;have R:Z (∀H,ad [] wp H->H.cell? (U i 0)=G s.A0 n0 s.c0/\H.cell? (U i 1)=G s.A1 n1 s.c1/\H.cell? (U i 2)=G s.A2 j s.c2/\H.cell? (U i 3)=G (some (U g d)) n3 s.c3/\H.cell? (U i 4)=G s.A4 n4 s.c4/\H.cell? (U i 5)=G s.A5 n5 s.c5/\H.cell? (U i 6)=G s.A6 n6 s.c6/\H.cell? (U g (d+q*3))=some (I xk)/\H.cell? (U g (d+q*3+1))=G fA fl fc):=bZ (fun H h=>by
    have hb:=e3.o.keep h (by simp);exact⟨hb.cell 0,hb.cell 1,hb.cell 2,hb.cell 3,hb.cell 4,hb.cell 5,hb.cell 6,h.cellEq x0 (by simp),h.cellEq x1 (by simp)⟩)
   clear a3 b1 hI y hx a2 ar a4 x0 x1;go_upto_region 19 with fail;clear y2 B;refine ae (S:=(fun m:World=>m.cell? (U i 0)=G s.A0 n0 s.c0/\m.cell? (U i 1)=G s.A1 n1 s.c1/\m.cell? (U i 2)=G s.A2 j s.c2/\m.cell? (U i 3)=G (some (U g d)) n3 s.c3/\m.cell? (U i 4)=G s.A4 n4 s.c4/\m.cell? (U i 5)=G s.A5 n5 s.c5/\m.cell? (U i 6)=G s.A6 n6 s.c6/\m.cell? (U g (d+q*3))=some (I xk)/\m.cell? (U g (d+q*3+1))=G fA fl fc)) (n:=11) (by kernel_rfl) ?_;have N:(fun m:World=>m.cell? (U i 0)=G s.A0 n0 s.c0/\m.cell? (U i 1)=G s.A1 n1 s.c1/\m.cell? (U i 2)=G s.A2 j s.c2/\m.cell? (U i 3)=G (some (U g d)) n3 s.c3/\m.cell? (U i 4)=G s.A4 n4 s.c4/\m.cell? (U i 5)=G s.A5 n5 s.c5/\m.cell? (U i 6)=G s.A6 n6 s.c6/\m.cell? (U g (d+q*3))=some (I xk)/\m.cell? (U g (d+q*3+1))=G fA fl fc) wp.drew:=R.o _ (ad.refl [] wp).drew
   try dsimp only at N
   refine ord [0,1,2,3,4,5,6,7,8] ?_
   iterate 9 (refine tq N ?_;try simp only[PT,Y1,Y2,Y3])
   refine aB ?_;refine J1 9 fun K hK=>?_;dsimp only[Y1,Y2,Y3];go_simp;refine(d6.o _ (ad.refl [] wp).drew).mono ?_;rintro e w8 ⟨rfl,k8⟩;have a9:=bZ ((ad.refl [] wp).drew.trans k8.o);have A:=R.o w8 a9.o
   try dsimp only at A
   refine hK _ _ (.inr A) ?_;clear hK K N;have N:=A;clear A
   try simp only[PT,Y1,Y2,Y3]
   refine ord [10] ?_;refine tq N ?_;try simp only[PT,Y1,Y2,Y3]
   refine aB ?_;refine JD ?_;clear N R;go_wp2_with fail;go_roundw
   case rel=>exact⟨q+1,by omega,by go_num,bZ (am.o.trans a9.o)⟩
   case measure=>simp[intOf];omega
  obtain rfl:q=n3:=by omega
  go_upto_region 22 with fail;clear y2 B;obtain⟨wc,dv⟩:∃x,x=wp:=⟨_,rfl⟩;subst dv;go_loopw [10] (fun bs wr=>∃p:Nat,p<=n4/\bs=I (p:Int)/\Z (ad [] wc wr)) (fun bs _=>n4 - (intOf bs).toNat)
  case atStart=>exact⟨0,C3 _,rfl,bZ (ad.refl _ _)⟩
  obtain⟨p,hp,rfl,b9⟩:=hrel;obtain⟨wd,dx⟩:∃x,x=wr:=⟨_,rfl⟩;subst dx;have ak:=bZ (bq.o.trans b9.o);have e4:=bZ (e3.o.keep b9.o (by simp));have y2:=e4.o.cell;have B:=e4.o.lt;by_cases cq:p<n4
  ·obtain⟨x,hx⟩:∃v,ts[p]? =some v:=⟨_,CT (by rw[<-ct.o];exact cq)⟩;obtain⟨g,d,rc,ab,a2,hg,hI,y⟩:=(RT.o.keep0 ak.o).get gU (by decide) hx;obtain rfl:=sw.1 hI;have x0:=y 0 _ rfl;have x1:=y 1 _ rfl;have x2:=y 2 _ rfl;have x3:=y 3 _ rfl;rw[Fg] at x0;obtain⟨cu,cv,a0,a5⟩:=OT.o x (CW hx);have eg:(p:Int)<(n4:Int):=by omega
   have eq:IntKind.i64.wrap ((p:Int)+1)=(p:Int)+1:=C0 _ (by omega);have TE:=bZ (fun W=>sD W x cu cv a0);have TV:=bZ (fun W (u:ad [] wd W)=>TX.o W x.v (ak.o.trans u) a5);generalize x.v=tv at*;generalize x.kd=tk at*;generalize x.ng=tn at*;generalize x.s=tz at*;generalize s.A4=A4 at*;subst ab;have R:Z (∀H,ad [] wd H->H.cell? (U i 0)=G s.A0 n0 s.c0/\H.cell? (U i 1)=G s.A1 n1 s.c1/\H.cell? (U i 2)=G s.A2 j s.c2/\H.cell? (U i 3)=G s.A3 q s.c3/\H.cell? (U i 4)=G (some (U g d)) n4 s.c4/\H.cell? (U i 5)=G s.A5 n5 s.c5/\H.cell? (U i 6)=G s.A6 n6 s.c6/\H.cell? (U g (d+p*4))=some (I tv)/\H.cell? (U g (d+p*4+1))=some (I tk)/\H.cell? (U g (d+p*4+2))=some (.bool tn)/\H.cell? (U g (d+p*4+3))=some (.string tz)):=bZ (fun H h=>by
    have hb:=e4.o.keep h (by simp);exact⟨hb.cell 0,hb.cell 1,hb.cell 2,hb.cell 3,hb.cell 4,hb.cell 5,hb.cell 6,h.cellEq x0 (by simp),h.cellEq x1 (by simp),h.cellEq x2 (by simp),h.cellEq x3 (by simp)⟩)
   clear cu cv a0 a5 hI y hx a2 x0 x1 x2 x3;go_upto_region 24 with fail;clear y2 B;refine ae (S:=(fun m:World=>m.cell? (U i 0)=G s.A0 n0 s.c0/\m.cell? (U i 1)=G s.A1 n1 s.c1/\m.cell? (U i 2)=G s.A2 j s.c2/\m.cell? (U i 3)=G s.A3 q s.c3/\m.cell? (U i 4)=G (some (U g d)) n4 s.c4/\m.cell? (U i 5)=G s.A5 n5 s.c5/\m.cell? (U i 6)=G s.A6 n6 s.c6/\m.cell? (U g (d+p*4))=some (I tv)/\m.cell? (U g (d+p*4+1))=some (I tk)/\m.cell? (U g (d+p*4+2))=some (.bool tn)/\m.cell? (U g (d+p*4+3))=some (.string tz))) (n:=19) (by kernel_rfl) ?_;have N:(fun m:World=>m.cell? (U i 0)=G s.A0 n0 s.c0/\m.cell? (U i 1)=G s.A1 n1 s.c1/\m.cell? (U i 2)=G s.A2 j s.c2/\m.cell? (U i 3)=G s.A3 q s.c3/\m.cell? (U i 4)=G (some (U g d)) n4 s.c4/\m.cell? (U i 5)=G s.A5 n5 s.c5/\m.cell? (U i 6)=G s.A6 n6 s.c6/\m.cell? (U g (d+p*4))=some (I tv)/\m.cell? (U g (d+p*4+1))=some (I tk)/\m.cell? (U g (d+p*4+2))=some (.bool tn)/\m.cell? (U g (d+p*4+3))=some (.string tz)) wd.drew:=R.o _ (ad.refl [] wd).drew
   try dsimp only at N
   refine ord [0,1,2,3,4] ?_
   iterate 5 (refine tq N ?_;try simp only[PT,Y1,Y2,Y3])
   refine aB ?_;refine J1 5 fun K hK=>?_;dsimp only[Y1,Y2,Y3];go_simp;refine(TE.o _).mono ?_;rintro e w8 ⟨rfl,k8⟩;have a9:=bZ ((ad.refl [] wd).drew.trans k8.o);have A:=R.o w8 a9.o
   try dsimp only at A
   refine hK _ _ (.inr A) ?_;clear hK K N;have N:=A;clear A
   try simp only[PT,Y1,Y2,Y3]
   refine ord [6,7,8,9,10,11,12,13,14,15] ?_
   iterate 2 (refine tq N ?_;try simp only[PT,Y1,Y2,Y3])
   iterate 8 (first | (refine tu N ?_;try simp only[PT,Y1,Y2,Y3]) | (refine tq N ?_;try simp only[PT,Y1,Y2,Y3]))
   refine aB ?_;refine J1 16 fun K hK=>?_;dsimp only[Y1,Y2,Y3];go_simp;refine(TV.o _ a9.o).mono ?_;rintro e w9 ⟨rfl,k9⟩;have cx:=bZ (a9.o.trans k9.o);have A:=R.o w9 cx.o
   try dsimp only at A
   refine hK _ _ (.inr A) ?_;clear hK K N;have N:=A;clear A
   try simp only[PT,Y1,Y2,Y3]
   refine ord [17,18] ?_
   first | (refine tu N ?_;try simp only[PT,Y1,Y2,Y3]) | (refine tq N ?_;try simp only[PT,Y1,Y2,Y3])
   refine tq N ?_;try simp only[PT,Y1,Y2,Y3]
   refine aB ?_;refine JD ?_;clear N R;go_wp2_with fail;go_roundw
   case rel=>exact⟨p+1,by omega,by go_num,bZ (b9.o.trans cx.o)⟩
   case measure=>simp[intOf];omega
  obtain rfl:p=n4:=by omega
  go_wp2_with (first | (go_at_call 86;clear y2 B;(with_reducible refine(PA.o _ ak.o).mono ?_);clear PA;rintro e w8 ⟨rfl,k8⟩;have e5:=bZ (e4.o.keep k8.o (by simp));have y2:=e5.o.cell;have B:=e5.o.lt) | (go_at_call 86;clear y2 B;(with_reducible refine(PB.o _ (ak.o.trans k8.o)).mono ?_);rintro e w9 ⟨rfl,k9⟩));go_ret;exact⟨rfl,bZ ((ak.o.trans k8.o).trans k9.o)⟩
theorem nX (g:Int->Int):∀(a:List (Int×Int)) (e:Int×Int),dot g (a++[e])=dot g a+e.2*g e.1
 | [],e=>by simp[dot]
 | x::a,e=>by simp only[D3,dot,nX g a e];omega
theorem pK (g:Int->Int) (b:Int->Nat):∀(a:List (Int×Int)),(∀e∈a,(g e.1).natAbs<=b e.1)->(dot g a).natAbs<=cI b a
 | [],_=>by simp[dot,cI]
 | e::a,h=>by
   have f:=pK g b a (fun x d=>h x (by simp[d]));have c:=Nat.mul_le_mul_left e.2.natAbs (h e (by simp));rw[<-Int.natAbs_mul] at c;simp only[dot,cI];omega
def VvP (w:World) (v:Int) (e:Ending) (a:World):Prop:=e=.returned (.tuple #[I v,.bool true])/\Z (ad [] w a)
theorem kS {a:Int} (h:a.natAbs<=1152921504606846977):IntKind.i64.wrap a=a/\wrap64 a=a:=⟨C0 _ (by omega),IntWalk.wrap64_in _ (by omega)⟩
theorem p8 (D E:Nat->Prop) (w:World) (f:Lin) (fA:Option Addr) (l fc:Nat) (r:List Vl) (A:Option Addr) (n cr:Nat) (vs:List Int) (vA:Option Addr) (Q vc:Nat) (bs:List Nat) (F:l=f.cs.length) (b5:l<=100000000) (hn:n=r.length) (b8:n<=100) (a9:Q=vs.length) (b9:Q<=100000000)
 (C:∀e∈f.cs,0<=e.1/\e.1<(n:Int)+(Q:Int)/\(e.1<(n:Int)->(rv r e.1).k=1)/\(gQ (fiR r) n vs e.1).natAbs<=dR n bs e.1) (a2:lbd n bs f<=1152921504606846977)
 (hF:ag bh w D fA f.cs) (hV:ag a8 w E vA vs) (hA:gI w A r):
 Calls Tryz.prog 88 #[.agg #[I f.k,.slice fA l fc],.slice A n cr,.slice vA Q vc] w (VvP w (dN (fiR r) n vs f)):=by
  obtain⟨g,a⟩:∃g,g=gQ (fiR r) n vs:=⟨_,rfl⟩;have Y:Z (∀(j:Nat) (e:Int×Int),f.cs[j]? =some e->0<=e.1/\e.1<(n:Int)+(Q:Int)/\(e.1<(n:Int)->(rv r e.1).k=1)/\(e.2*g e.1).natAbs<=1152921504606846977/\(f.k+dot g (f.cs.take j)+e.2*g e.1).natAbs<=1152921504606846977):=bZ (fun j e he=>by
   obtain⟨h1,h2,h3,h4⟩:=C e (CW he);refine⟨h1,h2,h3,?_⟩;have b1:=pK g (dR n bs) (f.cs.take j) (fun x L=>by rw[a];exact(C x (DD L)).2.2.2);have b2:=lF (dR n bs) f.cs (j+1);rw[Dq,he,Option.toList_some,f9] at b2;have b3:=Nat.mul_le_mul_left e.2.natAbs h4;rw[<-Int.natAbs_mul,<-a] at b3;unfold lbd at a2;omega)
  have an:Z (∀(k:Nat),(k:Int)<(n:Int)->g (k:Int)=(rv r (k:Int)).n):=bZ (fun k hk=>by rw[a];unfold gQ;rw[if_pos hk];rfl);have am:Z (∀(k m:Nat),k=n+m->vs[m]? =some (g (k:Int))\/vs.length<=m):=bZ (fun k m hk=>by
   by_cases h:m<vs.length
   ·left;rw[a];unfold gQ;rw[if_neg (by omega),show ((k:Int) - (n:Int)).toNat=m by omega,CT h];rfl
   right;omega)
  have c:Z (dN (fiR r) n vs f=f.k+dot g f.cs):=bZ (by rw[a];rfl);obtain⟨R,hR⟩:∃R,R=dN (fiR r) n vs f:=⟨_,rfl⟩;rw[<-hR] at c ⊢;obtain⟨cs,a4⟩:∃x,x=f.cs:=⟨_,rfl⟩;rw[<-a4] at hF Y c F;have z:=bZ F;have aq:=bZ hn;have aa:=bZ a9;replace hF:=bZ hF;replace hV:=bZ hV;replace hA:=bZ hA;clear F hn a9 C a2 hR a4 a;generalize f.k=fk at*;obtain⟨W1,q⟩:∃W,W=w.alloc (.cells #[I fk,.slice fA l fc] 166):=⟨_,rfl⟩;obtain⟨g4,H⟩:∃g,g=w.heap.size:=⟨_,rfl⟩;have k1:Z (ad [] w W1):=bZ (by rw[q];exact(ad.refl [] w).alloc _);have b4:Z (Blk W1 g4 166 #[I fk,.slice fA l fc]):=bZ (by rw[q,H];exact Blk.new w 166 _);go_enter Tryz.func88,Tryz.ntmps88;go_upto_region 1 with fail;rw[<-q,<-H];clear q H;have z4:=b4.o.cell;have av:=b4.o.lt;go_wp2_with fail;clear z4 av;go_loopw [8,9] (fun s8 s9 wr=>∃(j:Nat) (S:Int),j<=l/\s8=I S/\s9=I (j:Int)/\Z (S=fk+dot g (cs.take j))/\Z (ad [] W1 wr)) (fun _ s9 _=>l - (intOf s9).toNat)
  case atStart=>exact⟨0,fk,C3 _,rfl,rfl,bZ (by simp[dot]),bZ (ad.refl _ _)⟩
  obtain⟨j,S,hj,rfl,rfl,hS,p⟩:=hrel;obtain⟨wo,ar⟩:∃x,x=wr:=⟨_,rfl⟩;subst ar;have u:=bZ (k1.o.trans p.o);have e4:=bZ (b4.o.keep p.o (by simp));have y4:=e4.o.cell;have bf:=e4.o.lt;by_cases ap:j<l
  ·obtain⟨x,L⟩:∃v,cs[j]? =some v:=⟨_,CT (by rw[<-z.o];exact ap)⟩;obtain⟨h,ba,rc,ao,T,hg,hI,t⟩:=(hF.o.keep0 u.o).get aV (by decide) L;subst ao;obtain rfl:=eD.1 hI;have x0:=t 0 _ rfl;have x1:=t 1 _ rfl;rw[Fg] at x0;obtain⟨M,N,s,i,b⟩:=Y.o j x L;obtain⟨va,vb⟩:=x;dsimp only at x0 x1 M N s i b;rw[<-hS.o] at b;obtain⟨k,rfl⟩:∃k:Nat,(k:Int)=va:=⟨va.toNat,by omega⟩;obtain⟨X,O⟩:∃X,X=g (k:Int):=⟨_,rfl⟩;have B:Z (S+vb*X=fk+dot g (cs.take (j+1))):=bZ (by rw[Dq,L,Option.toList_some,nX,hS.o,O];dsimp only;omega);rw[<-O] at i b;obtain⟨wm,y⟩:=kS i;obtain⟨wa,au⟩:=kS b;obtain⟨P,hP⟩:∃P,P=vb*X:=⟨_,rfl⟩;rw[<-hP] at wm y wa au B;replace hP:=bZ hP;have bc:IntKind.i64.wrap (vb*X)=P:=by rw[<-hP.o];exact wm
   have b0:wrap64 (vb*X)=P:=by rw[<-hP.o];exact y
   have b6:(j:Int)<(l:Int):=by omega
   have wj:IntKind.i64.wrap ((j:Int)+1)=(j:Int)+1:=C0 _ (by omega);by_cases hv:k<n
   ·have q1:((n:Int)<=(k:Int))=False:=eq_false (by omega);have q2:decide ((n:Int)<=(k:Int))=false:=decide_eq_false (by omega);have q3:(n<=k)=False:=eq_false (by omega);have a5:(k:Int)<(n:Int):=by omega
    have J:=s a5;obtain⟨v,K⟩:∃v,r[k]? =some v:=⟨_,CT (by rw[<-aq.o];exact hv)⟩;have d:rv r (k:Int)=v:=by unfold rv;rw[show ((k:Int)).toNat=k by simp,K];rfl
    obtain⟨ga,oa,ab,c0,c1,_⟩:=(hA.o.keep0 u.o) k v K;subst ab;rw[d] at J;have a1:X=v.n:=by rw[O,an.o k a5,d]
    rw[<-a1] at c1;rw[J] at c0;clear hI t T M N s i b L O hv J K d a1 wm y hS;go_wp2_with fail;go_roundw
    case rel=>exact⟨j+1,S+P,by omega,by first | rfl | simp,by go_num,B,p⟩
    case measure=>simp[intOf];omega
   have q1:(n:Int)<=(k:Int):=by omega
   have q2:decide ((n:Int)<=(k:Int))=true:=decide_eq_true (by omega);obtain⟨m,hm⟩:∃m,m=k - n:=⟨_,rfl⟩;have bd:IntKind.i64.wrap ((k:Int) - (n:Int))=(m:Int):=by rw[C0 _ (by omega)];omega
   have a6:vs[m]? =some X:=by
    rw[O];exact(am.o k m (by omega)).resolve_right (by rw[<-aa.o];omega)
   obtain⟨gB,ax,bb,ac,_,_,a0,a3⟩:=(hV.o.keep0 u.o).get (j:=m) bN (by decide) a6;subst ac;obtain rfl:=cU.1 a0;have t0:=a3 0 _ rfl;rw[EU,Fg] at t0;have b7:(m:Int)<(Q:Int):=by omega
   clear hI t T M N s i b L O hv a0 a3 a6 hm wm y hS;go_wp2_with fail;go_roundw
   case rel=>exact⟨j+1,S+P,by omega,by first | rfl | simp,by go_num,B,p⟩
   case measure=>simp[intOf];omega
  obtain rfl:j=l:=by omega
  have ak:Z (S=R):=bZ (by rw[hS.o,c.o,C6 (by rw[<-z.o];exact C9 _)]);go_wp2_with fail;refine bodyPost_ret (v:=.tuple #[I S,.bool true]) (by simp[results,Tryz.results88,go_sem]) rfl ?_;rw[<-ak.o];exact⟨rfl,u⟩
end Go.Proofs.YtldmkbhgdbafhaaGreat
