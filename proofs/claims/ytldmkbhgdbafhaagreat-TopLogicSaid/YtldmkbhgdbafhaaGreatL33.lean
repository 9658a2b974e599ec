import Derived.Test.YtldmkbhgdbafhaaGreatL32
namespace Go.Proofs.YtldmkbhgdbafhaaGreat
open Go.RowKit
set_option linter.unusedSimpArgs false
set_option linter.unusedVariables false
set_option maxRecDepth 100000
set_option maxHeartbeats 64000000
def AxP (W0 w:World) (b n:Nat) (c:Cla) (r:List Ax×Int) (e:Ending) (a:World):Prop:=
 ∃s,e=.returned (I r.2)/\Z (BR W0 a { c with ax:=r.1 } s)/\Z (Blk a b 159 (bdL n { c with ax:=r.1 } s).toArray)/\Z (KT [159,168] w a)
theorem nP {x:Ax}:∀ {l:List Ax} {j:Nat},l[j]? =some x->x∉l.take j->l.idxOf x=j
 | [],j,h,_=>by simp at h
 | y::l,0,h,_=>by simp at h;subst h;simp
 | y::l,j+1,h,hn=>by
   simp only[List.take_succ_cons,Db,not_or] at hn;have a:=nP (l:=l) (j:=j) (by simpa using h) hn.2;have b:(y==x)=false:=beq_false_of_ne (fun e=>hn.1 e.symm);rw[List.idxOf_cons,b,a];rfl
theorem uD {n:Nat} {xs:List Ax} {x:Ax} {j:Nat} (h:xs[j]? =some x) (a:x∉xs.take j):cE n xs x=(xs,(n:Int)+(j:Int)):=by
 unfold cE;rw[if_pos (CW h),nP h a]
theorem uE {n:Nat} {xs:List Ax} {x:Ax} (h:x∉xs):cE n xs x=(xs++[x],(n:Int)+(xs.length:Int)):=by
 unfold cE;rw[if_neg h,List.idxOf_eq_length h]
theorem iG (W0 w:World) (b n:Nat) (c:Cla) (s:Sv) (x:Ax) (d:Option Addr) (xc:Nat) (hn:n<=1000) (hR:BR W0 w c s) (hb:W0.heap.size<=b) (hB:Blk w b 159 (bdL n c s).toArray) (hx:x.of.cs.length<=xc/\xc<=maxLen) (hX:ag bh w (Cof W0.heap.size w) d x.of.cs) (bb:x.of.cs.length<=1000000) (bk:c.ax.length<=900000000):
 Calls Tryz.prog 160 #[.pointer (V b),.agg #[I x.of.k,.slice d x.of.cs.length xc,I x.b,I x.x]] w (AxP W0 w b n c (cE n c.ax x)):=by
  obtain⟨W1,a1⟩:∃W,W=w.alloc (.cells #[I x.of.k,.slice d x.of.cs.length xc,I x.b,I x.x] 168):=⟨_,rfl⟩;obtain⟨B,b0⟩:∃g,g=w.heap.size:=⟨_,rfl⟩;have k1:Z (ad [] w W1):=bZ (by rw[a1];exact(ad.refl [] w).alloc _);have b3:Z (Blk W1 B 168 #[I x.of.k,.slice d x.of.cs.length xc,I x.b,I x.x]):=bZ (by rw[a1,b0];exact Blk.new w 168 _);have an:Z (∀g,(Value.slice s.A2 c.ax.length s.c2).ownBlock=some g->g≠B):=bZ (fun g hg=>by have:=(hR.g2.own hg).2;omega);have cq:Z (B=w.heap.size):=bZ b0;have co:=hB.lt;replace hB:=bZ (hB.keep k1.o (by simp));replace hX:=bZ (hX.keep0 k1.o);have cb:=bZ hR;replace hR:=bZ (hR.keep0 k1.o);obtain⟨F,hF⟩:∃F,F=x.of.cs:=⟨_,rfl⟩;obtain⟨m,hm⟩:∃m,m=F.length:=⟨_,rfl⟩;rw[<-hF] at hX hx bb a1 b3 ⊢;rw[<-hm] at hx bb a1 b3 ⊢;have b9:=bZ hm;obtain⟨q,hq⟩:∃q,q=c.ax.length:=⟨_,rfl⟩;have H:=bZ hq;rw[<-hq] at bk;have av:=bZ hF;have b7:=bZ hR.o.g2.rows;clear hm hF;unfold bdL clL at hB;rw[<-hq] at hB;clear hq;have EQ:Z (∀(W:World) (y:Ax) (yA:Option Addr) (yc:Nat),ad [] W1 W->ag bh W (fun g=>W0.heap.size<=g) yA y.of.cs->Calls Tryz.prog 202 #[.slice d m xc,.slice yA y.of.cs.length yc] W (RoP W (.bool (decide (x.of.cs=y.of.cs))))):=bZ (fun W y yA yc C hy=>by
   rw[<-av.o];exact tV _ _ W F y.of.cs d yA m y.of.cs.length xc yc b9.o rfl bb (hX.o.keep0 C) hy)
  obtain⟨R,a0⟩:∃R,R=cE n c.ax x:=⟨_,rfl⟩;rw[<-a0];replace a0:=bZ a0;obtain⟨xs,bc⟩:∃l,l=c.ax:=⟨_,rfl⟩;have a:=bZ bc;rw[<-bc] at a0 H b7 an;clear bc;obtain⟨c0,a6⟩:∃k,k=c.nul.length:=⟨_,rfl⟩;obtain⟨c1,a9⟩:∃k,k=c.nn.length:=⟨_,rfl⟩;obtain⟨c3,aa⟩:∃k,k=c.is.length:=⟨_,rfl⟩;obtain⟨c4,ab⟩:∃k,k=c.ts.length:=⟨_,rfl⟩;obtain⟨c5,ac⟩:∃k,k=c.sm.length:=⟨_,rfl⟩;obtain⟨c6,ak⟩:∃k,k=c.df.length:=⟨_,rfl⟩;rw[<-a6,<-a9,<-aa,<-ab,<-ac,<-ak] at hB;obtain⟨A2,P⟩:∃A,A=s.A2:=⟨_,rfl⟩;rw[<-P] at hB b7 an;replace P:=bZ P;replace a6:=bZ a6;replace a9:=bZ a9;replace aa:=bZ aa;replace ab:=bZ ab;replace ac:=bZ ac;replace ak:=bZ ak;go_enter Tryz.func160,Tryz.ntmps160;go_upto_region 1 with fail;rw[<-a1,<-b0];clear a1 b0;have z:=hB.o.cell;have zl:=hB.o.lt;go_wp2_with fail;clear z zl;have ck:x=⟨x.of,x.b,x.x⟩:=rfl;obtain⟨M,a3⟩:∃k,k=x.of.k:=⟨_,rfl⟩;obtain⟨L,a2⟩:∃k,k=x.b:=⟨_,rfl⟩;obtain⟨N,a4⟩:∃k,k=x.x:=⟨_,rfl⟩;rw[<-a3,<-a2,<-a4] at b3;rw[<-a3,<-a2,<-a4];clear ck;have cd:Z (∀y:Ax,y=x↔(L=y.b/\N=y.x/\M=y.of.k/\x.of.cs=y.of.cs)):=bZ (fun y=>by
   rw[a3,a2,a4];obtain⟨⟨k1,l1⟩,b1,x1⟩:=x;obtain⟨⟨k2,l2⟩,b2,x2⟩:=y;simp only[Ax.mk.injEq,Lin.mk.injEq];constructor
   ·rintro⟨⟨rfl,rfl⟩,rfl,rfl⟩;exact⟨rfl,rfl,rfl,rfl⟩
   rintro⟨rfl,rfl,rfl,rfl⟩;exact⟨⟨rfl,rfl⟩,rfl,rfl⟩)
  replace a3:=bZ a3;replace a2:=bZ a2;replace a4:=bZ a4;go_loopw [13] (fun bd wr=>∃j:Nat,j<=q/\bd=I j/\Z (x∉xs.take j)/\Z (ad [] W1 wr)) (fun bd _=>q - (intOf bd).toNat)
  case atStart=>exact⟨0,C3 _,rfl,bZ (by simp),bZ (ad.refl _ _)⟩
  case round=>
   obtain⟨j,hj,rfl,hE,Q⟩:=hrel;obtain⟨p,cc⟩:∃x,x=wr:=⟨_,rfl⟩;subst cc;have e3:=bZ (b3.o.keep Q.o (by simp));have eB:=bZ (hB.o.keep Q.o (by simp));by_cases ca:j<q
   ·obtain⟨y,hy⟩:∃v,xs[j]? =some v:=⟨_,CT (by rw[<-H.o];exact ca)⟩;obtain⟨g,cy,rc,rfl,hC,hg,hI,ao⟩:=(b7.o.keep0 Q.o).get fO (by decide) hy;obtain⟨yA,yc,rfl,cl,cx,bq⟩:=rj.1 hI;have x0:=ao 0 _ rfl;have x1:=ao 1 _ rfl;have x2:=ao 2 _ rfl;have x3:=ao 3 _ rfl;rw[Fg] at x0;have aq:Z (∀W,ad [] p W->Calls Tryz.prog 202 #[.slice d m xc,.slice yA y.of.cs.length yc] W (RoP W (.bool (decide (x.of.cs=y.of.cs))))):=bZ (fun W C=>EQ.o W y yA yc (Q.o.trans C) ((bq.keep0 C).mono (fun g _ h=>h.elim (fun h=>h.1) id)));have J:=bZ (cd.o y);have cr:(j:Int)<(q:Int):=by omega
    have wj:IntKind.i64.wrap ((j:Int)+1)=(j:Int)+1:=C0 _ (by omega);have cv:IntKind.i64.wrap ((n:Int)+(j:Int))=(n:Int)+(j:Int):=C0 _ (by omega);have bm:=bZ hy;obtain⟨W2,D⟩:∃W,W=p.alloc (.cells #[I y.of.k,.slice yA y.of.cs.length yc,I y.b,I y.x] 168):=⟨_,rfl⟩;obtain⟨g6,b8⟩:∃g,g=p.heap.size:=⟨_,rfl⟩;have k2:Z (ad [] p W2):=bZ (by rw[D];exact(ad.refl [] p).alloc _);have b6:Z (Blk W2 g6 168 #[I y.of.k,.slice yA y.of.cs.length yc,I y.b,I y.x]):=bZ (by rw[D,b8];exact Blk.new p 168 _);have f3:=bZ (e3.o.keep k2.o (by simp));have fB:=bZ (eB.o.keep k2.o (by simp));have a5:=bZ (Q.o.trans k2.o);have au:Z (y≠x->x∉xs.take (j+1)):=bZ (fun i=>by
     rw[Dq,bm.o];simp only[Option.toList_some,CX,CZ,not_or];exact⟨hE.o,fun e=>i e.symm⟩)
    obtain⟨r,hr⟩:∃r,r=decide (x.of.cs=y.of.cs):=⟨_,rfl⟩;rw[<-hr] at aq;replace hr:=bZ hr;clear hI ao hy hC bq;obtain⟨yk,bo⟩:∃k,k=y.of.k:=⟨_,rfl⟩;obtain⟨yb,bn⟩:∃k,k=y.b:=⟨_,rfl⟩;obtain⟨yx,ap⟩:∃k,k=y.x:=⟨_,rfl⟩;obtain⟨yl,bp⟩:∃k,k=y.of.cs.length:=⟨_,rfl⟩;rw[<-bo] at x0 b6 D J;rw[<-bn] at x2 b6 D J;rw[<-ap] at x3 b6 D J;rw[<-bp] at x1 b6 D aq cl;clear bo bn ap bp;go_upto_region 4 with fail;rw[<-D,<-b8];clear D b8 x0 x1 x2 x3;have p6:=b6.o.cell;have bs:=b6.o.lt;have p3:=f3.o.cell;have br:=f3.o.lt;by_cases T:L=yb
    ·have q1:(L==yb)=true:=by simp[T]
     by_cases h2:N=yx
     ·have q2:(N==yx)=true:=by simp[h2]
      by_cases h3:M=yk
      ·have q3:(M==yk)=true:=by simp[h3]
       cases r
       ·have i:y≠x:=fun e=>by
         have h4:=(J.o.1 e).2.2.2;have h5:=hr.o;rw[h4] at h5;simp at h5
        clear T h2 h3;go_wp2_with (go_at_call 202;clear p6 bs p3 br;refine(aq.o _ k2.o).mono ?_;rintro e w7 ⟨rfl,k7⟩;have b4:=bZ (a5.o.trans k7.o);have cB:=bZ (fB.o.keep k7.o (by simp));have p9:=cB.o.cell;have cm:=cB.o.lt);go_roundw
        case rel=>exact⟨j+1,by omega,by go_num,bZ (au.o i),b4⟩
        case measure=>simp[intOf];omega
       have ap:y=x:=J.o.2 ⟨T,h2,h3,of_decide_eq_true hr.o.symm⟩;have b5:Z (R=(xs,(n:Int)+(j:Int))):=bZ (by
        rw[a0.o];exact uD (by rw[bm.o,ap]) hE.o)
       have am:Z (∀W,ad [] W1 W->AxP W0 w b n c R (.returned (I ((n:Int)+(j:Int)))) W):=bZ (fun W C=>by
        rw[b5.o];have bf:({ c with ax:=xs }:Cla)=c:=by rw[a.o]
        refine⟨s,rfl,bZ (by dsimp only;rw[bf];exact cb.o.keep0 (k1.o.trans C)),bZ ?_,bZ (KT.of (k1.o.trans C))⟩;dsimp only;rw[bf];have:=hB.o.keep C (by simp);rw[a6.o,a9.o,aa.o,ab.o,ac.o,ak.o,H.o,a.o,P.o] at this;exact this)
       clear T h2 h3 ap;go_wp2_with (go_at_call 202;clear p6 bs p3 br;refine(aq.o _ k2.o).mono ?_;rintro e w7 ⟨rfl,k7⟩;have b4:=bZ (a5.o.trans k7.o);have cB:=bZ (fB.o.keep k7.o (by simp));have p9:=cB.o.cell;have cm:=cB.o.lt);go_ret;exact am.o _ b4.o
      have q3:(M==yk)=false:=beq_false_of_ne h3;have i:y≠x:=fun e=>h3 (J.o.1 e).2.2.1;clear T h2 h3;go_wp2_with fail;go_roundw
      case rel=>exact⟨j+1,by omega,by go_num,bZ (au.o i),a5⟩
      case measure=>simp[intOf];omega
     have q2:(N==yx)=false:=beq_false_of_ne h2;have i:y≠x:=fun e=>h2 (J.o.1 e).2.1;clear T h2;go_wp2_with fail;go_roundw
     case rel=>exact⟨j+1,by omega,by go_num,bZ (au.o i),a5⟩
     case measure=>simp[intOf];omega
    have q1:(L==yb)=false:=beq_false_of_ne T;have i:y≠x:=fun e=>T (J.o.1 e).1;clear T;go_wp2_with fail;go_roundw
    case rel=>exact⟨j+1,by omega,by go_num,bZ (au.o i),a5⟩
    case measure=>simp[intOf];omega
   obtain rfl:j=q:=by omega
   have b5:Z (R=(xs++[x],(n:Int)+(j:Int))):=bZ (by
    have T:=hE.o;rw[C6 (by rw[<-H.o];exact C9 _)] at T;rw[a0.o,uE T,H.o])
   have bz:=bZ (hR.o.keep0 Q.o);have ar:Z (∀W',Blk W' b 159 #[I n,.slice s.A0 c0 s.c0,.slice s.A1 c1 s.c1,.slice A2 j s.c2,.slice s.A3 c3 s.c3,.slice s.A4 c4 s.c4,.slice s.A5 c5 s.c5,.slice s.A6 c6 s.c6]->Blk W' B 168 #[I M,.slice d m xc,I L,I N]->W'.cell? (U b 3)=G A2 j s.c2/\W'.cell? (U B 0)=some (I M)/\W'.cell? (U B 1)=G d m xc/\W'.cell? (U B 2)=some (I L)/\W'.cell? (U B 3)=some (I N)):=bZ (fun W' h h'=>⟨h.cell 3,h'.cell 0,h'.cell 1,h'.cell 2,h'.cell 3⟩);have c8:=bZ ((hX.o.keep0 Q.o).mono (E:=Cof W0.heap.size p) (fun g _ hc=>by exact(hc.keep k1.o (by simp)).keep Q.o (by simp)));have bt:Z (∀(W:World) (ty:Nat),ad [] p W->∃X Y u,(Builtin.append_ #[109,109] ty #[.slice A2 j s.c2,.slice (V W.heap.size) 1 1]).run Tryz.prog (W.alloc (.cells #[I M,.slice d m xc,I L,I N] 168))=.ok (.slice X (j+1) Y) u/\
    (BR W0 u { c with ax:=xs++[x] } { s with A2:=X,c2:=Y }/\KT [168] W u/\∀g t cs,Blk W g t cs->(g=b\/g=B)->Blk u g t cs)):=bZ (fun W ty C=>by
    have r0:=(bz.o.keep0 C).keep0 ((ad.refl [] W).alloc (.cells #[I M,.slice d m xc,I L,I N] 168))
    have e1:#[I M,.slice d m xc,I L,I N]=([I x.of.k,.slice d x.of.cs.length xc,I x.b,I x.x]:List Value).toArray:=by rw[a3.o,a2.o,a4.o,b9.o,av.o]
    have hI:Is (W.alloc (.cells #[I M,.slice d m xc,I L,I N] 168)) (Cof W0.heap.size (W.alloc (.cells #[I M,.slice d m xc,I L,I N] 168))) (cat kQ [x]) [I x.of.k,.slice d x.of.cs.length xc,I x.b,I x.x]:=by
     rw[show cat kQ [x]=kQ x by simp[cat,Tr.app_nil]];have T:=b9.o;rw[av.o] at T;refine rj.2 ⟨d,xc,rfl,by omega,hx.2,?_⟩;have h2:=(c8.o.keep0 C).keep0 ((ad.refl [] W).alloc (.cells #[I M,.slice d m xc,I L,I N] 168));rw[av.o] at h2;exact h2.mono (fun g _ hc=>(hc.keep C (by simp)).keep ((ad.refl [] W).alloc _) (by simp))
    obtain⟨X,Y,u,hr,q1,q2,q3⟩:=sN r0 ty [x] (V W.heap.size) 1 1 rfl [I x.of.k,.slice d x.of.cs.length xc,I x.b,I x.x] rfl (by rw[e1];exact aF) hI (by rw[<-a.o,<-H.o];omega)
    rw[<-a.o,<-H.o,<-P.o] at hr
    refine⟨X,Y,u,hr,by rw[a.o];exact q1,(KT.of ((ad.refl [] W).alloc _)).trans q2,fun g t cs hb hg=>?_⟩
    refine(hb.alloc _).keep q3 (fun hm=>?_)
    rw[D8] at hm
    rw[<-a.o,<-P.o] at hm
    rcases hg with rfl | rfl
    ·obtain⟨_,cp,c9⟩:=r0.g2.typ (by rw[<-a.o,<-P.o];exact hm);have:=(eB.o.keep C (by simp)).alloc (.cells #[I M,.slice d m xc,I L,I N] 168);exact absurd (this.ty c9) (by decide)
    ·exact an.o _ hm rfl)
   go_upto_region 7 with fail;refine ae (S:=(fun u:World=>u.cell? (U b 3)=G A2 j s.c2/\u.cell? (U B 0)=some (I M)/\u.cell? (U B 1)=G d m xc/\u.cell? (U B 2)=some (I L)/\u.cell? (U B 3)=some (I N))) (n:=9) (by kernel_rfl) ?_;have HS:(fun u:World=>u.cell? (U b 3)=G A2 j s.c2/\u.cell? (U B 0)=some (I M)/\u.cell? (U B 1)=G d m xc/\u.cell? (U B 2)=some (I L)/\u.cell? (U B 3)=some (I N)) p.drew:=ar.o _ (eB.o.keep (ad.refl [] p).drew (by simp)) (e3.o.keep (ad.refl [] p).drew (by simp))
   try dsimp only at HS
   refine ord [0,1,2,3,4,5,6] ?_
   iterate 7 (refine tq HS ?_;try simp only[PT,Y1,Y2,Y3])
   refine aB ?_;refine J1 7 fun K Q=>?_;dsimp only[Y1,Y2,Y3];go_simp;have f:=ar.o (p.drew.alloc (.cells #[I M,.slice d m xc,I L,I N] 168)) ((eB.o.keep (ad.refl [] p).drew (by simp)).alloc _) ((e3.o.keep (ad.refl [] p).drew (by simp)).alloc _)
   try dsimp only at f
   refine Q _ _ (.inr f) ?_;clear Q K HS;have HS:=f;clear f
   try simp only[PT,Y1,Y2,Y3]
   refine J1 8 fun K Q=>?_;dsimp only[Y1,Y2,Y3];refine bW (.tmp 60) (.tmp 62) 109 rfl rfl rfl (bt.o p.drew _ (ad.refl [] p).drew) ?_;intro X Y w6 q6;have bx:=bZ q6.o.1;have c7:=bZ q6.o.2.1;have O:=bZ (q6.o.2.2 _ _ _ (eB.o.keep (ad.refl [] p).drew (by simp)) (.inl rfl));have bu:=bZ (q6.o.2.2 _ _ _ (e3.o.keep (ad.refl [] p).drew (by simp)) (.inr rfl));clear q6;have f:=ar.o w6 O.o bu.o
   try dsimp only at f
   have z:=O.o.cell;have zf:=O.o.frozen;have zl:=O.o.lt;refine Q _ _ (.inr f) ?_;clear Q K HS;have HS:=f;clear f
   try simp only[PT,Y1,Y2,Y3]
   refine JQ 9 ?_
   try simp only[PT,Y1,Y2,Y3]
   refine JQ 10 ?_
   try simp only[PT,Y1,Y2,Y3]
   refine JQ 11 ?_
   try simp only[PT,Y1,Y2,Y3]
   refine JQ 12 ?_
   try simp only[PT,Y1,Y2,Y3]
   refine JD ?_;clear HS ar;clear z zf zl;have B8:Z (Blk (w6.setCell (U b 3) (.slice X (j+1) Y)) b 159 #[I n,.slice s.A0 c0 s.c0,.slice s.A1 c1 s.c1,.slice X (j+1) Y,.slice s.A3 c3 s.c3,.slice s.A4 c4 s.c4,.slice s.A5 c5 s.c5,.slice s.A6 c6 s.c6]):=bZ (O.o.set_ 3 (.slice X (j+1) Y));have R8:Z (BR W0 (w6.setCell (U b 3) (.slice X (j+1) Y)) { c with ax:=xs++[x] } { s with A2:=X,c2:=Y }):=bZ (bx.o.set O.o (by decide) hb _);have T8:Z (KT [159,168] w (w6.setCell (U b 3) (.slice X (j+1) Y))):=bZ (((KT.of ((k1.o.trans Q.o).trans (ad.refl [] p).drew)).trans (c7.o.mono (by simp))).trans (KT.set O.o (by simp) _));obtain⟨w8,ba⟩:∃x,x=w6.setCell (U b 3) (.slice X (j+1) Y):=⟨_,rfl⟩;rw[<-ba] at B8 R8 T8;have am:Z (∀W v,ad [] w8 W->v=(n:Int)+(j:Int)->AxP W0 w b n c R (.returned (I v)) W):=bZ (fun W v C hv=>by
    rw[b5.o,hv];refine⟨{ s with A2:=X,c2:=Y },rfl,bZ (R8.o.keep0 C),bZ ?_,bZ (T8.o.trans (KT.of C))⟩;have:=B8.o.keep C (by simp);rw[a6.o,a9.o,aa.o,ab.o,ac.o,ak.o] at this;unfold bdL clL;dsimp only;rw[CU,<-H.o];exact this)
   have ct:IntKind.i64.wrap ((n:Int)+((j:Int)+1))=(n:Int)+((j:Int)+1):=C0 _ (by omega);have cu:IntKind.i64.wrap ((n:Int)+((j:Int)+1) - 1)=(n:Int)+((j:Int)+1) - 1:=C0 _ (by omega);go_upto_region 8 with fail;rw[<-ba];clear ba;have z:=B8.o.cell;have zl:=B8.o.lt;go_quiet (fail);go_wp2_with fail;go_ret;exact am.o _ _ ((ad.refl [] w8).drewN _) (by omega)
def T.tsz:T->Nat
 | .c _=>0
 | .p _ _ _ _ of r=>1+T.tsz of+T.tsz r
def cX:List Pt->Nat
 | []=>0
 | p::l=>1+p.of.tsz+cX l
theorem T.tsz_eq:∀t:T,t.tsz=cX t.pts
 | .c _=>rfl
 | .p n kd v b of r=>by simp only[T.tsz,T.pts,cX,T.tsz_eq r]
theorem iM:∀(xs ys:List Pt),cX (aJ xs ys)<=cX xs+cX ys
 | [],ys=>by simp[aJ,cX]
 | x::xs,[]=>by simp[aJ,cX]
 | x::xs,y::ys=>by
   have a:=iM xs (y::ys);have b:=iM (x::xs) ys;have c:=iM xs ys;rw[aJ];simp only[cX] at*
   split
   ·simp only[cX];omega
   split
   ·simp only[cX];omega
   split
   ·omega
   simp only[cX,Pt.wn];omega
termination_by xs ys=>xs.length+ys.length
theorem nD {k:Int}:∀l:List Pt,cX (dM k l)=cX l
 | []=>rfl
 | x::l=>by simp[dM,cX,nD l,Pt.wn]
theorem kH (a b:T):(aQ a b).tsz<=a.tsz+b.tsz:=by
 rw[T.tsz_eq,T.tsz_eq a,T.tsz_eq b,aQ,T.mk_pts];exact iM _ _
theorem ic (a:T) (k:Int):(az a k).tsz<=a.tsz:=by
 unfold az
 split
 ·exact C3 _
 rw[T.tsz_eq,T.tsz_eq a,T.mk_pts,nD];exact C9 _
theorem t8 (a:T) (b:Int):(aZ a b).tsz<=a.tsz+1:=by
 unfold aZ
 split
 ·omega
 split
 ·exact C3 _
 rw[T.tsz_eq,T.mk_pts];simp[cX];omega
theorem ux {o:Int} {a b:T} {M N:Nat} (i:a.tsz+1<=M) (j:b.tsz+1<=M) (g:N=M*2):(eF o a b).1.tsz+1<=N:=by
 have z:(T.c 0).tsz+1<=N:=by simp[T.tsz];omega
 have f:∀t:T,t.tsz+1<=N->(al t).1.tsz+1<=N:=fun t h=>by
  unfold al
  split
  ·exact h
  exact z
 have e:∀c:T,c.tsz<=M->(al (aQ a c)).1.tsz+1<=N:=fun c l=>f _ (by have:=kH a c;omega);have m:=fun c k=>ic c k;have d:=t8 a b.con;unfold eF
 split
 ·exact e b (by omega)
 split
 ·split
  ·exact e _ (by have:=m b (-1);omega)
  exact z
 split
 ·split
  ·exact f _ (by have:=m b a.con;omega)
  split
  ·exact f _ (by have:=m a b.con;omega)
  exact z
 split
 ·split
  ·split
   ·show (aZ a b.con).tsz+1<=N;omega
   split
   ·exact e _ (by have:=m (aZ a b.con) (-b.con);omega)
   exact z
  exact z
 exact z
theorem jA:∀ {d:Nat} {e:E},e.short d=true->(ofE e).1.tsz+1<=2^d
 | 0,e,h=>by cases e<;>cases h
 | d+1,.z o i v,_=>by
   have g:=Nat.one_le_two_pow (n:=d);rw[Nat.pow_succ];unfold ofE al
   split
   ·split<;>simp[T.tsz]<;>omega
   simp[T.tsz];omega
 | d+1,.a o i v x,h=>by
   have c:=jA (d:=d) (e:=x) h;have f:=ic (ofE x).1 (-1);rw[Nat.pow_succ];unfold ofE al
   split
   ·split<;>simp[T.tsz]<;>omega
   split
   ·split
    ·show (az (ofE x).1 (-1)).tsz+1<=_;omega
    simp[T.tsz];omega
   simp[T.tsz];omega
 | d+1,.b o i v x y,h=>by
   simp only[E.short,Bool.and_eq_true] at h;have c:=jA (d:=d) (e:=x) h.1;have f:=jA (d:=d) (e:=y) h.2;rw[Nat.pow_succ];unfold ofE
   split
   ·split
    ·exact ux c f rfl
    simp[T.tsz];omega
   simp[T.tsz];omega
 | d+1,.many ..,h=>by cases h
def F.big (N:Nat) (f:F):Prop:=f.sz<=N/\f.wd<=100/\∀a∈f.ats,a.t.tsz<=10000/\a.t.wd<=10000
theorem F.atss_mem {a:Am}:∀ {fs:List F},a∈F.atss fs↔∃f∈fs,a∈f.ats
 | []=>by simp[F.atss]
 | f::fs=>by simp[F.atss,F.atss_mem (fs:=fs)]
theorem F.szs_le {N:Nat}:∀ {fs:List F},(∀f∈fs,f.sz<=N)->F.szs fs<=fs.length*N
 | [],_=>by simp[F.szs]
 | f::fs,h=>by
   have:=F.szs_le (fs:=fs) (fun g a=>h g (by simp[a]));have:=h f (by simp);simp only[F.szs,Dj,Nat.add_mul];omega
theorem F.big.mono {f:F} {N M:Nat} (h:f.big N) (a:N<=M):f.big M:=⟨Dc h.1 a,h.2⟩
theorem uy {kd:Int} {fs:List F} {N k:Nat} (h:∀f∈fs,f.big N) (d:fs.length<=k) (e:k<=100):(F.nd kd fs).big (k*N):=by
 refine⟨?_,?_,fun a c=>?_⟩
 ·exact Dc (F.szs_le (fun f b=>(h f b).1)) (Nat.mul_le_mul_right _ d)
 ·simp only[F.wd,Nat.max_le];exact⟨by omega,F.wds_mem.2 (fun f b=>(h f b).2.1)⟩
 obtain⟨f,b,c⟩:=F.atss_mem.1 c;exact(h f b).2.2 a c
theorem uz {a:Am} (h:a.t.tsz<=10000/\a.t.wd<=10000):(F.at a).big 1:=⟨C9 _,C3 _,fun b c=>by
 simp only[F.ats,CZ] at c;rw[c];exact h⟩
theorem fN {kd:Int} {fs:List F} {k:Nat} (h:∀f∈fs,f.big 1) (c:fs.length<=k) (b:1<=k) (a:k<=100):(aN kd fs).big k:=by
 unfold aN
 split
 ·exact(h _ (by simp)).mono b
 have:=uy (kd:=kd) h c a;rwa [EU] at this
theorem eG {kd:Int} {vs:List Int}:∀f∈ay kd vs,f.big 1:=by
 intro f a;obtain⟨v,_,rfl⟩:=Dt.1 a;exact uz ⟨by simp[T.tsz],by simp[T.wd]⟩
theorem eH (b:Bool) {k:Nat}:(aD b).big k:=⟨by simp[aD,F.sz,F.szs],by simp[aD,F.wd,F.wds],by simp[aD,F.ats,F.atss]⟩
def Pa.sm:Pa->Prop
 | .kn _=>True
 | .am a=>a.t.tsz<=10000/\a.t.wd<=10000
theorem xz:(T.c 0).tsz<=10000/\(T.c 0).wd<=10000:=⟨by simp[T.tsz],by simp[T.wd]⟩
theorem wu {o:Int} {t:T} (h:t.tsz<=10000/\t.wd<=9000):(dP o t).1.sm:=by
 have a:(if o=15\/o=14 then az t (-1) else t).tsz<=10000/\(if o=15\/o=14 then az t (-1) else t).wd<=9000:=by
  split
  ·exact⟨Dc (ic _ _) h.1,ce h.2⟩
  exact h
 unfold dP;generalize (if o=15\/o=14 then az t (-1) else t)=u at a ⊢;have b:(if o=12\/o=14 then aQ u (.c 1) else u).tsz<=10000/\(if o=12\/o=14 then aQ u (.c 1) else u).wd<=9000:=by
  split
  ·refine⟨Dc (kH _ _) (by simpa [T.tsz] using a.1),eY a.2 (by simp[T.wd]) ?_⟩;have:=aA a.2;simpa [T.pts] using this
  exact a
 generalize (if o=12\/o=14 then aQ u (.c 1) else u)=v at b ⊢
 split
 ·trivial
 split
 ·exact⟨h.1,by show t.wd<=10000;omega⟩
 split
 ·exact⟨h.1,by show t.wd<=10000;omega⟩
 split
 ·split
  ·exact⟨b.1,by show v.wd<=10000;omega⟩
  trivial
 trivial
theorem tI {o:Int} {a b:T} (d:a.tsz<=5000/\a.wd<=4096) (e:b.tsz<=5000/\b.wd<=4096):(fd o a b).1.sm:=by
 have f:=ic b (-1);have c:(az b (-1)).wd<=4096:=ce e.2;unfold fd
 split
 ·split
  ·refine wu ⟨Dc (kH _ _) (by omega),Dc (eY (N:=8192) (by omega) (by omega) ?_) (by decide)⟩;have:=aA d.2;have:=aA c;omega
  trivial
 trivial
theorem rr {o:Int} {x y:E}:(ej o x y).sm:=by
 unfold ej
 repeat' split
 all_goals first | trivial | exact xz
theorem vi {l:List Vb} {o m:Int} {x y:E} (b:x.short 12=true) (c:y.short 12=true):(cG l o x y m).1.sm:=by
 have e:∀e:E,e.short 12=true->(ofE e).1.tsz<=5000/\(ofE e).1.wd<=4096:=fun e a=>⟨by have:=jA a;omega,by have:=(jZ a).1;omega⟩
 unfold cG
 split
 ·unfold ii
  split
  ·trivial
  exact xz
 split
 ·exact rr
 exact tI (e x b) (e y c)
theorem hJ {l:List Vb} {e:E} (h:bT l e=true):∀v∈ah e,inV l v:=by
 unfold bT at h
 split at h
 ·rename_i c;rw[Bool.or_eq_true] at c;rcases c with c | c
  ·cases e with
   | z o i v=>
    unfold E.nl at c;simp only[Bool.and_eq_true,decide_eq_true_eq] at c;obtain⟨rfl,_⟩:=c;intro u d;simp[ah] at d
   | a=>cases c
   | b=>cases c
   | many=>cases c
  cases e with
  | z o i v=>
   intro u d;unfold E.text at c;unfold ah at d
   split at d
   ·rename_i h2;dsimp only at c;rw[if_pos h2] at c;rw[CZ.1 d];exact cn c
   cases d
  | a=>cases c
  | b=>cases c
  | many=>cases c
 rw[Bool.and_eq_true] at h;exact im h.1
theorem mY {l:List Vb} {vs:List Int} (h:∀v∈vs,inV l v):(sc vs).length<=l.length:=by
 have d:∀(b:List Int) (a K:Int),Asc b->(∀x∈b,a<=x/\x<K)->(b.length:Int)<=max 0 (K - a):=by
  intro b
  induction b with
  | nil=>intro a K _ _;simp;omega
  | cons x b ih=>
   intro a K c e;rw[Asc,DJ] at c;have i:=e x (by simp);have:=ih (x+1) K c.2 (fun y f=>⟨by have:=c.1 y f;omega,(e y (by simp[f])).2⟩);simp only[Dj];omega
 have:=d (sc vs) 0 l.length (dn vs) (fun x g=>h x (aG.1 g));omega
theorem gW:∀ {d:Nat} {e:E},e.short d=true->e.short (d+1)=true
 | 0,e,h=>by cases e<;>cases h
 | d+1,.z ..,_=>rfl
 | d+1,.a _ _ _ x,h=>gW (d:=d) (e:=x) h
 | d+1,.b _ _ _ x y,h=>by
   simp only[E.short,Bool.and_eq_true] at h ⊢;exact⟨gW h.1,gW h.2⟩
 | d+1,.many ..,h=>by cases h
theorem rW {l:Bool} {p:Pa} {vs:List Int} (j:p.sm) (g:vs.length<=10):(kB l p vs).big 12:=by
 have i:∀kd (d:List Int),d.length<=10->(ay kd d).length<=10:=fun kd d h=>by simpa [ay] using h
 have c:∀kd d (a:Am),d.length<=10->a.t.tsz<=10000/\a.t.wd<=10000->∀k,(aN k (ay kd d++[.at a])).big 12:=fun kd d a n m k=>fN (fun f e=>by
  rcases CX.1 e with e | e
  ·exact eG f e
  rw[CZ.1 e];exact uz m) (by rw[CU];have:=i kd d n;simp;omega) (by decide) (by decide)
 unfold kB;cases l
 ·cases p with
  | kn b=>
   cases b
   ·exact eH false
   exact fN eG (by have:=i 1 vs g;omega) (by decide) (by decide)
  | am a=>exact c _ _ a (Dc (List.length_filter_le _ _) g) j _
 cases p with
 | kn b=>
  cases b
  ·exact fN eG (by have:=i 0 vs g;omega) (by decide) (by decide)
  exact eH true
 | am a=>exact c _ _ a g j _
theorem mi {k:Nat}:(F.nd 0 []).big k:=eH true
theorem jR {l:List Vb} (g:l.length<=10):∀(d:Nat) (e:E) (m:Int),ci l d e=true->(trE l e m).1.big (12*2^d)
 | 0,e,m,h=>by cases e<;>cases h
 | d+1,.z _ _ _,m,h=>by cases h
 | d+1,.many _ _ _,m,h=>by cases h
 | d+1,.a o i v x,m,h=>by
   have s:=Nat.one_le_two_pow (n:=d+1);have t:12<=12*2^(d+1):=by omega
   unfold ci at h;rw[Bool.and_eq_true] at h;unfold trE
   split
   ·rename_i ho;rw[if_pos ho] at h;exact(jR g d x (ngM m) h.2).mono (by rw[Nat.pow_succ];omega)
   rename_i ho;rw[if_neg ho,Bool.and_eq_true] at h;have r:(sc (ah x)).length<=10:=Dc (mY (hJ h.2.2)) g
   split
   ·exact eH _
   split
   ·exact(fN (k:=10) eG (by simpa [ay] using r) (by decide) (by decide)).mono (by omega)
   exact(fN (k:=10) eG (by simpa [ay] using r) (by decide) (by decide)).mono (by omega)
 | d+1,.b o i v x y,m,h=>by
   have s:=Nat.one_le_two_pow (n:=d+1);unfold ci at h;rw[Bool.and_eq_true] at h;have p:=h.1;replace h:=h.2;simp only[E.short,Bool.and_eq_true] at p;have up:∀ {e:E},e.short 11=true->e.short 12=true:=fun h=>gW h;unfold trE
   split
   ·rename_i ho;rw[if_pos ho,Bool.and_eq_true] at h;have w:=jR g d x m h.1;have A:=jR g d y m h.2
    split
    ·split
     ·refine(uy (k:=2) (fun f q=>?_) (by simp) (by decide)).mono (N:=2*(12*2^d)) (by rw[Nat.pow_succ];omega);simp only[Db,Dw,or_false] at q;rcases q with rfl | rfl
      ·exact w
      exact A
     exact mi
    exact mi
   rename_i ho;rw[if_neg ho] at h;unfold lG
   split
   ·exact eH _
   split
   ·refine(rW (vi (up p.1) (up p.2)) (Dc (mY fun u c=>?_) g)).mono (by omega);rcases CX.1 c with c | c
    ·split at h
     ·unfold cC at h;simp only[Bool.and_eq_true] at h;exact hJ h.1.1.1.1.2 u c
     simp only[Bool.and_eq_true] at h;exact hJ h.1.1.2 u c
    split at h
    ·unfold cC at h;simp only[Bool.and_eq_true] at h;cases y with
     | z o' i' v'=>
      have j:=h.1.1.1.2;have j:o'=1:=of_decide_eq_true j;subst j;simp[ah] at c
     | a=>simp[E.leaf] at h
     | b=>simp[E.leaf] at h
     | many=>simp[E.leaf] at h
    simp only[Bool.and_eq_true] at h;exact hJ h.1.2 u c
   exact mi
section
open Go.RowKit Go.Maps
def stF (n:Nat) (q:List Ax×List (Int×Int)) (p:Pt):List Ax×List (Int×Int):=
 if p.kd=1 then ((cE n q.1 ⟨⟨0,[]⟩,0,p.v⟩).1,q.2++[((cE n q.1 ⟨⟨0,[]⟩,0,p.v⟩).2,p.n)])
 else if p.kd=2 then ((cE n (bj n p.of q.1).1 ⟨(bj n p.of q.1).2,p.b,0⟩).1,q.2++[((cE n (bj n p.of q.1).1 ⟨(bj n p.of q.1).2,p.b,0⟩).2,p.n)])
 else (q.1,q.2++[(p.v,p.n)])
theorem iq (n:Nat):∀(t:T) (xs:List Ax) (s:List (Int×Int)),frm n t xs s=t.pts.foldl (stF n) (xs,s)
 | .c _,xs,s=>rfl
 | .p m kd v b of r,xs,s=>by
   simp only[frm,T.pts,List.foldl_cons,stF]
   split
   ·exact iq n r _ _
   split
   ·exact iq n r _ _
   exact iq n r _ _
theorem jf (n:Nat) (t:T) (xs:List Ax):bj n t xs=((t.pts.foldl (stF n) (xs,[])).1,⟨t.con,aO (t.pts.foldl (stF n) (xs,[])).2⟩):=by
 unfold bj;rw[iq]
theorem rO {n:Nat} {ps:List Pt} {j:Nat} {p:Pt} (h:ps[j]? =some p) (q:List Ax×List (Int×Int)):(ps.take (j+1)).foldl (stF n) q=stF n ((ps.take j).foldl (stF n) q) p:=by
 rw[Dq,h];simp[List.foldl_append]
theorem iH (n:Nat) (xs:List Ax) (x:Ax):(cE n xs x).1.length<=xs.length+1:=by
 unfold cE;dsimp only
 split<;>simp
theorem oI {n:Nat} {xs:List Ax} {x:Ax}:(n:Int)<=(cE n xs x).2/\(cE n xs x).2<=(n:Int)+(xs.length:Int):=by
 unfold cE;dsimp only;have:xs.idxOf x<=xs.length:=List.idxOf_le_length;omega
theorem ip (n:Nat):∀(t:T) (xs:List Ax) (s:List (Int×Int)),(frm n t xs s).1.length<=xs.length+t.tsz
 | .c _,xs,s=>by simp[frm,T.tsz]
 | .p m kd v b of r,xs,s=>by
   simp only[frm,T.tsz]
   split
   ·have a:=ip n r (cE n xs ⟨⟨0,[]⟩,0,v⟩).1 (s++[((cE n xs ⟨⟨0,[]⟩,0,v⟩).2,m)]);have d:=iH n xs ⟨⟨0,[]⟩,0,v⟩;omega
   split
   ·have e:=ip n of xs [];have a:=ip n r (cE n (frm n of xs []).1 ⟨⟨of.con,aO (frm n of xs []).2⟩,b,0⟩).1 (s++[((cE n (frm n of xs []).1 ⟨⟨of.con,aO (frm n of xs []).2⟩,b,0⟩).2,m)]);have d:=iH n (frm n of xs []).1 ⟨⟨of.con,aO (frm n of xs []).2⟩,b,0⟩;omega
   have a:=ip n r xs (s++[(v,m)]);omega
theorem ea (n:Nat) (t:T) (xs:List Ax):(bj n t xs).1.length<=xs.length+t.tsz:=ip n t xs []
theorem lI (s:List (Int×Int)):(aO s).length<=s.length:=by
 unfold aO;rw[Df];exact Dc (List.length_filter_le _ _) (Dc (gu _) (by simp))
theorem ki (n:Nat):∀(ps:List Pt) (q:List Ax×List (Int×Int)),(ps.foldl (stF n) q).2.length=q.2.length+ps.length
 | [],q=>rfl
 | p::ps,q=>by
   rw[List.foldl_cons,ki n ps];have:(stF n q p).2.length=q.2.length+1:=by
    unfold stF
    split
    ·simp
    split<;>simp
   rw[this,Dj];omega
theorem dL (n:Nat) (t:T) (xs:List Ax):(bj n t xs).2.cs.length<=t.pts.length:=by
 rw[jf];have h:=lI (t.pts.foldl (stF n) (xs,[])).2;rw[ki] at h;simpa using h
theorem mQ:∀(s:List (Int×Int)) (u m v:Int),bl (s++[(u,m)]) v=bl s v+(if u=v then m else 0)
 | [],u,m,v=>by simp[bl]
 | e::s,u,m,v=>by simp only[D3,bl,mQ s u m v];omega
theorem jT {M:Nat}:∀ {s:List (Int×Int)} (v:Int),(∀e∈s,e.2.natAbs<=M)->(bl s v).natAbs<=s.length*M
 | [],v,_=>by simp[bl]
 | e::s,v,h=>by
   have b:=jT (s:=s) v (fun x a=>h x (by simp[a]));have c:=h e (by simp);simp only[bl,Dj,Nat.add_mul]
   split<;>omega
theorem fg.nil:fg (.map []) []:=⟨fun v=>rfl,fun v=>by simp[Maps.has]⟩
theorem fg.put {D:DataW Unit} {s:List (Int×Int)} (h:fg D s) (a:IsMap D) (v m:Int):fg (D.put (.int .i64 v) (.lit (.int .i64 (bl s v+m)))) (s++[(v,m)]):=by
 have b:∀v:Int,WideAt.IsKeyLit (.int .i64 v):=fun v=>trivial;refine⟨fun u=>?_,fun u=>?_⟩
 ·rw[mQ];by_cases e:v=u
  ·subst e;rw[if_pos rfl,atKey_put_same a (b v)]
  rw[if_neg e,Int.add_zero,atKey_put_other (by simp;omega)];exact h.val u
 by_cases e:v=u
 ·subst e;rw[has_put_same a (b v)];simp
 rw[has_put_other (by simp;omega),h.key u];simp;omega
theorem iX {w d:World} {X:List Nat} {b n:Nat} {D:DataW Unit} (h:w.ownsMap Tryz.prog 3 (plainElem Tryz.prog 2) b n D) (j:ad X w d) (g:b∉X):d.ownsMap Tryz.prog 3 (plainElem Tryz.prog 2) b n D:=by
 have c:=h.lt;obtain⟨e,a,i,F,k,f⟩:=h;exact⟨e,a,(j.block b c g).trans i,F,k,f⟩
theorem j2 {w:World} {b n:Nat} {D:DataW Unit} (h:w.ownsMap Tryz.prog 3 (plainElem Tryz.prog 2) b n D) {t:TypeId} {cs:Array Value}:¬Blk w b t cs:=by
 obtain⟨e,a,d,_⟩:=h;intro c;rw[Blk,d] at c;cases c
theorem vF {w b:World} {T:List Nat} {a n:Nat} {D:DataW Unit} (h:w.ownsMap Tryz.prog 3 (plainElem Tryz.prog 2) a n D) (f:KT T w b):b.ownsMap Tryz.prog 3 (plainElem Tryz.prog 2) a n D:=by
 obtain⟨X,c,d⟩:=f;refine iX h c (fun g=>?_);obtain⟨t,cs,_,e⟩:=d a g;exact j2 h e
theorem KT.ext {T:List Nat} {w c b:World} {X:List Nat} (h:KT T w c) (g:ad X c b) (f:∀y∈X,w.heap.size<=y):KT T w b:=by
 obtain⟨Y,d,e⟩:=h;exact⟨Y,((d.mono (Y:=Y++X) (fun y a=>.inl (by simp[a]))).trans (g.mono (Y:=Y++X) (fun y a=>.inl (by simp[a])))).mono (fun y a=>(CX.1 a).imp id (fun h=>f y h)),e⟩
theorem af.cofs {d B1:Nat} {w:World} {A:Option Addr} {c:Nat} {L:List (Int×Int)} (h:af bh 2 215 (fun _=>False) d w A c L) (v:B1<=d):ag bh w (Cof B1 w) A L:=by
 have o:=fun g l=>h.typ (g:=g) l;obtain⟨⟨cs,a,f⟩,r,s⟩:=h;have m:=f.len;rw[bF aV] at m;refine⟨cs,⟨(dq a).1,fun i u j=>?_⟩,f.mono (fun g _ b=>b.1.elim)⟩;have n:0<L.length:=by
  have:=(CV.1 j).1;omega
 obtain⟨g,rfl⟩:=dW a n;obtain⟨q,p,e,_,b⟩:=dB a i u j;cases e;obtain⟨t,cs',k⟩:=o g rfl;exact⟨g,0,rfl,⟨by omega,cs',k⟩,b⟩
end
end Go.Proofs.YtldmkbhgdbafhaaGreat
