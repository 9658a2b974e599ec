import Derived.Test.YtldmkbhgdbafhaaGreatL15
namespace Go.Proofs.YtldmkbhgdbafhaaGreat
open Go.RowKit
set_option linter.unusedSimpArgs false
set_option linter.unusedVariables false
set_option maxRecDepth 100000
set_option maxHeartbeats 64000000
theorem lc (C:Nat->Prop) (t:T) (w:World) (A:Option Addr) (c:Nat) (f:t.ok) (d:Md t) (a:t.wd<=1000000) (i:TAt w C A t):
 Calls Tryz.prog 159 #[tmV t A c] w (RoP w (.bool (decide (Sm t)))):=by
  have g:Z (∀W,ad [] w W->Calls Tryz.prog 201 #[tmV t A c] W (RoP W (I (bdv t)))):=bZ (fun W p=>oE C t W A c f d (aA a) a (i.keep0 p));have j:Z (decide (bdv t<=1152921504606846976)=decide (Sm t)):=bZ (by
   unfold bdv;by_cases h:Sm t
   ·rw[if_pos h];exact decide_eq_decide.2 ⟨fun _=>h,fun _=>by have:=h.2.2;omega⟩
   rw[if_neg h];exact decide_eq_decide.2 ⟨fun h=>absurd h (by decide),fun m=>absurd m h⟩)
  rw[<-j.o];unfold tmV at g ⊢;have l:Z (ad [] w (w.alloc (.cells #[I t.con,.slice A t.pts.length c] 38))):=bZ ((ad.refl [] w).alloc _);generalize bdv t=b at*;generalize t.con=k at*;generalize t.pts.length=n at*;clear j i d f a;go_enter Tryz.func159,Tryz.ntmps159;go_wp2_with (go_at_call 201;refine(g.o _ l.o).mono ?_;rintro e r ⟨rfl,q⟩);go_ret;exact⟨rfl,bZ (l.o.trans q.o)⟩
theorem gi (C:Nat->Prop) (t:T) (w:World) (A:Option Addr) (c:Nat) (E:t.pts.length<=c/\c<=maxLen) (D:TAt w C A t) (j:Z (∀W,ad [] w W->Calls Tryz.prog 159 #[tmV t A c] W (RoP W (.bool (decide (Sm t)))))):
 Calls Tryz.prog 128 #[tmV t A c] w (TeP w C (al t)):=by
  obtain⟨s,m⟩:∃s,s=decide (Sm t):=⟨_,rfl⟩;rw[<-m] at j;have d:Z (∀W,ad [] w W->TeP w C (al t) (if s then .returned (.tuple #[.agg #[I t.con,.slice A t.pts.length c],I 0]) else .returned (.tuple #[.agg #[I 0,.slice none 0 0],I 3])) W):=bZ (fun W u=>by
   unfold al;by_cases h:Sm t
   ·rw[if_pos h,m,decide_eq_true h];exact⟨A,c,rfl,E.1,E.2,bZ (D.keep0 u),bZ u⟩
   rw[if_neg h,m,decide_eq_false h];exact⟨none,0,rfl,C9 _,by simp[maxLen],bZ (bH _ _ _ _ (fun a h=>by cases h)),bZ u⟩)
  unfold tmV at j ⊢;generalize t.pts.length=n at*;generalize t.con=k at*;have B:Z (Calls Tryz.prog 159 #[.agg #[I k,.slice A n c]] ((w.alloc (.cells #[I k,.slice A n c] 38)).alloc (.cells #[I 0,.slice none 0 0] 38)) fun e g=>e=.returned (.bool s)/\
   Z (ad [] w g)/\Z (Blk g w.heap.size 38 #[I k,.slice A n c])/\Z (Blk g (w.heap.size+1) 38 #[I 0,.slice none 0 0])):=bZ (by
   have F:=((ad.refl [] w).alloc (.cells #[I k,.slice A n c] 38)).alloc (.cells #[I 0,.slice none 0 0] 38)
   have f:=(Blk.new w 38 #[I k,.slice A n c]).alloc (.cells #[I 0,.slice none 0 0] 38)
   have b:=Blk.new (w.alloc (.cells #[I k,.slice A n c] 38)) 38 #[I 0,.slice none 0 0]
   have e:(w.alloc (.cells #[I k,.slice A n c] 38)).heap.size=w.heap.size+1:=by simp
   rw[e] at b
   refine(j.o _ F).mono (fun e g l=>?_)
   exact⟨l.1,bZ (F.trans l.2.o),bZ (f.keep l.2.o (by simp)),bZ (b.keep l.2.o (by simp))⟩)
  clear m D j;cases s
  ·go_enter Tryz.func128,Tryz.ntmps128;go_wp2_with (go_at_call 159;refine B.o.mono ?_;rintro e g ⟨rfl,z,f,b⟩;have J:=f.o.cell 0;have K:=f.o.cell 1;have y:=b.o.cell;have H:=b.o.frozen);have i:=(b.o.set_ 0 (I 0)).set_ 1 (.slice none 0 0);have q:=i.cell 0;have r:=i.cell 1;have x:=bZ ((z.o.setCell (p:=(U (w.heap.size+1) 0)) (.inr (by show w.heap.size<=w.heap.size+1;omega)) (I 0)).setCell (p:=(U (w.heap.size+1) 1)) (.inr (by show w.heap.size<=w.heap.size+1;omega)) (.slice none 0 0));refine bodyPost_ret (v:=.tuple #[.agg #[I 0,.slice none 0 0],I 3]) (by simp[results,Tryz.results128,go_sem,q,r]) rfl ?_;exact d.o _ x.o
  go_enter Tryz.func128,Tryz.ntmps128;go_wp2_with (go_at_call 159;refine B.o.mono ?_;rintro e g ⟨rfl,z,f,b⟩;have J:=f.o.cell 0;have K:=f.o.cell 1;have y:=b.o.cell;have H:=b.o.frozen);have i:=(b.o.set_ 0 (I k)).set_ 1 (.slice A n c);have q:=i.cell 0;have r:=i.cell 1;have x:=bZ ((z.o.setCell (p:=(U (w.heap.size+1) 0)) (.inr (by show w.heap.size<=w.heap.size+1;omega)) (I k)).setCell (p:=(U (w.heap.size+1) 1)) (.inr (by show w.heap.size<=w.heap.size+1;omega)) (.slice A n c));refine bodyPost_ret (v:=.tuple #[.agg #[I k,.slice A n c],I 0]) (by simp[results,Tryz.results128,go_sem,q,r]) rfl ?_;exact d.o _ x.o
theorem dY (C:Nat->Prop) (t:T) (w:World) (A:Option Addr) (c:Nat) (g:t.pts.length<=c/\c<=maxLen) (b:t.ok) (a:Md t) (d:t.wd<=1000000) (e:TAt w C A t):
 Calls Tryz.prog 128 #[tmV t A c] w (TeP w C (al t)):=
 gi C t w A c g e (bZ (fun W f=>lc C t W A c b a d (e.keep0 f)))
theorem gV {w:World} {C:Nat->Prop} {A:Option Addr} {t:T}:TAt w C A t↔ag Pt.tr w C A t.pts:=by unfold TAt ag;rw[T.tr_eq]
theorem bP.keep0 {w c:World} {C:Nat->Prop} {p:Pt} {a:Option Addr} {b:Nat} (h:bP w C p a b) (d:ad [] w c):bP c C p a b:=h.keep d (by simp)
def yK (w:World) (C:Nat->Prop) (L:List Pt) (e:Ending) (a:World):Prop:=∃A c,e=.returned (.slice A L.length c)/\L.length<=c/\c<=maxLen/\Z (ag Pt.tr a (fun g=>C g\/w.heap.size<=g) A L)/\Z (ad [] w a)
theorem iV {w:World} {f:Pt->Tr} {k:Nat} {e:TypeId} {a:Nat} {A:Option Addr} {c:Nat} {L:List Pt} {D:Nat->Prop} {g:Nat} (h:af f k e D a w A c L) (b:g<a):(Value.slice A L.length c).ownBlock≠some g:=fun e=>by have:=(h.own e).1;omega
theorem j7 (l:List Pt) (p:Pt):(bG l p).length<=l.length+1:=by
 induction l with
 | nil=>simp[bG]
 | cons x l ih=>
  unfold bG
  split
  ·split<;>simp<;>omega
  split
  ·simp
  simp only[Dj];omega
theorem rN (t:T) (p:Pt) (w:World) (A:Option Addr) (c:Nat) (q:Option Addr) (k i:Nat) (P:t.ok) (ac:t.wd<=1000000) (ab:p.ok) (b2:p.of.wd<=1000000) (ar:∀x∈t.pts,x.n.natAbs<=2305843009213693952) (au:p.n.natAbs<=2305843009213693952)
 (C:Nat->Prop) (hT:TAt w C A t) (bb:bP w C p q k) (b1:k<=i/\i<=maxLen):
 Calls Tryz.prog 204 #[.slice A t.pts.length c,.agg (ptV p q k i).toArray] w (yK w C (bG t.pts p)):=by
  obtain⟨n,hn⟩:∃n,n=t.pts.length:=⟨_,rfl⟩;have b0:=bZ hn;have d0:n<=1000000:=by rw[hn];exact aA ac
  rw[<-hn];rw[T.ok_iff] at P;rw[T.wd_iff] at ac;obtain⟨W0,a9⟩:∃W,W=w.alloc (.cells (ptV p q k i).toArray 221):=⟨_,rfl⟩;have k0:Z (ad [] w W0):=bZ (by rw[a9];exact(ad.refl [] w).alloc _);obtain⟨B,ax⟩:∃g,g=w.heap.size:=⟨_,rfl⟩;have bp:Z (Blk W0 B 221 (ptV p q k i).toArray):=bZ (by rw[a9,ax];exact Blk.new w 221 _);have bm:Z (TAt W0 (fun g=>C g/\g<W0.heap.size) A t):=bZ ((hT.keep0 k0.o).mono (fun g hg hc=>⟨hc,hg⟩));have a0:Z (k<=i/\i<=maxLen/\bP W0 (fun g=>C g/\g<W0.heap.size) p q k):=bZ ⟨b1.1,b1.2,(bb.keep0 k0.o).mono (fun g hg hc=>⟨hc,hg⟩)⟩;have b8:Z (∀W x d a xc,x∈t.pts->ad [] W0 W->bP W (fun g=>C g/\g<W0.heap.size) x d a->Calls Tryz.prog 158 #[.agg (ptV x d a xc).toArray,.agg (ptV p q k i).toArray] W (fa W (kc x p))):=bZ (fun W x d a xc hx hW am=>
   mf _ _ x p W d q a xc k i (P x hx).2 ab am (a0.o.2.2.keep0 hW) (fun h2 d1 W2 A2 c2 A3 c3 hk hT bk=>by
    have bq:x.of.ok:=by rcases(P x hx).2 with h | h;rw[h.2.2.2];trivial;exact h.2.2.2.2.2.1
    have br:p.of.ok:=by rcases ab with h | h;rw[h.2.2.2];trivial;exact h.2.2.2.2.2.1
    exact ur _ _ x.of p.of W2 A2 c2 A3 c3 bq br (aA (ac.2 x hx)) (aA b2) (ac.2 x hx) b2 hT bk))
  have ao:Z (∀(L:List Pt) vA vc wr,af Pt.tr 5 221 (fun g=>C g/\g<W0.heap.size) W0.heap.size wr vA vc L->ad [] W0 wr->L=bG t.pts p->yK w C (bG t.pts p) (.returned (.slice vA L.length vc)) wr):=bZ (fun L vA vc wr hG R hL=>by
   subst hL;exact⟨vA,vc,rfl,hG.mc,hG.cm,bZ (hG.rows.mono (fun g _ h=>h.elim (fun h=>.inl h.1) (fun h=>.inr (Dc k0.o.size h)))),bZ (k0.o.trans R)⟩)
  have bn:=j7 t.pts p;rw[<-hn] at bn;replace ar:=bZ ar;replace au:=bZ au;replace P:=bZ P;unfold ptV at a9 b8 bp ⊢;clear hT bb b1 ab b2 ac hn;go_enter Tryz.func204,Tryz.ntmps204;go_wp2_with fail;rw[<-a9,<-ax];clear a9 ax;go_loopw [5,6,7] (fun s5 s6 s7 wr=>∃(j:Nat) (b:Bool) (O:List Pt) (vA:Option Addr) (vc:Nat),j<=n/\s5=.slice vA O.length vc/\s6=.bool b/\s7=I j/\O.length<=j+b.toNat/\Z (O++(if b then t.pts.drop j else bG (t.pts.drop j) p)=bG t.pts p)/\Z (af Pt.tr 5 221 (fun g=>C g/\g<W0.heap.size) W0.heap.size wr vA vc O)/\Z (ad [] W0 wr)) (fun _ _ s7 _=>n - (intOf s7).toNat)
  case atStart=>exact⟨0,false,[],none,0,C3 _,rfl,rfl,rfl,C3 _,bZ (by simp),bZ af.nil,bZ (ad.refl _ _)⟩
  obtain⟨j,b,O,vA,vc,hj,rfl,rfl,rfl,N,hO,hG,R⟩:=hrel;obtain⟨r,bt⟩:∃x,x=wr:=⟨_,rfl⟩;subst bt;have y0:=(bp.o.keep R.o (by simp)).cell;have lp:=(bp.o.keep R.o (by simp)).lt;by_cases bo:j<n
  ·obtain⟨x,hx⟩:=aI (l:=t.pts) (j:=j) (by rw[<-b0.o];exact bo);obtain⟨g,E,d,a,xc,rfl,b7,hg,c0,c1,c2,c3,c4,b3,b4,am⟩:=(bm.o.keep0 R.o).get hx;have hC:g<W0.heap.size:=b7.2;clear b7;have ak:=CW hx;have m:Z (a<=xc/\xc<=maxLen/\bP r (fun g=>C g/\g<W0.heap.size) x d a):=bZ ⟨b3,b4,am⟩;have a4:Z (k<=i/\i<=maxLen/\bP r (fun g=>C g/\g<W0.heap.size) p q k):=bZ ⟨a0.o.1,a0.o.2.1,a0.o.2.2.keep0 R.o⟩;have d2:(j:Int)<(n:Int):=by omega
   have wj:IntKind.i64.wrap ((j:Int)+1)=(j:Int)+1:=C0 _ (by omega);have av:Z (t.pts.drop j=x::t.pts.drop (j+1)):=bZ (cW hx);cases b with
   | true=>
    replace N:O.length<=j+1:=N;have D:Z ((O++[x])++t.pts.drop (j+1)=bG t.pts p):=bZ (by rw[Dd,<-hO.o,if_pos rfl,av.o];rfl);clear y0 lp hx ak am b3 b4;go_wp2_with (at_builtin;refine aw (f:=Pt.tr) (W0:=W0) (X:=[]) (by rfl) (.tmp 49) (.tmp 54) 36 rfl 56 _ Tryz.underlying36 dO rfl (by decide) (L:=O) x (hG.o.keep0 ((ad.refl [] r).alloc (.cells #[I x.n,I x.kd,I x.v,I x.b,.slice d a xc] 221))) (R.o.alloc (.cells #[I x.n,I x.kd,I x.v,I x.b,.slice d a xc] 221)) rfl (V r.heap.size) 1 (ptV x d a xc) rfl rfl (aF) (bL.2 ⟨d,a,xc,rfl,m.o.1,m.o.2.1,(m.o.2.2.keep0 ((ad.refl [] r).alloc (.cells #[I x.n,I x.kd,I x.v,I x.b,.slice d a xc] 221))).mono (fun g _ h=>⟨h,iV hG.o h.2⟩)⟩) (by omega) (by unfold maxLen;omega) ?_;intro cl cs w1 bx bz d6);go_roundw
    case rel=>exact⟨j+1,true,O++[x],cl,cs,by omega,by simp,rfl,by go_num,(by simp[Bool.toNat];omega),D,bx,bz⟩
    case measure=>simp[intOf];omega
   | false=>
    replace N:O.length<=j:=N;have a3:=bZ (b8.o r.drew x d a xc ak (R.o.drew) (m.o.2.2.keep0 (ad.refl [] r).drew));unfold ptV fa at a3;have a5:Z (O++bG (x::t.pts.drop (j+1)) p=bG t.pts p):=bZ (by rw[<-hO.o,av.o];rfl);obtain⟨s,hs⟩:∃s,s=kc x p:=⟨_,rfl⟩;rw[<-hs] at a3;replace hs:=bZ hs;have p0:r.cell? (U B 0)=some (I p.n):=y0 0;have p1:r.cell? (U B 1)=some (I p.kd):=y0 1;have p2:r.cell? (U B 2)=some (I p.v):=y0 2;have p3:r.cell? (U B 3)=some (I p.b):=y0 3;have p4:r.cell? (U B 4)=G q k i:=y0 4;have aq:Z (∀W',ad [] r W'->(fun F:World=>(F.cell? (U g (E+j*5))=some (I x.n)/\F.cell? (U g (E+j*5+1))=some (I x.kd)/\F.cell? (U g (E+j*5+2))=some (I x.v)/\F.cell? (U g (E+j*5+3))=some (I x.b)/\F.cell? (U g (E+j*5+4))=G d a xc)/\F.cell? (U B 0)=some (I p.n)/\F.cell? (U B 1)=some (I p.kd)/\F.cell? (U B 2)=some (I p.v)/\F.cell? (U B 3)=some (I p.b)/\F.cell? (U B 4)=G q k i) W'):=bZ (fun W' h=>⟨⟨h.cellEq c0 (by simp),h.cellEq c1 (by simp),h.cellEq c2 (by simp),h.cellEq c3 (by simp),h.cellEq c4 (by simp)⟩,h.cellEq p0 (by simp),h.cellEq p1 (by simp),h.cellEq p2 (by simp),h.cellEq p3 (by simp),h.cellEq p4 (by simp)⟩);have d3:=ar.o x ak;clear hx am b3 b4 y0 av hO;go_wp2_with fail;clear c0 c1 c2 c3 c4 p0 p1 p2 p3 p4;refine ae (S:=(fun F=>(F.cell? (U g (E+j*5))=some (I x.n)/\F.cell? (U g (E+j*5+1))=some (I x.kd)/\F.cell? (U g (E+j*5+2))=some (I x.v)/\F.cell? (U g (E+j*5+3))=some (I x.b)/\F.cell? (U g (E+j*5+4))=G d a xc)/\F.cell? (U B 0)=some (I p.n)/\F.cell? (U B 1)=some (I p.kd)/\F.cell? (U B 2)=some (I p.v)/\F.cell? (U B 3)=some (I p.b)/\F.cell? (U B 4)=G q k i)) (n:=5) (by kernel_rfl) ?_;have HS:=aq.o r.drew (ad.refl [] r).drew
    try dsimp only at HS
    refine ord [0,1,2,3,4] ?_
    iterate 5 (refine tq HS ?_;try simp only[PT,Y1,Y2,Y3])
    refine aB ?_;refine J1 5 fun K R=>?_;dsimp only[Y1,Y2,Y3];go_simp;refine a3.o.mono ?_;rintro e u ⟨rfl,k5⟩;replace k5:=bZ ((ad.refl [] r).drew.trans k5.o);refine R _ _ (.inl (by omega)) ?_;clear R K
    try simp only[PT,Y1,Y2,Y3]
    refine JQ 6 ?_
    try simp only[PT,Y1,Y2,Y3]
    refine JD ?_;clear HS a3;have b9:=aq.o u k5.o
    try dsimp only at b9
    obtain⟨⟨c0,c1,c2,c3,c4⟩,p0,p1,p2,p3,p4⟩:=b9;have J:=bZ (hG.o.keep0 k5.o);have an:=bZ (R.o.trans k5.o);have a2:Z (a<=xc/\xc<=maxLen/\bP u (fun g=>C g/\g<W0.heap.size) x d a):=bZ ⟨m.o.1,m.o.2.1,m.o.2.2.keep0 k5.o⟩;have a1:Z (k<=i/\i<=maxLen/\bP u (fun g=>C g/\g<W0.heap.size) p q k):=bZ ⟨a4.o.1,a4.o.2.1,a4.o.2.2.keep0 k5.o⟩;have d4:g<u.heap.size:=block_lt_of_cell c0;have d5:B<u.heap.size:=block_lt_of_cell p0;clear hG R m a4 lp hg aq;by_cases h0:s=0
    ·have bs:(s==0)=true:=by rw[h0];rfl
     have bc:wrap64 (x.n+p.n)=x.n+p.n:=IntWalk.wrap64_in _ (by have:=au.o;omega);have ba:Z (kc x p=0):=bZ (by rw[<-hs.o];exact h0);obtain⟨z,hz⟩:∃z,z=x.wn (x.n+p.n):=⟨_,rfl⟩;have z0:x.n+p.n=z.n:=by rw[hz];rfl
     have z1:x.kd=z.kd:=by rw[hz];rfl
     have z2:x.v=z.v:=by rw[hz];rfl
     have z3:x.b=z.b:=by rw[hz];rfl
     have H:Z (a<=xc/\xc<=maxLen/\bP u (fun g=>C g/\g<W0.heap.size) z d a):=bZ (by rw[hz];exact a2.o);by_cases Q:z.n=0
     ·have bu:(z.n !=0)=false:=by simp[Q]
      have D:Z (O++t.pts.drop (j+1)=bG t.pts p):=bZ (by
       rw[<-a5.o];show _=O++(if kc x p=0 then (if x.n+p.n=0 then _ else _) else _);rw[if_pos ba.o,if_pos (by rw[z0];exact Q)])
      rw[z1] at c1;rw[z2] at c2;rw[z3] at c3;rw[z0] at bc;have bd:=bZ (J.o.keep0 ((ad.refl [] u).alloc (.cells #[I z.n,I z.kd,I z.v,I z.b,.slice d a xc] 221)));have bf:=bZ (an.o.alloc (.cells #[I z.n,I z.kd,I z.v,I z.b,.slice d a xc] 221));replace hz:=bZ hz;replace Q:=bZ Q;clear z1 z2 z3 h0;go_wp2_with fail;go_roundw
      case rel=>exact⟨j+1,true,O,vA,vc,by omega,rfl,rfl,by go_num,(by simp[Bool.toNat];omega),D,bd,bf⟩
      case measure=>simp[intOf];omega
     have bu:(z.n !=0)=true:=by rw[bne_iff_ne];exact Q
     have D:Z ((O++[z])++t.pts.drop (j+1)=bG t.pts p):=bZ (by
      rw[<-a5.o,Dd,hz];show _=O++(if kc x p=0 then (if x.n+p.n=0 then _ else _) else _);rw[if_pos ba.o,if_neg (by rw[z0];exact Q)];rfl)
     rw[z1] at c1;rw[z2] at c2;rw[z3] at c3;rw[z0] at bc;have M:=bZ ((ad.refl [] u).alloc (.cells #[I z.n,I z.kd,I z.v,I z.b,.slice d a xc] 221));replace hz:=bZ hz;replace Q:=bZ Q;clear z1 z2 z3 h0;go_wp2_with (at_builtin;refine aw (f:=Pt.tr) (W0:=W0) (X:=[]) (by rfl) (.tmp 39) (.tmp 41) 36 rfl 56 _ Tryz.underlying36 dO rfl (by decide) (L:=O) z ((J.o.keep0 M.o).keep0 ((ad.refl [] (u.alloc (.cells #[I z.n,I z.kd,I z.v,I z.b,.slice d a xc] 221))).alloc (.cells #[I z.n,I z.kd,I z.v,I z.b,.slice d a xc] 221))) ((an.o.alloc (.cells #[I z.n,I z.kd,I z.v,I z.b,.slice d a xc] 221)).alloc (.cells #[I z.n,I z.kd,I z.v,I z.b,.slice d a xc] 221)) rfl (V (u.heap.size+1)) 1 (ptV z d a xc) rfl rfl (dA _ _ _ _ _) (bL.2 ⟨d,a,xc,rfl,(⟨H.o.1,H.o.2.1,H.o.2.2.keep0 M.o⟩:a<=xc/\xc<=maxLen/\bP (u.alloc (.cells #[I z.n,I z.kd,I z.v,I z.b,.slice d a xc] 221)) (fun g=>C g/\g<W0.heap.size) z d a).1,(⟨H.o.1,H.o.2.1,H.o.2.2.keep0 M.o⟩:a<=xc/\xc<=maxLen/\bP (u.alloc (.cells #[I z.n,I z.kd,I z.v,I z.b,.slice d a xc] 221)) (fun g=>C g/\g<W0.heap.size) z d a).2.1,((⟨H.o.1,H.o.2.1,H.o.2.2.keep0 M.o⟩:a<=xc/\xc<=maxLen/\bP (u.alloc (.cells #[I z.n,I z.kd,I z.v,I z.b,.slice d a xc] 221)) (fun g=>C g/\g<W0.heap.size) z d a).2.2.keep0 ((ad.refl [] (u.alloc (.cells #[I z.n,I z.kd,I z.v,I z.b,.slice d a xc] 221))).alloc (.cells #[I z.n,I z.kd,I z.v,I z.b,.slice d a xc] 221))).mono (fun g _ h=>⟨h,iV (J.o.keep0 M.o) h.2⟩)⟩) (by omega) (by unfold maxLen;omega) ?_;intro cp cu w3 c7 c8 d9);go_roundw
     case rel=>exact⟨j+1,true,O++[z],cp,cu,by omega,by simp,rfl,by go_num,(by simp[Bool.toNat];omega),D,c7,c8⟩
     case measure=>simp[intOf];omega
    have bs:(s==0)=false:=beq_false_of_ne h0;by_cases h1:0<s
    ·have D:Z (((O++[p])++[x])++t.pts.drop (j+1)=bG t.pts p):=bZ (by
      rw[<-a5.o,Dd,Dd];show _=O++(if kc x p=0 then _ else if 0<kc x p then _ else _);have:=hs.o;rw[if_neg (by omega),if_pos (by omega)];rfl)
     clear h0 ak;go_upto_region 18 with (at_builtin;refine aw (f:=Pt.tr) (W0:=W0) (X:=[]) (by rfl) (.tmp 45) (.tmp 47) 36 rfl 56 _ Tryz.underlying36 dO rfl (by decide) (L:=O) p (J.o.keep0 ((ad.refl [] u).alloc (.cells #[I p.n,I p.kd,I p.v,I p.b,.slice q k i] 221))) (an.o.alloc (.cells #[I p.n,I p.kd,I p.v,I p.b,.slice q k i] 221)) rfl (V u.heap.size) 1 (ptV p q k i) rfl rfl (aF) (bL.2 ⟨q,k,i,rfl,a1.o.1,a1.o.2.1,(a1.o.2.2.keep0 ((ad.refl [] u).alloc (.cells #[I p.n,I p.kd,I p.v,I p.b,.slice q k i] 221))).mono (fun g _ h=>⟨h,iV J.o h.2⟩)⟩) (by omega) (by unfold maxLen;omega) ?_;intro dk dr w4 b6 ca c9);obtain⟨O4,ap⟩:∃L,L=O++[p]:=⟨_,rfl⟩;have e4:O.length+1=O4.length:=by rw[ap];simp
     rw[e4];rw[<-ap] at b6 D;have cy:O4.length<=j+1:=by omega
     clear e4 ap;obtain⟨Y,kY,hY⟩:=pG (J.o.keep0 ((ad.refl [] u).alloc (.cells #[I p.n,I p.kd,I p.v,I p.b,.slice q k i] 221))) c9.o;have a6:ad Y u w4:=((ad.refl [] u).alloc (.cells #[I p.n,I p.kd,I p.v,I p.b,.slice q k i] 221)).nil.trans kY;have aa:g∉Y:=fun hm=>by have:=hY g hm;omega
     replace c0:=a6.cellEq c0 aa;replace c1:=a6.cellEq c1 aa;replace c2:=a6.cellEq c2 aa;replace c3:=a6.cellEq c3 aa;replace c4:=a6.cellEq c4 aa;have b5:Z (a<=xc/\xc<=maxLen/\bP w4 (fun g=>C g/\g<W0.heap.size) x d a):=bZ ⟨a2.o.1,a2.o.2.1,a2.o.2.2.keep a6 (fun y hy h=>by have:=hY y hy;have:=h.2;omega)⟩;have lq:g<w4.heap.size:=block_lt_of_cell c0;clear p0 p1 p2 p3 p4;go_wp2_with (at_builtin;refine aw (f:=Pt.tr) (W0:=W0) (X:=[]) (by rfl) (.tmp 49) (.tmp 54) 36 rfl 56 _ Tryz.underlying36 dO rfl (by decide) (L:=O4) x (b6.o.keep0 ((ad.refl [] w4).alloc (.cells #[I x.n,I x.kd,I x.v,I x.b,.slice d a xc] 221))) (ca.o.alloc (.cells #[I x.n,I x.kd,I x.v,I x.b,.slice d a xc] 221)) rfl (V w4.heap.size) 1 (ptV x d a xc) rfl rfl (aF) (bL.2 ⟨d,a,xc,rfl,b5.o.1,b5.o.2.1,(b5.o.2.2.keep0 ((ad.refl [] w4).alloc (.cells #[I x.n,I x.kd,I x.v,I x.b,.slice d a xc] 221))).mono (fun g _ h=>⟨h,iV b6.o h.2⟩)⟩) (by omega) (by unfold maxLen;omega) ?_;intro cq cv w6 cb cc dc);go_roundw
     case rel=>exact⟨j+1,true,O4++[x],cq,cv,by omega,by simp,rfl,by go_num,(by simp[Bool.toNat];omega),D,cb,cc⟩
     case measure=>simp[intOf];omega
    have D:Z ((O++[x])++bG (t.pts.drop (j+1)) p=bG t.pts p):=bZ (by
     rw[Dd,<-a5.o];show O++(x::bG _ p)=O++(if kc x p=0 then _ else if 0<kc x p then _ else _);have:=hs.o;rw[if_neg (by omega),if_neg (by omega)])
    clear h0 ak;go_wp2_with (at_builtin;refine aw (f:=Pt.tr) (W0:=W0) (X:=[]) (by rfl) (.tmp 49) (.tmp 54) 36 rfl 56 _ Tryz.underlying36 dO rfl (by decide) (L:=O) x (J.o.keep0 ((ad.refl [] u).alloc (.cells #[I x.n,I x.kd,I x.v,I x.b,.slice d a xc] 221))) (an.o.alloc (.cells #[I x.n,I x.kd,I x.v,I x.b,.slice d a xc] 221)) rfl (V u.heap.size) 1 (ptV x d a xc) rfl rfl (aF) (bL.2 ⟨d,a,xc,rfl,a2.o.1,a2.o.2.1,(a2.o.2.2.keep0 ((ad.refl [] u).alloc (.cells #[I x.n,I x.kd,I x.v,I x.b,.slice d a xc] 221))).mono (fun g _ h=>⟨h,iV J.o h.2⟩)⟩) (by omega) (by unfold maxLen;omega) ?_;intro co ct w2 c5 c6 d8);go_roundw
    case rel=>exact⟨j+1,false,O++[x],co,ct,by omega,by simp,rfl,by go_num,(by simp[Bool.toNat];omega),D,c5,c6⟩
    case measure=>simp[intOf];omega
  obtain rfl:j=n:=by omega
  cases b with
  | true=>
   replace N:O.length<=j+1:=N;have hr:=ao.o O vA vc r hG.o R.o (by
    have:=hO.o;rw[if_pos rfl,DB (by rw[<-b0.o];exact C9 _),DA] at this;exact this)
   replace hr:=bZ hr;go_wp2_with fail;go_ret;exact hr.o
  | false=>
   replace N:O.length<=j:=N;have a5:Z (O++[p]=bG t.pts p):=bZ (by
    have:=hO.o;rw[if_neg (by decide),DB (by rw[<-b0.o];exact C9 _)] at this;exact this)
   have a1:Z (k<=i/\i<=maxLen/\bP r (fun g=>C g/\g<W0.heap.size) p q k):=bZ ⟨a0.o.1,a0.o.2.1,a0.o.2.2.keep0 R.o⟩;have p0:r.cell? (U B 0)=some (I p.n):=y0 0;have p1:r.cell? (U B 1)=some (I p.kd):=y0 1;have p2:r.cell? (U B 2)=some (I p.v):=y0 2;have p3:r.cell? (U B 3)=some (I p.b):=y0 3;have p4:r.cell? (U B 4)=G q k i:=y0 4;clear y0;go_wp2_with (at_builtin;refine aw (f:=Pt.tr) (W0:=W0) (X:=[]) (by rfl) (.tmp 58) (.tmp 60) 36 rfl 56 _ Tryz.underlying36 dO rfl (by decide) (L:=O) p (hG.o.keep0 ((ad.refl [] r).alloc (.cells #[I p.n,I p.kd,I p.v,I p.b,.slice q k i] 221))) (R.o.alloc (.cells #[I p.n,I p.kd,I p.v,I p.b,.slice q k i] 221)) rfl (V r.heap.size) 1 (ptV p q k i) rfl rfl (aF) (bL.2 ⟨q,k,i,rfl,a1.o.1,a1.o.2.1,(a1.o.2.2.keep0 ((ad.refl [] r).alloc (.cells #[I p.n,I p.kd,I p.v,I p.b,.slice q k i] 221))).mono (fun g _ h=>⟨h,iV hG.o h.2⟩)⟩) (by omega) (by unfold maxLen;omega) ?_;intro cr cx w7 cd ck df);have hr:=ao.o (O++[p]) cr cx w7 cd.o ck.o a5.o;have e:(O++[p]).length=O.length+1:=by simp
   rw[e] at hr;replace hr:=bZ hr;go_ret;exact hr.o
theorem xj {p q:Pt} (h:kc p q=0) (a:p.ok):q.ok:=by rw[fo h];exact a
theorem lE {p:Pt} {M:Nat}:∀ {l:List Pt},(∀x∈l,x.n.natAbs<=M)->∀q∈bG l p,q.n.natAbs<=M+p.n.natAbs
 | [],_,q,a=>by simp only[bG,CZ] at a;subst a;omega
 | x::l,h,q,a=>by
   have d:=h x (by simp);have b:∀y∈l,y.n.natAbs<=M:=fun y c=>h y (by simp[c]);unfold bG at a
   split at a
   ·split at a
    ·have:=b q a;omega
    rcases Db.1 a with rfl | a
    ·show (x.n+p.n).natAbs<=_;omega
    have:=b q a;omega
   split at a
   ·rcases Db.1 a with rfl | a
    ·omega
    have:=h q a;omega
   rcases Db.1 a with rfl | a
   ·omega
   exact lE b q a
structure jv (a b:T) (j:Nat) (L:List Pt):Prop where
 eq:L=(b.pts.take j).foldl bG a.pts
 ok:∀x∈L,x.n≠0/\x.ok
 co:∀x∈L,x.n.natAbs<=1048576*(j+1)
 wd:∀x∈L,x.of.wd<=10000
 len:L.length<=a.pts.length+j
theorem jv.nil {a b:T} (c:Nm a) (d:a.wd<=10000):jv a b 0 a.pts:=
 ⟨by simp,T.ok_iff.1 c.1,fun x e=>by have:=c.2.1.2.1 x e;omega,(T.wd_iff.1 d).2,by omega⟩
theorem jv.step {a b:T} {j:Nat} {L:List Pt} {p:Pt} (h:jv a b j L) (l:b.pts[j]? =some p) (i:Nm b) (m:b.wd<=10000):jv a b (j+1) (bG L p):=by
 have f:=CW l;have k:=T.ok_iff.1 i.1 p f;have o:=i.2.1.2.1 p f;have g:=(T.wd_iff.1 m).2 p f;refine⟨by rw[Dq,l,List.foldl_append,<-h.eq];rfl,fun x d=>⟨mt (fun y n=>(h.ok y n).1) k.1 x d,?_⟩,fun x d=>?_,fun x d=>?_,?_⟩
 ·rcases io d with ⟨y,e,c⟩ | c
  ·exact xj c (h.ok y e).2
  exact xj c k.2
 ·have:=lE h.co x d;omega
 ·rcases io d with ⟨y,e,c⟩ | c
  ·rw[<-(fb.1 c).2.2.2];exact h.wd y e
  rw[<-(fb.1 c).2.2.2];exact g
 have:=j7 L p;have:=h.len;omega
theorem jv.tok {a b:T} {j:Nat} {L:List Pt} {k:Int} (h:jv a b j L) (d:j<=10000) (e:a.pts.length<=10000):(T.mk L k).ok/\(T.mk L k).wd<=20000:=by
 rw[T.ok_iff,T.wd_iff,T.mk_pts];exact⟨h.ok,by have:=h.len;omega,fun x c=>by have:=h.wd x c;omega⟩
theorem vd (C:Nat->Prop) (a b:T) (w:World) (A:Option Addr) (c:Nat) (B:Option Addr) (d:Nat) (M:Nm a) (s:Nm b) (an:a.wd<=10000) (Y:b.wd<=10000) (hA:TAt w C A a) (hB:TAt w C B b) (a4:a.pts.length<=c/\c<=maxLen):
 Calls Tryz.prog 164 #[tmV a A c,tmV b B d] w (TeP w (fun g=>C g\/w.heap.size<=g) (al (aQ a b))):=by
  obtain⟨n,hn⟩:∃n,n=a.pts.length:=⟨_,rfl⟩;obtain⟨m,hm⟩:∃m,m=b.pts.length:=⟨_,rfl⟩;obtain⟨F,a5⟩:∃k,k=a.con:=⟨_,rfl⟩;obtain⟨H,a6⟩:∃k,k=b.con:=⟨_,rfl⟩;have a1:n<=10000:=by rw[hn];exact aA an
  have bu:m<=10000:=by rw[hm];exact aA Y
  have bd:IntKind.i64.wrap (F+H)=F+H:=C0 _ (by have h1:=M.2.1.1;have h2:=s.2.1.1;omega);have bt: -2199023255552<=F+H/\F+H<=2199023255552:=by have h1:=M.2.1.1;have h2:=s.2.1.1;omega
  obtain⟨r,hr⟩:∃r,r=al (aQ a b):=⟨_,rfl⟩;rw[<-hr];unfold tmV;rw[<-hn,<-hm,<-a5,<-a6];rw[<-hn] at a4;obtain⟨W0,aq,t1,t2,t3,t4,k0,bn⟩:=nT w 38 #[I F,.slice A n c] #[I H,.slice B m d] #[I 0,.slice none 0 0] #[I (F+H),.slice A n c];obtain⟨ga,aa⟩:∃g,g=w.heap.size:=⟨_,rfl⟩;obtain⟨gb,ab⟩:∃g,g=w.heap.size+1:=⟨_,rfl⟩;obtain⟨J,ac⟩:∃g,g=w.heap.size+1+1:=⟨_,rfl⟩;obtain⟨q,a9⟩:∃g,g=w.heap.size+1+1+1:=⟨_,rfl⟩;rw[<-aa] at t1;rw[<-ab] at t2;rw[<-ac] at t3;rw[<-a9] at t4;have u:Z (w.heap.size<=gb/\w.heap.size<=J/\w.heap.size<=q/\gb≠q/\J≠q/\q<W0.heap.size/\J<W0.heap.size/\gb<W0.heap.size):=bZ (by omega);have b6:Z (ag Pt.tr W0 (fun g=>(C g\/w.heap.size<=g)/\g≠q/\g≠J) A a.pts):=bZ (gV.1 ((hA.mono (D:=fun g=>(C g\/w.heap.size<=g)/\g≠q/\g≠J) (fun g hg hc=>⟨.inl hc,by omega,by omega⟩)).keep0 k0));have b7:Z (TAt W0 (fun g=>C g/\g<w.heap.size) B b):=bZ ((hB.mono (D:=fun g=>C g/\g<w.heap.size) (fun g hg hc=>⟨hc,hg⟩)).keep0 k0);have b9:Z (jv a b 0 a.pts):=bZ (jv.nil M an);have P:=bZ hn;have bm:=bZ hm;have am:=bZ (fun j L p (h:jv a b j L) (t:b.pts[j]? =some p)=>h.step t s Y);have b3:Z (∀p∈b.pts,p.ok/\p.of.wd<=1000000/\p.n.natAbs<=1048576):=bZ (fun p t=>⟨(T.ok_iff.1 s.1 p t).2,by have:=(T.wd_iff.1 Y).2 p t;omega,s.2.1.2.1 p t⟩);have ar:Z (∀L,jv a b m L->T.mk L (F+H)=aQ a b):=bZ (fun L h=>by
   have:=h.eq;rw[hm,List.take_length,vU M.2.2 s.2.2 (fun p t=>(T.ok_iff.1 M.1 p t).1) (fun p t=>(T.ok_iff.1 s.1 p t).1)] at this;rw[this,a5,a6];rfl)
  have b4:=bZ k0;replace t2:=bZ t2;replace t3:=bZ t3;replace t4:=bZ t4;replace hr:=bZ hr;clear hn hm a5 a6 M s an Y hA hB t1 k0 bn;go_enter Tryz.func164,Tryz.ntmps164;go_wp2_with fail;rw[<-aq,<-a9,<-ac,<-ab,<-aa];clear aq aa ab ac a9 bd;go_loopw [7] (fun i wr=>∃(j:Nat) (L:List Pt) (Q:Option Addr) (N:Nat),j<=m/\i=I j/\L.length<=N/\N<=maxLen/\L.length<=n+j/\Z (jv a b j L)/\Z (Blk wr q 38 #[I (F+H),.slice Q L.length N])/\Z (ag Pt.tr wr (fun g=>(C g\/w.heap.size<=g)/\g≠q/\g≠J) Q L)/\Z (ad [q] W0 wr)) (fun i _=>m - (intOf i).toNat)
  case atStart=>exact⟨0,a.pts,A,c,C3 _,rfl,by rw[<-P.o];exact a4.1,a4.2,by rw[<-P.o];omega,b9,by rw[<-P.o];exact t4,b6,bZ (ad.refl _ _)⟩
  obtain⟨j,L,Q,N,hj,rfl,bo,bp,bx,hR,O,a0,X⟩:=hrel;obtain⟨E,bq⟩:∃x,x=wr:=⟨_,rfl⟩;subst bq;have bb:=bZ (t2.o.keep X.o (by rw[CZ];exact u.o.2.2.2.1));have br:=bZ (t3.o.keep X.o (by rw[CZ];exact u.o.2.2.2.2.1));by_cases bk:j<m
  ·obtain⟨p,t⟩:=aI (l:=b.pts) (j:=j) (by rw[<-bm.o];exact bk);obtain⟨g,f,oA,on,oc,rfl,hC,hg,c0,c1,c2,c3,c4,av,ax,b0⟩:=(b7.o.keep X.o (fun y hy h=>by have h:=h.2;rw[CZ.1 hy] at h;have:=u.o;omega)).get t;have b2:=CW t;have c6:(j:Int)<(m:Int):=by omega
   have wj:IntKind.i64.wrap ((j:Int)+1)=(j:Int)+1:=C0 _ (by omega);have bc:=bZ (am.o j L p hR.o t);have e1:E.cell? (U q 1)=G Q L.length N:=O.o.cell 1;have b1:E.cell? (U gb 1)=G (some (U g f)) m d:=bb.o.cell 1;have a2:bP E (fun g=>(C g\/w.heap.size<=g)/\g≠q/\g≠J) p oA on:=b0.mono (fun g _ (h:C g/\g<w.heap.size)=>⟨.inl h.1,by have:=h.2;have:=u.o;omega,by have:=h.2;have:=u.o;omega⟩);have a3:Z (Calls Tryz.prog 204 #[.slice Q L.length N,.agg (ptV p oA on oc).toArray] E.drew (yK E.drew (fun g=>(C g\/w.heap.size<=g)/\g≠q/\g≠J) (bG L p))):=bZ (by
    have ht:=hR.o.tok (k:=0) (by omega) (by rw[<-P.o];exact a1);have hq:=b3.o p b2;have:=rN (T.mk L 0) p E.drew Q N oA on oc ht.1 (by omega) hq.1 hq.2.1 (fun x hx=>by rw[T.mk_pts] at hx;have:=hR.o.co x hx;have:1048576*(j+1)<=1048576*10001:=Nat.mul_le_mul_left _ (by omega);omega) (by omega) (fun g=>(C g\/w.heap.size<=g)/\g≠q/\g≠J)
     (gV.2 (by rw[T.mk_pts];exact a0.o.keep0 (ad.refl [] E).drew)) (a2.keep0 (ad.refl [] E).drew) ⟨av,ax⟩
    rw[T.mk_pts] at this;exact this)
   unfold ptV at a3;clear t b2 b0 a2 av ax hR;go_wp2_with fail;refine ae (S:=(fun z=>(z.cell? (U q 1)=G Q L.length N/\z.cell? (U gb 1)=G (some (U g f)) m d)/\(z.cell? (U g (f+j*5))=some (I p.n)/\z.cell? (U g (f+j*5+1))=some (I p.kd)/\z.cell? (U g (f+j*5+2))=some (I p.v)/\z.cell? (U g (f+j*5+3))=some (I p.b)/\z.cell? (U g (f+j*5+4))=G oA on oc))) (n:=7) (by kernel_rfl) ?_;have HS:(fun z:World=>(z.cell? (U q 1)=G Q L.length N/\z.cell? (U gb 1)=G (some (U g f)) m d)/\(z.cell? (U g (f+j*5))=some (I p.n)/\z.cell? (U g (f+j*5+1))=some (I p.kd)/\z.cell? (U g (f+j*5+2))=some (I p.v)/\z.cell? (U g (f+j*5+3))=some (I p.b)/\z.cell? (U g (f+j*5+4))=G oA on oc)) E.drew:=⟨⟨e1,b1⟩,c0,c1,c2,c3,c4⟩
   try dsimp only at HS
   clear e1 b1 c0 c1 c2 c3 c4;refine ord [0,1,2,3,4,5,6] ?_
   iterate 7 (refine tq HS ?_;try simp only[PT,Y1,Y2,Y3])
   refine aB ?_;refine J1 7 fun K X=>?_;dsimp only[Y1,Y2,Y3];go_simp;refine a3.o.mono ?_;rintro e w5 ⟨A5,c5,rfl,m5,n5,R5,k5⟩;replace k5:=bZ ((ad.refl [] E).drew.trans k5.o);have R:=bZ (O.o.keep k5.o (by simp));have x5:=R.o.cell;have bs:=R.o.frozen;refine X _ _ (.inl (by omega)) ?_;clear X K
   try simp only[PT,Y1,Y2,Y3]
   refine JQ 8 ?_
   try simp only[PT,Y1,Y2,Y3]
   refine JQ 9 ?_
   try simp only[PT,Y1,Y2,Y3]
   refine JD ?_;clear HS a3;have b5:=bZ (R.o.set_ 1 (.slice A5 (bG L p).length c5));have kO:ad [q] w5 (w5.setCell (U q 1) (.slice A5 (bG L p).length c5)):=(ad.refl [q] w5).setCell (.inl (by simp)) _;have b8:=bZ ((X.o.trans k5.o.nil).trans kO);have c7:q<w5.heap.size/\J<w5.heap.size:=⟨R.o.lt,by have:=k5.o.size;have:=br.o.lt;omega⟩;have ba:Z (ag Pt.tr (w5.setCell (U q 1) (.slice A5 (bG L p).length c5)) (fun g=>(C g\/w.heap.size<=g)/\g≠q/\g≠J) A5 (bG L p)):=bZ ((R5.o.mono (fun g hg h=>by
    rcases h with h | h
    ·exact h
    have h2:E.heap.size<=g:=h;have:=O.o.lt;have:=br.o.lt;have:=b4.o.size;have:=X.o.size;exact⟨.inr (by omega),by omega,by omega⟩)).keep kO (fun y hy h=>by rw[CZ.1 hy] at h;exact h.2.1 rfl))
   have bz:=j7 L p;clear x5 bs kO;go_wp2_with fail;go_roundw
   case rel=>exact⟨j+1,bG L p,A5,c5,by omega,by go_num,m5,n5,by omega,bc,b5,ba,b8⟩
   case measure=>simp[intOf];omega
  obtain rfl:j=m:=by omega
  have ap:=ar.o L hR.o;have ht:=hR.o.tok (k:=F+H) (by omega) (by rw[<-P.o];exact a1);have au:Md (T.mk L (F+H)):=⟨by rw[T.mk_con];omega,fun p t=>by rw[T.mk_pts] at t;have:=hR.o.co p t;have:1048576*(j+1)<=1048576*10001:=Nat.mul_le_mul_left _ (by omega);omega⟩;have HL:Z (∀W,ad [] E W->Calls Tryz.prog 128 #[.agg #[I (F+H),.slice Q L.length N]] W (TeP W (fun g=>(C g\/w.heap.size<=g)/\g≠q/\g≠J) r)):=bZ (fun W hW=>by
   have:=dY (fun g=>(C g\/w.heap.size<=g)/\g≠q/\g≠J) (T.mk L (F+H)) W Q N (by rw[T.mk_pts];exact⟨bo,bp⟩) ht.1 au (by omega) (gV.2 (by rw[T.mk_pts];exact a0.o.keep0 hW));unfold tmV at this;rw[T.mk_pts,T.mk_con,ap,<-hr.o] at this;exact this)
  have q0:E.cell? (U q 0)=some (I (F+H)):=O.o.cell 0;have q1:E.cell? (U q 1)=G Q L.length N:=O.o.cell 1;have b1:E.cell? (U gb 1)=G B j d:=bb.o.cell 1;have lr:=br.o.lt;clear ap ht au hR;go_wp2_with (go_at_call 128;refine(HL.o _ (ad.refl _ _)).mono ?_;intro e w5 h5;obtain⟨A5,c5,rfl,m5,n5,T5,k5⟩:=h5;have ao:=bZ (br.o.keep k5.o (by simp));have xr:=ao.o.cell;have c8:=ao.o.frozen);have kk:Z (ad [] w w5):=bZ (((b4.o.nil.trans X.o).mono (fun y hy=>.inr (by rw[CZ.1 hy];exact u.o.2.2.1))).trans k5.o);have ak:=bZ (aM (D:=fun g=>C g\/w.heap.size<=g) (r:=r) u.o.2.1 kk.o ⟨m5,n5⟩ (T5.o.mono (fun g _ h=>⟨h.1,h.2.2⟩)));have bf:=(ao.o.set_ 0 (I r.1.con)).set_ 1 (.slice A5 r.1.pts.length c5);have d0:=bf.cell 0;have d1:=bf.cell 1;refine bodyPost_ret (v:=.tuple #[.agg #[I r.1.con,.slice A5 r.1.pts.length c5],I r.2]) (by simp[results,Tryz.results164,go_sem,d0,d1]) rfl ?_;exact ak.o
end Go.Proofs.YtldmkbhgdbafhaaGreat
