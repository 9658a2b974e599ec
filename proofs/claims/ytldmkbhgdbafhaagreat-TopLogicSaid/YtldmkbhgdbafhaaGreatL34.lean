import Derived.Test.YtldmkbhgdbafhaaGreatL10
import Derived.Test.YtldmkbhgdbafhaaGreatL33
namespace Go.Proofs.YtldmkbhgdbafhaaGreat
open Go.RowKit
set_option linter.unusedSimpArgs false
set_option linter.unusedVariables false
set_option maxRecDepth 100000
set_option maxHeartbeats 64000000
section
section
variable {P:Program} {ops:Array Oper} {Q:Exit->Act->World->Prop} {md:Region.Mode} {S:World->Prop} {n:Nat}
end
end
section
section
variable {P:Program} {ops:Array Oper} {Q:Exit->Act->World->Prop} {md:Region.Mode} {S:World->Prop} {n:Nat}
end
theorem lQ {P:Program} {w:World} {o:Oper} {a:Act} {K:Act->World->Prop} {Q:Exit->Act->World->Prop} (e:TypeId) (x y:Operand) (p:o.op=.store e x y)
 (g:Nat) (r:a.eval x=.pointer (V g)) (t:TypeId) (cs b:List Value) (s:a.eval y=.agg b.toArray) (l:Blk w g t cs.toArray)
 (m:(P.info? e).map (·.size)=some b.length) (c:b.length=cs.length) (n:∀v∈b,v.oneCell'=true)
 (h:∀k,Z (Blk k g t b.toArray)->ad [g] w k->K (a.put o.dst undef) k):Oper.wp P o a w K Q:=by
  have j:=run_storeCells_at P g 0 t b 0 cs.toArray w l (by simp;omega) n;have d:(storeVar e (U g 0) (.agg b.toArray)).run P w=.ok () (w.setRow g (splice cs 0 b).toArray):=by
   cases f:P.info? e with
   | none=>simp[f] at m
   | some i=>
    have q:i.size=b.length:=by simpa [f] using m
    simp[storeVar,DM,sizeOf,typeInfo,f,q,Value.cells,j,splice]
  unfold Oper.wp execOp;simp only[p,r,s,Instr.storeAt,Instr.sureAddr,DM,DZ,DH,d];refine h _ (bZ ?_) ((ad.refl [g] w).setRow (g:=g) (.inl (CZ.2 rfl)) _);have:=setRow_heap w g _ (splice cs 0 b).toArray t _ l;rw[oQ cs b c.symm] at this ⊢;exact this
end
section
open Go.RowKit Go.Maps
def FrP (W0 w:World) (b n:Nat) (c:Cla) (r:List Ax×Lin) (e:Ending) (a:World):Prop:=
 ∃s A m,e=.returned (.agg #[.int .i64 r.2.k,.slice A r.2.cs.length m])/\(r.2.cs.length<=m/\m<=maxLen)/\Z (BR W0 a { c with ax:=r.1 } s)/\Z (Blk a b 159 (bdL n { c with ax:=r.1 } s).toArray)/\Z (ag bh a (Cof W0.heap.size a) A r.2.cs)/\Z (KT [159,168] w a)
structure jr (n:Nat) (xs:List Ax) (ps:List Pt) (q:List Ax×List (Int×Int)):Prop where
 l1:q.1.length<=xs.length+cX ps
 l2:q.2.length=ps.length
 rg:∀e∈q.2,0<=e.1/\e.1<=10000000000/\e.2.natAbs<=1048576
theorem gT:∀a b:List Pt,cX (a++b)=cX a+cX b
 | [],b=>by simp[cX]
 | p::a,b=>by simp only[D3,cX,gT a b];omega
theorem rq (ps:List Pt) (j:Nat):cX (ps.take j)<=cX ps:=by
 have:=gT (ps.take j) (ps.drop j);rw[Du] at this;omega
theorem jr.nil (n:Nat) (xs:List Ax):jr n xs [] (xs,[]):=⟨by simp[cX],rfl,by simp⟩
theorem jr.step {n:Nat} {xs:List Ax} {ps:List Pt} {q:List Ax×List (Int×Int)} {p:Pt} (h:jr n xs ps q) (k:n<=1000) (l:xs.length+(cX ps+1+p.of.tsz)<=1000000000) (f:p.kd≠1->p.kd≠2->0<=p.v/\p.v<=1000000) (j:p.n.natAbs<=1048576):jr n xs (ps++[p]) (stF n q p):=by
 have e:cX (ps++[p])=cX ps+1+p.of.tsz:=by rw[gT];simp[cX];omega
 have i:=h.l1;unfold stF
 split
 ·have c:=iH n q.1 ⟨⟨0,[]⟩,0,p.v⟩;have d:=oI (n:=n) (xs:=q.1) (x:=⟨⟨0,[]⟩,0,p.v⟩);refine⟨by rw[e];dsimp only;omega,by simp[h.l2],fun x a=>?_⟩;rcases CX.1 a with a | a
  ·exact h.rg x a
  rw[CZ.1 a];dsimp only;omega
 split
 ·have g:=ea n p.of q.1;have c:=iH n (bj n p.of q.1).1 ⟨(bj n p.of q.1).2,p.b,0⟩;have d:=oI (n:=n) (xs:=(bj n p.of q.1).1) (x:=⟨(bj n p.of q.1).2,p.b,0⟩);refine⟨by rw[e];dsimp only;omega,by simp[h.l2],fun x a=>?_⟩;rcases CX.1 a with a | a
  ·exact h.rg x a
  rw[CZ.1 a];dsimp only;omega
 refine⟨by rw[e];dsimp only;omega,by simp[h.l2],fun x a=>?_⟩;rcases CX.1 a with a | a
 ·exact h.rg x a
 rw[CZ.1 a];dsimp only;have:=f ‹_› ‹_›;omega
theorem jG (C:Nat->Prop) (W0:World) (b n:Nat) (hn:n<=1000) (hb:W0.heap.size<=b):∀(t:T) (w:World) (A:Option Addr) (Q:Nat) (c:Cla) (s:Sv),t.ok->(∀p∈t.pts,p.n.natAbs<=1048576)->(∀v∈t.vars,v<=1000000)->t.wd<=20000->t.pts.length<=Q->Q<=maxLen->
 TAt W0 C A t->c.ax.length+t.tsz<=800000000->BR W0 w c s->Blk w b 159 (bdL n c s).toArray->Calls Tryz.prog 120 #[.pointer (V b),tmV t A Q] w (FrP W0 w b n c (bj n t c.ax)):=by
  refine T.ind (fun t ih=>?_);intro w A Q c s c2 bx hv bo c6 dk hT b1 hR hB;have b2:=aA bo;have bp:∀p∈t.pts,p.of.wd<=20000:=fun p hp=>(T.wd_iff.1 bo).2 p hp;rw[T.tsz_eq] at b1;have HP:Z (∀(j:Nat) (p:Pt),t.pts[j]? =some p->(p.kd≠1->p.kd≠2->0<=p.v/\p.v<=1000000)/\p.n.natAbs<=1048576/\(p.kd=1->0<=p.v)/\p.of.pts.length<=20000/\(p.kd=2->∀(w:World) (A:Option Addr) (Q:Nat) (c:Cla) (s:Sv),p.of.pts.length<=Q->Q<=maxLen->
   TAt W0 C A p.of->c.ax.length+p.of.tsz<=800000000->BR W0 w c s->Blk w b 159 (bdL n c s).toArray->Calls Tryz.prog 120 #[.pointer (V b),.agg #[.int .i64 p.of.con,.slice A p.of.pts.length Q]] w (FrP W0 w b n c (bj n p.of c.ax)))):=bZ (fun j p hp=>by
   have O:=CW hp
   have f:=(T.ok_iff.1 c2 p O).2
   have ac:∀v∈p.vars,v<=1000000:=fun v h=>hv v (T.vars_iff.2 ⟨p,O,h⟩)
   refine⟨fun h2 h3=>?_,bx p O,fun h2=>?_,aA (bp p O),?_⟩
   ·rcases f with f | f
    ·exact⟨f.2.1,ac p.v (by unfold Pt.vars;rw[if_neg h3];simp)⟩
    exact absurd f.1 h3
   ·rcases f with f | f
    ·exact f.2.1
    omega
   ·intro h2 w A Q c s;rcases f with f | f
    ·omega
    intro q1 q2 q3 q4 q5 q6;have:=ih p O w A Q c s f.2.2.2.2.2.1 (fun p hp=>f.2.2.2.2.2.2.1.2.1 p hp) (fun v h=>ac v (by unfold Pt.vars;rw[if_pos h2];exact h)) (bp p O) q1 q2 q3 q4 q5 q6;unfold tmV at this;exact this)
  obtain⟨ps,av⟩:∃l,l=t.pts:=⟨_,rfl⟩;have i:=jf n t c.ax;have co:Z (∀(j:Nat) (p:Pt),ps[j]? =some p->∃g P oA on oc,A=some (U g P)/\C g/\g<W0.heap.size/\W0.cell? (U g (P+j*5))=some (.int .i64 p.n)/\W0.cell? (U g (P+j*5+1))=some (.int .i64 p.kd)/\W0.cell? (U g (P+j*5+2))=some (.int .i64 p.v)/\
   W0.cell? (U g (P+j*5+3))=some (.int .i64 p.b)/\W0.cell? (U g (P+j*5+4))=G oA on oc/\on<=oc/\oc<=maxLen/\bP W0 C p oA on):=bZ (fun j p hp=>hT.get (by rw[<-av];exact hp))
  rw[<-av] at HP b1 b2 c6 i;obtain⟨m,O⟩:∃m,m=ps.length:=⟨_,rfl⟩;have au:=bZ O;unfold tmV;rw[<-av,<-O];rw[<-O] at b2 c6;clear av hT ih c2 bx hv bo bp O;generalize t.con=con at*;obtain⟨R,br⟩:∃R,R=bj n t c.ax:=⟨_,rfl⟩;rw[<-br] at i ⊢;replace i:=bZ i;clear br;obtain⟨W1,a4⟩:∃W,W=((w.alloc (.cells #[.int .i64 con,.slice A m Q] 38)).alloc (.cells #[.int .i64 0,.slice none 0 0] 166)).alloc (.map #[] 0):=⟨_,rfl⟩;obtain⟨g0,ar⟩:∃g,g=w.heap.size:=⟨_,rfl⟩;obtain⟨g4,ba⟩:∃g,g=w.heap.size+1:=⟨_,rfl⟩;obtain⟨Y,bb⟩:∃g,g=w.heap.size+1+1:=⟨_,rfl⟩;have k1:Z (ad [] w W1):=bZ (by rw[a4];exact(((ad.refl [] w).alloc _).alloc _).alloc _);have b0:Z (Blk W1 g0 38 #[.int .i64 con,.slice A m Q]):=bZ (by rw[a4,ar];exact((Blk.new w 38 _).alloc _).alloc _);have b4:Z (Blk W1 g4 166 #[.int .i64 0,.slice none 0 0]):=bZ (by
   rw[a4,ba];have:=Blk.new (w.alloc (.cells #[.int .i64 con,.slice A m Q] 38)) 166 #[.int .i64 0,.slice none 0 0];rw[Fl] at this;exact this.alloc _)
  have bm:Z (W1.ownsMap Tryz.prog 3 (plainElem Tryz.prog 2) Y 0 (.map []:DataW Unit)):=bZ (by
   rw[a4,bb];have:=World.ownsMap_made (H:=Unit) ((w.alloc (.cells #[.int .i64 con,.slice A m Q] 38)).alloc (.cells #[.int .i64 0,.slice none 0 0] 166)) Tryz.prog 3 (plainElem Tryz.prog 2);rwa [Fl,Fl] at this)
  have bc:Z (w.heap.size<=Y/\w.heap.size<=g4):=bZ (by omega);have ck:=bZ (hR.keep0 k1.o);have cd:=bZ (hB.keep k1.o (by simp));have c9:Z (W0.heap.size<=w.heap.size):=bZ hR.kp.size;have c4:=bZ b1;have ct:= @run_makeMap Tryz.prog;clear hR hB b1;go_enter Tryz.func120,Tryz.ntmps120;go_upto_region 2 with fail;rw[<-a4,<-bb,<-ba,<-ar];clear a4 bb ba ar ct;have z:=b0.o.cell;have zl:=b0.o.lt;go_wp2_with fail;clear z zl;go_loopw [13] (fun bq wr=>∃(j:Nat) (q:List Ax×List (Int×Int)) (s:Sv) (D:DataW Unit),j<=m/\bq=.int .i64 j/\Z (q=(ps.take j).foldl (stF n) (c.ax,[]))/\Z (jr n c.ax (ps.take j) q)/\Z (BR W0 wr { c with ax:=q.1 } s)/\Z (Blk wr b 159 (bdL n { c with ax:=q.1 } s).toArray)/\
   Z (wr.ownsMap Tryz.prog 3 (plainElem Tryz.prog 2) Y j D)/\Z (fg D q.2)/\Z (Blk wr g0 38 #[.int .i64 con,.slice A m Q])/\Z (Blk wr g4 166 #[.int .i64 0,.slice none 0 0])/\Z (KT [159,168] w wr)) (fun bq _=>m - (intOf bq).toNat)
  case atStart=>exact⟨0,(c.ax,[]),s,.map [],C3 _,rfl,bZ rfl,bZ (jr.nil _ _),ck,cd,bm,bZ fg.nil,b0,b4,bZ (KT.of k1.o)⟩
  obtain⟨j,q,s,D,hj,rfl,hq,hS,hR,hB,hM,hI,h0,h4,hK⟩:=hrel;obtain⟨wo,d0⟩:∃x,x=wr:=⟨_,rfl⟩;subst d0;by_cases cr:j<m
  ·obtain⟨p,hp⟩:∃v,ps[j]? =some v:=⟨_,CT (by rw[<-au.o];exact cr)⟩;obtain⟨g,P,oA,on,oc,rfl,hC,ar,z0,z1,z2,z3,z4,d6,d5,hO⟩:=co.o j p hp;obtain⟨ac,c3,bf,d1,a2⟩:=HP.o j p hp;have x0:=hR.o.kp.cellEq z0 (by simp);have x1:=hR.o.kp.cellEq z1 (by simp);have x2:=hR.o.kp.cellEq z2 (by simp);have x3:=hR.o.kp.cellEq z3 (by simp);have x4:=hR.o.kp.cellEq z4 (by simp);have d3:(j:Int)<(m:Int):=by omega
   have wj:IntKind.i64.wrap ((j:Int)+1)=(j:Int)+1:=C0 _ (by omega);have bn:=cN hp;have cy:c.ax.length+(cX (ps.take j)+1+p.of.tsz)<=800000000:=by
    have f:=rq ps (j+1);rw[bn,gT] at f;have h2:=c4.o;simp only[cX] at f;omega
   have bk:Z (stF n q p=(ps.take (j+1)).foldl (stF n) (c.ax,[])):=bZ (by rw[rO hp,<-hq.o]);have ap:Z (jr n c.ax (ps.take (j+1)) (stF n q p)):=bZ (by rw[bn];exact hS.o.step hn (by omega) ac c3);have cu:=hS.o.l1;have bt:(q.2).length=j:=by have:=hS.o.l2;rw[CY,<-au.o] at this;omega
   have b5:∀v,(bl q.2 v).natAbs<=20000*1048576:=fun v=>Dc (jT v (fun e he=>(hS.o.rg e he).2.2)) (by rw[bt];exact Nat.mul_le_mul (by omega) (C9 _));obtain⟨W2,E⟩:∃W,W=wo.alloc (.cells #[.int .i64 p.n,.int .i64 p.kd,.int .i64 p.v,.int .i64 p.b,.slice oA on oc] 221):=⟨_,rfl⟩;obtain⟨g7,a0⟩:∃g,g=wo.heap.size:=⟨_,rfl⟩;have k2:Z (ad [] wo W2):=bZ (by rw[E];exact(ad.refl [] wo).alloc _);have b7:Z (Blk W2 g7 221 #[.int .i64 p.n,.int .i64 p.kd,.int .i64 p.v,.int .i64 p.b,.slice oA on oc]):=bZ (by rw[E,a0];exact Blk.new wo 221 _);have a5:Z (∀(W:World) (v:Int) (q1:List Ax) (s1:Sv),stF n q p=(q1,q.2++[(v,p.n)])->KT [159,168] W2 W->BR W0 W { c with ax:=q1 } s1->Blk W b 159 (bdL n { c with ax:=q1 } s1).toArray->
    W.ownsMap Tryz.prog 3 (plainElem Tryz.prog 2) Y j D/\IsMap D/\(Lit.int .i64 v).wf=true/\IntKind.i64.wrap (bl q.2 v+p.n)=bl q.2 v+p.n/\(Lit.int .i64 (bl q.2 v+p.n)).wf=true/\Blk W g7 221 #[.int .i64 p.n,.int .i64 p.kd,.int .i64 p.v,.int .i64 p.b,.slice oA on oc]/\
    ∀u,W.grownBy u (some Y)->Z (BR W0 u { c with ax:=(stF n q p).1 } s1)/\Z (Blk u b 159 (bdL n { c with ax:=(stF n q p).1 } s1).toArray)/\Z (fg (D.put (.int .i64 v) (.lit (.int .i64 (bl q.2 v+p.n)))) (stF n q p).2)/\Z (Blk u g0 38 #[.int .i64 con,.slice (some (U g P)) m Q])/\Z (Blk u g4 166 #[.int .i64 0,.slice none 0 0])/\Z (KT [159,168] w u)):=bZ (fun W v q1 s1 d ab hr bu=>by
    have aa:=vF (iX hM.o k2.o (by simp)) ab
    have dr:0<=v/\v<=10000000000:=by
     have:=ap.o.rg (v,p.n) (by rw[d];simp);exact⟨this.1,this.2.1⟩
    have df:=b5 v
    refine⟨aa,aa.isMap,WalkArith.wf_i64 (by omega),C0 _ (by omega),WalkArith.wf_i64 (by omega),ab.blk b7.o (by decide),fun u hg=>?_⟩
    have hk:ad [Y] W u:=ad.grown hg (fun k hk=>by cases hk;simp)
    have bd:∀ {g:Nat} {t:TypeId} {cs:Array Value},Blk W g t cs->g∉[Y]:=fun h O=>by rw[CZ.1 O] at h;exact j2 aa h
    rw[d]
    refine⟨bZ (hr.keep hk (fun y hy=>?_)),bZ (bu.keep hk (bd bu)),bZ (hI.o.put aa.isMap v p.n),?_,?_,?_⟩
    ·rw[CZ.1 hy];exact⟨by have:=bc.o.1;have:=c9.o;omega,fun t cs h=>absurd h (j2 aa)⟩
    ·have:=ab.blk (h0.o.keep k2.o (by simp)) (by decide);exact bZ (this.keep hk (bd this))
    ·have:=ab.blk (h4.o.keep k2.o (by simp)) (by decide);exact bZ (this.keep hk (bd this))
    ·exact bZ (((hK.o.trans (KT.of k2.o)).trans ab).ext hk (fun y hy=>by rw[CZ.1 hy];exact bc.o.1)))
   have c8:c.ax.length<=800000000/\q.1.length<=800000000/\q.1.length+p.of.tsz<=800000000:=by omega
   have ao:=bZ (hR.o.keep0 k2.o);have b8:=bZ (hB.o.keep k2.o (by simp));have an:Z (bP W0 C p oA on):=bZ hO;clear z0 z1 z2 z3 z4 hp cu bt b5 bn cy hO hC ac c3 hR hB hM h0 h4 hS hq;by_cases M:p.kd=1
   ·have cq:(p.kd==1)=true:=by simp[M]
    have d:stF n q p=((cE n q.1 ⟨⟨0,[]⟩,0,p.v⟩).1,q.2++[((cE n q.1 ⟨⟨0,[]⟩,0,p.v⟩).2,p.n)]):=by unfold stF;rw[if_pos M]
    have AX:Z (Calls Tryz.prog 160 #[.pointer (V b),.agg #[.int .i64 0,.slice none 0 0,.int .i64 0,.int .i64 p.v]] W2 (AxP W0 W2 b n { c with ax:=q.1 } (cE n q.1 ⟨⟨0,[]⟩,0,p.v⟩))):=bZ (iG W0 W2 b n { c with ax:=q.1 } s ⟨⟨0,[]⟩,0,p.v⟩ none 0 hn ao.o hb b8.o ⟨C9 _,by simp[maxLen]⟩ (ag.nil (fun a h=>by cases h)) (by simp) (by dsimp only;omega));generalize cE n q.1 ⟨⟨0,[]⟩,0,p.v⟩=r at*;replace d:=bZ d;clear M a2 bf an;skip;go_upto_region 7 with fail;rw[<-E,<-a0];clear E a0 x0 x1 x2 x3 x4;have p7:=b7.o.cell;have a1:=b7.o.lt;go_wp2_with (first
     | (go_at_call 160;clear p7 a1;refine AX.o.mono ?_;intro e w8 h8;obtain⟨s8,rfl,R8,B8,K8⟩:=h8;obtain⟨M8,I8,V8,X8,Y8,c7,F8⟩:=a5.o w8 r.2 r.1 s8 d.o K8.o R8.o B8.o;have p7:=c7.cell;have a1:=c7.lt)
     | (at_lookup;refine wpList_lookup_own_int _ rfl _ _ 249 rfl 3 2 .i64 mp Tryz.underlying249 Tryz.underlying2 (Tryz.zeroValue2 _) Y j D rfl M8 _ _ rfl (keyOf_int_mk Tryz.underlying3 V8) ?_;intro cv J ak;obtain rfl:cv=bl q.2 r.2:=(by have:=J.symm.trans (hI.o.val _);simpa using this);clear J ak)
     | (at_mapUpdate;refine wpList_mapUpdate_own _ rfl _ _ _ 249 rfl 3 2 mp Tryz.underlying249 _ Y j D rfl M8 (by unfold maxLen;omega) _ _ _ rfl rfl (keyOf_int_mk Tryz.underlying3 V8) _ [] (plainElem_int Tryz.underlying2 Y8) ?_;intro w9 M9 L;obtain⟨R9,B9,I9,a6,a9,K9⟩:=F8 w9 L;replace M9:=bZ M9;clear p7 a1 M8 F8 L))
    go_roundw
    case rel=>exact⟨j+1,stF n q p,s8,_,by omega,by go_num,bk,ap,R9,B9,M9,I9,a6,a9,K9⟩
    case measure=>simp[intOf];omega
   have cq:(p.kd==1)=false:=beq_false_of_ne M;by_cases N:p.kd=2
   ·have c1:(p.kd==2)=true:=by simp[N]
    obtain⟨rfl,h,o,pA,pc,rfl,d2,u0,u1,m1,m2,bs⟩:=an.o.2 N;have d:stF n q p=((cE n (bj n p.of q.1).1 ⟨(bj n p.of q.1).2,p.b,0⟩).1,q.2++[((cE n (bj n p.of q.1).1 ⟨(bj n p.of q.1).2,p.b,0⟩).2,p.n)]):=by unfold stF;rw[if_neg M,if_pos N]
    have FR:Z (∀W,ad [] W2 W->Calls Tryz.prog 120 #[.pointer (V b),.agg #[.int .i64 p.of.con,.slice pA p.of.pts.length pc]] W (FrP W0 W b n { c with ax:=q.1 } (bj n p.of q.1))):=bZ (fun W hW=>a2 N W pA pc { c with ax:=q.1 } s m1 m2 bs c8.2.2 (ao.o.keep0 hW) (b8.o.keep hW (by simp)));have bz:=ea n p.of q.1;have aq:(bj n p.of q.1).2.cs.length<=1000000:=Dc (dL n p.of q.1) (by omega);obtain⟨X,c0⟩:∃X,X=bj n p.of q.1:=⟨_,rfl⟩;rw[<-c0] at d FR bz aq;have AX:Z (∀(W:World) (s:Sv) (A:Option Addr) (m:Nat),BR W0 W { c with ax:=X.1 } s->Blk W b 159 (bdL n { c with ax:=X.1 } s).toArray->(X.2.cs.length<=m/\m<=maxLen)->ag bh W (Cof W0.heap.size W) A X.2.cs->
     Calls Tryz.prog 160 #[.pointer (V b),.agg #[.int .i64 X.2.k,.slice A X.2.cs.length m,.int .i64 p.b,.int .i64 0]] W (AxP W0 W b n { c with ax:=X.1 } (cE n X.1 ⟨X.2,p.b,0⟩))):=bZ (fun W s A m f h2 h3 h4=>iG W0 W b n { c with ax:=X.1 } s ⟨X.2,p.b,0⟩ A m hn f hb h2 h3 h4 aq (by dsimp only;omega))
    have b3:Z (∀W s c,BR W0 W c s->W.cell? (U h o)=some (.int .i64 p.of.con)/\W.cell? (U h (o+1))=G pA p.of.pts.length pc):=bZ (fun W s c hr=>⟨hr.kp.cellEq u0 (by simp),hr.kp.cellEq u1 (by simp)⟩);generalize cE n X.1 ⟨X.2,p.b,0⟩=r at*;replace d:=bZ d;clear c0 M N a2 bf an u0 u1 bs bz aq;generalize p.of.con=oc2 at*;generalize p.of.pts.length=ol2 at*;skip;go_upto_region 10 with fail;rw[<-E,<-a0];clear E a0 x0 x1 x2 x3 x4;have b6:Z (∀u s c,Blk u g7 221 #[.int .i64 p.n,.int .i64 p.kd,.int .i64 p.v,.int .i64 p.b,.slice (some (U h o)) 1 oc]->BR W0 u c s->u.cell? (U g7 4)=G (some (U h o)) 1 oc/\u.cell? (U g7 3)=some (.int .i64 p.b)/\u.cell? (U h o)=some (.int .i64 oc2)/\u.cell? (U h (o+1))=G pA ol2 pc):=bZ (fun u s c f h2=>⟨f.cell 4,f.cell 3,(b3.o u s c h2).1,(b3.o u s c h2).2⟩);refine ae (S:=(fun w':World=>w'.cell? (U g7 4)=G (some (U h o)) 1 oc/\w'.cell? (U g7 3)=some (.int .i64 p.b)/\w'.cell? (U h o)=some (.int .i64 oc2)/\w'.cell? (U h (o+1))=G pA ol2 pc)) (n:=10) (by kernel_rfl) ?_;have HS:(fun w':World=>w'.cell? (U g7 4)=G (some (U h o)) 1 oc/\w'.cell? (U g7 3)=some (.int .i64 p.b)/\w'.cell? (U h o)=some (.int .i64 oc2)/\w'.cell? (U h (o+1))=G pA ol2 pc) W2.drew:=b6.o _ _ _ (b7.o.keep (ad.refl [] W2).drew (by simp)) (ao.o.keep0 (ad.refl [] W2).drew)
    try dsimp only at HS
    refine ord [0,1,2,3,4,5,7,8] ?_
    iterate 8 (refine tq HS ?_;try simp only[PT,Y1,Y2,Y3])
    refine aB ?_;refine J1 6 fun K hK=>?_;dsimp only[Y1,Y2,Y3];go_simp;refine(FR.o _ (ad.refl [] W2).drew).mono ?_;intro e w5 h5;obtain⟨s5,A5,m5,rfl,n5,R5,B5,C5,K5⟩:=h5;have cb:=bZ (K5.o.blk (b7.o.keep (ad.refl [] W2).drew (by simp)) (by decide));have ca:=bZ ((KT.of (T:=[159,168]) (ad.refl [] W2).drew).trans K5.o);have B:=b6.o w5 _ _ cb.o R5.o
    try dsimp only at B
    refine hK _ _ (.inr B) ?_;clear hK K HS;have HS:=B;clear B
    try simp only[PT,Y1,Y2,Y3]
    refine ord [9] ?_;refine tq HS ?_;try simp only[PT,Y1,Y2,Y3]
    refine aB ?_;refine J1 10 fun K hK=>?_;dsimp only[Y1,Y2,Y3];go_simp;refine(AX.o w5 s5 A5 m5 R5.o B5.o n5 C5.o).mono ?_;intro e w8 h8;obtain⟨s8,rfl,R8,B8,K8⟩:=h8;obtain⟨M8,I8,V8,X8,Y8,c7,F8⟩:=a5.o w8 r.2 r.1 s8 d.o (ca.o.trans K8.o) R8.o B8.o;have p7:=c7.cell;have a1:=c7.lt;refine hK _ _ (.inl (by omega)) ?_;clear hK K
    try simp only[PT,Y1,Y2,Y3]
    refine JQ 11 ?_
    try simp only[PT,Y1,Y2,Y3]
    refine JD ?_;clear HS b6;go_wp2_with (first
     | (at_lookup;refine wpList_lookup_own_int _ rfl _ _ 249 rfl 3 2 .i64 mp Tryz.underlying249 Tryz.underlying2 (Tryz.zeroValue2 _) Y j D rfl M8 _ _ rfl (keyOf_int_mk Tryz.underlying3 V8) ?_;intro cv J ak;obtain rfl:cv=bl q.2 r.2:=(by have:=J.symm.trans (hI.o.val _);simpa using this);clear J ak)
     | (at_mapUpdate;refine wpList_mapUpdate_own _ rfl _ _ _ 249 rfl 3 2 mp Tryz.underlying249 _ Y j D rfl M8 (by unfold maxLen;omega) _ _ _ rfl rfl (keyOf_int_mk Tryz.underlying3 V8) _ [] (plainElem_int Tryz.underlying2 Y8) ?_;intro w9 M9 L;obtain⟨R9,B9,I9,a6,a9,K9⟩:=F8 w9 L;replace M9:=bZ M9;clear p7 a1 M8 F8 L))
    go_roundw
    case rel=>exact⟨j+1,stF n q p,s8,_,by omega,by go_num,bk,ap,R9,B9,M9,I9,a6,a9,K9⟩
    case measure=>simp[intOf];omega
   have c1:(p.kd==2)=false:=beq_false_of_ne N;have d:stF n q p=(q.1,q.2++[(p.v,p.n)]):=by unfold stF;rw[if_neg M,if_neg N]
   obtain⟨M8,I8,V8,X8,Y8,c7,F8⟩:=a5.o W2 p.v q.1 s d (KT.of (ad.refl _ _)) ao.o b8.o;clear M N a2 bf an d;skip;go_upto_region 7 with fail;rw[<-E,<-a0];clear E a0 x0 x1 x2 x3 x4;have p7:=c7.cell;have a1:=c7.lt;go_wp2_with (first
    | (at_lookup;refine wpList_lookup_own_int _ rfl _ _ 249 rfl 3 2 .i64 mp Tryz.underlying249 Tryz.underlying2 (Tryz.zeroValue2 _) Y j D rfl M8 _ _ rfl (keyOf_int_mk Tryz.underlying3 V8) ?_;intro cv J ak;obtain rfl:cv=bl q.2 p.v:=(by have:=J.symm.trans (hI.o.val _);simpa using this);clear J ak)
    | (at_mapUpdate;refine wpList_mapUpdate_own _ rfl _ _ _ 249 rfl 3 2 mp Tryz.underlying249 _ Y j D rfl M8 (by unfold maxLen;omega) _ _ _ rfl rfl (keyOf_int_mk Tryz.underlying3 V8) _ [] (plainElem_int Tryz.underlying2 Y8) ?_;intro w9 M9 L;obtain⟨R9,B9,I9,a6,a9,K9⟩:=F8 w9 L;replace M9:=bZ M9;clear p7 a1 M8 F8 L))
   go_roundw
   case rel=>exact⟨j+1,stF n q p,s,_,by omega,by go_num,bk,ap,R9,B9,M9,I9,a6,a9,K9⟩
   case measure=>simp[intOf];omega
  obtain rfl:j=m:=by omega
  have cl:Z (R=(q.1,⟨con,aO q.2⟩)):=bZ (by
   rw[i.o,hq.o,C6 (by rw[<-au.o];exact C9 _)])
  have d4:q.2.length=j:=by have:=hS.o.l2;rw[CY,<-au.o] at this;omega
  have aq:(aO q.2).length<=100000:=Dc (lI _) (by omega);have CO:Z (∀W,ad [] wo W->Calls Tryz.prog 161 #[.map (some Y)] W (CoP W (aO q.2))):=bZ (fun W hW=>uf W Y j D q.2 (iX hM.o hW (by simp)) hI.o (by omega) (fun e he=>WalkArith.wf_i64 (by have:=hS.o.rg e he;omega)));generalize aO q.2=F at*;have cc:Z (∀(W w5 w6:World) (A5:Option Addr) (c5:Nat),ad [] wo W->ad [] W w5->af bh 2 215 (fun _=>False) W.heap.size w5 A5 c5 (F)->ad [g4] w5 w6->FrP W0 w b n c R (.returned (.agg #[.int .i64 con,.slice A5 (F).length c5])) w6):=bZ (fun W w5 w6 A5 c5 f h2 h3 h5=>by
   rw[cl.o];unfold FrP;dsimp only;have am:=f.trans h2;have a3:=h4.o.keep am (by simp);have b9:=hB.o.keep am (by simp);have cp:=bc.o;have ds:=c9.o;have d8:=hK.o.size;have d9:=f.size;have cx:=h3.cofs (B1:=W0.heap.size) (by omega);refine⟨s,A5,c5,rfl,⟨h3.mc,h3.cm⟩,bZ ((hR.o.keep0 am).keep h5 (fun y hy=>?_)),bZ (b9.keep h5 (fun O=>?_)),bZ ((cx.keep h5 (fun y hy hc=>?_)).mono (fun g _ hc=>hc.keep h5 (fun O=>?_))),bZ ((hK.o.trans (KT.of am)).ext h5 (fun y hy=>?_))⟩
   ·rw[CZ.1 hy];exact⟨by omega,fun t cs h=>by rw[<-a3.ty h];decide⟩
   ·rw[CZ.1 O] at b9;exact absurd (b9.ty a3) (by decide)
   ·obtain⟨_,cs,h⟩:=hc;rw[CZ.1 hy] at h;exact absurd (h.ty a3) (by decide)
   ·obtain⟨_,cs,h⟩:=hc;rw[CZ.1 O] at h;exact absurd (h.ty a3) (by decide)
   rw[CZ.1 hy];exact cp.2)
  go_upto_region 13 with fail;refine ae (S:=(fun w':World=>w'.cell? (U g0 0)=some (.int .i64 con))) (n:=5) (by kernel_rfl) ?_;have HS:(fun w':World=>w'.cell? (U g0 0)=some (.int .i64 con)) wo.drew:=(h0.o.keep (ad.refl [] wo).drew (by simp)).cell 0
  try dsimp only at HS
  refine ord [0,1,2] ?_
  iterate 3 (refine tq HS ?_;try simp only[PT,Y1,Y2,Y3])
  refine aB ?_;refine J1 3 fun K hK=>?_;dsimp only[Y1,Y2,Y3];go_simp;refine(CO.o _ (ad.refl [] wo).drew).mono ?_;intro e w5 h5;obtain⟨A5,c5,rfl,G5,K5⟩:=h5;have a3:=bZ (h4.o.keep ((ad.refl [] wo).drew.trans K5.o) (by simp));have B:w5.cell? (U g0 0)=some (.int .i64 con):=(h0.o.keep ((ad.refl [] wo).drew.trans K5.o) (by simp)).cell 0;refine hK _ _ (.inr B) ?_;clear hK K HS;have HS:=B;clear B
  try simp only[PT,Y1,Y2,Y3]
  refine ord [4] ?_;refine tq HS ?_;try simp only[PT,Y1,Y2,Y3]
  refine aB ?_;refine J1 5 fun K hK=>?_;dsimp only[Y1,Y2,Y3];refine lQ 166 (.tmp 4) (.tmp 52) rfl g4 rfl 166 [.int .i64 0,.slice none 0 0] [.int .i64 con,.slice A5 (F).length c5] rfl a3.o (by kernel_rfl) rfl (by simp[Value.oneCell']) ?_;intro w6 q6 k6;refine hK _ _ (.inl (by omega)) ?_;clear hK K
  try simp only[PT,Y1,Y2,Y3]
  refine JD ?_;clear HS;go_wp2_with fail;have dc:=q6.o.cell;refine bodyPost_ret (v:=.agg #[.int .i64 con,.slice A5 (F).length c5]) (by simp[results,Tryz.results120,go_sem,dc]) rfl ?_;exact cc.o _ _ _ _ _ (ad.refl [] wo).drew K5.o G5.o k6
end
end Go.Proofs.YtldmkbhgdbafhaaGreat
