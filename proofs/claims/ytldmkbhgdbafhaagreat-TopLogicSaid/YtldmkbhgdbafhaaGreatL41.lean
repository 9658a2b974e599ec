import Derived.Test.YtldmkbhgdbafhaaGreatL35
import Derived.Test.YtldmkbhgdbafhaaGreatL40
namespace Go.Proofs.YtldmkbhgdbafhaaGreat
open Go.RowKit
set_option linter.unusedSimpArgs false
set_option linter.unusedVariables false
set_option maxRecDepth 100000
set_option maxHeartbeats 64000000
theorem zD (W0 w:World) (b n:Nat) (c:Cla) (s:Sv) (x:Lt) (tA:Option Addr) (tc:Nat) (a3:x.a.kd=5) (hR:BR W0 w c s) (hb:W0.heap.size<=b) (hB:Blk w b 159 (bdL n c s).toArray) (hM:c.big 800000000):
 Calls Tryz.prog 79 #[.pointer (V b),.agg (ltL x tA tc).toArray] w (AdP W0 w b n (aP n c x)):=by
  have u:aP n c x= { c with nn:=c.nn++[x.a.v],ts:=c.ts++[⟨x.a.v,x.a.te.kd,x.a.te.ng,x.a.te.s⟩] }:=by unfold aP;simp[a3]
  obtain⟨f,B⟩:∃W,W=w.alloc (.cells (ltL x tA tc).toArray 155):=⟨_,rfl⟩;obtain⟨gl,a2⟩:∃g,g=w.heap.size:=⟨_,rfl⟩;have k1:Z (ad [] w f):=bZ (by rw[B];exact(ad.refl [] w).alloc _);have A:Z (Blk f gl 155 (ltL x tA tc).toArray):=bZ (by rw[B,a2];exact Blk.new w 155 _);have D:=bZ (hB.keep k1.o (by simp));have HR:=bZ (hR.keep0 k1.o);have KW:Z (KT [159,3,168,173,40,181] w f):=bZ (KT.of k1.o);have H:=bZ hM;obtain⟨cf,C⟩:∃cf,cf=aP n c x:=⟨_,rfl⟩;rw[<-C];rw[<-C] at u;clear C;unfold ltL at*;rw[a3] at A B ⊢;generalize x.a.v=av at*;generalize x.a.o=ao at*;generalize x.a.t.con=con at*;generalize x.a.t.pts.length=tl at*;generalize x.a.te=te at*;generalize x.up=up at*;obtain⟨ev,R,T,X⟩:=te
  try dsimp only at*
  replace u:=bZ u;clear hR hB a3 hM;go_enter Tryz.func79,Tryz.ntmps79;have h:Z (∀F,Blk F b 159 (bdL n c s).toArray->Blk F gl 155 #[I 5,I av,I ao,I con,.slice tA tl tc,I ev,I R,.bool T,.string X,.bool up]->F.cell? (U b 2)=G s.A1 c.nn.length s.c1/\F.cell? (U gl 1)=some (I av)):=bZ (fun F h0 h1=>⟨h0.cell 2,h1.cell 1⟩);go_upto_region 18 with fail;rw[<-B,<-a2];clear B a2;refine ae (S:=(fun M:World=>M.cell? (U b 2)=G s.A1 c.nn.length s.c1/\M.cell? (U gl 1)=some (I av))) (n:=11) (by kernel_rfl) ?_;have j:(fun M:World=>M.cell? (U b 2)=G s.A1 c.nn.length s.c1/\M.cell? (U gl 1)=some (I av)) f.drew:=h.o _ (D.o.keep (ad.refl [] f).drew (by simp)) (A.o.keep (ad.refl [] f).drew (by simp))
  try dsimp only at j
  refine ord [0,1,2,3,4,5,6,7,8] ?_
  iterate 9 (refine tq j ?_;try simp only[PT,Y1,Y2,Y3])
  refine aB ?_;refine J1 9 fun K r=>?_;dsimp only[Y1,Y2,Y3];go_simp;have d:=h.o (f.drew.alloc (.cells #[I av] 3)) ((D.o.keep (ad.refl [] f).drew (by simp)).alloc _) ((A.o.keep (ad.refl [] f).drew (by simp)).alloc _)
  try dsimp only at d
  refine r _ _ (.inr d) ?_;clear r K j;have j:=d;clear d
  try simp only[PT,Y1,Y2,Y3]
  refine J1 10 fun K r=>?_;dsimp only[Y1,Y2,Y3];refine bW (.tmp 107) (.tmp 111) 108 rfl rfl rfl (rD (HR.o.keep0 (ad.refl [] f).drew) av (by have:=H.o.a1;omega) _) ?_;intro p q N q6;have J:=bZ q6.o.1;have l:=bZ q6.o.2;have e:=bZ (l.o.blk (D.o.keep (ad.refl [] f).drew (by simp)) (by decide));have a5:=bZ (l.o.blk (A.o.keep (ad.refl [] f).drew (by simp)) (by decide));have d:=h.o N e.o a5.o
  try dsimp only at d
  have z:=e.o.cell;have zf:=e.o.frozen;have zl:=e.o.lt;unfold bdL clL at z
  try dsimp only at z
  refine r _ _ (.inr d) ?_;clear r K j;have j:=d;clear d
  try simp only[PT,Y1,Y2,Y3]
  refine JQ 11 ?_
  try simp only[PT,Y1,Y2,Y3]
  refine JQ 12 ?_
  try simp only[PT,Y1,Y2,Y3]
  refine JQ 13 ?_
  try simp only[PT,Y1,Y2,Y3]
  refine JQ 14 ?_
  try simp only[PT,Y1,Y2,Y3]
  refine JD ?_;clear j h;clear z zf zl;have O:Z (Blk (N.setCell (U b 2) (.slice p (c.nn.length+1) q)) b 159 (bdL n { c with nn:=c.nn++[av] } { s with A1:=p,c1:=q }).toArray):=bZ (by have:=e.o.set_ 2 (.slice p (c.nn.length+1) q);unfold bdL clL at this ⊢;simpa using this);have P:=bZ (J.o.set e.o (by decide) hb (i:=2) (.slice p (c.nn.length+1) q));have Q:Z (KT [159,3,168,173,40,181] f (N.setCell (U b 2) (.slice p (c.nn.length+1) q))):=bZ (((KT.of (ad.refl [] f).drew).trans (l.o.mono (by simp))).trans (KT.set e.o (by simp) _));have k:=bZ (KW.o.trans Q.o);obtain⟨w7,m⟩:∃x,x=N.setCell (U b 2) (.slice p (c.nn.length+1) q):=⟨_,rfl⟩;rw[<-m] at O P Q k;have E:=bZ (Q.o.blk A.o (by decide));have Y:=bZ (uA H.o av);obtain⟨c,hc⟩:∃x:Cla,x= { c with nn:=c.nn++[av] }:=⟨_,rfl⟩;obtain⟨s,hs⟩:∃x:Sv,x= { s with A1:=p,c1:=q }:=⟨_,rfl⟩;rw[<-hc,<-hs] at O P;rw[<-hc] at Y;have u:=bZ (show cf= { c with ts:=c.ts++[⟨av,R,T,X⟩] } by rw[u.o,hc]);clear hc hs;obtain⟨f,y⟩:∃x,x=w7:=⟨_,rfl⟩;rw[<-y] at m O P k E;clear y;have D:=O;have HR:=P;have KW:=k;have H:=Y;have A:=E;clear O P k Y Q J l e E;rw[<-m];clear m;obtain⟨W5,L⟩:∃W,W=f.alloc (.cells #[I av,I R,.bool T,.string X] 40):=⟨_,rfl⟩;obtain⟨g5,a0⟩:∃g,g=f.heap.size:=⟨_,rfl⟩;have k5:Z (ad [] f W5):=bZ (by rw[L];exact(ad.refl [] f).alloc _);have H5:Z (Blk W5 g5 40 #[I av,I R,.bool T,.string X]):=bZ (by rw[L,a0];exact Blk.new f 40 _);have z:=A.o.cell;have zl:=A.o.lt;go_upto_region 23 with fail;rw[<-L,<-a0];clear z zl L a0;have D:=bZ (D.o.keep k5.o (by simp));have HR:=bZ (HR.o.keep0 k5.o);have KW:=bZ (KW.o.trans (KT.of k5.o));have A:=bZ (A.o.keep k5.o (by simp));obtain⟨f,y⟩:∃x,x=W5:=⟨_,rfl⟩;rw[<-y] at D HR KW A H5;rw[<-y];clear y k5;have h:Z (∀F,Blk F b 159 (bdL n c s).toArray->F.cell? (U b 5)=G s.A4 c.ts.length s.c4):=bZ (fun F h0=>h0.cell 5);refine ae (S:=(fun M:World=>M.cell? (U b 5)=G s.A4 c.ts.length s.c4)) (n:=9) (by kernel_rfl) ?_;have j:(fun M:World=>M.cell? (U b 5)=G s.A4 c.ts.length s.c4) f.drew:=h.o _ (D.o.keep (ad.refl [] f).drew (by simp))
  try dsimp only at j
  have p5:=(H5.o.keep (ad.refl [] f).drew (by simp)).cell;refine ord [0,1,2,3,4,5] ?_
  iterate 6 (refine tq j ?_;try simp only[PT,Y1,Y2,Y3])
  refine aB ?_;refine J1 6 fun K r=>?_;dsimp only[Y1,Y2,Y3];go_simp;refine r _ _ (.inr j) ?_;clear r K p5
  try simp only[PT,Y1,Y2,Y3]
  refine J1 7 fun K r=>?_;dsimp only[Y1,Y2,Y3];go_simp;have d:=h.o (f.drew.alloc (.cells #[I av,I R,.bool T,.string X] 40)) ((D.o.keep (ad.refl [] f).drew (by simp)).alloc _)
  try dsimp only at d
  refine r _ _ (.inr d) ?_;clear r K j;have j:=d;clear d
  try simp only[PT,Y1,Y2,Y3]
  refine J1 8 fun K r=>?_;dsimp only[Y1,Y2,Y3];refine bW (.tmp 133) (.tmp 135) 111 rfl rfl rfl (zP (HR.o.keep0 (ad.refl [] f).drew) ⟨av,R,T,X⟩ (by have:=H.o.a4;omega) _) ?_;intro p q N q6;have J:=bZ q6.o.1;have l:=bZ q6.o.2;have e:=bZ (l.o.blk (D.o.keep (ad.refl [] f).drew (by simp)) (by decide));have d:=h.o N e.o
  try dsimp only at d
  have z:=e.o.cell;have zf:=e.o.frozen;have zl:=e.o.lt;unfold bdL clL at z
  try dsimp only at z
  refine r _ _ (.inr d) ?_;clear r K j;have j:=d;clear d
  try simp only[PT,Y1,Y2,Y3]
  refine JQ 9 ?_
  try simp only[PT,Y1,Y2,Y3]
  refine JQ 10 ?_
  try simp only[PT,Y1,Y2,Y3]
  refine JQ 11 ?_
  try simp only[PT,Y1,Y2,Y3]
  refine JQ 12 ?_
  try simp only[PT,Y1,Y2,Y3]
  refine JD ?_;clear j h;clear z zf zl;have O:Z (Blk (N.setCell (U b 5) (.slice p (c.ts.length+1) q)) b 159 (bdL n { c with ts:=c.ts++[⟨av,R,T,X⟩] } { s with A4:=p,c4:=q }).toArray):=bZ (by have:=e.o.set_ 5 (.slice p (c.ts.length+1) q);unfold bdL clL at this ⊢;simpa using this);have P:=bZ (J.o.set e.o (by decide) hb (i:=5) (.slice p (c.ts.length+1) q));have Q:Z (KT [159,3,168,173,40,181] f (N.setCell (U b 5) (.slice p (c.ts.length+1) q))):=bZ (((KT.of (ad.refl [] f).drew).trans (l.o.mono (by simp))).trans (KT.set e.o (by simp) _));have k:=bZ (KW.o.trans Q.o);obtain⟨w7,m⟩:∃x,x=N.setCell (U b 5) (.slice p (c.ts.length+1) q):=⟨_,rfl⟩;rw[<-m] at O P Q k;have E:=bZ (Q.o.blk A.o (by decide));go_wp2_with fail;rw[<-m];refine bodyPost_ret (v:=.tuple #[]) (by simp[results,Tryz.results79,go_sem]) rfl ?_;rw[u.o];exact⟨_,rfl,P,O,k⟩
theorem jF {n:Nat} {t:T} {xs:List Ax} (h:Nm t) (d:t.wd<=10000):(bj n t xs).2.k.natAbs<=1099511627776/\∀e∈(bj n t xs).2.cs,e.2.natAbs<=4611686018427387904:=by
 refine⟨h.2.1.1,fun e a=>?_⟩;rw[jf] at a;dsimp only at a;unfold aO at a;obtain⟨v,_,rfl⟩:=Dt.1 a;have f:∀(ps:List Pt) (q:List Ax×List (Int×Int)),(∀p∈ps,p.n.natAbs<=1048576)->(∀e∈q.2,e.2.natAbs<=1048576)->∀e∈(ps.foldl (stF n) q).2,e.2.natAbs<=1048576:=by
  intro ps
  induction ps with
  | nil=>intro q _ c;exact c
  | cons p ps ih=>
   intro q i c;refine ih _ (fun p h=>i p (by simp[h])) (fun e a=>?_);have b:=i p (by simp);unfold stF at a
   split at a
   ·rcases CX.1 a with a | a
    ·exact c e a
    rw[CZ.1 a];exact b
   split at a
   ·rcases CX.1 a with a | a
    ·exact c e a
    rw[CZ.1 a];exact b
   rcases CX.1 a with a | a
   ·exact c e a
   rw[CZ.1 a];exact b
 have g:=jT v (f t.pts (xs,[]) h.2.1.2.1 (by simp));rw[ki] at g;have j:=aA d;simp only[D6,Dl] at g;have l:t.pts.length*1048576<=10000*1048576:=Nat.mul_le_mul j (C9 _);dsimp only;omega
theorem zG (C:Nat->Prop) (W0 w:World) (b n:Nat) (c:Cla) (s:Sv) (x:Lt) (J:Option Addr) (M:Nat) (hn:n<=10) (an:x.a.kd=2) (b4:True) (hR:BR W0 w c s) (hb:W0.heap.size<=b) (hB:Blk w b 159 (bdL n c s).toArray) (hM:c.big 700000000)
 (hT:cP W0 C x.a J M) (aa:Nm x.a.t) (hv:∀v∈x.a.t.vars,0<=v/\v<(n:Int)) (ap:x.a.t.wd<=10000) (b3:x.a.t.tsz<=10000):Calls Tryz.prog 79 #[.pointer (V b),.agg (ltL x J M).toArray] w (AdP W0 w b n (aP n c x)):=by
  obtain⟨N,X⟩:∃W,W=w.alloc (.cells (ltL x J M).toArray 155):=⟨_,rfl⟩;obtain⟨gl,am⟩:∃g,g=w.heap.size:=⟨_,rfl⟩;have k1:Z (ad [] w N):=bZ (by rw[X];exact(ad.refl [] w).alloc _);have HL:Z (Blk N gl 155 (ltL x J M).toArray):=bZ (by rw[X,am];exact Blk.new w 155 _);have HB:=bZ (hB.keep k1.o (by simp));have HR:=bZ (hR.keep0 k1.o);have KW:Z (KT [159,3,168,173,40,181] w N):=bZ (KT.of k1.o);have aq:=bZ hM;obtain⟨l,a4⟩:∃l,l=bj n x.a.t c.ax:=⟨_,rfl⟩;obtain⟨L,hL⟩:∃L,L=sc x.a.t.vars:=⟨_,rfl⟩;have b2:Z (L.length<=10):=bZ (by rw[hL];exact Dc (cS (K:=n) (fun v h=>hv v h)) hn);obtain⟨cf,a0⟩:∃cf,cf=aP n c x:=⟨_,rfl⟩;have ar:Z (cf= { c with nn:=c.nn++L,ax:=l.1,is:=c.is++[eV 2 x.up l.2] }):=bZ (by
   rw[a0,hL,a4];unfold aP;simp[an])
  have b6:Z (l.1.length<=c.ax.length+10000/\l.2.cs.length<=10000):=bZ (by
   have Q:=ea n x.a.t c.ax;have h2:=dL n x.a.t c.ax;have h3:=aA ap;rw[a4];omega)
  have b5:Z (l.2.k.natAbs<=1099511627776/\∀e∈l.2.cs,e.2.natAbs<=4611686018427387904):=bZ (by rw[a4];exact jF aa ap);have VA:Z (∀W,ad [] W0 W->Calls Tryz.prog 113 #[.agg #[I x.a.t.con,.slice J x.a.t.pts.length M]] W (eZ W 3 1 L.length (L.map (Value.int .i64)))):=bZ (fun W hW=>by
   rw[hL];exact gN C 10 (by decide) (by decide) x.a.t W J M (fun v h=>by have:=hv v h;omega) (by omega) hT.tm.1 hT.tm.2 (hT.tt.keep0 hW))
  have FR:Z (∀(W:World) (c1:Cla) (s1:Sv),c1.ax=c.ax->BR W0 W c1 s1->Blk W b 159 (bdL n c1 s1).toArray->Calls Tryz.prog 120 #[.pointer (V b),.agg #[I x.a.t.con,.slice J x.a.t.pts.length M]] W (FrP W0 W b n c1 l)):=bZ (fun W c1 s1 Q h2 h3=>by
   rw[a4,<-Q];exact jG C W0 b n (by omega) hb x.a.t W J M c1 s1 aa.1 aa.2.1.2.1 (fun v h=>by have:=hv v h;omega) (by omega) hT.tm.1 hT.tm.2 hT.tt (by rw[Q];have:=hM.a2;omega) h2 h3)
  rw[<-a0];clear a0 a4 hL hT aa hv ap b3;unfold ltL at*;rw[an] at HL X ⊢;generalize x.up=up at*;generalize x.a.v=av at*;generalize x.a.o=ao at*;generalize x.a.t.con=con at*;generalize x.a.t.pts.length=tl at*;generalize x.a.te=te at*;obtain⟨ev,ek,en,es⟩:=te
  try dsimp only at*
  clear hR hB an hM b4;go_enter Tryz.func79,Tryz.ntmps79;have r:Z (∀D,Blk D b 159 (bdL n c s).toArray->Blk D gl 155 #[I 2,I av,I ao,I con,.slice J tl M,I ev,I ek,.bool en,.string es,.bool up]->D.cell? (U b 2)=G s.A1 c.nn.length s.c1/\D.cell? (U gl 3)=some (I con)/\D.cell? (U gl 4)=G J tl M):=bZ (fun D h0 Q=>⟨h0.cell 2,Q.cell 3,Q.cell 4⟩);go_upto_region 7 with fail;rw[<-X,<-am];clear X am;refine ae (S:=(fun m:World=>m.cell? (U b 2)=G s.A1 c.nn.length s.c1/\m.cell? (U gl 3)=some (I con)/\m.cell? (U gl 4)=G J tl M)) (n:=11) (by kernel_rfl) ?_;have A:(fun m:World=>m.cell? (U b 2)=G s.A1 c.nn.length s.c1/\m.cell? (U gl 3)=some (I con)/\m.cell? (U gl 4)=G J tl M) N.drew:=r.o _ (HB.o.keep (ad.refl [] N).drew (by simp)) (HL.o.keep (ad.refl [] N).drew (by simp))
  try dsimp only at A
  refine ord [0,1,2,3,4,5,6,7,8] ?_
  iterate 9 (refine tq A ?_;try simp only[PT,Y1,Y2,Y3])
  refine aB ?_;refine J1 9 fun K R=>?_;dsimp only[Y1,Y2,Y3];go_simp;refine(VA.o _ (HR.o.keep0 (ad.refl [] N).drew).kp).mono ?_;intro e w5 h5;obtain⟨A5,c5,rfl,m5,n5,o5,k5⟩:=h5;have hI:Z (∀ty,∃p q m,(Builtin.append_ #[108,108] ty #[.slice s.A1 c.nn.length s.c1,.slice A5 L.length c5]).run Tryz.prog w5=.ok (.slice p (c.nn.length+L.length) q) m/\(BR W0 m { c with nn:=c.nn++L } { s with A1:=p,c1:=q }/\KT [3] w5 m)):=bZ (fun ty=>by
  obtain⟨p,q,m,q1,q2,q3,_⟩:=fu ((HR.o.keep0 (ad.refl [] N).drew).keep0 k5.o) ty L A5 L.length c5 rfl (L.map (Value.int .i64)) (by simp) ((dB o5.o).src (s:=1) (by simp) (by decide)) (du.2 rfl) (by have:=aq.o.a1;have:=b2.o;omega);exact⟨p,q,m,q1,q2,q3⟩)
  have d:=r.o w5 ((HB.o.keep (ad.refl [] N).drew (by simp)).keep k5.o (by simp)) ((HL.o.keep (ad.refl [] N).drew (by simp)).keep k5.o (by simp))
  try dsimp only at d
  refine R _ _ (.inr d) ?_;clear R K A;have A:=d;clear d
  try simp only[PT,Y1,Y2,Y3]
  refine J1 10 fun K R=>?_;dsimp only[Y1,Y2,Y3];refine bW (.tmp 34) (.tmp 38) 108 rfl rfl rfl (hI.o _) ?_;intro p q w6 q6;have a9:=bZ q6.o.1;have u:=bZ (((KT.of (T:=[3]) (ad.refl [] N).drew).trans (KT.of k5.o)).trans q6.o.2);have j:=bZ (u.o.blk HB.o (by decide));have P:=bZ (u.o.blk HL.o (by decide));have d:=r.o w6 j.o P.o
  try dsimp only at d
  have z:=j.o.cell;have zf:=j.o.frozen;have zl:=j.o.lt;unfold bdL clL at z
  try dsimp only at z
  clear hI;refine R _ _ (.inr d) ?_;clear R K A;have A:=d;clear d
  try simp only[PT,Y1,Y2,Y3]
  refine JQ 11 ?_
  try simp only[PT,Y1,Y2,Y3]
  refine JQ 12 ?_
  try simp only[PT,Y1,Y2,Y3]
  refine JQ 13 ?_
  try simp only[PT,Y1,Y2,Y3]
  refine JQ 14 ?_
  try simp only[PT,Y1,Y2,Y3]
  refine JD ?_;clear A r;clear z zf zl;have B6:Z (Blk (w6.setCell (U b 2) (.slice p (c.nn.length+L.length) q)) b 159 (bdL n { c with nn:=c.nn++L } { s with A1:=p,c1:=q }).toArray):=bZ (by have:=j.o.set_ 2 (.slice p (c.nn.length+L.length) q);unfold bdL clL at this ⊢;simpa using this);have R6:=bZ (a9.o.set j.o (by decide) hb (i:=2) (.slice p (c.nn.length+L.length) q));have T6:Z (KT [159,3,168,173,40,181] N (w6.setCell (U b 2) (.slice p (c.nn.length+L.length) q))):=bZ ((u.o.mono (by simp)).trans (KT.set j.o (by simp) _));have O:=bZ (KW.o.trans T6.o);have a5:=bZ (T6.o.blk HL.o (by decide));obtain⟨w7,H⟩:∃x,x=w6.setCell (U b 2) (.slice p (c.nn.length+L.length) q):=⟨_,rfl⟩;rw[<-H] at B6 R6 T6 O a5;rw[<-H];clear H T6 u j P HB HR KW HL a9;have au:=bZ (FR.o w7 { c with nn:=c.nn++L } _ rfl R6.o B6.o);clear FR VA;have z:=a5.o.cell;have zl:=a5.o.lt;have ac:Z (∀(W:World) (s2:Sv) (F:Option Addr) (B:Nat) (f:Lin) (eq:Bool),(f,eq)=eV 2 up l.2->BR W0 W { { c with nn:=c.nn++L } with ax:=l.1 } s2->∀(ty:Nat),(f.cs.length<=B/\B<=maxLen)->ag bh W (Cof W0.heap.size W) F f.cs->
   ∃p q m,(Builtin.append_ #[110,110] ty #[.slice s2.A3 c.is.length s2.c3,.slice (V W.heap.size) 1 1]).run Tryz.prog (W.alloc (.cells #[I f.k,.slice F f.cs.length B,.bool eq] 173))=.ok (.slice p (c.is.length+1) q) m/\(BR W0 m cf { s2 with A3:=p,c3:=q }/\KT [173] W m)):=bZ (fun W s2 F B f eq hf Q ty h2 h3=>by
   rw[ar.o,<-hf]
   exact vu Q f eq F B h2 h3 (by have:=aq.o.a3;dsimp only;omega) ty)
  go_upto_region 10 with (go_at_call 120;clear z zl;refine au.o.mono ?_;intro e w8 h8;obtain⟨s8,F,B,rfl,nf,R8,B8,C8,K8⟩:=h8;have a6:=bZ (K8.o.blk a5.o (by decide));have z:=a6.o.cell;have zl:=a6.o.lt);obtain⟨y,ab⟩:∃W,W=w8.alloc (.cells #[I l.2.k,.slice F l.2.cs.length B] 166):=⟨_,rfl⟩;obtain⟨g4,ak⟩:∃g,g=w8.heap.size:=⟨_,rfl⟩;rw[<-ab,<-ak];have k9:Z (ad [] w8 y):=bZ (by rw[ab];exact(ad.refl [] w8).alloc _);have H4:Z (Blk y g4 166 #[I l.2.k,.slice F l.2.cs.length B]):=bZ (by rw[ab,ak];exact Blk.new w8 166 _);clear ab ak z zl;have b0:=bZ (a6.o.keep k9.o (by simp));have C9:=bZ ((C8.o.keep0 k9.o).mono (E:=Cof W0.heap.size y) (fun g _ hc=>hc.keep k9.o (by simp)));have R9:=bZ (R8.o.keep0 k9.o);obtain⟨c8,Y⟩:∃x:Cla,x= { { c with nn:=c.nn++L } with ax:=l.1 }:=⟨_,rfl⟩;replace Y:=bZ Y;have HB:Z (Blk y b 159 (bdL n c8 s8).toArray):=bZ (by rw[Y.o];exact B8.o.keep k9.o (by simp));have KW:Z (KT [159,3,168,173,40,181] w y):=bZ ((O.o.trans (K8.o.mono (by simp))).trans (KT.of k9.o));clear B8 R8 K8 a6 C8 k9;have b1:=bZ (fun (W:World) (hW:ad [] y W) (ty:Nat)=>ac.o W s8 F B l.2 false rfl (R9.o.keep0 hW) ty nf ((C9.o.keep0 hW).mono (fun g _ hc=>hc.keep hW (by simp))));clear C9 ac b0;have r:Z (∀D,Blk D b 159 (bdL n c8 s8).toArray->Blk D g4 166 #[I (l.2.k),.slice F (l.2.cs).length B]->D.cell? (U b 4)=G s8.A3 c.is.length s8.c3/\D.cell? (U g4 0)=some (I (l.2.k))/\D.cell? (U g4 1)=G F (l.2.cs).length B):=bZ (fun D h0 Q=>⟨by have:=h0.cell 4;rw[Y.o] at this;exact this,Q.cell 0,Q.cell 1⟩);refine ae (S:=(fun m:World=>m.cell? (U b 4)=G s8.A3 c.is.length s8.c3/\m.cell? (U g4 0)=some (I (l.2.k))/\m.cell? (U g4 1)=G F (l.2.cs).length B)) (n:=10) (by kernel_rfl) ?_;have A:(fun m:World=>m.cell? (U b 4)=G s8.A3 c.is.length s8.c3/\m.cell? (U g4 0)=some (I (l.2.k))/\m.cell? (U g4 1)=G F (l.2.cs).length B) y.drew:=r.o _ (HB.o.keep (ad.refl [] y).drew (by simp)) (H4.o.keep (ad.refl [] y).drew (by simp))
  try dsimp only at A
  refine ord [0,1,2,3,4,5,6,7] ?_
  iterate 8 (refine tq A ?_;try simp only[PT,Y1,Y2,Y3])
  refine aB ?_;refine J1 8 fun K R=>?_;dsimp only[Y1,Y2,Y3];go_simp;have d:=r.o (y.drew.alloc (.cells #[I (l.2.k),.slice F (l.2.cs).length B,.bool false] 173)) ((HB.o.keep (ad.refl [] y).drew (by simp)).alloc _) ((H4.o.keep (ad.refl [] y).drew (by simp)).alloc _)
  try dsimp only at d
  refine R _ _ (.inr d) ?_;clear R K A;have A:=d;clear d
  try simp only[PT,Y1,Y2,Y3]
  refine J1 9 fun K R=>?_;dsimp only[Y1,Y2,Y3];refine bW (.tmp 56) (.tmp 59) 110 rfl rfl rfl (b1.o _ (ad.refl [] y).drew _) ?_;intro p q w6 q6;have a9:=bZ q6.o.1;have u:=bZ q6.o.2;have j:=bZ (u.o.blk (HB.o.keep (ad.refl [] y).drew (by simp)) (by decide));have P:=bZ (u.o.blk (H4.o.keep (ad.refl [] y).drew (by simp)) (by decide));have d:=r.o w6 j.o P.o
  try dsimp only at d
  have z:=j.o.cell;have zf:=j.o.frozen;have zl:=j.o.lt;unfold bdL clL at z
  try dsimp only at z
  refine R _ _ (.inr d) ?_;clear R K A;have A:=d;clear d
  try simp only[PT,Y1,Y2,Y3]
  refine JQ 10 ?_
  try simp only[PT,Y1,Y2,Y3]
  refine JQ 11 ?_
  try simp only[PT,Y1,Y2,Y3]
  refine JQ 12 ?_
  try simp only[PT,Y1,Y2,Y3]
  refine JQ 13 ?_
  try simp only[PT,Y1,Y2,Y3]
  refine JD ?_;clear A r;clear z zf zl;have B6:Z (Blk (w6.setCell (U b 4) (.slice p (c.is.length+1) q)) b 159 (bdL n cf { s8 with A3:=p,c3:=q }).toArray):=bZ (by have:=j.o.set_ 4 (.slice p (c.is.length+1) q);rw[ar.o];rw[Y.o] at this;unfold bdL clL at this ⊢;simpa using this);have R6:=bZ (a9.o.set j.o (by decide) hb (i:=4) (.slice p (c.is.length+1) q));have O:Z (KT [159,3,168,173,40,181] w (w6.setCell (U b 4) (.slice p (c.is.length+1) q))):=bZ (((KW.o.trans (KT.of (ad.refl [] y).drew)).trans (u.o.mono (by simp))).trans (KT.set j.o (by simp) _));obtain⟨w7,H⟩:∃x,x=w6.setCell (U b 4) (.slice p (c.is.length+1) q):=⟨_,rfl⟩;rw[<-H] at B6 R6 O;clear j P;go_wp2_with fail;rw[<-H];refine bodyPost_ret (v:=.tuple #[]) (by simp[results,Tryz.results79,go_sem]) rfl ?_;exact⟨_,rfl,R6,B6,O⟩
theorem zF (C:Nat->Prop) (W0 w:World) (b n:Nat) (c:Cla) (s:Sv) (x:Lt) (J:Option Addr) (M:Nat) (hn:n<=10) (an:x.a.kd=3) (b4:True) (hR:BR W0 w c s) (hb:W0.heap.size<=b) (hB:Blk w b 159 (bdL n c s).toArray) (hM:c.big 700000000)
 (hT:cP W0 C x.a J M) (aa:Nm x.a.t) (hv:∀v∈x.a.t.vars,0<=v/\v<(n:Int)) (ap:x.a.t.wd<=10000) (b3:x.a.t.tsz<=10000):Calls Tryz.prog 79 #[.pointer (V b),.agg (ltL x J M).toArray] w (AdP W0 w b n (aP n c x)):=by
  obtain⟨N,X⟩:∃W,W=w.alloc (.cells (ltL x J M).toArray 155):=⟨_,rfl⟩;obtain⟨gl,am⟩:∃g,g=w.heap.size:=⟨_,rfl⟩;have k1:Z (ad [] w N):=bZ (by rw[X];exact(ad.refl [] w).alloc _);have HL:Z (Blk N gl 155 (ltL x J M).toArray):=bZ (by rw[X,am];exact Blk.new w 155 _);have HB:=bZ (hB.keep k1.o (by simp));have HR:=bZ (hR.keep0 k1.o);have KW:Z (KT [159,3,168,173,40,181] w N):=bZ (KT.of k1.o);have aq:=bZ hM;obtain⟨l,a4⟩:∃l,l=bj n x.a.t c.ax:=⟨_,rfl⟩;obtain⟨L,hL⟩:∃L,L=sc x.a.t.vars:=⟨_,rfl⟩;have b2:Z (L.length<=10):=bZ (by rw[hL];exact Dc (cS (K:=n) (fun v h=>hv v h)) hn);obtain⟨cf,a0⟩:∃cf,cf=aP n c x:=⟨_,rfl⟩;have ar:Z (cf= { c with nn:=c.nn++L,ax:=l.1,is:=c.is++[eV 3 x.up l.2] }):=bZ (by
   rw[a0,hL,a4];unfold aP;simp[an])
  have b6:Z (l.1.length<=c.ax.length+10000/\l.2.cs.length<=10000):=bZ (by
   have Q:=ea n x.a.t c.ax;have h2:=dL n x.a.t c.ax;have h3:=aA ap;rw[a4];omega)
  have b5:Z (l.2.k.natAbs<=1099511627776/\∀e∈l.2.cs,e.2.natAbs<=4611686018427387904):=bZ (by rw[a4];exact jF aa ap);have VA:Z (∀W,ad [] W0 W->Calls Tryz.prog 113 #[.agg #[I x.a.t.con,.slice J x.a.t.pts.length M]] W (eZ W 3 1 L.length (L.map (Value.int .i64)))):=bZ (fun W hW=>by
   rw[hL];exact gN C 10 (by decide) (by decide) x.a.t W J M (fun v h=>by have:=hv v h;omega) (by omega) hT.tm.1 hT.tm.2 (hT.tt.keep0 hW))
  have FR:Z (∀(W:World) (c1:Cla) (s1:Sv),c1.ax=c.ax->BR W0 W c1 s1->Blk W b 159 (bdL n c1 s1).toArray->Calls Tryz.prog 120 #[.pointer (V b),.agg #[I x.a.t.con,.slice J x.a.t.pts.length M]] W (FrP W0 W b n c1 l)):=bZ (fun W c1 s1 Q h2 h3=>by
   rw[a4,<-Q];exact jG C W0 b n (by omega) hb x.a.t W J M c1 s1 aa.1 aa.2.1.2.1 (fun v h=>by have:=hv v h;omega) (by omega) hT.tm.1 hT.tm.2 hT.tt (by rw[Q];have:=hM.a2;omega) h2 h3)
  rw[<-a0];clear a0 a4 hL hT aa hv ap b3;unfold ltL at*;rw[an] at HL X ⊢;generalize x.up=up at*;generalize x.a.v=av at*;generalize x.a.o=ao at*;generalize x.a.t.con=con at*;generalize x.a.t.pts.length=tl at*;generalize x.a.te=te at*;obtain⟨ev,ek,en,es⟩:=te
  try dsimp only at*
  clear hR hB an hM b4;go_enter Tryz.func79,Tryz.ntmps79;have r:Z (∀D,Blk D b 159 (bdL n c s).toArray->Blk D gl 155 #[I 3,I av,I ao,I con,.slice J tl M,I ev,I ek,.bool en,.string es,.bool up]->D.cell? (U b 2)=G s.A1 c.nn.length s.c1/\D.cell? (U gl 3)=some (I con)/\D.cell? (U gl 4)=G J tl M):=bZ (fun D h0 Q=>⟨h0.cell 2,Q.cell 3,Q.cell 4⟩);go_upto_region 7 with fail;rw[<-X,<-am];clear X am;refine ae (S:=(fun m:World=>m.cell? (U b 2)=G s.A1 c.nn.length s.c1/\m.cell? (U gl 3)=some (I con)/\m.cell? (U gl 4)=G J tl M)) (n:=11) (by kernel_rfl) ?_;have A:(fun m:World=>m.cell? (U b 2)=G s.A1 c.nn.length s.c1/\m.cell? (U gl 3)=some (I con)/\m.cell? (U gl 4)=G J tl M) N.drew:=r.o _ (HB.o.keep (ad.refl [] N).drew (by simp)) (HL.o.keep (ad.refl [] N).drew (by simp))
  try dsimp only at A
  refine ord [0,1,2,3,4,5,6,7,8] ?_
  iterate 9 (refine tq A ?_;try simp only[PT,Y1,Y2,Y3])
  refine aB ?_;refine J1 9 fun K R=>?_;dsimp only[Y1,Y2,Y3];go_simp;refine(VA.o _ (HR.o.keep0 (ad.refl [] N).drew).kp).mono ?_;intro e w5 h5;obtain⟨A5,c5,rfl,m5,n5,o5,k5⟩:=h5;have hI:Z (∀ty,∃p q m,(Builtin.append_ #[108,108] ty #[.slice s.A1 c.nn.length s.c1,.slice A5 L.length c5]).run Tryz.prog w5=.ok (.slice p (c.nn.length+L.length) q) m/\(BR W0 m { c with nn:=c.nn++L } { s with A1:=p,c1:=q }/\KT [3] w5 m)):=bZ (fun ty=>by
  obtain⟨p,q,m,q1,q2,q3,_⟩:=fu ((HR.o.keep0 (ad.refl [] N).drew).keep0 k5.o) ty L A5 L.length c5 rfl (L.map (Value.int .i64)) (by simp) ((dB o5.o).src (s:=1) (by simp) (by decide)) (du.2 rfl) (by have:=aq.o.a1;have:=b2.o;omega);exact⟨p,q,m,q1,q2,q3⟩)
  have d:=r.o w5 ((HB.o.keep (ad.refl [] N).drew (by simp)).keep k5.o (by simp)) ((HL.o.keep (ad.refl [] N).drew (by simp)).keep k5.o (by simp))
  try dsimp only at d
  refine R _ _ (.inr d) ?_;clear R K A;have A:=d;clear d
  try simp only[PT,Y1,Y2,Y3]
  refine J1 10 fun K R=>?_;dsimp only[Y1,Y2,Y3];refine bW (.tmp 34) (.tmp 38) 108 rfl rfl rfl (hI.o _) ?_;intro p q w6 q6;have a9:=bZ q6.o.1;have u:=bZ (((KT.of (T:=[3]) (ad.refl [] N).drew).trans (KT.of k5.o)).trans q6.o.2);have j:=bZ (u.o.blk HB.o (by decide));have P:=bZ (u.o.blk HL.o (by decide));have d:=r.o w6 j.o P.o
  try dsimp only at d
  have z:=j.o.cell;have zf:=j.o.frozen;have zl:=j.o.lt;unfold bdL clL at z
  try dsimp only at z
  clear hI;refine R _ _ (.inr d) ?_;clear R K A;have A:=d;clear d
  try simp only[PT,Y1,Y2,Y3]
  refine JQ 11 ?_
  try simp only[PT,Y1,Y2,Y3]
  refine JQ 12 ?_
  try simp only[PT,Y1,Y2,Y3]
  refine JQ 13 ?_
  try simp only[PT,Y1,Y2,Y3]
  refine JQ 14 ?_
  try simp only[PT,Y1,Y2,Y3]
  refine JD ?_;clear A r;clear z zf zl;have B6:Z (Blk (w6.setCell (U b 2) (.slice p (c.nn.length+L.length) q)) b 159 (bdL n { c with nn:=c.nn++L } { s with A1:=p,c1:=q }).toArray):=bZ (by have:=j.o.set_ 2 (.slice p (c.nn.length+L.length) q);unfold bdL clL at this ⊢;simpa using this);have R6:=bZ (a9.o.set j.o (by decide) hb (i:=2) (.slice p (c.nn.length+L.length) q));have T6:Z (KT [159,3,168,173,40,181] N (w6.setCell (U b 2) (.slice p (c.nn.length+L.length) q))):=bZ ((u.o.mono (by simp)).trans (KT.set j.o (by simp) _));have O:=bZ (KW.o.trans T6.o);have a5:=bZ (T6.o.blk HL.o (by decide));obtain⟨w7,H⟩:∃x,x=w6.setCell (U b 2) (.slice p (c.nn.length+L.length) q):=⟨_,rfl⟩;rw[<-H] at B6 R6 T6 O a5;rw[<-H];clear H T6 u j P HB HR KW HL a9;have au:=bZ (FR.o w7 { c with nn:=c.nn++L } _ rfl R6.o B6.o);clear FR VA;have z:=a5.o.cell;have zl:=a5.o.lt;have ac:Z (∀(W:World) (s2:Sv) (F:Option Addr) (B:Nat) (f:Lin) (eq:Bool),(f,eq)=eV 3 up l.2->BR W0 W { { c with nn:=c.nn++L } with ax:=l.1 } s2->∀(ty:Nat),(f.cs.length<=B/\B<=maxLen)->ag bh W (Cof W0.heap.size W) F f.cs->
   ∃p q m,(Builtin.append_ #[110,110] ty #[.slice s2.A3 c.is.length s2.c3,.slice (V W.heap.size) 1 1]).run Tryz.prog (W.alloc (.cells #[I f.k,.slice F f.cs.length B,.bool eq] 173))=.ok (.slice p (c.is.length+1) q) m/\(BR W0 m cf { s2 with A3:=p,c3:=q }/\KT [173] W m)):=bZ (fun W s2 F B f eq hf Q ty h2 h3=>by
   rw[ar.o,<-hf]
   exact vu Q f eq F B h2 h3 (by have:=aq.o.a3;dsimp only;omega) ty)
  go_upto_region 12 with (go_at_call 120;clear z zl;refine au.o.mono ?_;intro e w8 h8;obtain⟨s8,F,B,rfl,nf,R8,B8,C8,K8⟩:=h8;have a6:=bZ (K8.o.blk a5.o (by decide));have z:=a6.o.cell;have zl:=a6.o.lt);obtain⟨y,ab⟩:∃W,W=w8.alloc (.cells #[I l.2.k,.slice F l.2.cs.length B] 166):=⟨_,rfl⟩;obtain⟨g4,ak⟩:∃g,g=w8.heap.size:=⟨_,rfl⟩;rw[<-ab,<-ak];have k9:Z (ad [] w8 y):=bZ (by rw[ab];exact(ad.refl [] w8).alloc _);have H4:Z (Blk y g4 166 #[I l.2.k,.slice F l.2.cs.length B]):=bZ (by rw[ab,ak];exact Blk.new w8 166 _);clear ab ak z zl;have b0:=bZ (a6.o.keep k9.o (by simp));have C9:=bZ ((C8.o.keep0 k9.o).mono (E:=Cof W0.heap.size y) (fun g _ hc=>hc.keep k9.o (by simp)));have R9:=bZ (R8.o.keep0 k9.o);obtain⟨c8,Y⟩:∃x:Cla,x= { { c with nn:=c.nn++L } with ax:=l.1 }:=⟨_,rfl⟩;replace Y:=bZ Y;have HB:Z (Blk y b 159 (bdL n c8 s8).toArray):=bZ (by rw[Y.o];exact B8.o.keep k9.o (by simp));have KW:Z (KT [159,3,168,173,40,181] w y):=bZ ((O.o.trans (K8.o.mono (by simp))).trans (KT.of k9.o));clear B8 R8 K8 a6 C8 k9;have b1:=bZ (fun (W:World) (hW:ad [] y W) (ty:Nat)=>ac.o W s8 F B l.2 true rfl (R9.o.keep0 hW) ty nf ((C9.o.keep0 hW).mono (fun g _ hc=>hc.keep hW (by simp))));clear C9 ac b0;have r:Z (∀D,Blk D b 159 (bdL n c8 s8).toArray->Blk D g4 166 #[I (l.2.k),.slice F (l.2.cs).length B]->D.cell? (U b 4)=G s8.A3 c.is.length s8.c3/\D.cell? (U g4 0)=some (I (l.2.k))/\D.cell? (U g4 1)=G F (l.2.cs).length B):=bZ (fun D h0 Q=>⟨by have:=h0.cell 4;rw[Y.o] at this;exact this,Q.cell 0,Q.cell 1⟩);refine ae (S:=(fun m:World=>m.cell? (U b 4)=G s8.A3 c.is.length s8.c3/\m.cell? (U g4 0)=some (I (l.2.k))/\m.cell? (U g4 1)=G F (l.2.cs).length B)) (n:=10) (by kernel_rfl) ?_;have A:(fun m:World=>m.cell? (U b 4)=G s8.A3 c.is.length s8.c3/\m.cell? (U g4 0)=some (I (l.2.k))/\m.cell? (U g4 1)=G F (l.2.cs).length B) y.drew:=r.o _ (HB.o.keep (ad.refl [] y).drew (by simp)) (H4.o.keep (ad.refl [] y).drew (by simp))
  try dsimp only at A
  refine ord [0,1,2,3,4,5,6,7] ?_
  iterate 8 (refine tq A ?_;try simp only[PT,Y1,Y2,Y3])
  refine aB ?_;refine J1 8 fun K R=>?_;dsimp only[Y1,Y2,Y3];go_simp;have d:=r.o (y.drew.alloc (.cells #[I (l.2.k),.slice F (l.2.cs).length B,.bool true] 173)) ((HB.o.keep (ad.refl [] y).drew (by simp)).alloc _) ((H4.o.keep (ad.refl [] y).drew (by simp)).alloc _)
  try dsimp only at d
  refine R _ _ (.inr d) ?_;clear R K A;have A:=d;clear d
  try simp only[PT,Y1,Y2,Y3]
  refine J1 9 fun K R=>?_;dsimp only[Y1,Y2,Y3];refine bW (.tmp 71) (.tmp 74) 110 rfl rfl rfl (b1.o _ (ad.refl [] y).drew _) ?_;intro p q w6 q6;have a9:=bZ q6.o.1;have u:=bZ q6.o.2;have j:=bZ (u.o.blk (HB.o.keep (ad.refl [] y).drew (by simp)) (by decide));have P:=bZ (u.o.blk (H4.o.keep (ad.refl [] y).drew (by simp)) (by decide));have d:=r.o w6 j.o P.o
  try dsimp only at d
  have z:=j.o.cell;have zf:=j.o.frozen;have zl:=j.o.lt;unfold bdL clL at z
  try dsimp only at z
  refine R _ _ (.inr d) ?_;clear R K A;have A:=d;clear d
  try simp only[PT,Y1,Y2,Y3]
  refine JQ 10 ?_
  try simp only[PT,Y1,Y2,Y3]
  refine JQ 11 ?_
  try simp only[PT,Y1,Y2,Y3]
  refine JQ 12 ?_
  try simp only[PT,Y1,Y2,Y3]
  refine JQ 13 ?_
  try simp only[PT,Y1,Y2,Y3]
  refine JD ?_;clear A r;clear z zf zl;have B6:Z (Blk (w6.setCell (U b 4) (.slice p (c.is.length+1) q)) b 159 (bdL n cf { s8 with A3:=p,c3:=q }).toArray):=bZ (by have:=j.o.set_ 4 (.slice p (c.is.length+1) q);rw[ar.o];rw[Y.o] at this;unfold bdL clL at this ⊢;simpa using this);have R6:=bZ (a9.o.set j.o (by decide) hb (i:=4) (.slice p (c.is.length+1) q));have O:Z (KT [159,3,168,173,40,181] w (w6.setCell (U b 4) (.slice p (c.is.length+1) q))):=bZ (((KW.o.trans (KT.of (ad.refl [] y).drew)).trans (u.o.mono (by simp))).trans (KT.set j.o (by simp) _));obtain⟨w7,H⟩:∃x,x=w6.setCell (U b 4) (.slice p (c.is.length+1) q):=⟨_,rfl⟩;rw[<-H] at B6 R6 O;clear j P;go_wp2_with fail;rw[<-H];refine bodyPost_ret (v:=.tuple #[]) (by simp[results,Tryz.results79,go_sem]) rfl ?_;exact⟨_,rfl,R6,B6,O⟩
end Go.Proofs.YtldmkbhgdbafhaaGreat
