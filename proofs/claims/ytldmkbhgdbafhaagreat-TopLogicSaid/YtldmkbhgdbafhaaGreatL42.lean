import Derived.Test.YtldmkbhgdbafhaaGreatL41
namespace Go.Proofs.YtldmkbhgdbafhaaGreat
open Go.RowKit
set_option linter.unusedSimpArgs false
set_option linter.unusedVariables false
set_option maxRecDepth 100000
set_option maxHeartbeats 64000000
theorem yI (C:Nat->Prop) (W0 w:World) (b n:Nat) (c:Cla) (s:Sv) (x:Lt) (tA:Option Addr) (tc:Nat) (hn:n<=10) (b2:x.a.kd=4) (b3:x.up=false) (hR:BR W0 w c s) (hb:W0.heap.size<=b) (hB:Blk w b 159 (bdL n c s).toArray) (hM:c.big 700000000)
 (hT:cP W0 C x.a tA tc) (aq:Nm x.a.t) (hv:∀v∈x.a.t.vars,0<=v/\v<(n:Int)) (b4:x.a.t.wd<=10000) (bd:x.a.t.tsz<=10000):Calls Tryz.prog 79 #[.pointer (V b),.agg (ltL x tA tc).toArray] w (AdP W0 w b n (aP n c x)):=by
  obtain⟨wo,Q⟩:∃W,W=w.alloc (.cells (ltL x tA tc).toArray 155):=⟨_,rfl⟩;obtain⟨gl,b1⟩:∃g,g=w.heap.size:=⟨_,rfl⟩;have k1:Z (ad [] w wo):=bZ (by rw[Q];exact(ad.refl [] w).alloc _);have HL:Z (Blk wo gl 155 (ltL x tA tc).toArray):=bZ (by rw[Q,b1];exact Blk.new w 155 _);have HB:=bZ (hB.keep k1.o (by simp));have HR:=bZ (hR.keep0 k1.o);have KW:Z (KT [159,3,168,173,40,181] w wo):=bZ (KT.of k1.o);have b6:=bZ hM;have bf:Z (W0.heap.size<=w.heap.size):=bZ hR.kp.size;obtain⟨d,a6⟩:∃d,d=bj n x.a.t c.ax:=⟨_,rfl⟩;obtain⟨L,hL⟩:∃L,L=sc x.a.t.vars:=⟨_,rfl⟩;have bc:Z (L.length<=10):=bZ (by rw[hL];exact Dc (cS (K:=n) (fun v h=>hv v h)) hn);obtain⟨cf,a5⟩:∃cf,cf=aP n c x:=⟨_,rfl⟩;have b7:Z (cf= { c with nn:=c.nn++L,ax:=d.1,is:=c.is++[eV 4 false d.2] }):=bZ (by
   rw[a5,hL,a6];unfold aP;simp[b2,b3])
  have bn:Z (d.1.length<=c.ax.length+10000/\d.2.cs.length<=10000):=bZ (by
   have N:=ea n x.a.t c.ax;have h2:=dL n x.a.t c.ax;have h3:=aA b4;rw[a6];omega)
  have b8:Z (d.2.k.natAbs<=1099511627776/\∀e∈d.2.cs,e.2.natAbs<=4611686018427387904):=bZ (by rw[a6];exact jF aq b4);have VA:Z (∀W,ad [] W0 W->Calls Tryz.prog 113 #[.agg #[I x.a.t.con,.slice tA x.a.t.pts.length tc]] W (eZ W 3 1 L.length (L.map (Value.int .i64)))):=bZ (fun W hW=>by
   rw[hL];exact gN C 10 (by decide) (by decide) x.a.t W tA tc (fun v h=>by have:=hv v h;omega) (by omega) hT.tm.1 hT.tm.2 (hT.tt.keep0 hW))
  have FR:Z (∀(W:World) (c1:Cla) (s1:Sv),c1.ax=c.ax->BR W0 W c1 s1->Blk W b 159 (bdL n c1 s1).toArray->Calls Tryz.prog 120 #[.pointer (V b),.agg #[I x.a.t.con,.slice tA x.a.t.pts.length tc]] W (FrP W0 W b n c1 d)):=bZ (fun W c1 s1 N h2 h3=>by
   rw[a6,<-N];exact jG C W0 b n (by omega) hb x.a.t W tA tc c1 s1 aq.1 aq.2.1.2.1 (fun v h=>by have:=hv v h;omega) (by omega) hT.tm.1 hT.tm.2 hT.tt (by rw[N];have:=hM.a2;omega) h2 h3)
  rw[<-a5];clear a5 a6 hL hT aq hv b4 bd;unfold ltL at*;rw[b2] at HL Q ⊢;rw[b3] at HL Q ⊢;generalize x.a.v=av at*;generalize x.a.o=ao at*;generalize x.a.t.con=con at*;generalize x.a.t.pts.length=tl at*;generalize x.a.te=te at*;obtain⟨ev,ek,en,es⟩:=te
  try dsimp only at*
  clear hR hB b2 hM b3;go_enter Tryz.func79,Tryz.ntmps79;have A:Z (∀P,Blk P b 159 (bdL n c s).toArray->Blk P gl 155 #[I 4,I av,I ao,I con,.slice tA tl tc,I ev,I ek,.bool en,.string es,.bool false]->P.cell? (U b 2)=G s.A1 c.nn.length s.c1/\P.cell? (U gl 3)=some (I con)/\P.cell? (U gl 4)=G tA tl tc):=bZ (fun P h0 N=>⟨h0.cell 2,N.cell 3,N.cell 4⟩);go_upto_region 7 with fail;rw[<-Q,<-b1];clear Q b1;refine ae (S:=(fun m:World=>m.cell? (U b 2)=G s.A1 c.nn.length s.c1/\m.cell? (U gl 3)=some (I con)/\m.cell? (U gl 4)=G tA tl tc)) (n:=11) (by kernel_rfl) ?_;have H:(fun m:World=>m.cell? (U b 2)=G s.A1 c.nn.length s.c1/\m.cell? (U gl 3)=some (I con)/\m.cell? (U gl 4)=G tA tl tc) wo.drew:=A.o _ (HB.o.keep (ad.refl [] wo).drew (by simp)) (HL.o.keep (ad.refl [] wo).drew (by simp))
  try dsimp only at H
  refine ord [0,1,2,3,4,5,6,7,8] ?_
  iterate 9 (refine tq H ?_;try simp only[PT,Y1,Y2,Y3])
  refine aB ?_;refine J1 9 fun K hK=>?_;dsimp only[Y1,Y2,Y3];go_simp;refine(VA.o _ (HR.o.keep0 (ad.refl [] wo).drew).kp).mono ?_;intro e w5 h5;obtain⟨A5,c5,rfl,m5,n5,o5,k5⟩:=h5;have hI:Z (∀ty,∃r u m,(Builtin.append_ #[108,108] ty #[.slice s.A1 c.nn.length s.c1,.slice A5 L.length c5]).run Tryz.prog w5=.ok (.slice r (c.nn.length+L.length) u) m/\(BR W0 m { c with nn:=c.nn++L } { s with A1:=r,c1:=u }/\KT [3] w5 m)):=bZ (fun ty=>by
  obtain⟨r,u,m,q1,q2,q3,_⟩:=fu ((HR.o.keep0 (ad.refl [] wo).drew).keep0 k5.o) ty L A5 L.length c5 rfl (L.map (Value.int .i64)) (by simp) ((dB o5.o).src (s:=1) (by simp) (by decide)) (du.2 rfl) (by have:=b6.o.a1;have:=bc.o;omega);exact⟨r,u,m,q1,q2,q3⟩)
  have j:=A.o w5 ((HB.o.keep (ad.refl [] wo).drew (by simp)).keep k5.o (by simp)) ((HL.o.keep (ad.refl [] wo).drew (by simp)).keep k5.o (by simp))
  try dsimp only at j
  refine hK _ _ (.inr j) ?_;clear hK K H;have H:=j;clear j
  try simp only[PT,Y1,Y2,Y3]
  refine J1 10 fun K hK=>?_;dsimp only[Y1,Y2,Y3];refine bW (.tmp 34) (.tmp 38) 108 rfl rfl rfl (hI.o _) ?_;intro r u w6 q6;have an:=bZ q6.o.1;have D:=bZ (((KT.of (T:=[3]) (ad.refl [] wo).drew).trans (KT.of k5.o)).trans q6.o.2);have l:=bZ (D.o.blk HB.o (by decide));have a0:=bZ (D.o.blk HL.o (by decide));have j:=A.o w6 l.o a0.o
  try dsimp only at j
  have z:=l.o.cell;have zf:=l.o.frozen;have zl:=l.o.lt;unfold bdL clL at z
  try dsimp only at z
  clear hI;refine hK _ _ (.inr j) ?_;clear hK K H;have H:=j;clear j
  try simp only[PT,Y1,Y2,Y3]
  refine JQ 11 ?_
  try simp only[PT,Y1,Y2,Y3]
  refine JQ 12 ?_
  try simp only[PT,Y1,Y2,Y3]
  refine JQ 13 ?_
  try simp only[PT,Y1,Y2,Y3]
  refine JQ 14 ?_
  try simp only[PT,Y1,Y2,Y3]
  refine JD ?_;clear H A;clear z zf zl;have B6:Z (Blk (w6.setCell (U b 2) (.slice r (c.nn.length+L.length) u)) b 159 (bdL n { c with nn:=c.nn++L } { s with A1:=r,c1:=u }).toArray):=bZ (by have:=l.o.set_ 2 (.slice r (c.nn.length+L.length) u);unfold bdL clL at this ⊢;simpa using this);have R6:=bZ (an.o.set l.o (by decide) hb (i:=2) (.slice r (c.nn.length+L.length) u));have T6:Z (KT [159,3,168,173,40,181] wo (w6.setCell (U b 2) (.slice r (c.nn.length+L.length) u))):=bZ ((D.o.mono (by simp)).trans (KT.set l.o (by simp) _));have O:=bZ (KW.o.trans T6.o);have ac:=bZ (T6.o.blk HL.o (by decide));obtain⟨w7,X⟩:∃x,x=w6.setCell (U b 2) (.slice r (c.nn.length+L.length) u):=⟨_,rfl⟩;rw[<-X] at B6 R6 T6 O ac;rw[<-X];clear X T6 D l a0 HB HR KW HL an;have b9:=bZ (FR.o w7 { c with nn:=c.nn++L } _ rfl R6.o B6.o);clear FR VA;have z:=ac.o.cell;have zl:=ac.o.lt;have ar:Z (∀(W:World) (s2:Sv) (M:Option Addr) (J:Nat) (f:Lin) (eq:Bool),(f,eq)=eV 4 false d.2->BR W0 W { { c with nn:=c.nn++L } with ax:=d.1 } s2->∀(ty:Nat),(f.cs.length<=J/\J<=maxLen)->ag bh W (Cof W0.heap.size W) M f.cs->
   ∃r u m,(Builtin.append_ #[110,110] ty #[.slice s2.A3 c.is.length s2.c3,.slice (V W.heap.size) 1 1]).run Tryz.prog (W.alloc (.cells #[I f.k,.slice M f.cs.length J,.bool eq] 173))=.ok (.slice r (c.is.length+1) u) m/\(BR W0 m cf { s2 with A3:=r,c3:=u }/\KT [173] W m)):=bZ (fun W s2 M J f eq hf N ty h2 h3=>by
   rw[b7.o,<-hf]
   exact vu N f eq M J h2 h3 (by have:=b6.o.a3;dsimp only;omega) ty)
  go_upto_region 14 with (go_at_call 120;clear z zl;refine b9.o.mono ?_;intro e w8 h8;obtain⟨s8,M,J,rfl,nf,R8,B8,C8,K8⟩:=h8;have ak:=bZ (K8.o.blk ac.o (by decide));have z:=ak.o.cell;have zl:=ak.o.lt);obtain⟨q,F⟩:∃W,W=w8.alloc (.cells #[I d.2.k,.slice M d.2.cs.length J] 166):=⟨_,rfl⟩;obtain⟨B,R⟩:∃g,g=w8.heap.size:=⟨_,rfl⟩;rw[<-F,<-R];have k9:Z (ad [] w8 q):=bZ (by rw[F];exact(ad.refl [] w8).alloc _);have Y:Z (Blk q B 166 #[I d.2.k,.slice M d.2.cs.length J]):=bZ (by rw[F,R];exact Blk.new w8 166 _);have ba:Z (w.heap.size<=B):=bZ (by have N:=O.o.size;have h2:=K8.o.size;omega);clear F R z zl;have au:=bZ (ak.o.keep k9.o (by simp));have C9:=bZ ((C8.o.keep0 k9.o).mono (E:=Cof W0.heap.size q) (fun g _ hc=>hc.keep k9.o (by simp)));have R9:=bZ (R8.o.keep0 k9.o);obtain⟨c8,a4⟩:∃x:Cla,x= { { c with nn:=c.nn++L } with ax:=d.1 }:=⟨_,rfl⟩;replace a4:=bZ a4;have HB:Z (Blk q b 159 (bdL n c8 s8).toArray):=bZ (by rw[a4.o];exact B8.o.keep k9.o (by simp));have KW:Z (KT [159,3,168,173,40,181] w q):=bZ ((O.o.trans (K8.o.mono (by simp))).trans (KT.of k9.o));clear B8 R8 K8 ak C8 k9;have z:=au.o.cell;have zl:=au.o.lt;have y4:=Y.o.cell;have bk:=Y.o.frozen;have bm:=Y.o.lt;have bo:IntKind.i64.wrap (d.2.k+1)=d.2.k+1:=C0 _ (by have:=b8.o.1;omega);have bp:wrap64 (d.2.k+1)=d.2.k+1:=IntWalk.wrap64_in _ (by have:=b8.o.1;omega);go_upto_region 17 with fail;clear z zl y4 bk bm;have aa:Z (Blk (q.setCell (U B 0) (I (d.2.k+1))) B 166 #[I (d.2.k+1),.slice M d.2.cs.length J]):=bZ (Y.o.set_ 0 _);have k0:Z (KT [166] q (q.setCell (U B 0) (I (d.2.k+1)))):=bZ (KT.set Y.o (by simp) _);have R:Z (w.heap.size<=B):=bZ ba.o;have ab:=bZ (k0.o.blk HB.o (by decide));have b0:=bZ (R9.o.set Y.o (by decide) (Dc bf.o R.o) (i:=0) (I (d.2.k+1)));have a9:=bZ ((C9.o.keep ((ad.refl [B] q).setCell (p:=(U B 0)) (.inl (by simp)) (I (d.2.k+1))) (fun y hy hc=>by obtain⟨_,cs,ap⟩:=hc;rw[CZ.1 hy] at ap;exact absurd (ap.ty Y.o) (by decide))).mono (E:=Cof W0.heap.size (q.setCell (U B 0) (I (d.2.k+1)))) (fun g _ hc=>by obtain⟨N,cs,ap⟩:=hc;exact⟨N,cs,k0.o.blk ap (by decide)⟩));have am:Z (KT [159,3,168,173,40,181] w (q.setCell (U B 0) (I (d.2.k+1)))):=bZ (KW.o.ext ((ad.refl [B] q).setCell (.inl (by simp)) _) (fun y hy=>by rw[CZ.1 hy];exact R.o));obtain⟨wq,b5⟩:∃x,x=q.setCell (U B 0) (I (d.2.k+1)):=⟨_,rfl⟩;rw[<-b5] at aa ab b0 a9 am;rw[<-b5];clear b5 k0 Y HB R9 C9 KW au;obtain⟨q,F⟩:∃x,x=wq:=⟨_,rfl⟩;rw[<-F] at aa ab b0 a9 am;rw[<-F];clear F;have Y:=aa;have HB:=ab;have KW:=am;clear aa ab am;have bb:=bZ (fun (W:World) (hW:ad [] q W) (ty:Nat)=>ar.o W s8 M J ⟨d.2.k+1,d.2.cs⟩ false (by simp[eV]) (b0.o.keep0 hW) ty nf ((a9.o.keep0 hW).mono (fun g _ hc=>hc.keep hW (by simp))));clear a9 ar;have A:Z (∀P,Blk P b 159 (bdL n c8 s8).toArray->Blk P B 166 #[I (d.2.k+1),.slice M (d.2.cs).length J]->P.cell? (U b 4)=G s8.A3 c.is.length s8.c3/\P.cell? (U B 0)=some (I (d.2.k+1))/\P.cell? (U B 1)=G M (d.2.cs).length J):=bZ (fun P h0 N=>⟨by have:=h0.cell 4;rw[a4.o] at this;exact this,N.cell 0,N.cell 1⟩);refine ae (S:=(fun m:World=>m.cell? (U b 4)=G s8.A3 c.is.length s8.c3/\m.cell? (U B 0)=some (I (d.2.k+1))/\m.cell? (U B 1)=G M (d.2.cs).length J)) (n:=10) (by kernel_rfl) ?_;have H:(fun m:World=>m.cell? (U b 4)=G s8.A3 c.is.length s8.c3/\m.cell? (U B 0)=some (I (d.2.k+1))/\m.cell? (U B 1)=G M (d.2.cs).length J) q.drew:=A.o _ (HB.o.keep (ad.refl [] q).drew (by simp)) (Y.o.keep (ad.refl [] q).drew (by simp))
  try dsimp only at H
  refine ord [0,1,2,3,4,5,6,7] ?_
  iterate 8 (refine tq H ?_;try simp only[PT,Y1,Y2,Y3])
  refine aB ?_;refine J1 8 fun K hK=>?_;dsimp only[Y1,Y2,Y3];go_simp;have j:=A.o (q.drew.alloc (.cells #[I (d.2.k+1),.slice M (d.2.cs).length J,.bool false] 173)) ((HB.o.keep (ad.refl [] q).drew (by simp)).alloc _) ((Y.o.keep (ad.refl [] q).drew (by simp)).alloc _)
  try dsimp only at j
  refine hK _ _ (.inr j) ?_;clear hK K H;have H:=j;clear j
  try simp only[PT,Y1,Y2,Y3]
  refine J1 9 fun K hK=>?_;dsimp only[Y1,Y2,Y3];refine bW (.tmp 94) (.tmp 97) 110 rfl rfl rfl (bb.o _ (ad.refl [] q).drew _) ?_;intro r u w6 q6;have an:=bZ q6.o.1;have D:=bZ q6.o.2;have l:=bZ (D.o.blk (HB.o.keep (ad.refl [] q).drew (by simp)) (by decide));have a0:=bZ (D.o.blk (Y.o.keep (ad.refl [] q).drew (by simp)) (by decide));have j:=A.o w6 l.o a0.o
  try dsimp only at j
  have z:=l.o.cell;have zf:=l.o.frozen;have zl:=l.o.lt;unfold bdL clL at z
  try dsimp only at z
  refine hK _ _ (.inr j) ?_;clear hK K H;have H:=j;clear j
  try simp only[PT,Y1,Y2,Y3]
  refine JQ 10 ?_
  try simp only[PT,Y1,Y2,Y3]
  refine JQ 11 ?_
  try simp only[PT,Y1,Y2,Y3]
  refine JQ 12 ?_
  try simp only[PT,Y1,Y2,Y3]
  refine JQ 13 ?_
  try simp only[PT,Y1,Y2,Y3]
  refine JD ?_;clear H A;clear z zf zl;have B6:Z (Blk (w6.setCell (U b 4) (.slice r (c.is.length+1) u)) b 159 (bdL n cf { s8 with A3:=r,c3:=u }).toArray):=bZ (by have:=l.o.set_ 4 (.slice r (c.is.length+1) u);rw[b7.o];rw[a4.o] at this;unfold bdL clL at this ⊢;simpa using this);have R6:=bZ (an.o.set l.o (by decide) hb (i:=4) (.slice r (c.is.length+1) u));have O:Z (KT [159,3,168,173,40,181] w (w6.setCell (U b 4) (.slice r (c.is.length+1) u))):=bZ (((KW.o.trans (KT.of (ad.refl [] q).drew)).trans (D.o.mono (by simp))).trans (KT.set l.o (by simp) _));obtain⟨w7,X⟩:∃x,x=w6.setCell (U b 4) (.slice r (c.is.length+1) u):=⟨_,rfl⟩;rw[<-X] at B6 R6 O;clear l a0;go_wp2_with fail;rw[<-X];refine bodyPost_ret (v:=.tuple #[]) (by simp[results,Tryz.results79,go_sem]) rfl ?_;exact⟨_,rfl,R6,B6,O⟩
theorem yH (C:Nat->Prop) (W0 w:World) (b n:Nat) (c:Cla) (s:Sv) (x:Lt) (Y:Option Addr) (tc:Nat) (hn:n<=10) (b7:x.a.kd=4) (b8:x.up=true) (hR:BR W0 w c s) (hb:W0.heap.size<=b) (hB:Blk w b 159 (bdL n c s).toArray) (hM:c.big 700000000)
 (hT:cP W0 C x.a Y tc) (aq:Nm x.a.t) (hv:∀v∈x.a.t.vars,0<=v/\v<(n:Int)) (b9:x.a.t.wd<=10000) (bx:x.a.t.tsz<=10000):Calls Tryz.prog 79 #[.pointer (V b),.agg (ltL x Y tc).toArray] w (AdP W0 w b n (aP n c x)):=by
  obtain⟨wo,R⟩:∃W,W=w.alloc (.cells (ltL x Y tc).toArray 155):=⟨_,rfl⟩;obtain⟨gl,b6⟩:∃g,g=w.heap.size:=⟨_,rfl⟩;have k1:Z (ad [] w wo):=bZ (by rw[R];exact(ad.refl [] w).alloc _);have HL:Z (Blk wo gl 155 (ltL x Y tc).toArray):=bZ (by rw[R,b6];exact Blk.new w 155 _);have HB:=bZ (hB.keep k1.o (by simp));have HR:=bZ (hR.keep0 k1.o);have KW:Z (KT [159,3,168,173,40,181] w wo):=bZ (KT.of k1.o);have bm:=bZ hM;have bo:Z (W0.heap.size<=w.heap.size):=bZ hR.kp.size;obtain⟨r,aa⟩:∃r,r=bj n x.a.t c.ax:=⟨_,rfl⟩;obtain⟨L,hL⟩:∃L,L=sc x.a.t.vars:=⟨_,rfl⟩;have bs:Z (L.length<=10):=bZ (by rw[hL];exact Dc (cS (K:=n) (fun v h=>hv v h)) hn);obtain⟨cf,a9⟩:∃cf,cf=aP n c x:=⟨_,rfl⟩;have bn:Z (cf= { c with nn:=c.nn++L,ax:=r.1,is:=c.is++[eV 4 true r.2] }):=bZ (by
   rw[a9,hL,aa];unfold aP;simp[b7,b8])
  have bt:Z (r.1.length<=c.ax.length+10000/\r.2.cs.length<=10000):=bZ (by
   have H:=ea n x.a.t c.ax;have h2:=dL n x.a.t c.ax;have h3:=aA b9;rw[aa];omega)
  have ap:Z (r.2.k.natAbs<=1099511627776/\∀e∈r.2.cs,e.2.natAbs<=4611686018427387904):=bZ (by rw[aa];exact jF aq b9);have VA:Z (∀W,ad [] W0 W->Calls Tryz.prog 113 #[.agg #[I x.a.t.con,.slice Y x.a.t.pts.length tc]] W (eZ W 3 1 L.length (L.map (Value.int .i64)))):=bZ (fun W hW=>by
   rw[hL];exact gN C 10 (by decide) (by decide) x.a.t W Y tc (fun v h=>by have:=hv v h;omega) (by omega) hT.tm.1 hT.tm.2 (hT.tt.keep0 hW))
  have FR:Z (∀(W:World) (c1:Cla) (s1:Sv),c1.ax=c.ax->BR W0 W c1 s1->Blk W b 159 (bdL n c1 s1).toArray->Calls Tryz.prog 120 #[.pointer (V b),.agg #[I x.a.t.con,.slice Y x.a.t.pts.length tc]] W (FrP W0 W b n c1 r)):=bZ (fun W c1 s1 H h2 h3=>by
   rw[aa,<-H];exact jG C W0 b n (by omega) hb x.a.t W Y tc c1 s1 aq.1 aq.2.1.2.1 (fun v h=>by have:=hv v h;omega) (by omega) hT.tm.1 hT.tm.2 hT.tt (by rw[H];have:=hM.a2;omega) h2 h3)
  rw[<-a9];clear a9 aa hL hT aq hv b9 bx;unfold ltL at*;rw[b7] at HL R ⊢;rw[b8] at HL R ⊢;generalize x.a.v=av at*;generalize x.a.o=ao at*;generalize x.a.t.con=con at*;generalize x.a.t.pts.length=tl at*;generalize x.a.te=te at*;obtain⟨ev,ek,en,es⟩:=te
  try dsimp only at*
  clear hR hB b7 hM b8;go_enter Tryz.func79,Tryz.ntmps79;have F:Z (∀Q,Blk Q b 159 (bdL n c s).toArray->Blk Q gl 155 #[I 4,I av,I ao,I con,.slice Y tl tc,I ev,I ek,.bool en,.string es,.bool true]->Q.cell? (U b 2)=G s.A1 c.nn.length s.c1/\Q.cell? (U gl 3)=some (I con)/\Q.cell? (U gl 4)=G Y tl tc):=bZ (fun Q h0 H=>⟨h0.cell 2,H.cell 3,H.cell 4⟩);go_upto_region 7 with fail;rw[<-R,<-b6];clear R b6;refine ae (S:=(fun p:World=>p.cell? (U b 2)=G s.A1 c.nn.length s.c1/\p.cell? (U gl 3)=some (I con)/\p.cell? (U gl 4)=G Y tl tc)) (n:=11) (by kernel_rfl) ?_;have N:(fun p:World=>p.cell? (U b 2)=G s.A1 c.nn.length s.c1/\p.cell? (U gl 3)=some (I con)/\p.cell? (U gl 4)=G Y tl tc) wo.drew:=F.o _ (HB.o.keep (ad.refl [] wo).drew (by simp)) (HL.o.keep (ad.refl [] wo).drew (by simp))
  try dsimp only at N
  refine ord [0,1,2,3,4,5,6,7,8] ?_
  iterate 9 (refine tq N ?_;try simp only[PT,Y1,Y2,Y3])
  refine aB ?_;refine J1 9 fun K hK=>?_;dsimp only[Y1,Y2,Y3];go_simp;refine(VA.o _ (HR.o.keep0 (ad.refl [] wo).drew).kp).mono ?_;intro e w5 h5;obtain⟨A5,c5,rfl,m5,n5,o5,k5⟩:=h5;have hI:Z (∀ty,∃u A p,(Builtin.append_ #[108,108] ty #[.slice s.A1 c.nn.length s.c1,.slice A5 L.length c5]).run Tryz.prog w5=.ok (.slice u (c.nn.length+L.length) A) p/\(BR W0 p { c with nn:=c.nn++L } { s with A1:=u,c1:=A }/\KT [3] w5 p)):=bZ (fun ty=>by
  obtain⟨u,A,p,q1,q2,q3,_⟩:=fu ((HR.o.keep0 (ad.refl [] wo).drew).keep0 k5.o) ty L A5 L.length c5 rfl (L.map (Value.int .i64)) (by simp) ((dB o5.o).src (s:=1) (by simp) (by decide)) (du.2 rfl) (by have:=bm.o.a1;have:=bs.o;omega);exact⟨u,A,p,q1,q2,q3⟩)
  have d:=F.o w5 ((HB.o.keep (ad.refl [] wo).drew (by simp)).keep k5.o (by simp)) ((HL.o.keep (ad.refl [] wo).drew (by simp)).keep k5.o (by simp))
  try dsimp only at d
  refine hK _ _ (.inr d) ?_;clear hK K N;have N:=d;clear d
  try simp only[PT,Y1,Y2,Y3]
  refine J1 10 fun K hK=>?_;dsimp only[Y1,Y2,Y3];refine bW (.tmp 34) (.tmp 38) 108 rfl rfl rfl (hI.o _) ?_;intro u A w6 q6;have an:=bZ q6.o.1;have J:=bZ (((KT.of (T:=[3]) (ad.refl [] wo).drew).trans (KT.of k5.o)).trans q6.o.2);have j:=bZ (J.o.blk HB.o (by decide));have a4:=bZ (J.o.blk HL.o (by decide));have d:=F.o w6 j.o a4.o
  try dsimp only at d
  have z:=j.o.cell;have zf:=j.o.frozen;have zl:=j.o.lt;unfold bdL clL at z
  try dsimp only at z
  clear hI;refine hK _ _ (.inr d) ?_;clear hK K N;have N:=d;clear d
  try simp only[PT,Y1,Y2,Y3]
  refine JQ 11 ?_
  try simp only[PT,Y1,Y2,Y3]
  refine JQ 12 ?_
  try simp only[PT,Y1,Y2,Y3]
  refine JQ 13 ?_
  try simp only[PT,Y1,Y2,Y3]
  refine JQ 14 ?_
  try simp only[PT,Y1,Y2,Y3]
  refine JD ?_;clear N F;clear z zf zl;have B6:Z (Blk (w6.setCell (U b 2) (.slice u (c.nn.length+L.length) A)) b 159 (bdL n { c with nn:=c.nn++L } { s with A1:=u,c1:=A }).toArray):=bZ (by have:=j.o.set_ 2 (.slice u (c.nn.length+L.length) A);unfold bdL clL at this ⊢;simpa using this);have R6:=bZ (an.o.set j.o (by decide) hb (i:=2) (.slice u (c.nn.length+L.length) A));have T6:Z (KT [159,3,168,173,40,181] wo (w6.setCell (U b 2) (.slice u (c.nn.length+L.length) A))):=bZ ((J.o.mono (by simp)).trans (KT.set j.o (by simp) _));have P:=bZ (KW.o.trans T6.o);have ak:=bZ (T6.o.blk HL.o (by decide));obtain⟨w7,X⟩:∃x,x=w6.setCell (U b 2) (.slice u (c.nn.length+L.length) A):=⟨_,rfl⟩;rw[<-X] at B6 R6 T6 P ak;rw[<-X];clear X T6 J j a4 HB HR KW HL an;have bp:=bZ (FR.o w7 { c with nn:=c.nn++L } _ rfl R6.o B6.o);clear FR VA;have z:=ak.o.cell;have zl:=ak.o.lt;have au:Z (∀(W:World) (s2:Sv) (B:Option Addr) (q:Nat) (f:Lin) (eq:Bool),(f,eq)=eV 4 true r.2->BR W0 W { { c with nn:=c.nn++L } with ax:=r.1 } s2->∀(ty:Nat),(f.cs.length<=q/\q<=maxLen)->ag bh W (Cof W0.heap.size W) B f.cs->
   ∃u A p,(Builtin.append_ #[110,110] ty #[.slice s2.A3 c.is.length s2.c3,.slice (V W.heap.size) 1 1]).run Tryz.prog (W.alloc (.cells #[I f.k,.slice B f.cs.length q,.bool eq] 173))=.ok (.slice u (c.is.length+1) A) p/\(BR W0 p cf { s2 with A3:=u,c3:=A }/\KT [173] W p)):=bZ (fun W s2 B q f eq hf H ty h2 h3=>by
   rw[bn.o,<-hf]
   exact vu H f eq B q h2 h3 (by have:=bm.o.a3;dsimp only;omega) ty)
  go_upto_region 14 with (go_at_call 120;clear z zl;refine bp.o.mono ?_;intro e w8 h8;obtain⟨s8,B,q,rfl,nf,R8,B8,C8,K8⟩:=h8;have am:=bZ (K8.o.blk ak.o (by decide));have z:=am.o.cell;have zl:=am.o.lt);obtain⟨D,M⟩:∃W,W=w8.alloc (.cells #[I r.2.k,.slice B r.2.cs.length q] 166):=⟨_,rfl⟩;obtain⟨O,b5⟩:∃g,g=w8.heap.size:=⟨_,rfl⟩;rw[<-M,<-b5];have k9:Z (ad [] w8 D):=bZ (by rw[M];exact(ad.refl [] w8).alloc _);have H4:Z (Blk D O 166 #[I r.2.k,.slice B r.2.cs.length q]):=bZ (by rw[M,b5];exact Blk.new w8 166 _);have bd:Z (w.heap.size<=O):=bZ (by have H:=P.o.size;have h2:=K8.o.size;omega);clear M b5 z zl;have b3:=bZ (am.o.keep k9.o (by simp));have C9:=bZ ((C8.o.keep0 k9.o).mono (E:=Cof W0.heap.size D) (fun g _ hc=>hc.keep k9.o (by simp)));have R9:=bZ (R8.o.keep0 k9.o);obtain⟨c8,a5⟩:∃x:Cla,x= { { c with nn:=c.nn++L } with ax:=r.1 }:=⟨_,rfl⟩;replace a5:=bZ a5;have HB:Z (Blk D b 159 (bdL n c8 s8).toArray):=bZ (by rw[a5.o];exact B8.o.keep k9.o (by simp));have KW:Z (KT [159,3,168,173,40,181] w D):=bZ ((P.o.trans (K8.o.mono (by simp))).trans (KT.of k9.o));clear B8 R8 K8 am C8 k9;have z:=b3.o.cell;have zl:=b3.o.lt;have y4:=H4.o.cell;have bb:=H4.o.frozen;have bc:=H4.o.lt;have bf:Z (Calls Tryz.prog 121 #[.agg #[I r.2.k,.slice B r.2.cs.length q]] D (LnP D (fh r.2))):=bZ (nC _ D r.2 B _ q rfl nf (by have:=bt.o.2;omega) C9.o (by have:=ap.o.1;omega) ap.o.2);obtain⟨m,ab⟩:∃f,f=fh r.2:=⟨_,rfl⟩;have bu:m.k= -r.2.k:=by rw[ab];rfl
  have c0:IntKind.i64.wrap (m.k+1)=m.k+1:=C0 _ (by have:=ap.o.1;omega);have c2:wrap64 (m.k+1)=m.k+1:=IntWalk.wrap64_in _ (by have:=ap.o.1;omega);clear bu;rw[<-ab] at bf;replace ab:=bZ ab;go_upto_region 17 with (go_at_call 121;clear z zl y4 bb bc;refine bf.o.mono ?_;intro e ba br;obtain⟨B,q,rfl,ac,a0⟩:=br;have l:=bZ (H4.o.keep a0.o (by simp));have y4:=l.o.cell;have bb:=l.o.frozen;have bc:=l.o.lt);clear y4 bb bc;obtain⟨wq,ar⟩:∃x,x=((ba.setCell (U O 0) (I m.k)).setCell (U O 1) (.slice B m.cs.length q)).setCell (U O 0) (I (m.k+1)):=⟨_,rfl⟩;have b1:Z (Blk wq O 166 #[I (m.k+1),.slice B m.cs.length q]):=bZ (by rw[ar];exact((l.o.set_ 0 (I m.k)).set_ 1 (.slice B m.cs.length q)).set_ 0 (I (m.k+1)));have kq:Z (ad [O] ba wq):=bZ (by rw[ar];exact(((ad.refl [O] ba).setCell (.inl (by simp)) _).setCell (.inl (by simp)) _).setCell (.inl (by simp)) _);rw[<-ar];clear ar;have b2:Z (Blk wq b 159 (bdL n c8 s8).toArray):=bZ (by have H:=HB.o.keep a0.o (by simp);exact H.keep kq.o (fun hm=>by rw[CZ.1 hm] at H;exact absurd (H.ty l.o) (by decide)));have bk:=bZ ((R9.o.keep0 a0.o).keep kq.o (fun y hy=>by rw[CZ.1 hy];exact⟨Dc bo.o bd.o,fun t cs h=>by rw[<-l.o.ty h];decide⟩));have b0:Z (ag bh wq (Cof W0.heap.size wq) B m.cs):=bZ (((ac.o.cofs (B1:=W0.heap.size) (by have H:=KW.o.size;have h2:=bo.o;omega)).keep kq.o (fun y hy hc=>by obtain⟨_,cs,a6⟩:=hc;rw[CZ.1 hy] at a6;exact absurd (a6.ty l.o) (by decide))).mono (fun g _ hc=>hc.keep kq.o (fun hm=>by obtain⟨_,cs,a6⟩:=hc;rw[CZ.1 hm] at a6;exact absurd (a6.ty l.o) (by decide))));have bz:m.cs.length<=q/\q<=maxLen:=⟨ac.o.mc,ac.o.cm⟩;have b4:Z (KT [159,3,168,173,40,181] w wq):=bZ ((KW.o.trans (KT.of a0.o)).ext kq.o (fun y hy=>by rw[CZ.1 hy];exact bd.o));clear l kq a0 ac H4 HB R9 C9 KW b3;obtain⟨D,M⟩:∃x,x=wq:=⟨_,rfl⟩;rw[<-M] at b1 b2 bk b0 b4;rw[<-M];clear M;have H4:=b1;have HB:=b2;have KW:=b4;clear b1 b2 b4;have bq:=bZ (fun (W:World) (hW:ad [] D W) (ty:Nat)=>au.o W s8 B q ⟨m.k+1,m.cs⟩ false (by rw[ab.o];simp[eV]) (bk.o.keep0 hW) ty bz ((b0.o.keep0 hW).mono (fun g _ hc=>hc.keep hW (by simp))));clear b0 au;have F:Z (∀Q,Blk Q b 159 (bdL n c8 s8).toArray->Blk Q O 166 #[I (m.k+1),.slice B (m.cs).length q]->Q.cell? (U b 4)=G s8.A3 c.is.length s8.c3/\Q.cell? (U O 0)=some (I (m.k+1))/\Q.cell? (U O 1)=G B (m.cs).length q):=bZ (fun Q h0 H=>⟨by have:=h0.cell 4;rw[a5.o] at this;exact this,H.cell 0,H.cell 1⟩);refine ae (S:=(fun p:World=>p.cell? (U b 4)=G s8.A3 c.is.length s8.c3/\p.cell? (U O 0)=some (I (m.k+1))/\p.cell? (U O 1)=G B (m.cs).length q)) (n:=10) (by kernel_rfl) ?_;have N:(fun p:World=>p.cell? (U b 4)=G s8.A3 c.is.length s8.c3/\p.cell? (U O 0)=some (I (m.k+1))/\p.cell? (U O 1)=G B (m.cs).length q) D.drew:=F.o _ (HB.o.keep (ad.refl [] D).drew (by simp)) (H4.o.keep (ad.refl [] D).drew (by simp))
  try dsimp only at N
  refine ord [0,1,2,3,4,5,6,7] ?_
  iterate 8 (refine tq N ?_;try simp only[PT,Y1,Y2,Y3])
  refine aB ?_;refine J1 8 fun K hK=>?_;dsimp only[Y1,Y2,Y3];go_simp;have d:=F.o (D.drew.alloc (.cells #[I (m.k+1),.slice B (m.cs).length q,.bool false] 173)) ((HB.o.keep (ad.refl [] D).drew (by simp)).alloc _) ((H4.o.keep (ad.refl [] D).drew (by simp)).alloc _)
  try dsimp only at d
  refine hK _ _ (.inr d) ?_;clear hK K N;have N:=d;clear d
  try simp only[PT,Y1,Y2,Y3]
  refine J1 9 fun K hK=>?_;dsimp only[Y1,Y2,Y3];refine bW (.tmp 94) (.tmp 97) 110 rfl rfl rfl (bq.o _ (ad.refl [] D).drew _) ?_;intro u A w6 q6;have an:=bZ q6.o.1;have J:=bZ q6.o.2;have j:=bZ (J.o.blk (HB.o.keep (ad.refl [] D).drew (by simp)) (by decide));have a4:=bZ (J.o.blk (H4.o.keep (ad.refl [] D).drew (by simp)) (by decide));have d:=F.o w6 j.o a4.o
  try dsimp only at d
  have z:=j.o.cell;have zf:=j.o.frozen;have zl:=j.o.lt;unfold bdL clL at z
  try dsimp only at z
  refine hK _ _ (.inr d) ?_;clear hK K N;have N:=d;clear d
  try simp only[PT,Y1,Y2,Y3]
  refine JQ 10 ?_
  try simp only[PT,Y1,Y2,Y3]
  refine JQ 11 ?_
  try simp only[PT,Y1,Y2,Y3]
  refine JQ 12 ?_
  try simp only[PT,Y1,Y2,Y3]
  refine JQ 13 ?_
  try simp only[PT,Y1,Y2,Y3]
  refine JD ?_;clear N F;clear z zf zl;have B6:Z (Blk (w6.setCell (U b 4) (.slice u (c.is.length+1) A)) b 159 (bdL n cf { s8 with A3:=u,c3:=A }).toArray):=bZ (by have:=j.o.set_ 4 (.slice u (c.is.length+1) A);rw[bn.o];rw[a5.o] at this;unfold bdL clL at this ⊢;simpa using this);have R6:=bZ (an.o.set j.o (by decide) hb (i:=4) (.slice u (c.is.length+1) A));have P:Z (KT [159,3,168,173,40,181] w (w6.setCell (U b 4) (.slice u (c.is.length+1) A))):=bZ (((KW.o.trans (KT.of (ad.refl [] D).drew)).trans (J.o.mono (by simp))).trans (KT.set j.o (by simp) _));obtain⟨w7,X⟩:∃x,x=w6.setCell (U b 4) (.slice u (c.is.length+1) A):=⟨_,rfl⟩;rw[<-X] at B6 R6 P;clear j a4;go_wp2_with fail;rw[<-X];refine bodyPost_ret (v:=.tuple #[]) (by simp[results,Tryz.results79,go_sem]) rfl ?_;exact⟨_,rfl,R6,B6,P⟩
theorem zJ (C:Nat->Prop) (l:List Vb) (W0 w:World) (b n:Nat) (c:Cla) (s:Sv) (x:Lt) (f:Option Addr) (g:Nat) (D:n=l.length) (u:n<=10) (A:x.a.ok l) (k:BR W0 w c s) (m:W0.heap.size<=b) (j:Blk w b 159 (bdL n c s).toArray) (d:c.big 700000000)
 (r:cP W0 C x.a f g) (p:x.a.t.wd<=10000) (o:x.a.t.tsz<=10000):Calls Tryz.prog 79 #[.pointer (V b),.agg (ltL x f g).toArray] w (AdP W0 w b n (aP n c x)):=by
  have e:c.big 800000000:=⟨by have:=d.a0;omega,by have:=d.a1;omega,by have:=d.a2;omega,by have:=d.a3;omega,by have:=d.a4;omega,by have:=d.a5;omega,by have:=d.a6;omega⟩;have y:isT x->Nm x.a.t/\∀v∈x.a.t.vars,0<=v/\v<(n:Int):=fun E=>by
   obtain⟨i,q⟩:=jc A E;exact⟨i,fun v F=>by have:=T.ty_vars i.1 q v F;unfold inV at this;omega⟩
  have B:x.a.kd=0\/x.a.kd=1\/x.a.kd=2\/x.a.kd=3\/x.a.kd=4\/x.a.kd=5\/x.a.kd=6\/x.a.kd=7:=by
   rcases A with h | h | h | h<;>omega
  rcases B with h | h | h | h | h | h | h | h
  ·exact zI W0 w b n c s x f g h k m j e
  ·exact zH W0 w b n c s x f g h k m j e
  ·obtain⟨i,q⟩:=y (.inl h);exact zG C W0 w b n c s x f g u h trivial k m j d r i q p o
  ·obtain⟨i,q⟩:=y (.inr (.inl h));exact zF C W0 w b n c s x f g u h trivial k m j d r i q p o
  ·obtain⟨i,q⟩:=y (.inr (.inr h));cases z:x.up
   ·exact yI C W0 w b n c s x f g u h z k m j d r i q p o
   exact yH C W0 w b n c s x f g u h z k m j d r i q p o
  ·exact zD W0 w b n c s x f g h k m j e
  ·exact zC W0 w b n c s x f g h k m j e
  exact zB W0 w b n c s x f g h k m j e
section
theorem uL {l:List Vb} {n:Nat} {c:Cla} {x:Lt} {M:Nat} (g:n=l.length) (f:n<=10) (k:x.a.ok l) (i:x.a.t.tsz<=10000) (h:c.big M):(aP n c x).big (M+10010):=by
 have e:=ea n x.a.t c.ax;have b:isT x->(sc x.a.t.vars).length<=10:=fun d=>by
  obtain⟨e,b⟩:=jc k d;exact Dc (cS (K:=n) (fun v j=>by have:=T.ty_vars e.1 b v j;unfold inV at this;omega)) f
 obtain⟨m,o,p,q,r,s,u⟩:=h;unfold aP
 split
 ·constructor<;>simp only[CU,DE]<;>omega
 split
 ·rename_i d;have w:=b d;constructor<;>simp only[CU,DE]<;>omega
 split
 ·constructor<;>simp only[CU,DE]<;>omega
 split
 ·constructor<;>simp only[CU,DE]<;>omega
 split
 ·constructor<;>simp only[CU,DE]<;>omega
 constructor<;>simp only[CU,DE]<;>omega
theorem uK {n:Nat} {a:List Lt} {j:Nat} {x:Lt} (h:a[j]? =some x):(a.take (j+1)).foldl (aP n) cl0=aP n ((a.take j).foldl (aP n) cl0) x:=by
 rw[Dq,h];simp[List.foldl_append]
theorem kG {l:List Vb} {n:Nat} (d:n=l.length) (f:n<=10):∀(b:List Lt) (c:Cla) (M:Nat),(∀x∈b,x.a.ok l/\x.a.t.tsz<=10000)->c.big M->(b.foldl (aP n) c).big (M+b.length*10010)
 | [],c,M,_,h=>by simpa using h
 | x::b,c,M,hx,h=>by
   have e:=hx x (by simp);have:=kG d f b (aP n c x) (M+10010) (fun y g=>hx y (by simp[g])) (uL d f e.1 e.2 h);simp only[List.foldl_cons,Dj,Nat.add_mul];rw[show M+(b.length*10010+1*10010)=M+10010+b.length*10010 by omega];exact this
theorem wV {l:List Vb} {n:Nat} {c:Cla} {x:Lt} (g:n=l.length) (f:n<=10) (i:x.a.ok l):(aP n c x).nul.length<=c.nul.length+1/\(aP n c x).nn.length<=c.nn.length+10:=by
 have b:isT x->(sc x.a.t.vars).length<=10:=fun d=>by
  obtain⟨e,b⟩:=jc i d;exact Dc (cS (K:=n) (fun v h=>by have:=T.ty_vars e.1 b v h;unfold inV at this;omega)) f
 unfold aP
 split
 ·simp only[CU,DE];omega
 split
 ·rename_i d;have j:=b d;simp only[CU];omega
 split
 ·simp only[CU,DE];omega
 split
 ·simp only[CU,DE];omega
 split
 ·simp only[CU,DE];omega
 simp only[CU,DE];omega
theorem rn {l:List Vb} {n:Nat} (d:n=l.length) (e:n<=10):∀(b:List Lt) (c:Cla),(∀x∈b,x.a.ok l)->(b.foldl (aP n) c).nul.length<=c.nul.length+b.length/\(b.foldl (aP n) c).nn.length<=c.nn.length+b.length*10
 | [],c,_=>by simp
 | x::b,c,hx=>by
   have g:=wV (c:=c) d e (hx x (by simp));have h:=rn d e b (aP n c x) (fun y f=>hx y (by simp[f]));simp only[List.foldl_cons,Dj,Nat.add_mul];omega
theorem qB (A:Option Addr) (n m c:Nat):(Value.slice A n c).ownBlock=(Value.slice A m c).ownBlock:=by cases A<;>rfl
section
variable {W0 w w':World} {c:Cla} {s:Sv}
theorem BR.sort0 (h:BR W0 w c s) {l:List Int} (r:w'.ownsRow W0.heap.size 3 1 (.slice s.A0 l.length s.c0) l.length (l.map (Value.int .i64))) (p:ad (Value.slice s.A0 c.nul.length s.c0).ownBlock.toList w w'):BR W0 w' { c with nul:=l } s:=by
 have a:∀y∈(Value.slice s.A0 c.nul.length s.c0).ownBlock.toList,W0.heap.size<=y/\∃cs,Blk w y 3 cs:=fun y i=>h.g0.typ (D8.1 i);have d:∀ {α:Type} {f:α->Tr} {k:Nat} {e:TypeId} {A:Option Addr} {m:Nat} {L:List α},e≠3->af f k e (Cof W0.heap.size w) W0.heap.size w A m L->af f k e (Cof W0.heap.size w') W0.heap.size w' A m L:=by
  intro α f k e A m L q n;refine n.cof p (fun y i=>⟨fun o=>?_,fun cs j=>?_⟩)
  ·obtain⟨_,cs,j⟩:=n.typ o;obtain⟨_,cs',b⟩:=a y i;exact q (j.ty b)
  obtain⟨_,cs',b⟩:=a y i;exact absurd (j.ty b) (by decide)
 refine⟨(h.kp.nil.trans p).mono (fun y i=>.inr (a y i).1),jd r rfl,h.g1.cof p (fun y i=>⟨fun o=>?_,fun cs j=>?_⟩),d (by decide) h.g2,d (by decide) h.g3,d (by decide) h.g4,d (by decide) h.g5,d (by decide) h.g6,fun g n=>h.n01 g ((qB _ _ _ _).trans n),h.n56⟩
 ·exact h.n01 y (D8.1 i) o
 obtain⟨_,cs',b⟩:=a y i;exact absurd (j.ty b) (by decide)
theorem BR.sort1 (h:BR W0 w c s) {l:List Int} (q:w'.ownsRow W0.heap.size 3 1 (.slice s.A1 l.length s.c1) l.length (l.map (Value.int .i64))) (p:ad (Value.slice s.A1 c.nn.length s.c1).ownBlock.toList w w'):BR W0 w' { c with nn:=l } s:=by
 have a:∀y∈(Value.slice s.A1 c.nn.length s.c1).ownBlock.toList,W0.heap.size<=y/\∃cs,Blk w y 3 cs:=fun y i=>h.g1.typ (D8.1 i);have d:∀ {α:Type} {f:α->Tr} {k:Nat} {e:TypeId} {A:Option Addr} {m:Nat} {L:List α},e≠3->af f k e (Cof W0.heap.size w) W0.heap.size w A m L->af f k e (Cof W0.heap.size w') W0.heap.size w' A m L:=by
  intro α f k e A m L r n;refine n.cof p (fun y i=>⟨fun o=>?_,fun cs j=>?_⟩)
  ·obtain⟨_,cs,j⟩:=n.typ o;obtain⟨_,cs',b⟩:=a y i;exact r (j.ty b)
  obtain⟨_,cs',b⟩:=a y i;exact absurd (j.ty b) (by decide)
 refine⟨(h.kp.nil.trans p).mono (fun y i=>.inr (a y i).1),h.g0.cof p (fun y i=>⟨fun o=>?_,fun cs j=>?_⟩),jd q rfl,d (by decide) h.g2,d (by decide) h.g3,d (by decide) h.g4,d (by decide) h.g5,d (by decide) h.g6,fun g n q=>h.n01 g n ((qB _ _ _ _).trans q),h.n56⟩
 ·exact h.n01 y o (D8.1 i)
 obtain⟨_,cs',b⟩:=a y i;exact absurd (j.ty b) (by decide)
theorem er.keep {C:Nat->Prop} {Y:List Nat} (h:er w C c s) (b:ad Y w w') (a:∀y∈Y,¬C y):er w' C c s:=
 ⟨h.m0,h.r0.keep b a,h.m1,h.r1.keep b a,h.m2,h.r2.keep b a,h.m3,h.r3.keep b a,h.m4,h.r4.keep b a,h.m5,h.r5.keep b a,h.m6,h.r6.keep b a⟩
theorem sV {b e f n:Nat} {v:Value} {xs:List Value} (h:w.ownsRow b e f v n xs) (c:ad v.ownBlock.toList w w'):KT [e] w w':=
 ⟨_,c,fun y d=>by obtain⟨_,cs,a⟩:=jy h (D8.1 d);exact⟨e,cs,by simp,a⟩⟩
end
end
end Go.Proofs.YtldmkbhgdbafhaaGreat
