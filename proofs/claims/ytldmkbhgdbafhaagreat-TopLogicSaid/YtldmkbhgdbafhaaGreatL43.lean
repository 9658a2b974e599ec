import Derived.Lib.AppendZerosOnto
import Derived.Test.YtldmkbhgdbafhaaGreatL42
namespace Go.Proofs.YtldmkbhgdbafhaaGreat
open Go.RowKit
set_option linter.unusedSimpArgs false
set_option linter.unusedVariables false
set_option maxRecDepth 100000
set_option maxHeartbeats 64000000
theorem wP (C:Nat->Prop) (l:List Vb) (w:World) (n:Nat) (k:List Lt) (A:Option Addr) (m ac:Nat) (O:n=l.length) (hn:n<=10) (hm:m=k.length) (bb:m<=10000) (Y:∀x∈k,x.a.ok l/\x.a.t.tsz<=10000/\x.a.t.wd<=10000) (hA:ag Lt.tr w C A k):
 Calls Tryz.prog 48 #[.slice A m ac,I n] w (CaP w (fun g=>w.heap.size<=g) (gh n k)):=by
  obtain⟨i,D⟩:∃W,W=w.alloc (.cells #[.slice none 0 0,.slice none 0 0,.slice none 0 0,.slice none 0 0,.slice none 0 0,.slice none 0 0,.slice none 0 0] 114):=⟨_,rfl⟩;obtain⟨g4,ap⟩:∃g,g=w.heap.size:=⟨_,rfl⟩;obtain⟨w2,P⟩:∃W,W=i.alloc (.cells #[I n,.slice none 0 0,.slice none 0 0,.slice none 0 0,.slice none 0 0,.slice none 0 0,.slice none 0 0,.slice none 0 0] 159):=⟨_,rfl⟩;obtain⟨b,r⟩:∃g,g=w.heap.size+1:=⟨_,rfl⟩;have k1:Z (ad [] w i):=bZ (by rw[D];exact(ad.refl [] w).alloc _);have k2:Z (ad [] i w2):=bZ (by rw[P];exact(ad.refl [] i).alloc _);have b4:i.heap.size=w.heap.size+1:=by rw[D];simp
  have H4:Z (Blk w2 g4 114 #[.slice none 0 0,.slice none 0 0,.slice none 0 0,.slice none 0 0,.slice none 0 0,.slice none 0 0,.slice none 0 0]):=bZ (by
   have:Blk i g4 114 #[.slice none 0 0,.slice none 0 0,.slice none 0 0,.slice none 0 0,.slice none 0 0,.slice none 0 0,.slice none 0 0]:=by rw[D,ap];exact Blk.new w 114 _
   exact this.keep k2.o (by simp))
  have b5:Z (Blk w2 b 159 (bdL n cl0 sv0).toArray):=bZ (by rw[P,r,<-b4];exact Blk.new i 159 _);have R0:Z (BR i w2 cl0 sv0):=bZ ((BR.nil i).keep0 k2.o);have am:Z (i.heap.size<=b):=bZ (by omega);have aq:Z (g4<i.heap.size/\w.heap.size<=g4/\w.heap.size<=i.heap.size):=bZ (by omega);have b3:=bZ hm;have b7:=bZ (hA.keep0 k1.o);have b0:Z (∀(j:Nat) (x:Lt) (W:World) (s:Sv) (tA:Option Addr) (tc:Nat),k[j]? =some x->BR i W ((k.take j).foldl (aP n) cl0) s->Blk W b 159 (bdL n ((k.take j).foldl (aP n) cl0) s).toArray->cP i C x.a tA tc->
   Calls Tryz.prog 79 #[.pointer (V b),.agg (ltL x tA tc).toArray] W (AdP i W b n ((k.take (j+1)).foldl (aP n) cl0))):=bZ (fun j x W s tA tc hj h1 h2 h3=>by
   have ar:=Y x (CW hj)
   rw[uK hj]
   refine zJ C l i W b n _ s x tA tc O hn ar.1 h1 am.o h2 ?_ h3 ar.2.2 ar.2.1
   have r:=kG O hn (k.take j) cl0 0 (fun y hy=>⟨(Y y (DD hy)).1,(Y y (DD hy)).2.1⟩) ⟨C3 _,C3 _,C3 _,C3 _,C3 _,C3 _,C3 _⟩
   have hl:(k.take j).length*10010<=10000*10010:=Nat.mul_le_mul (by rw[CY];omega) (C9 _)
   exact⟨Dc r.a0 (by omega),Dc r.a1 (by omega),Dc r.a2 (by omega),Dc r.a3 (by omega),Dc r.a4 (by omega),Dc r.a5 (by omega),Dc r.a6 (by omega)⟩)
  have a9:Z ((k.foldl (aP n) cl0).nul.length<=1000000/\(k.foldl (aP n) cl0).nn.length<=1000000):=bZ (by
   have r:=rn O hn k cl0 (fun y hy=>(Y y hy).1);have e0:cl0.nul.length=0/\cl0.nn.length=0:=⟨rfl,rfl⟩;omega)
  clear Y hm hA b4 O;obtain⟨p,M⟩:∃R,R=gh n k:=⟨_,rfl⟩;rw[<-M];replace M:=bZ M;go_enter Tryz.func48,Tryz.ntmps48;go_upto_region 2 with fail;rw[<-D,<-P,<-r,<-ap];clear D P r ap;go_wp2_with fail;go_loopw [13] (fun au wr=>∃(j:Nat) (c:Cla) (s:Sv),j<=m/\au=I j/\Z (c=(k.take j).foldl (aP n) cl0)/\Z (BR i wr c s)/\Z (Blk wr b 159 (bdL n c s).toArray)/\Z (Blk wr g4 114 #[.slice none 0 0,.slice none 0 0,.slice none 0 0,.slice none 0 0,.slice none 0 0,.slice none 0 0,.slice none 0 0])) (fun au _=>m - (intOf au).toNat)
  case atStart=>exact⟨0,cl0,sv0,C3 _,rfl,bZ rfl,R0,b5,H4⟩
  obtain⟨j,c,s,hj,rfl,hc,q,hB,h4⟩:=hrel;obtain⟨H,b9⟩:∃x,x=wr:=⟨_,rfl⟩;subst b9;by_cases b8:j<m
  ·obtain⟨x,Y⟩:∃v,k[j]? =some v:=⟨_,CT (by rw[<-b3.o];exact b8)⟩;obtain⟨g,bc,rc,rfl,hC,hg,hI,f⟩:=b7.o.get Lt.tr_len (by decide) Y;obtain⟨tA,tc,rfl,hT⟩:=xt.1 hI;unfold ltL at f;have x0:=q.o.kp.cellEq (f 0 _ rfl) (by simp);have x1:=q.o.kp.cellEq (f 1 _ rfl) (by simp);have x2:=q.o.kp.cellEq (f 2 _ rfl) (by simp);have x3:=q.o.kp.cellEq (f 3 _ rfl) (by simp);have x4:=q.o.kp.cellEq (f 4 _ rfl) (by simp);have x5:=q.o.kp.cellEq (f 5 _ rfl) (by simp);have x6:=q.o.kp.cellEq (f 6 _ rfl) (by simp);have x7:=q.o.kp.cellEq (f 7 _ rfl) (by simp);have x8:=q.o.kp.cellEq (f 8 _ rfl) (by simp);have x9:=q.o.kp.cellEq (f 9 _ rfl) (by simp);rw[Fg] at x0;have ba:(j:Int)<(m:Int):=by omega
   have wj:IntKind.i64.wrap ((j:Int)+1)=(j:Int)+1:=C0 _ (by omega);have AD:Z (∀W,ad [] H W->Calls Tryz.prog 79 #[.pointer (V b),.agg (ltL x tA tc).toArray] W (AdP i W b n ((k.take (j+1)).foldl (aP n) cl0))):=bZ (fun W hW=>b0.o j x W s tA tc Y (by rw[<-hc.o];exact q.o.keep0 hW) (by rw[<-hc.o];exact hB.o.keep hW (by simp)) hT);unfold ltL at AD;generalize x.a.kd=kd at*;generalize x.a.v=av at*;generalize x.a.o=ao at*;generalize x.a.t.con=con at*;generalize x.a.t.pts.length=tl at*;generalize x.a.te.v=ev at*;generalize x.a.te.kd=ek at*;generalize x.a.te.ng=en at*;generalize x.a.te.s=es at*;generalize x.up=up at*;have ka:Z (∀o,ad [] H (H.alloc o)):=bZ (fun o=>(ad.refl [] H).alloc o);clear hI f Y hC hT;go_wp2_with (go_at_call 79;clear x0 x1 x2 x3 x4 x5 x6 x7 x8 x9;refine(AD.o _ (ka.o _)).mono ?_;intro e w7 h7;obtain⟨s7,rfl,R7,B7,K7⟩:=h7;have b6:=bZ (K7.o.blk (h4.o.keep (ka.o (.cells #[I kd,I av,I ao,I con,.slice tA tl tc,I ev,I ek,.bool en,.string es,.bool up] 155)) (by simp)) (by decide)));go_roundw
   case rel=>exact⟨j+1,_,s7,by omega,by go_num,bZ rfl,R7,B7,b6⟩
   case measure=>simp[intOf];omega
  obtain rfl:j=m:=by omega
  have an:Z (c=k.foldl (aP n) cl0):=bZ (by rw[hc.o,C6 (by rw[<-b3.o];exact C9 _)]);have ak:Z (p= { c with nul:=sc c.nul,nn:=sc c.nn }):=bZ (by rw[M.o,an.o];rfl);have N:=a9.o;rw[<-an.o] at N;have b2:=N.1;have aa:=N.2;have S0:Z (∀W,ad [] H W->Calls Tryz.prog 80 #[.slice s.A0 c.nul.length s.c0] W (fun e F=>e=.returned (.slice s.A0 (sc c.nul).length s.c0)/\Z (BR i F { c with nul:=sc c.nul } s)/\Z (KT [3] W F))):=bZ (fun W hW=>by
   have hr:=q.o.keep0 hW;refine(mS W i.heap.size c.nul.length s.c0 s.A0 c.nul rfl b2 hr.g0.ints).mono ?_;rintro e F ⟨rfl,o1,k1⟩;exact⟨rfl,bZ (hr.sort0 o1.o k1.o),bZ (sV hr.g0.ints k1.o)⟩)
  have S1:Z (∀W,BR i W { c with nul:=sc c.nul } s->Calls Tryz.prog 80 #[.slice s.A1 c.nn.length s.c1] W (fun e F=>e=.returned (.slice s.A1 (sc c.nn).length s.c1)/\Z (BR i F p s)/\Z (KT [3] W F))):=bZ (fun W hr=>by
   refine(mS W i.heap.size c.nn.length s.c1 s.A1 c.nn rfl aa hr.g1.ints).mono ?_;rintro e F ⟨rfl,o1,k1⟩;exact⟨rfl,bZ (by rw[ak.o];exact hr.sort1 o1.o k1.o),bZ (sV hr.g1.ints k1.o)⟩)
  have L:Z (∀W',Blk W' b 159 (bdL n c s).toArray->W'.cell? (U b 2)=G s.A1 c.nn.length s.c1):=bZ (fun W' h=>h.cell 2);clear N b2 aa;go_upto_region 7 with fail;refine ae (S:=(fun F:World=>F.cell? (U b 2)=G s.A1 c.nn.length s.c1)) (n:=18) (by kernel_rfl) ?_;have u:(fun F:World=>F.cell? (U b 2)=G s.A1 c.nn.length s.c1) H.drew:=L.o _ (hB.o.keep (ad.refl [] H).drew (by simp))
  try dsimp only at u
  have pb:=(hB.o.keep (ad.refl [] H).drew (by simp)).cell 1;refine ord [0,1,2,3,4,5,8,9,10,11,12] ?_
  iterate 11 (refine tq u ?_;try simp only[PT,Y1,Y2,Y3])
  refine aB ?_;refine J1 6 fun K B=>?_;dsimp only[Y1,Y2,Y3];go_simp;refine B _ _ (.inr u) ?_;clear B K pb
  try simp only[PT,Y1,Y2,Y3]
  refine J1 7 fun K B=>?_;dsimp only[Y1,Y2,Y3];go_simp;refine(S0.o _ (ad.refl [] H).drew).mono ?_;rintro e w5 ⟨rfl,R5,K5⟩;have B5:=bZ (K5.o.blk (hB.o.keep (ad.refl [] H).drew (by simp)) (by decide));have d:=L.o w5 B5.o
  try dsimp only at d
  refine B _ _ (.inr d) ?_;clear B K u;have u:=d;clear d
  try simp only[PT,Y1,Y2,Y3]
  refine J1 13 fun K B=>?_;dsimp only[Y1,Y2,Y3];go_simp;refine(S1.o _ R5.o).mono ?_;rintro e w6 ⟨rfl,R6,K6⟩;have B6:=bZ (K6.o.blk B5.o (by decide));have b1:=bZ (((KT.of (T:=[3]) (ad.refl [] H).drew).trans (K5.o.trans K6.o)).blk h4.o (by decide));have d:=L.o w6 B6.o
  try dsimp only at d
  have z:=B6.o.cell;have zf:=B6.o.frozen;have zl:=B6.o.lt;unfold bdL clL at z
  try dsimp only at z
  refine B _ _ (.inr d) ?_;clear B K u;have u:=d;clear d
  try simp only[PT,Y1,Y2,Y3]
  refine ord [14,15,16] ?_
  iterate 3 (refine tq u ?_;try simp only[PT,Y1,Y2,Y3])
  refine aB ?_;refine J1 17 fun K B=>?_;dsimp only[Y1,Y2,Y3];go_simp;have B7:=bZ (B6.o.set_ 1 (.slice s.A0 (sc c.nul).length s.c0));have d:(w6.setCell (U b 1) (.slice s.A0 (sc c.nul).length s.c0)).cell? (U b 2)=G s.A1 c.nn.length s.c1:=B7.o.cell 2;refine B _ _ (.inr d) ?_;clear B K u;have u:=d;clear d
  try simp only[PT,Y1,Y2,Y3]
  refine JQ 18 ?_
  try simp only[PT,Y1,Y2,Y3]
  refine JQ 19 ?_
  try simp only[PT,Y1,Y2,Y3]
  refine JQ 20 ?_
  try simp only[PT,Y1,Y2,Y3]
  refine JQ 21 ?_
  try simp only[PT,Y1,Y2,Y3]
  refine JD ?_;clear u L;clear z zf zl;obtain⟨w8,E⟩:∃x,x=(w6.setCell (U b 1) (.slice s.A0 (sc c.nul).length s.c0)).setCell (U b 2) (.slice s.A1 (sc c.nn).length s.c1):=⟨_,rfl⟩;rw[<-E];have B8:Z (Blk w8 b 159 (bdL n p s).toArray):=bZ (by
   have:=B7.o.set_ 2 (.slice s.A1 (sc c.nn).length s.c1);rw[E,ak.o];unfold bdL clL at this ⊢;simpa using this)
  have k8:Z (KT [159] w6 w8):=bZ (by rw[E];exact(KT.set B6.o (by simp) _).trans (KT.set B7.o (by simp) _));have R8:Z (BR i w8 p s):=bZ (by rw[E];exact(R6.o.set B6.o (by decide) am.o _).set B7.o (by decide) am.o _);have J:=bZ (k8.o.blk b1.o (by decide));clear E B7 B6 b1 R6 K6 B5 R5 K5 ak an S0 S1 k8 b0 a9;have ab:Z (∀W,ad [g4] w8 W->CaP w (fun g=>w.heap.size<=g) p (.returned (.agg (clL p s).toArray)) W):=bZ (fun W hW=>by
   refine⟨s,rfl,bZ ((R8.o.cla.keep hW (fun y hy hc=>?_)).mono (fun g _ hc=>?_)),bZ ?_⟩
   ·rw[CZ.1 hy] at hc;have:=aq.o.1
    (try dsimp only at hc)
    omega
   ·have:=aq.o.2.2
    (try dsimp only at hc)
    omega
   refine((k1.o.trans R8.o.kp).nil.trans hW).mono (fun y hy=>.inr ?_);rw[CZ.1 hy];exact aq.o.2.1)
  have z:=B8.o.cell;have zl:=B8.o.lt;have y4:=J.o.cell;have bd:=J.o.frozen;have bf:=J.o.lt;unfold bdL clL at z;unfold clL at ab
  (try dsimp only at z)
  generalize p.nul.length=l0 at*;generalize p.nn.length=l1 at*;generalize p.ax.length=l2 at*;generalize p.is.length=l3 at*;generalize p.ts.length=l4 at*;generalize p.sm.length=l5 at*;generalize p.df.length=l6 at*;go_wp2_with fail;obtain⟨wz,Q⟩:∃wz,wz=aj w8 g4 0 [.slice s.A0 l0 s.c0,.slice s.A1 l1 s.c1,.slice s.A2 l2 s.c2,.slice s.A3 l3 s.c3,.slice s.A4 l4 s.c4,.slice s.A5 l5 s.c5,.slice s.A6 l6 s.c6]:=⟨_,rfl⟩;have hz:=aL (l:=[.slice s.A0 l0 s.c0,.slice s.A1 l1 s.c1,.slice s.A2 l2 s.c2,.slice s.A3 l3 s.c3,.slice s.A4 l4 s.c4,.slice s.A5 l5 s.c5,.slice s.A6 l6 s.c6]) (X:=[g4]) (w0:=w8) J.o rfl (.inl (by simp)) (ad.refl _ _);rw[<-Q] at hz;simp only[aj,Nat.reduceAdd] at Q;rw[<-Q];clear Q;have dc:=hz.1.cell;refine bodyPost_ret (v:=.agg #[.slice s.A0 l0 s.c0,.slice s.A1 l1 s.c1,.slice s.A2 l2 s.c2,.slice s.A3 l3 s.c3,.slice s.A4 l4 s.c4,.slice s.A5 l5 s.c5,.slice s.A6 l6 s.c6]) (by simp[results,Tryz.results48,go_sem,dc]) rfl ?_;exact ab.o _ hz.2
theorem mu:(Tryz.prog.info? 155).map (fun i=>(i.zero,i.size,i.bytes))=some (some (.agg #[I 0,I 0,I 0,I 0,.slice none 0 0,I 0,I 0,.bool false,.string ⟨#[]⟩,.bool false]),10,104):=by kernel_rfl
theorem eN {P:Program} {w:World} {b:Array Oper} {rest:List Oper} {o:Oper} {a:Act} {Q:Exit->Act->World->Prop} (m:Region.wanted o (yielded b a.tmps)=true) (s x:Operand) (t y:TypeId)
 (F:o.op=.call { callee:=.builtin .append,args:=#[s,x],argTypes:=#[t,y] }) (e:TypeId) (c:TypeInfo) (z:Value) (size bytes:Nat) (J:P.underlying t=some (.slice e)) (r:P.underlying y=some (.int .i64)) (E:P.info? e=some c) (M:c.zero=some z) (q:c.size=size) (f:c.bytes=bytes) (v:z.cells.size=size) (l:0<size)
 (H:a.eval s=.slice none 0 0) (k:Nat) (L:a.eval x=I k) (C:0<k) (d:bytes<=1000) (p:k<=1000000)
 (h:∀j A,k<=j->j<=maxLen->Z (A.ownsRow w.heap.size e size (.slice (V w.heap.size) 0 j) 0 [])->Z (ad [] w A)->wpList P b Q rest (a.put o.dst (.slice (V w.heap.size) k j)) A):
 wpList P b Q (o::rest) a w:=by
  refine cR m fun K D=>?_;have i:Builtin.nextslicecap (0+k) 0*c.bytes<=281474976710656:=by
   have N:=growslice_fits (bytes:=bytes) (need:=0+k) (old:=0) (by omega) (Dc (Nat.mul_le_mul (by omega:0+k<=1000000) d) (by decide));rw[f];omega
  have B:=Lib.run_append_grow_zeros (P:=P) w t y o.type e c z .i64 .i64 J r E M none 0 0 [] (by simp[Builtin.firstCells,loadCells,loadCellsFrom]) k C (by rw[q];exact l) (by omega) (by omega) (by rw[f];exact Dc (Nat.mul_le_mul p d) (by decide)) i;rw[Dl] at B;have n:=grownCap_ge w k 0 e;have g:=grownCap_le_maxLen w k 0 e (by unfold maxLen;omega);have u:z.cells.size=size:=v;unfold Oper.wp execOp;simp only[F,resolve,invoke,builtin,DM,DZ,DH,Eb,D1,Er,H,L,B];refine D _ _ (h _ _ n g (bZ ⟨by simp,.inr ⟨w.heap.size,_,_,rfl,C9 _,heap_alloc_new w.drew _,C3 _,g,?_,by simp⟩⟩) (bZ ((ad.refl [] w).drew.alloc _)));simp only[Array.size_append,Ew,size_zeroCells,D6,u];rw[Dl,<-Nat.add_mul]
  congr 1
  omega
def wW (w:World) (e:Ending) (a:World):Prop:=∃A c,e=.returned (.slice A 0 c)/\Z (a.ownsRow w.heap.size 155 10 (.slice A 0 c) 0 [])/\Z (ad [] w a)
theorem we (w:World) (k:Nat) (r:k<=1000000):Calls Tryz.prog 119 #[.slice none 0 0,I k] w (wW w):=by
 obtain⟨q,d,a,b,c⟩:∃i,Tryz.prog.info? 155=some i/\i.zero=some (.agg #[I 0,I 0,I 0,I 0,.slice none 0 0,I 0,I 0,.bool false,.string ⟨#[]⟩,.bool false])/\i.size=10/\i.bytes=104:=by
  have h:=mu;cases d:Tryz.prog.info? 155 with
  | none=>rw[d] at h;cases h
  | some i=>
   rw[d] at h;simp only[EM,Option.some.injEq,Prod.mk.injEq] at h;exact⟨i,rfl,h.1,h.2.1,h.2.2⟩
 replace d:=bZ d;replace a:=bZ a;replace b:=bZ b;replace c:=bZ c;have w0:IntKind.i64.wrap (k:Int)=(k:Int):=C0 _ (by omega);have f:¬(k:Int)<0:=by omega
 by_cases g:0<k
 ·have j:(0:Int)<(k:Int):=by omega
  go_enter Tryz.func119,Tryz.ntmps119;go_wp2_with (at_builtin;refine eN rfl (.tmp 20) (.tmp 21) 107 3 rfl 155 q (.agg #[I 0,I 0,I 0,I 0,.slice none 0 0,I 0,I 0,.bool false,.string ⟨#[]⟩,.bool false]) 10 104 Tryz.underlying107 Tryz.underlying3 d.o a.o b.o c.o rfl (by decide) rfl k (by first | rfl | (rw[w0];rfl)) g (by omega) (by omega) ?_;intro c1 s m n p e);have l:c1≠0:=by omega
  go_ret;exact⟨_,c1,rfl,p,e⟩
 obtain rfl:k=0:=by omega
 go_enter Tryz.func119,Tryz.ntmps119;go_wp2_with fail;go_ret;exact⟨none,0,rfl,bZ ⟨by simp,.inl ⟨rfl,rfl⟩⟩,bZ (ad.refl _ _)⟩
theorem ub (C:Nat->Prop) (w:World) (g:Nat) (A B:Option Addr) (l k:List Lt) (n c m d:Nat) (y:l.length=n) (z:k.length=m) (hO:ag Lt.tr w C A l) (hP:ag Lt.tr w C B k) (hn:n<=100000) (hm:m<=100000)
 (h0:w.cell? (U g 0)=G A n c) (Y:w.cell? (U g 1)=G B m d):
 Calls Tryz.prog 78 #[.slice (V g) 2 2] w (RwP Lt.tr w (fun g=>C g\/w.heap.size<=g) (l++k)):=by
  have hG:=bZ (we w (n+m) (by omega));obtain⟨D,K⟩:∃D:Nat->Prop,D=fun g=>C g/\g<w.heap.size:=⟨_,rfl⟩;replace K:=bZ K;replace hO:=bZ hO;replace hP:=bZ hP;replace y:=bZ y;replace z:=bZ z;have a9:IntKind.i64.wrap (n:Int)=(n:Int):=C0 _ (by omega);have aa:IntKind.i64.wrap ((n:Int)+(m:Int))=((n+m:Nat):Int):=by rw[C0 _ (by omega)];rfl
  have a4:¬(n:Int)<0:=by omega
  have a5:¬((n+m:Nat):Int)<0:=by omega
  have a6:¬(n:Int)+(m:Int)<0:=by omega
  have O:Z (∀(W:World) (u:Option Addr) (q v:Nat) (L:List Lt) (X:Option Addr) (r:List Lt),ad [] w W->af Lt.tr 10 155 D w.heap.size W u v L->L.length=q->ag Lt.tr w C X r->∃i,i.length=r.length*10/\cH W X r.length i/\Is W (fun g=>D g/\(Value.slice u L.length v).ownBlock≠some g) (cat Lt.tr r) i):=bZ (fun W u q v L X r hW hG hq hr=>by
   obtain⟨rs,Y,h2⟩:=hr;have N:rs.length=r.length*10:=by rw[h2.len,bF Lt.tr_len]
   refine⟨rs,N,(Y.2.keep hW (by simp)).src N (by decide),?_⟩;refine(h2.mono (D:=D) (fun g hg hc=>by rw[K.o];exact⟨hc,hg⟩)).keep hW (by simp) |>.mono (fun g _ hd=>⟨hd,fun Q=>?_⟩)
   have:=(hG.own Q).1;rw[K.o] at hd;exact absurd hd.2 (by omega))
  go_enter Tryz.func78,Tryz.ntmps78;go_wp2_with fail;go_loopw [3,11] (fun P b wr=>((b=I 0/\P=I 0)\/(b=I 1/\P=I (n:Int))\/(b=I 2/\P=I ((n+m:Nat):Int)))/\w=wr) (fun _ b _=>2 - (intOf b).toNat)
  case atStart=>exact⟨.inl ⟨rfl,rfl⟩,rfl⟩
  obtain⟨⟨rfl,rfl⟩ | ⟨rfl,rfl⟩ | ⟨rfl,rfl⟩,rfl⟩:=hrel
  ·go_wp2_with fail;go_roundw
   case rel=>exact⟨.inr (.inl ⟨rfl,rfl⟩),by trivial⟩
   case measure=>simp[intOf]
  ·go_wp2_with fail;go_roundw
   case rel=>exact⟨.inr (.inr ⟨rfl,by first | rfl | (congr 1;done)⟩),by trivial⟩
   case measure=>simp[intOf]
  go_wp2_with (refine hG.o.mono ?_;rintro e w1 ⟨A1,c1,rfl,Q,a1⟩);go_loopw [6,27] (fun P b wr=>∃(q:Nat) (u:Option Addr) (v:Nat) (L:List Lt),((b=I 0/\0=q)\/(b=I 1/\n=q)\/(b=I 2/\n+m=q))/\P=.slice u q v/\Z (L.length=q)/\Z (L=(l++k).take q)/\Z (af Lt.tr 10 155 D w.heap.size wr u v L)/\Z (ad [] w wr)) (fun _ b _=>2 - (intOf b).toNat)
  case atStart=>exact⟨0,A1,c1,[],.inl ⟨rfl,rfl⟩,rfl,bZ rfl,bZ rfl,bZ ⟨⟨[],Q.o,rfl⟩,C3 _,by
   rcases Q.o.2 with ⟨R,_⟩ | ⟨_,a3,_,R,_,_,_,hm,_⟩
   ·simp at R;simp[R.2,maxLen]
   injection R with _ _ hc;rw[hc];exact hm⟩,a1⟩
  obtain⟨q,u,v,L,hq,rfl,a,hL,j,s⟩:=hrel;obtain⟨wo,a2⟩:∃x,x=wr:=⟨_,rfl⟩;subst a2;have y0:=s.o.cellEq h0 (by simp);have y1:=s.o.cellEq Y (by simp);obtain⟨rfl,rfl⟩ | ⟨rfl,rfl⟩ | ⟨rfl,rfl⟩:=hq
  ·obtain⟨i,p,F,E⟩:=O.o wo u 0 v L A l s.o j.o a.o hO.o;replace p:=bZ p;replace F:=bZ F;replace E:=bZ E;go_wp2_with (at_builtin;refine da (f:=Lt.tr) (k:=10) (W0:=w) (X:=[]) (by rfl) (.tmp 31) (.tmp 32) 107 rfl 104 _ Tryz.underlying107 mu rfl (by decide) (L:=L) l j.o s.o (by rw[a.o];rfl) A n c y.o.symm i rfl (by rw[<-y.o];exact p.o) (by rw[<-y.o];exact F.o) E.o (by rw[a.o];omega) (by rw[a.o];unfold maxLen;omega) ?_;intro H J w2 S T q6;rw[a.o]);go_roundw
   case rel=>exact⟨n,H,J,L++l,.inr (.inl ⟨rfl,rfl⟩),by first | rfl | simp,bZ (by simp[a.o,y.o]),bZ (by rw[hL.o,DS y.o];simp),S,T⟩
   case measure=>simp[intOf]
  ·obtain⟨i,p,F,E⟩:=O.o wo u n v L B k s.o j.o a.o hP.o;replace p:=bZ p;replace F:=bZ F;replace E:=bZ E;go_wp2_with (at_builtin;refine da (f:=Lt.tr) (k:=10) (W0:=w) (X:=[]) (by rfl) (.tmp 31) (.tmp 32) 107 rfl 104 _ Tryz.underlying107 mu rfl (by decide) (L:=L) k j.o s.o (by rw[a.o];rfl) B m d z.o.symm i rfl (by rw[<-z.o];exact p.o) (by rw[<-z.o];exact F.o) E.o (by rw[a.o];omega) (by rw[a.o];unfold maxLen;omega) ?_;intro H J w2 S T q6;rw[a.o]);go_roundw
   case rel=>exact⟨n+m,H,J,L++k,.inr (.inr ⟨rfl,rfl⟩),by first | rfl | simp,bZ (by simp[a.o,z.o]),bZ (by rw[hL.o,DS y.o,C6 (by rw[CU,y.o,z.o];exact C9 _)]),S,T⟩
   case measure=>simp[intOf]
  have t:(l++k).length=n+m:=by rw[CU,y.o,z.o]
  have a0:L=l++k:=by rw[hL.o,C6 (by rw[t];exact C9 _)]
  subst a0;have M:Z (RwP Lt.tr w (fun g=>C g\/w.heap.size<=g) (l++k) (.returned (.slice u (n+m) v)) wo):=bZ ⟨u,v,by rw[t],bZ (j.o.rows.mono (fun g _ h=>by rw[K.o] at h;exact h.imp (fun h=>h.1) id)),bZ ⟨j.o.mc,j.o.cm⟩,s⟩;clear t;go_wp2_with fail;go_ret;exact M.o
theorem qy {w:World} {b e n:Nat} {l:List Value} (a:l.length=n) (d:n<=maxLen) (c:b<=w.heap.size):(w.alloc (.cells l.toArray e)).ownsRow b e 1 (.slice (V w.heap.size) n n) n l:=
 ⟨by omega,.inr ⟨_,n,l.toArray,rfl,c,Blk.new w e l.toArray,C9 _,d,by simp[a],by rw[EU];exact C6 (by simp[a])⟩⟩
def ro (w:World) (L S:List Int):Prop:=∀(W:World) (A:Option Addr) (c m:Nat),m=L.length->W.ownsRow w.heap.size 3 1 (.slice A m c) m (L.map (Value.int .i64))->
 Calls Tryz.prog 93 #[.slice A m c] W fun e a=>e=.returned (.tuple #[])/\Z (∃Y,ad Y W a/\∀y∈Y,w.heap.size<=y)/\Z (∀W2,W2=a->Calls Tryz.prog 94 #[.slice A m c] W2 fun e w''=>e=.returned (.slice A S.length c)/\Z (w''.ownsRow w.heap.size 3 1 (.slice A S.length c) S.length (S.map (Value.int .i64)))/\Z (∃Y,ad Y a w''/\∀y∈Y,w.heap.size<=y))
theorem oP {w:World} {L S:List Int} (g:sc L=S) (a:L.length<=1000000):ro w L S:=fun W A c m i j=>by
 subst i;refine(oR W w.heap.size L.length c A L rfl a j).mono ?_;rintro e k ⟨rfl,d,f⟩;refine⟨rfl,f,bZ (fun b h=>?_)⟩;subst h;have:=jh b w.heap.size L.length c A _ (by rw[List.length_mergeSort]) a d.o;rwa [jw,g] at this
theorem jX {w f:World} {n c:Nat} {A:Option Addr} {cs:List Value} (h:f.ownsRow w.heap.size 3 1 (.slice A n c) n cs) (l:ad [] w f):eZ w 3 1 n cs (.returned (.slice A n c)) f:=by
 refine⟨A,c,rfl,?_,?_,bZ h,bZ l⟩
 ·rcases h.2 with ⟨i,j⟩ | ⟨g,a,b,e,_,_,d,k,_⟩
  ·omega
  injection e with _ _ h5;omega
 rcases h.2 with ⟨i,j⟩ | ⟨g,a,b,e,_,_,d,k,_⟩
 ·injection i with _ _ d;rw[d];simp[maxLen]
 injection e with _ _ h5;omega
theorem yT (l:List Int):sc (sc l)=sc l:=(mX (dn l) (fun x=>Iff.rfl)).symm
theorem xD (C:Nat->Prop) (a:Am) (w:World) (E:Option Addr) (H:Nat) (X:∀v∈a.t.vars,0<=v/\v<10) (K:a.t.wd<=20000) (h:cP w C a E H):
 Calls Tryz.prog 96 #[fmV (.at a) E H none 0] w (eZ w 3 1 (sc a.vars).length ((sc a.vars).map (Value.int .i64))):=by
  obtain⟨W0,b⟩:∃W,W=w.alloc (.cells (fmL (.at a) E H none 0).toArray 45):=⟨_,rfl⟩;obtain⟨gb,c⟩:∃g,g=w.heap.size:=⟨_,rfl⟩;have D:Z (ad [] w W0):=bZ (by rw[b];exact(ad.refl [] w).alloc _);have u:Z (Blk W0 gb 45 (fmL (.at a) E H none 0).toArray):=bZ (by rw[b,c];exact Blk.new w 45 _);have s:Z (∀W,ad [] w W->Calls Tryz.prog 113 #[tmV a.t E H] W (eZ W 3 1 (sc a.t.vars).length ((sc a.t.vars).map (Value.int .i64)))):=bZ (fun W hW=>gN C 10 (by decide) (by decide) a.t W E H X K h.tm.1 h.tm.2 (h.tt.keep0 hW));have T:(sc a.t.vars).length<=10:=cS (fun x hx=>X x hx);obtain⟨S,B⟩:∃S,S=sc a.vars:=⟨_,rfl⟩;rw[<-B];unfold Am.vars at B;unfold fmL amL at b u;unfold fmV fmL amL;unfold tmV at s;dsimp only[F.kd,F.am,F.args,List.length_nil,List.cons_append,List.nil_append] at b u ⊢;obtain⟨kd,m,J,t,te⟩:=a;obtain⟨tv,tk,tg,ts⟩:=te;dsimp only at*;have r:kd=2\/kd=3\/kd=4->Z (ro w (sc t.vars) S):=fun R=>bZ (oP (by rw[B,if_pos R,yT]) (by omega));have q:kd=6\/kd=7->Z (ro w [m,J] S):=fun R=>bZ (oP (by rw[B,if_neg (by omega),if_pos R]) (by simp));have p:¬(kd=2\/kd=3\/kd=4)->¬(kd=6\/kd=7)->Z (ro w [m] S):=fun h1 n=>bZ (oP (by rw[B,if_neg h1,if_neg n]) (by simp));have a0:S.length<=10:=by
   rw[B];refine Dc ?_ (C9 10)
   split
   ·exact T
   split
   ·exact Dc (gu _) (by simp)
   exact Dc (gu _) (by simp)
  generalize sc t.vars=V00 at*;generalize t.con=con at*;generalize t.pts.length=tn at*;clear B h X K;by_cases n:kd=2\/kd=3\/kd=4
  ·have f:=r n;clear r q p;rcases n with rfl | rfl | rfl
   all_goals
    go_enter Tryz.func96,Tryz.ntmps96;go_upto_region 2 with fail;rw[<-b,<-c];clear b c;have y:=u.o.cell;have yl:=u.o.lt;go_wp2_with fail;refine wp_loop_rounds 1 ?_;rw[rounds_succ];go_upto_region 17 with (go_at_call 113;clear y yl;refine(s.o _ D.o).mono ?_;intro e w2 n;obtain⟨A2,c2,rfl,m2,n2,o2,k2⟩:=n);have M:=bZ (D.o.trans k2.o);go_wp2_with (first | (go_at_call 93;refine(f.o _ _ _ _ rfl (jY o2.o D.o.size)).mono ?_;rintro e N ⟨rfl,j,d⟩) | (go_at_call 94;refine(d.o _ rfl).mono ?_;rintro e w4 ⟨rfl,A,k⟩));go_ret;obtain⟨Y3,j,O⟩:=j.o;obtain⟨Y4,k,P⟩:=k.o;have L:ad [] w N:=(M.o.nil.trans j).mono (fun y i=>.inr (O y i));obtain⟨_,z⟩:=A.o;exact jX A.o ((L.nil.trans k).mono (fun y i=>.inr (P y i)))
  by_cases Q:kd=6\/kd=7
  ·have f:=q Q;clear r q p n;rcases Q with rfl | rfl
   all_goals
    go_enter Tryz.func96,Tryz.ntmps96;go_upto_region 2 with fail;rw[<-b,<-c];clear b c;have y:=u.o.cell;have yl:=u.o.lt;go_wp2_with fail;refine wp_loop_rounds 1 ?_;rw[rounds_succ];go_upto_region 17 with fail;have M:=bZ (D.o.alloc (.cells #[I m,I J] 3));have Y:Z ((W0.alloc (.cells #[I m,I J] 3)).ownsRow w.heap.size 3 1 (.slice (V W0.heap.size) 2 2) 2 ([m,J].map (Value.int .i64))):=bZ (qy (l:=[I m,I J]) rfl (by simp[maxLen]) D.o.size);go_wp2_with (first | (go_at_call 93;refine(f.o _ _ _ _ rfl Y.o).mono ?_;rintro e N ⟨rfl,j,d⟩) | (go_at_call 94;refine(d.o _ rfl).mono ?_;rintro e w4 ⟨rfl,A,k⟩));go_ret;obtain⟨Y3,j,O⟩:=j.o;obtain⟨Y4,k,P⟩:=k.o;have L:ad [] w N:=(M.o.nil.trans j).mono (fun y i=>.inr (O y i));obtain⟨_,z⟩:=A.o;exact jX A.o ((L.nil.trans k).mono (fun y i=>.inr (P y i)))
  have f:=p n Q;clear r q p;have q2:(kd==2)=false:=beq_false_of_ne (by omega);have q3:(kd==3)=false:=beq_false_of_ne (by omega);have q4:(kd==4)=false:=beq_false_of_ne (by omega);have q6:(kd==6)=false:=beq_false_of_ne (by omega);have q7:(kd==7)=false:=beq_false_of_ne (by omega);clear n Q;go_enter Tryz.func96,Tryz.ntmps96;go_upto_region 2 with fail;rw[<-b,<-c];clear b c;have y:=u.o.cell;have yl:=u.o.lt;go_wp2_with fail;refine wp_loop_rounds 1 ?_;rw[rounds_succ];go_upto_region 17 with fail;have M:=bZ (D.o.alloc (.cells #[I m] 3));have Y:Z ((W0.alloc (.cells #[I m] 3)).ownsRow w.heap.size 3 1 (.slice (V W0.heap.size) 1 1) 1 ([m].map (Value.int .i64))):=bZ (qy (l:=[I m]) rfl (by simp[maxLen]) D.o.size);go_wp2_with (first | (go_at_call 93;refine(f.o _ _ _ _ rfl Y.o).mono ?_;rintro e N ⟨rfl,j,d⟩) | (go_at_call 94;refine(d.o _ rfl).mono ?_;rintro e w4 ⟨rfl,A,k⟩));go_ret;obtain⟨Y3,j,O⟩:=j.o;obtain⟨Y4,k,P⟩:=k.o;have L:ad [] w N:=(M.o.nil.trans j).mono (fun y i=>.inr (O y i));obtain⟨_,z⟩:=A.o;exact jX A.o ((L.nil.trans k).mono (fun y i=>.inr (P y i)))
section
open Go.RowKit Go.Sort
theorem jU {g:Nat} {l:List Value} {i:Nat} {w:World}:ad [g] w (aj w g i l):=et (.inl (by simp)) (ad.refl _ _)
theorem cQ {w e wz:World} {d:Nat} {cs:Array Value} {f:F} {a A:Option Addr} {b c:Nat} (m:w.heap.size<=d) (h:Blk e d 45 cs) (q:cs.size=11) (p:ad [] w e)
 (o:bQ e (fun g=>w.heap.size<=g/\g≠d) f a b A c) (s:wz=aj e d 0 (fmL f a b A c)) (k:Int):
 Blk wz d 45 (fmL f a b A c).toArray/\FmP w (fun g=>w.heap.size<=g) (f,k) (.returned (.tuple #[fmV f a b A c,I k])) wz:=by
  have j:=aL (l:=fmL f a b A c) (X:=[]) h (by rw[q];rfl) (.inr m) p;have n:=(o.keep (jU (g:=d) (l:=fmL f a b A c) (i:=0)) (fun y r=>by rw[CZ.1 r];exact fun h=>h.2 rfl)).mono (D:=fun g=>w.heap.size<=g) (fun g _ h=>h.1);rw[<-s] at j n;exact⟨j.1,a,b,A,c,rfl,bZ n,bZ j.2⟩
theorem vY (w:World) (b d n c:Nat) (A:Option Addr) (S:List Int) (v:Int) (p:w.cell? (U d 0)=G A n c) (m:n<=1000000) (h:w.ownsRow b 3 1 (.slice A n c) n (S.map (Value.int .i64))):
 Calls Tryz.prog 98 #[I v,.pointer (V d)] w fun e a=>e=.returned (.bool (S.contains v))/\a=w:=by
  have i:S.length=n:=by have:=h.1;simpa using this
  have H:Z (Calls Tryz.prog 99 #[.slice A n c,I v] w fun e a=>e=.returned (.bool (S.contains v))/\a=w):=bZ (by
   by_cases k:n=0
   ·subst k;obtain rfl:=Dh i;exact Tryz.slices_Contains_int_empty A c v w
   obtain⟨g,rfl⟩:=dW h (by omega);have l:=fV h;have:=Tryz.slices_Contains_int g 0 n c S v w (by omega) (by omega) (fun j f=>by
    have:=(l j (by simpa using f)).1;rw[this];simp[List.getD,f,getElem!_pos])
   rwa [C6 (by omega)] at this)
  generalize S.contains v=B at*;clear h i;go_enter Tryz.func98,Tryz.ntmps98;go_wp2_with (go_at_call 99;refine H.o.mono ?_;rintro e q ⟨rfl,rfl⟩);go_ret;exact⟨rfl,rfl⟩
theorem zu (w:World) (b K n c h m d:Nat) (A B:Option Addr) (a S:List Int) (f:w.ownsRow b 3 1 (.slice A n c) n (a.map (Value.int .i64))) (L:w.ownsRow K 3 1 (.slice B m d) m (S.map (Value.int .i64)))
 (j:w.cell? (U h 0)=G B m d) (M:∀g,(Value.slice A n c).ownBlock=some g->(Value.slice B m d).ownBlock≠some g/\g≠h) (hn:n<=1000000) (hm:m<=1000000):
 Calls Tryz.prog 97 #[.slice A n c,.func (.func 98) #[] #[.pointer (V h)]] w fun e r=>e=.returned (.slice A (a.filter (fun v=>!S.contains v)).length c)/\
  Z (r.ownsRow b 3 1 (.slice A (a.filter (fun v=>!S.contains v)).length c) (a.filter (fun v=>!S.contains v)).length ((a.filter (fun v=>!S.contains v)).map (Value.int .i64)))/\Z (∃Y,ad Y w r/\∀y∈Y,b<=y):=by
 have l:a.length=n:=by have:=f.1;simpa using this
 by_cases T:n=0
 ·subst T;obtain rfl:=Dh l;have i:Z (Calls Tryz.prog 139 #[.slice A 0 c,.func (.func 98) #[] #[.pointer (V h)]] w fun e r=>e=.returned (I (-1))/\r=w):=bZ (Tryz.slices_IndexFunc_empty (α:=Int) A c _ w);have u:=bZ f;have k0:=bZ (ad.refl [] w);clear f L M j l;go_enter Tryz.func97,Tryz.ntmps97;go_wp2_with (go_at_call 139;refine i.o.mono ?_;rintro e w5 ⟨rfl,rfl⟩);go_ret;exact⟨rfl,bZ u.o,bZ ⟨[],k0.o,by simp⟩⟩
 ·obtain⟨g,rfl⟩:=dW f (by omega);obtain⟨Q,X,h2,h3,h4,h5,h6⟩:=fW f;obtain⟨z,C⟩:=M g rfl;have p:∀W,ad [g] w W->∀x,FnGives Tryz.prog 98 #[.pointer (V h)] #[I x] (.bool (S.contains x)) W:=fun W s x=>
   (vY W K h m d B S x (s.cellEq j (by simpa using Ne.symm C)) hm (dE L s (fun y t F=>by rw[CZ.1 F] at t;exact z t))).mono (fun e W' ⟨H,J⟩=>⟨H,0,J⟩)
  have:=Tryz.slices_DeleteFunc (Value.int .i64) (fun _=>rfl) (fun x=>S.contains x) 98 #[.pointer (V h)] (enters_of Tryz.func98 (by kernel_rfl) rfl) 0 Tryz.zeroValue3 g 0 c a.toArray w
   (fun W x s=>p W (ad.of_below s (fun y H J=>absurd H (Nat.not_le.2 J))) x)
   (fun k os R x D=>p _ (by
    have:=(jx (d:=R.toList) k os f (by simpa [l] using D)).2;simpa [sortWorld] using this) x)
   (fV f) (by simp;omega) (by simp;omega)
  simp only[Ew,l] at this;refine this.mono ?_;rintro e r ⟨rfl,q,rfl⟩;have E:(a.filter (fun v=>!S.contains v)).length<=n:=by rw[<-l];exact List.length_filter_le _ _
  obtain⟨N,O⟩:=jx (d:=a.filter (fun v=>!S.contains v)++List.replicate (n - (a.filter (fun v=>!S.contains v)).length) 0) q #[] f (by rw[CU,DG];omega);rw[grow_empty] at N O;have P:=qz (m:=(a.filter (fun v=>!S.contains v)).length) N E;rw[<-El,ET] at P;exact⟨rfl,bZ P,bZ ⟨[g],O,fun y t=>by rw[CZ.1 t];exact X⟩⟩
end
end Go.Proofs.YtldmkbhgdbafhaaGreat
