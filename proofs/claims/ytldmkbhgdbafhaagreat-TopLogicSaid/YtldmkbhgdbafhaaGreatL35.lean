import Derived.Test.YtldmkbhgdbafhaaGreatL34
namespace Go.Proofs.YtldmkbhgdbafhaaGreat
open Go.RowKit
set_option linter.unusedSimpArgs false
set_option linter.unusedVariables false
set_option maxRecDepth 100000
set_option maxHeartbeats 64000000
section
structure Cla.big (c:Cla) (M:Nat):Prop where
 a0:c.nul.length<=M
 a1:c.nn.length<=M
 a2:c.ax.length<=M
 a3:c.is.length<=M
 a4:c.ts.length<=M
 a5:c.sm.length<=M
 a6:c.df.length<=M
section
variable {W0 w:World} {c:Cla} {s:Sv}
theorem zQ (h:BR W0 w c s) (v:Int) (j:c.nul.length<=900000000) (e:Nat):∃b d a,(Builtin.append_ #[108,108] e #[.slice s.A0 c.nul.length s.c0,.slice (V w.heap.size) 1 1]).run Tryz.prog (w.alloc (.cells #[I v] 3))=.ok (.slice b (c.nul.length+1) d) a/\
 (BR W0 a { c with nul:=c.nul++[v] } { s with A0:=b,c0:=d }/\KT [3] w a):=by
  obtain⟨b,d,a,f,g,i,_⟩:=sO (h.keep0 ((ad.refl [] w).alloc (.cells #[I v] 3))) e [v] (V w.heap.size) 1 1 rfl [I v] rfl aF (by rw[show cat a8 [v]=a8 v by simp[cat,Tr.app_nil]];exact cU.2 rfl) (by omega);exact⟨b,d,a,f,g,(KT.of ((ad.refl [] w).alloc _)).trans i⟩
theorem rD (h:BR W0 w c s) (v:Int) (j:c.nn.length<=900000000) (e:Nat):∃b d a,(Builtin.append_ #[108,108] e #[.slice s.A1 c.nn.length s.c1,.slice (V w.heap.size) 1 1]).run Tryz.prog (w.alloc (.cells #[I v] 3))=.ok (.slice b (c.nn.length+1) d) a/\
 (BR W0 a { c with nn:=c.nn++[v] } { s with A1:=b,c1:=d }/\KT [3] w a):=by
  obtain⟨b,d,a,f,g,i,_⟩:=fu (h.keep0 ((ad.refl [] w).alloc (.cells #[I v] 3))) e [v] (V w.heap.size) 1 1 rfl [I v] rfl aF (by rw[show cat a8 [v]=a8 v by simp[cat,Tr.app_nil]];exact cU.2 rfl) (by omega);exact⟨b,d,a,f,g,(KT.of ((ad.refl [] w).alloc _)).trans i⟩
theorem zP (h:BR W0 w c s) (v:Ts) (j:c.ts.length<=900000000) (e:Nat):∃b d a,(Builtin.append_ #[111,111] e #[.slice s.A4 c.ts.length s.c4,.slice (V w.heap.size) 1 1]).run Tryz.prog (w.alloc (.cells #[I v.v,I v.kd,.bool v.ng,.string v.s] 40))=.ok (.slice b (c.ts.length+1) d) a/\
 (BR W0 a { c with ts:=c.ts++[v] } { s with A4:=b,c4:=d }/\KT [40] w a):=by
  obtain⟨b,d,a,f,g,i,_⟩:=sL (h.keep0 ((ad.refl [] w).alloc (.cells #[I v.v,I v.kd,.bool v.ng,.string v.s] 40))) e [v] (V w.heap.size) 1 1 rfl [I v.v,I v.kd,.bool v.ng,.string v.s] rfl aF (by rw[show cat lW [v]=lW v by simp[cat,Tr.app_nil]];exact sw.2 rfl) (by omega);exact⟨b,d,a,f,g,(KT.of ((ad.refl [] w).alloc _)).trans i⟩
theorem zO (h:BR W0 w c s) (v:Int×Int) (j:c.sm.length<=900000000) (e:Nat):∃b d a,(Builtin.append_ #[112,112] e #[.slice s.A5 c.sm.length s.c5,.slice (V w.heap.size) 1 1]).run Tryz.prog (w.alloc (.cells #[I v.1,I v.2] 181))=.ok (.slice b (c.sm.length+1) d) a/\
 (BR W0 a { c with sm:=c.sm++[v] } { s with A5:=b,c5:=d }/\KT [181] w a):=by
  obtain⟨b,d,a,f,g,i,_⟩:=sK (h.keep0 ((ad.refl [] w).alloc (.cells #[I v.1,I v.2] 181))) e [v] (V w.heap.size) 1 1 rfl [I v.1,I v.2] rfl aF (by rw[show cat bh [v]=bh v by simp[cat,Tr.app_nil]];exact eD.2 rfl) (by omega);exact⟨b,d,a,f,g,(KT.of ((ad.refl [] w).alloc _)).trans i⟩
theorem zN (h:BR W0 w c s) (v:Int×Int) (j:c.df.length<=900000000) (e:Nat):∃b d a,(Builtin.append_ #[112,112] e #[.slice s.A6 c.df.length s.c6,.slice (V w.heap.size) 1 1]).run Tryz.prog (w.alloc (.cells #[I v.1,I v.2] 181))=.ok (.slice b (c.df.length+1) d) a/\
 (BR W0 a { c with df:=c.df++[v] } { s with A6:=b,c6:=d }/\KT [181] w a):=by
  obtain⟨b,d,a,f,g,i,_⟩:=sJ (h.keep0 ((ad.refl [] w).alloc (.cells #[I v.1,I v.2] 181))) e [v] (V w.heap.size) 1 1 rfl [I v.1,I v.2] rfl aF (by rw[show cat bh [v]=bh v by simp[cat,Tr.app_nil]];exact eD.2 rfl) (by omega);exact⟨b,d,a,f,g,(KT.of ((ad.refl [] w).alloc _)).trans i⟩
theorem vu (h:BR W0 w c s) (f:Lin) (a:Bool) (A:Option Addr) (m:Nat) (i:f.cs.length<=m/\m<=maxLen) (l:ag bh w (Cof W0.heap.size w) A f.cs) (r:c.is.length<=900000000) (j:Nat):∃d e b,(Builtin.append_ #[110,110] j #[.slice s.A3 c.is.length s.c3,.slice (V w.heap.size) 1 1]).run Tryz.prog (w.alloc (.cells #[I f.k,.slice A f.cs.length m,.bool a] 173))=.ok (.slice d (c.is.length+1) e) b/\
 (BR W0 b { c with is:=c.is++[(f,a)] } { s with A3:=d,c3:=e }/\KT [173] w b):=by
  obtain⟨d,e,b,o,p,q,_⟩:=sM (h.keep0 ((ad.refl [] w).alloc (.cells #[I f.k,.slice A f.cs.length m,.bool a] 173))) j [(f,a)] (V w.heap.size) 1 1 rfl [I f.k,.slice A f.cs.length m,.bool a] rfl aF (by
   rw[show cat mr [(f,a)]=mr (f,a) by simp[cat,Tr.app_nil]];exact pL.2 ⟨A,m,rfl,i.1,i.2,(l.keep0 ((ad.refl [] w).alloc _)).mono (fun g _ n=>n.keep ((ad.refl [] w).alloc _) (by simp))⟩) (by omega)
  exact⟨d,e,b,o,p,(KT.of ((ad.refl [] w).alloc _)).trans q⟩
end
theorem uA {c:Cla} {M:Nat} (h:c.big M) (v:Int):({ c with nn:=c.nn++[v] }:Cla).big (M+1):=⟨by have:=h.a0;simp;omega,by have:=h.a1;simp;omega,by have:=h.a2;simp;omega,by have:=h.a3;simp;omega,by have:=h.a4;simp;omega,by have:=h.a5;simp;omega,by have:=h.a6;simp;omega⟩
def AdP (W0 w:World) (b n:Nat) (c:Cla) (e:Ending) (a:World):Prop:=∃s,e=.returned (.tuple #[])/\Z (BR W0 a c s)/\Z (Blk a b 159 (bdL n c s).toArray)/\Z (KT [159,3,168,173,40,181] w a)
theorem zI (W0 w:World) (b n:Nat) (c:Cla) (s:Sv) (x:Lt) (J:Option Addr) (L:Nat) (r:x.a.kd=0) (hR:BR W0 w c s) (hb:W0.heap.size<=b) (hB:Blk w b 159 (bdL n c s).toArray) (hM:c.big 800000000):
 Calls Tryz.prog 79 #[.pointer (V b),.agg (ltL x J L).toArray] w (AdP W0 w b n (aP n c x)):=by
  have l:aP n c x= { c with nul:=c.nul++[x.a.v] }:=by unfold aP;simp[r]
  obtain⟨f,h⟩:∃W,W=w.alloc (.cells (ltL x J L).toArray 155):=⟨_,rfl⟩;obtain⟨D,q⟩:∃g,g=w.heap.size:=⟨_,rfl⟩;have T:Z (ad [] w f):=bZ (by rw[h];exact(ad.refl [] w).alloc _);have A:Z (Blk f D 155 (ltL x J L).toArray):=bZ (by rw[h,q];exact Blk.new w 155 _);have N:=bZ (hB.keep T.o (by simp));have HR:=bZ (hR.keep0 T.o);have KW:Z (KT [159,3,168,173,40,181] w f):=bZ (KT.of T.o);have Q:=bZ hM;obtain⟨cf,j⟩:∃cf,cf=aP n c x:=⟨_,rfl⟩;rw[<-j];rw[<-j] at l;clear j;unfold ltL at*;rw[r] at A h ⊢;generalize x.a.v=av at*;generalize x.a.o=ao at*;generalize x.a.t.con=con at*;generalize x.a.t.pts.length=tl at*;generalize x.a.te=te at*;generalize x.up=up at*;obtain⟨ev,ek,en,es⟩:=te
  try dsimp only at*
  replace l:=bZ l;clear hR hB r hM;go_enter Tryz.func79,Tryz.ntmps79;have k:Z (∀C,Blk C b 159 (bdL n c s).toArray->Blk C D 155 #[I 0,I av,I ao,I con,.slice J tl L,I ev,I ek,.bool en,.string es,.bool up]->C.cell? (U b 1)=G s.A0 c.nul.length s.c0/\C.cell? (U D 1)=some (I av)):=bZ (fun C h0 h1=>⟨h0.cell 1,h1.cell 1⟩);go_upto_region 3 with fail;rw[<-h,<-q];clear h q;refine ae (S:=(fun H:World=>H.cell? (U b 1)=G s.A0 c.nul.length s.c0/\H.cell? (U D 1)=some (I av))) (n:=11) (by kernel_rfl) ?_;have m:(fun H:World=>H.cell? (U b 1)=G s.A0 c.nul.length s.c0/\H.cell? (U D 1)=some (I av)) f.drew:=k.o _ (N.o.keep (ad.refl [] f).drew (by simp)) (A.o.keep (ad.refl [] f).drew (by simp))
  try dsimp only at m
  refine ord [0,1,2,3,4,5,6,7,8] ?_
  iterate 9 (refine tq m ?_;try simp only[PT,Y1,Y2,Y3])
  refine aB ?_;refine J1 9 fun K E=>?_;dsimp only[Y1,Y2,Y3];go_simp;have d:=k.o (f.drew.alloc (.cells #[I av] 3)) ((N.o.keep (ad.refl [] f).drew (by simp)).alloc _) ((A.o.keep (ad.refl [] f).drew (by simp)).alloc _)
  try dsimp only at d
  refine E _ _ (.inr d) ?_;clear E K m;have m:=d;clear d
  try simp only[PT,Y1,Y2,Y3]
  refine J1 10 fun K E=>?_;dsimp only[Y1,Y2,Y3];refine bW (.tmp 16) (.tmp 20) 108 rfl rfl rfl (zQ (HR.o.keep0 (ad.refl [] f).drew) av (by have:=Q.o.a0;omega) _) ?_;intro u y M q6;have R:=bZ q6.o.1;have p:=bZ q6.o.2;have e:=bZ (p.o.blk (N.o.keep (ad.refl [] f).drew (by simp)) (by decide));have P:=bZ (p.o.blk (A.o.keep (ad.refl [] f).drew (by simp)) (by decide));have d:=k.o M e.o P.o
  try dsimp only at d
  have z:=e.o.cell;have zf:=e.o.frozen;have zl:=e.o.lt;unfold bdL clL at z
  try dsimp only at z
  refine E _ _ (.inr d) ?_;clear E K m;have m:=d;clear d
  try simp only[PT,Y1,Y2,Y3]
  refine JQ 11 ?_
  try simp only[PT,Y1,Y2,Y3]
  refine JQ 12 ?_
  try simp only[PT,Y1,Y2,Y3]
  refine JQ 13 ?_
  try simp only[PT,Y1,Y2,Y3]
  refine JQ 14 ?_
  try simp only[PT,Y1,Y2,Y3]
  refine JD ?_;clear m k;clear z zf zl;have X:Z (Blk (M.setCell (U b 1) (.slice u (c.nul.length+1) y)) b 159 (bdL n { c with nul:=c.nul++[av] } { s with A0:=u,c0:=y }).toArray):=bZ (by have:=e.o.set_ 1 (.slice u (c.nul.length+1) y);unfold bdL clL at this ⊢;simpa using this);have Y:=bZ (R.o.set e.o (by decide) hb (i:=1) (.slice u (c.nul.length+1) y));have O:Z (KT [159,3,168,173,40,181] f (M.setCell (U b 1) (.slice u (c.nul.length+1) y))):=bZ (((KT.of (ad.refl [] f).drew).trans (p.o.mono (by simp))).trans (KT.set e.o (by simp) _));have B:=bZ (KW.o.trans O.o);obtain⟨w7,F⟩:∃x,x=M.setCell (U b 1) (.slice u (c.nul.length+1) y):=⟨_,rfl⟩;rw[<-F] at X Y O B;have a1:=bZ (O.o.blk A.o (by decide));go_wp2_with fail;rw[<-F];refine bodyPost_ret (v:=.tuple #[]) (by simp[results,Tryz.results79,go_sem]) rfl ?_;rw[l.o];exact⟨_,rfl,Y,X,B⟩
theorem zH (W0 w:World) (b n:Nat) (c:Cla) (s:Sv) (x:Lt) (L:Option Addr) (M:Nat) (r:x.a.kd=1) (hR:BR W0 w c s) (hb:W0.heap.size<=b) (hB:Blk w b 159 (bdL n c s).toArray) (hM:c.big 800000000):
 Calls Tryz.prog 79 #[.pointer (V b),.agg (ltL x L M).toArray] w (AdP W0 w b n (aP n c x)):=by
  have l:aP n c x= { c with nn:=c.nn++[x.a.v] }:=by unfold aP;simp[r]
  obtain⟨f,h⟩:∃W,W=w.alloc (.cells (ltL x L M).toArray 155):=⟨_,rfl⟩;obtain⟨F,q⟩:∃g,g=w.heap.size:=⟨_,rfl⟩;have X:Z (ad [] w f):=bZ (by rw[h];exact(ad.refl [] w).alloc _);have B:Z (Blk f F 155 (ltL x L M).toArray):=bZ (by rw[h,q];exact Blk.new w 155 _);have O:=bZ (hB.keep X.o (by simp));have HR:=bZ (hR.keep0 X.o);have KW:Z (KT [159,3,168,173,40,181] w f):=bZ (KT.of X.o);have R:=bZ hM;obtain⟨cf,j⟩:∃cf,cf=aP n c x:=⟨_,rfl⟩;rw[<-j];rw[<-j] at l;clear j;unfold ltL at*;rw[r] at B h ⊢;generalize x.a.v=av at*;generalize x.a.o=ao at*;generalize x.a.t.con=con at*;generalize x.a.t.pts.length=tl at*;generalize x.a.te=te at*;generalize x.up=up at*;obtain⟨ev,ek,en,es⟩:=te
  try dsimp only at*
  replace l:=bZ l;clear hR hB r hM;go_enter Tryz.func79,Tryz.ntmps79;have k:Z (∀E,Blk E b 159 (bdL n c s).toArray->Blk E F 155 #[I 1,I av,I ao,I con,.slice L tl M,I ev,I ek,.bool en,.string es,.bool up]->E.cell? (U b 2)=G s.A1 c.nn.length s.c1/\E.cell? (U F 1)=some (I av)):=bZ (fun E h0 h1=>⟨h0.cell 2,h1.cell 1⟩);go_upto_region 18 with fail;rw[<-h,<-q];clear h q;refine ae (S:=(fun J:World=>J.cell? (U b 2)=G s.A1 c.nn.length s.c1/\J.cell? (U F 1)=some (I av))) (n:=11) (by kernel_rfl) ?_;have m:(fun J:World=>J.cell? (U b 2)=G s.A1 c.nn.length s.c1/\J.cell? (U F 1)=some (I av)) f.drew:=k.o _ (O.o.keep (ad.refl [] f).drew (by simp)) (B.o.keep (ad.refl [] f).drew (by simp))
  try dsimp only at m
  refine ord [0,1,2,3,4,5,6,7,8] ?_
  iterate 9 (refine tq m ?_;try simp only[PT,Y1,Y2,Y3])
  refine aB ?_;refine J1 9 fun K H=>?_;dsimp only[Y1,Y2,Y3];go_simp;have d:=k.o (f.drew.alloc (.cells #[I av] 3)) ((O.o.keep (ad.refl [] f).drew (by simp)).alloc _) ((B.o.keep (ad.refl [] f).drew (by simp)).alloc _)
  try dsimp only at d
  refine H _ _ (.inr d) ?_;clear H K m;have m:=d;clear d
  try simp only[PT,Y1,Y2,Y3]
  refine J1 10 fun K H=>?_;dsimp only[Y1,Y2,Y3];refine bW (.tmp 107) (.tmp 111) 108 rfl rfl rfl (rD (HR.o.keep0 (ad.refl [] f).drew) av (by have:=R.o.a1;omega) _) ?_;intro y A N q6;have T:=bZ q6.o.1;have p:=bZ q6.o.2;have e:=bZ (p.o.blk (O.o.keep (ad.refl [] f).drew (by simp)) (by decide));have Q:=bZ (p.o.blk (B.o.keep (ad.refl [] f).drew (by simp)) (by decide));have d:=k.o N e.o Q.o
  try dsimp only at d
  have z:=e.o.cell;have zf:=e.o.frozen;have Y:=e.o.lt;unfold bdL clL at z
  try dsimp only at z
  refine H _ _ (.inr d) ?_;clear H K m;have m:=d;clear d
  try simp only[PT,Y1,Y2,Y3]
  refine JQ 11 ?_
  try simp only[PT,Y1,Y2,Y3]
  refine JQ 12 ?_
  try simp only[PT,Y1,Y2,Y3]
  refine JQ 13 ?_
  try simp only[PT,Y1,Y2,Y3]
  refine JQ 14 ?_
  try simp only[PT,Y1,Y2,Y3]
  refine JD ?_;clear m k;clear z zf Y;have B6:Z (Blk (N.setCell (U b 2) (.slice y (c.nn.length+1) A)) b 159 (bdL n { c with nn:=c.nn++[av] } { s with A1:=y,c1:=A }).toArray):=bZ (by have:=e.o.set_ 2 (.slice y (c.nn.length+1) A);unfold bdL clL at this ⊢;simpa using this);have R6:=bZ (T.o.set e.o (by decide) hb (i:=2) (.slice y (c.nn.length+1) A));have P:Z (KT [159,3,168,173,40,181] f (N.setCell (U b 2) (.slice y (c.nn.length+1) A))):=bZ (((KT.of (ad.refl [] f).drew).trans (p.o.mono (by simp))).trans (KT.set e.o (by simp) _));have D:=bZ (KW.o.trans P.o);obtain⟨w7,u⟩:∃x,x=N.setCell (U b 2) (.slice y (c.nn.length+1) A):=⟨_,rfl⟩;rw[<-u] at B6 R6 P D;have C:=bZ (P.o.blk B.o (by decide));have z:=C.o.cell;have Y:=C.o.lt;rw[u] at z Y;go_wp2_with fail;rw[<-u];refine bodyPost_ret (v:=.tuple #[]) (by simp[results,Tryz.results79,go_sem]) rfl ?_;rw[l.o];exact⟨_,rfl,R6,B6,D⟩
theorem zC (W0 w:World) (b n:Nat) (c:Cla) (s:Sv) (x:Lt) (tA:Option Addr) (tc:Nat) (a2:x.a.kd=6) (hR:BR W0 w c s) (hb:W0.heap.size<=b) (hB:Blk w b 159 (bdL n c s).toArray) (hM:c.big 800000000):
 Calls Tryz.prog 79 #[.pointer (V b),.agg (ltL x tA tc).toArray] w (AdP W0 w b n (aP n c x)):=by
  have B:aP n c x= { c with nn:=c.nn++[x.a.v]++[x.a.o],sm:=c.sm++[(x.a.v,x.a.o)] }:=by unfold aP;simp[a2]
  obtain⟨f,Q⟩:∃W,W=w.alloc (.cells (ltL x tA tc).toArray 155):=⟨_,rfl⟩;obtain⟨C,a0⟩:∃g,g=w.heap.size:=⟨_,rfl⟩;have k1:Z (ad [] w f):=bZ (by rw[Q];exact(ad.refl [] w).alloc _);have D:Z (Blk f C 155 (ltL x tA tc).toArray):=bZ (by rw[Q,a0];exact Blk.new w 155 _);have O:=bZ (hB.keep k1.o (by simp));have HR:=bZ (hR.keep0 k1.o);have KW:Z (KT [159,3,168,173,40,181] w f):=bZ (KT.of k1.o);have E:=bZ hM;obtain⟨cf,R⟩:∃cf,cf=aP n c x:=⟨_,rfl⟩;rw[<-R];rw[<-R] at B;clear R;unfold ltL at*;rw[a2] at D Q ⊢;generalize x.a.v=av at*;generalize x.a.o=ao at*;generalize x.a.t.con=con at*;generalize x.a.t.pts.length=tl at*;generalize x.a.te=te at*;generalize x.up=up at*;obtain⟨ev,ek,en,es⟩:=te
  try dsimp only at*
  replace B:=bZ B;clear hR hB a2 hM;go_enter Tryz.func79,Tryz.ntmps79;have h:Z (∀y,Blk y b 159 (bdL n c s).toArray->Blk y C 155 #[I 6,I av,I ao,I con,.slice tA tl tc,I ev,I ek,.bool en,.string es,.bool up]->y.cell? (U b 2)=G s.A1 c.nn.length s.c1/\y.cell? (U C 1)=some (I av)):=bZ (fun y h0 h1=>⟨h0.cell 2,h1.cell 1⟩);go_upto_region 18 with fail;rw[<-Q,<-a0];clear Q a0;refine ae (S:=(fun u:World=>u.cell? (U b 2)=G s.A1 c.nn.length s.c1/\u.cell? (U C 1)=some (I av))) (n:=11) (by kernel_rfl) ?_;have m:(fun u:World=>u.cell? (U b 2)=G s.A1 c.nn.length s.c1/\u.cell? (U C 1)=some (I av)) f.drew:=h.o _ (O.o.keep (ad.refl [] f).drew (by simp)) (D.o.keep (ad.refl [] f).drew (by simp))
  try dsimp only at m
  refine ord [0,1,2,3,4,5,6,7,8] ?_
  iterate 9 (refine tq m ?_;try simp only[PT,Y1,Y2,Y3])
  refine aB ?_;refine J1 9 fun K A=>?_;dsimp only[Y1,Y2,Y3];go_simp;have d:=h.o (f.drew.alloc (.cells #[I av] 3)) ((O.o.keep (ad.refl [] f).drew (by simp)).alloc _) ((D.o.keep (ad.refl [] f).drew (by simp)).alloc _)
  try dsimp only at d
  refine A _ _ (.inr d) ?_;clear A K m;have m:=d;clear d
  try simp only[PT,Y1,Y2,Y3]
  refine J1 10 fun K A=>?_;dsimp only[Y1,Y2,Y3];refine bW (.tmp 107) (.tmp 111) 108 rfl rfl rfl (rD (HR.o.keep0 (ad.refl [] f).drew) av (by have:=E.o.a1;omega) _) ?_;intro p q M Y;have H:=bZ Y.o.1;have j:=bZ Y.o.2;have e:=bZ (j.o.blk (O.o.keep (ad.refl [] f).drew (by simp)) (by decide));have P:=bZ (j.o.blk (D.o.keep (ad.refl [] f).drew (by simp)) (by decide));have d:=h.o M e.o P.o
  try dsimp only at d
  have z:=e.o.cell;have zf:=e.o.frozen;have zl:=e.o.lt;unfold bdL clL at z
  try dsimp only at z
  refine A _ _ (.inr d) ?_;clear A K m;have m:=d;clear d
  try simp only[PT,Y1,Y2,Y3]
  refine JQ 11 ?_
  try simp only[PT,Y1,Y2,Y3]
  refine JQ 12 ?_
  try simp only[PT,Y1,Y2,Y3]
  refine JQ 13 ?_
  try simp only[PT,Y1,Y2,Y3]
  refine JQ 14 ?_
  try simp only[PT,Y1,Y2,Y3]
  refine JD ?_;clear m h;clear z zf zl;have J:Z (Blk (M.setCell (U b 2) (.slice p (c.nn.length+1) q)) b 159 (bdL n { c with nn:=c.nn++[av] } { s with A1:=p,c1:=q }).toArray):=bZ (by have:=e.o.set_ 2 (.slice p (c.nn.length+1) q);unfold bdL clL at this ⊢;simpa using this);have L:=bZ (H.o.set e.o (by decide) hb (i:=2) (.slice p (c.nn.length+1) q));have N:Z (KT [159,3,168,173,40,181] f (M.setCell (U b 2) (.slice p (c.nn.length+1) q))):=bZ (((KT.of (ad.refl [] f).drew).trans (j.o.mono (by simp))).trans (KT.set e.o (by simp) _));have l:=bZ (KW.o.trans N.o);obtain⟨w7,k⟩:∃x,x=M.setCell (U b 2) (.slice p (c.nn.length+1) q):=⟨_,rfl⟩;rw[<-k] at J L N l;have r:=bZ (N.o.blk D.o (by decide));have z:=r.o.cell;have zl:=r.o.lt;rw[k] at z zl;have F:=bZ (uA E.o av);obtain⟨c,X⟩:∃x:Cla,x= { c with nn:=c.nn++[av] }:=⟨_,rfl⟩;obtain⟨s,hs⟩:∃x:Sv,x= { s with A1:=p,c1:=q }:=⟨_,rfl⟩;rw[<-X,<-hs] at J L;rw[<-X] at F;have B:=bZ (show cf= { c with nn:=c.nn++[ao],sm:=c.sm++[(av,ao)] } by rw[B.o,X]);clear X hs;obtain⟨f,T⟩:∃x,x=w7:=⟨_,rfl⟩;rw[<-T] at k J L l r;clear T;have O:=J;have HR:=L;have KW:=l;have E:=F;have D:=r;clear J L l F N H j e r;have h:Z (∀y,Blk y b 159 (bdL n c s).toArray->Blk y C 155 #[I 6,I av,I ao,I con,.slice tA tl tc,I ev,I ek,.bool en,.string es,.bool up]->y.cell? (U b 2)=G s.A1 c.nn.length s.c1/\y.cell? (U C 2)=some (I ao)):=bZ (fun y h0 h1=>⟨h0.cell 2,h1.cell 2⟩);go_upto_region 25 with fail;rw[<-k];clear k;clear z zl;refine ae (S:=(fun u:World=>u.cell? (U b 2)=G s.A1 c.nn.length s.c1/\u.cell? (U C 2)=some (I ao))) (n:=11) (by kernel_rfl) ?_;have m:(fun u:World=>u.cell? (U b 2)=G s.A1 c.nn.length s.c1/\u.cell? (U C 2)=some (I ao)) f.drew:=h.o _ (O.o.keep (ad.refl [] f).drew (by simp)) (D.o.keep (ad.refl [] f).drew (by simp))
  try dsimp only at m
  refine ord [0,1,2,3,4,5,6,7,8] ?_
  iterate 9 (refine tq m ?_;try simp only[PT,Y1,Y2,Y3])
  refine aB ?_;refine J1 9 fun K A=>?_;dsimp only[Y1,Y2,Y3];go_simp;have d:=h.o (f.drew.alloc (.cells #[I ao] 3)) ((O.o.keep (ad.refl [] f).drew (by simp)).alloc _) ((D.o.keep (ad.refl [] f).drew (by simp)).alloc _)
  try dsimp only at d
  refine A _ _ (.inr d) ?_;clear A K m;have m:=d;clear d
  try simp only[PT,Y1,Y2,Y3]
  refine J1 10 fun K A=>?_;dsimp only[Y1,Y2,Y3];refine bW (.tmp 147) (.tmp 151) 108 rfl rfl rfl (rD (HR.o.keep0 (ad.refl [] f).drew) ao (by have:=E.o.a1;omega) _) ?_;intro p q M Y;have H:=bZ Y.o.1;have j:=bZ Y.o.2;have e:=bZ (j.o.blk (O.o.keep (ad.refl [] f).drew (by simp)) (by decide));have P:=bZ (j.o.blk (D.o.keep (ad.refl [] f).drew (by simp)) (by decide));have d:=h.o M e.o P.o
  try dsimp only at d
  have z:=e.o.cell;have zf:=e.o.frozen;have zl:=e.o.lt;unfold bdL clL at z
  try dsimp only at z
  refine A _ _ (.inr d) ?_;clear A K m;have m:=d;clear d
  try simp only[PT,Y1,Y2,Y3]
  refine JQ 11 ?_
  try simp only[PT,Y1,Y2,Y3]
  refine JQ 12 ?_
  try simp only[PT,Y1,Y2,Y3]
  refine JQ 13 ?_
  try simp only[PT,Y1,Y2,Y3]
  refine JQ 14 ?_
  try simp only[PT,Y1,Y2,Y3]
  refine JD ?_;clear m h;clear z zf zl;have J:Z (Blk (M.setCell (U b 2) (.slice p (c.nn.length+1) q)) b 159 (bdL n { c with nn:=c.nn++[ao] } { s with A1:=p,c1:=q }).toArray):=bZ (by have:=e.o.set_ 2 (.slice p (c.nn.length+1) q);unfold bdL clL at this ⊢;simpa using this);have L:=bZ (H.o.set e.o (by decide) hb (i:=2) (.slice p (c.nn.length+1) q));have N:Z (KT [159,3,168,173,40,181] f (M.setCell (U b 2) (.slice p (c.nn.length+1) q))):=bZ (((KT.of (ad.refl [] f).drew).trans (j.o.mono (by simp))).trans (KT.set e.o (by simp) _));have l:=bZ (KW.o.trans N.o);obtain⟨w7,k⟩:∃x,x=M.setCell (U b 2) (.slice p (c.nn.length+1) q):=⟨_,rfl⟩;rw[<-k] at J L N l;have r:=bZ (N.o.blk D.o (by decide));have F:=bZ (uA E.o ao);obtain⟨c,X⟩:∃x:Cla,x= { c with nn:=c.nn++[ao] }:=⟨_,rfl⟩;obtain⟨s,hs⟩:∃x:Sv,x= { s with A1:=p,c1:=q }:=⟨_,rfl⟩;rw[<-X,<-hs] at J L;rw[<-X] at F;have B:=bZ (show cf= { c with sm:=c.sm++[(av,ao)] } by rw[B.o,X]);clear X hs;obtain⟨f,T⟩:∃x,x=w7:=⟨_,rfl⟩;rw[<-T] at k J L l r;clear T;have O:=J;have HR:=L;have KW:=l;have E:=F;have D:=r;clear J L l F N H j e r;have h:Z (∀y,Blk y b 159 (bdL n c s).toArray->Blk y C 155 #[I 6,I av,I ao,I con,.slice tA tl tc,I ev,I ek,.bool en,.string es,.bool up]->y.cell? (U b 6)=G s.A5 c.sm.length s.c5/\y.cell? (U C 1)=some (I av)/\y.cell? (U C 2)=some (I ao)):=bZ (fun y h0 h1=>⟨h0.cell 6,h1.cell 1,h1.cell 2⟩);go_upto_region 26 with fail;rw[<-k];clear k;refine ae (S:=(fun u:World=>u.cell? (U b 6)=G s.A5 c.sm.length s.c5/\u.cell? (U C 1)=some (I av)/\u.cell? (U C 2)=some (I ao))) (n:=15) (by kernel_rfl) ?_;have m:(fun u:World=>u.cell? (U b 6)=G s.A5 c.sm.length s.c5/\u.cell? (U C 1)=some (I av)/\u.cell? (U C 2)=some (I ao)) f.drew:=h.o _ (O.o.keep (ad.refl [] f).drew (by simp)) (D.o.keep (ad.refl [] f).drew (by simp))
  try dsimp only at m
  refine ord [0,1,2,3,4,5,6,7,8,9,10,11,12] ?_
  iterate 13 (refine tq m ?_;try simp only[PT,Y1,Y2,Y3])
  refine aB ?_;refine J1 13 fun K A=>?_;dsimp only[Y1,Y2,Y3];go_simp;have d:=h.o (f.drew.alloc (.cells #[I av,I ao] 181)) ((O.o.keep (ad.refl [] f).drew (by simp)).alloc _) ((D.o.keep (ad.refl [] f).drew (by simp)).alloc _)
  try dsimp only at d
  refine A _ _ (.inr d) ?_;clear A K m;have m:=d;clear d
  try simp only[PT,Y1,Y2,Y3]
  refine J1 14 fun K A=>?_;dsimp only[Y1,Y2,Y3];refine bW (.tmp 161) (.tmp 169) 112 rfl rfl rfl (zO (HR.o.keep0 (ad.refl [] f).drew) (av,ao) (by have:=E.o.a5;omega) _) ?_;intro p q M Y;have H:=bZ Y.o.1;have j:=bZ Y.o.2;have e:=bZ (j.o.blk (O.o.keep (ad.refl [] f).drew (by simp)) (by decide));have P:=bZ (j.o.blk (D.o.keep (ad.refl [] f).drew (by simp)) (by decide));have d:=h.o M e.o P.o
  try dsimp only at d
  have z:=e.o.cell;have zf:=e.o.frozen;have zl:=e.o.lt;unfold bdL clL at z
  try dsimp only at z
  refine A _ _ (.inr d) ?_;clear A K m;have m:=d;clear d
  try simp only[PT,Y1,Y2,Y3]
  refine JQ 15 ?_
  try simp only[PT,Y1,Y2,Y3]
  refine JQ 16 ?_
  try simp only[PT,Y1,Y2,Y3]
  refine JQ 17 ?_
  try simp only[PT,Y1,Y2,Y3]
  refine JQ 18 ?_
  try simp only[PT,Y1,Y2,Y3]
  refine JD ?_;clear m h;clear z zf zl;have J:Z (Blk (M.setCell (U b 6) (.slice p (c.sm.length+1) q)) b 159 (bdL n { c with sm:=c.sm++[(av,ao)] } { s with A5:=p,c5:=q }).toArray):=bZ (by have:=e.o.set_ 6 (.slice p (c.sm.length+1) q);unfold bdL clL at this ⊢;simpa using this);have L:=bZ (H.o.set e.o (by decide) hb (i:=6) (.slice p (c.sm.length+1) q));have N:Z (KT [159,3,168,173,40,181] f (M.setCell (U b 6) (.slice p (c.sm.length+1) q))):=bZ (((KT.of (ad.refl [] f).drew).trans (j.o.mono (by simp))).trans (KT.set e.o (by simp) _));have l:=bZ (KW.o.trans N.o);obtain⟨w7,k⟩:∃x,x=M.setCell (U b 6) (.slice p (c.sm.length+1) q):=⟨_,rfl⟩;rw[<-k] at J L N l;have r:=bZ (N.o.blk D.o (by decide));go_wp2_with fail;rw[<-k];refine bodyPost_ret (v:=.tuple #[]) (by simp[results,Tryz.results79,go_sem]) rfl ?_;rw[B.o];exact⟨_,rfl,L,J,l⟩
theorem zB (W0 w:World) (b n:Nat) (c:Cla) (s:Sv) (x:Lt) (tA:Option Addr) (tc:Nat) (a2:x.a.kd=7) (hR:BR W0 w c s) (hb:W0.heap.size<=b) (hB:Blk w b 159 (bdL n c s).toArray) (hM:c.big 800000000):
 Calls Tryz.prog 79 #[.pointer (V b),.agg (ltL x tA tc).toArray] w (AdP W0 w b n (aP n c x)):=by
  have B:aP n c x= { c with nn:=c.nn++[x.a.v]++[x.a.o],df:=c.df++[(x.a.v,x.a.o)] }:=by unfold aP;simp[a2]
  obtain⟨f,Q⟩:∃W,W=w.alloc (.cells (ltL x tA tc).toArray 155):=⟨_,rfl⟩;obtain⟨C,a0⟩:∃g,g=w.heap.size:=⟨_,rfl⟩;have k1:Z (ad [] w f):=bZ (by rw[Q];exact(ad.refl [] w).alloc _);have D:Z (Blk f C 155 (ltL x tA tc).toArray):=bZ (by rw[Q,a0];exact Blk.new w 155 _);have O:=bZ (hB.keep k1.o (by simp));have HR:=bZ (hR.keep0 k1.o);have KW:Z (KT [159,3,168,173,40,181] w f):=bZ (KT.of k1.o);have E:=bZ hM;obtain⟨cf,R⟩:∃cf,cf=aP n c x:=⟨_,rfl⟩;rw[<-R];rw[<-R] at B;clear R;unfold ltL at*;rw[a2] at D Q ⊢;generalize x.a.v=av at*;generalize x.a.o=ao at*;generalize x.a.t.con=con at*;generalize x.a.t.pts.length=tl at*;generalize x.a.te=te at*;generalize x.up=up at*;obtain⟨ev,ek,en,es⟩:=te
  try dsimp only at*
  replace B:=bZ B;clear hR hB a2 hM;go_enter Tryz.func79,Tryz.ntmps79;have h:Z (∀y,Blk y b 159 (bdL n c s).toArray->Blk y C 155 #[I 7,I av,I ao,I con,.slice tA tl tc,I ev,I ek,.bool en,.string es,.bool up]->y.cell? (U b 2)=G s.A1 c.nn.length s.c1/\y.cell? (U C 1)=some (I av)):=bZ (fun y h0 h1=>⟨h0.cell 2,h1.cell 1⟩);go_upto_region 18 with fail;rw[<-Q,<-a0];clear Q a0;refine ae (S:=(fun u:World=>u.cell? (U b 2)=G s.A1 c.nn.length s.c1/\u.cell? (U C 1)=some (I av))) (n:=11) (by kernel_rfl) ?_;have m:(fun u:World=>u.cell? (U b 2)=G s.A1 c.nn.length s.c1/\u.cell? (U C 1)=some (I av)) f.drew:=h.o _ (O.o.keep (ad.refl [] f).drew (by simp)) (D.o.keep (ad.refl [] f).drew (by simp))
  try dsimp only at m
  refine ord [0,1,2,3,4,5,6,7,8] ?_
  iterate 9 (refine tq m ?_;try simp only[PT,Y1,Y2,Y3])
  refine aB ?_;refine J1 9 fun K A=>?_;dsimp only[Y1,Y2,Y3];go_simp;have d:=h.o (f.drew.alloc (.cells #[I av] 3)) ((O.o.keep (ad.refl [] f).drew (by simp)).alloc _) ((D.o.keep (ad.refl [] f).drew (by simp)).alloc _)
  try dsimp only at d
  refine A _ _ (.inr d) ?_;clear A K m;have m:=d;clear d
  try simp only[PT,Y1,Y2,Y3]
  refine J1 10 fun K A=>?_;dsimp only[Y1,Y2,Y3];refine bW (.tmp 107) (.tmp 111) 108 rfl rfl rfl (rD (HR.o.keep0 (ad.refl [] f).drew) av (by have:=E.o.a1;omega) _) ?_;intro p q M Y;have H:=bZ Y.o.1;have j:=bZ Y.o.2;have e:=bZ (j.o.blk (O.o.keep (ad.refl [] f).drew (by simp)) (by decide));have P:=bZ (j.o.blk (D.o.keep (ad.refl [] f).drew (by simp)) (by decide));have d:=h.o M e.o P.o
  try dsimp only at d
  have z:=e.o.cell;have zf:=e.o.frozen;have zl:=e.o.lt;unfold bdL clL at z
  try dsimp only at z
  refine A _ _ (.inr d) ?_;clear A K m;have m:=d;clear d
  try simp only[PT,Y1,Y2,Y3]
  refine JQ 11 ?_
  try simp only[PT,Y1,Y2,Y3]
  refine JQ 12 ?_
  try simp only[PT,Y1,Y2,Y3]
  refine JQ 13 ?_
  try simp only[PT,Y1,Y2,Y3]
  refine JQ 14 ?_
  try simp only[PT,Y1,Y2,Y3]
  refine JD ?_;clear m h;clear z zf zl;have J:Z (Blk (M.setCell (U b 2) (.slice p (c.nn.length+1) q)) b 159 (bdL n { c with nn:=c.nn++[av] } { s with A1:=p,c1:=q }).toArray):=bZ (by have:=e.o.set_ 2 (.slice p (c.nn.length+1) q);unfold bdL clL at this ⊢;simpa using this);have L:=bZ (H.o.set e.o (by decide) hb (i:=2) (.slice p (c.nn.length+1) q));have N:Z (KT [159,3,168,173,40,181] f (M.setCell (U b 2) (.slice p (c.nn.length+1) q))):=bZ (((KT.of (ad.refl [] f).drew).trans (j.o.mono (by simp))).trans (KT.set e.o (by simp) _));have l:=bZ (KW.o.trans N.o);obtain⟨w7,k⟩:∃x,x=M.setCell (U b 2) (.slice p (c.nn.length+1) q):=⟨_,rfl⟩;rw[<-k] at J L N l;have r:=bZ (N.o.blk D.o (by decide));have z:=r.o.cell;have zl:=r.o.lt;rw[k] at z zl;have F:=bZ (uA E.o av);obtain⟨c,X⟩:∃x:Cla,x= { c with nn:=c.nn++[av] }:=⟨_,rfl⟩;obtain⟨s,hs⟩:∃x:Sv,x= { s with A1:=p,c1:=q }:=⟨_,rfl⟩;rw[<-X,<-hs] at J L;rw[<-X] at F;have B:=bZ (show cf= { c with nn:=c.nn++[ao],df:=c.df++[(av,ao)] } by rw[B.o,X]);clear X hs;obtain⟨f,T⟩:∃x,x=w7:=⟨_,rfl⟩;rw[<-T] at k J L l r;clear T;have O:=J;have HR:=L;have KW:=l;have E:=F;have D:=r;clear J L l F N H j e r;have h:Z (∀y,Blk y b 159 (bdL n c s).toArray->Blk y C 155 #[I 7,I av,I ao,I con,.slice tA tl tc,I ev,I ek,.bool en,.string es,.bool up]->y.cell? (U b 2)=G s.A1 c.nn.length s.c1/\y.cell? (U C 2)=some (I ao)):=bZ (fun y h0 h1=>⟨h0.cell 2,h1.cell 2⟩);go_upto_region 28 with fail;rw[<-k];clear k;clear z zl;refine ae (S:=(fun u:World=>u.cell? (U b 2)=G s.A1 c.nn.length s.c1/\u.cell? (U C 2)=some (I ao))) (n:=11) (by kernel_rfl) ?_;have m:(fun u:World=>u.cell? (U b 2)=G s.A1 c.nn.length s.c1/\u.cell? (U C 2)=some (I ao)) f.drew:=h.o _ (O.o.keep (ad.refl [] f).drew (by simp)) (D.o.keep (ad.refl [] f).drew (by simp))
  try dsimp only at m
  refine ord [0,1,2,3,4,5,6,7,8] ?_
  iterate 9 (refine tq m ?_;try simp only[PT,Y1,Y2,Y3])
  refine aB ?_;refine J1 9 fun K A=>?_;dsimp only[Y1,Y2,Y3];go_simp;have d:=h.o (f.drew.alloc (.cells #[I ao] 3)) ((O.o.keep (ad.refl [] f).drew (by simp)).alloc _) ((D.o.keep (ad.refl [] f).drew (by simp)).alloc _)
  try dsimp only at d
  refine A _ _ (.inr d) ?_;clear A K m;have m:=d;clear d
  try simp only[PT,Y1,Y2,Y3]
  refine J1 10 fun K A=>?_;dsimp only[Y1,Y2,Y3];refine bW (.tmp 181) (.tmp 185) 108 rfl rfl rfl (rD (HR.o.keep0 (ad.refl [] f).drew) ao (by have:=E.o.a1;omega) _) ?_;intro p q M Y;have H:=bZ Y.o.1;have j:=bZ Y.o.2;have e:=bZ (j.o.blk (O.o.keep (ad.refl [] f).drew (by simp)) (by decide));have P:=bZ (j.o.blk (D.o.keep (ad.refl [] f).drew (by simp)) (by decide));have d:=h.o M e.o P.o
  try dsimp only at d
  have z:=e.o.cell;have zf:=e.o.frozen;have zl:=e.o.lt;unfold bdL clL at z
  try dsimp only at z
  refine A _ _ (.inr d) ?_;clear A K m;have m:=d;clear d
  try simp only[PT,Y1,Y2,Y3]
  refine JQ 11 ?_
  try simp only[PT,Y1,Y2,Y3]
  refine JQ 12 ?_
  try simp only[PT,Y1,Y2,Y3]
  refine JQ 13 ?_
  try simp only[PT,Y1,Y2,Y3]
  refine JQ 14 ?_
  try simp only[PT,Y1,Y2,Y3]
  refine JD ?_;clear m h;clear z zf zl;have J:Z (Blk (M.setCell (U b 2) (.slice p (c.nn.length+1) q)) b 159 (bdL n { c with nn:=c.nn++[ao] } { s with A1:=p,c1:=q }).toArray):=bZ (by have:=e.o.set_ 2 (.slice p (c.nn.length+1) q);unfold bdL clL at this ⊢;simpa using this);have L:=bZ (H.o.set e.o (by decide) hb (i:=2) (.slice p (c.nn.length+1) q));have N:Z (KT [159,3,168,173,40,181] f (M.setCell (U b 2) (.slice p (c.nn.length+1) q))):=bZ (((KT.of (ad.refl [] f).drew).trans (j.o.mono (by simp))).trans (KT.set e.o (by simp) _));have l:=bZ (KW.o.trans N.o);obtain⟨w7,k⟩:∃x,x=M.setCell (U b 2) (.slice p (c.nn.length+1) q):=⟨_,rfl⟩;rw[<-k] at J L N l;have r:=bZ (N.o.blk D.o (by decide));have F:=bZ (uA E.o ao);obtain⟨c,X⟩:∃x:Cla,x= { c with nn:=c.nn++[ao] }:=⟨_,rfl⟩;obtain⟨s,hs⟩:∃x:Sv,x= { s with A1:=p,c1:=q }:=⟨_,rfl⟩;rw[<-X,<-hs] at J L;rw[<-X] at F;have B:=bZ (show cf= { c with df:=c.df++[(av,ao)] } by rw[B.o,X]);clear X hs;obtain⟨f,T⟩:∃x,x=w7:=⟨_,rfl⟩;rw[<-T] at k J L l r;clear T;have O:=J;have HR:=L;have KW:=l;have E:=F;have D:=r;clear J L l F N H j e r;have h:Z (∀y,Blk y b 159 (bdL n c s).toArray->Blk y C 155 #[I 7,I av,I ao,I con,.slice tA tl tc,I ev,I ek,.bool en,.string es,.bool up]->y.cell? (U b 7)=G s.A6 c.df.length s.c6/\y.cell? (U C 1)=some (I av)/\y.cell? (U C 2)=some (I ao)):=bZ (fun y h0 h1=>⟨h0.cell 7,h1.cell 1,h1.cell 2⟩);go_upto_region 29 with fail;rw[<-k];clear k;refine ae (S:=(fun u:World=>u.cell? (U b 7)=G s.A6 c.df.length s.c6/\u.cell? (U C 1)=some (I av)/\u.cell? (U C 2)=some (I ao))) (n:=15) (by kernel_rfl) ?_;have m:(fun u:World=>u.cell? (U b 7)=G s.A6 c.df.length s.c6/\u.cell? (U C 1)=some (I av)/\u.cell? (U C 2)=some (I ao)) f.drew:=h.o _ (O.o.keep (ad.refl [] f).drew (by simp)) (D.o.keep (ad.refl [] f).drew (by simp))
  try dsimp only at m
  refine ord [0,1,2,3,4,5,6,7,8,9,10,11,12] ?_
  iterate 13 (refine tq m ?_;try simp only[PT,Y1,Y2,Y3])
  refine aB ?_;refine J1 13 fun K A=>?_;dsimp only[Y1,Y2,Y3];go_simp;have d:=h.o (f.drew.alloc (.cells #[I av,I ao] 181)) ((O.o.keep (ad.refl [] f).drew (by simp)).alloc _) ((D.o.keep (ad.refl [] f).drew (by simp)).alloc _)
  try dsimp only at d
  refine A _ _ (.inr d) ?_;clear A K m;have m:=d;clear d
  try simp only[PT,Y1,Y2,Y3]
  refine J1 14 fun K A=>?_;dsimp only[Y1,Y2,Y3];refine bW (.tmp 195) (.tmp 203) 112 rfl rfl rfl (zN (HR.o.keep0 (ad.refl [] f).drew) (av,ao) (by have:=E.o.a6;omega) _) ?_;intro p q M Y;have H:=bZ Y.o.1;have j:=bZ Y.o.2;have e:=bZ (j.o.blk (O.o.keep (ad.refl [] f).drew (by simp)) (by decide));have P:=bZ (j.o.blk (D.o.keep (ad.refl [] f).drew (by simp)) (by decide));have d:=h.o M e.o P.o
  try dsimp only at d
  have z:=e.o.cell;have zf:=e.o.frozen;have zl:=e.o.lt;unfold bdL clL at z
  try dsimp only at z
  refine A _ _ (.inr d) ?_;clear A K m;have m:=d;clear d
  try simp only[PT,Y1,Y2,Y3]
  refine JQ 15 ?_
  try simp only[PT,Y1,Y2,Y3]
  refine JQ 16 ?_
  try simp only[PT,Y1,Y2,Y3]
  refine JQ 17 ?_
  try simp only[PT,Y1,Y2,Y3]
  refine JQ 18 ?_
  try simp only[PT,Y1,Y2,Y3]
  refine JD ?_;clear m h;clear z zf zl;have J:Z (Blk (M.setCell (U b 7) (.slice p (c.df.length+1) q)) b 159 (bdL n { c with df:=c.df++[(av,ao)] } { s with A6:=p,c6:=q }).toArray):=bZ (by have:=e.o.set_ 7 (.slice p (c.df.length+1) q);unfold bdL clL at this ⊢;simpa using this);have L:=bZ (H.o.set e.o (by decide) hb (i:=7) (.slice p (c.df.length+1) q));have N:Z (KT [159,3,168,173,40,181] f (M.setCell (U b 7) (.slice p (c.df.length+1) q))):=bZ (((KT.of (ad.refl [] f).drew).trans (j.o.mono (by simp))).trans (KT.set e.o (by simp) _));have l:=bZ (KW.o.trans N.o);obtain⟨w7,k⟩:∃x,x=M.setCell (U b 7) (.slice p (c.df.length+1) q):=⟨_,rfl⟩;rw[<-k] at J L N l;have r:=bZ (N.o.blk D.o (by decide));go_wp2_with fail;rw[<-k];refine bodyPost_ret (v:=.tuple #[]) (by simp[results,Tryz.results79,go_sem]) rfl ?_;rw[B.o];exact⟨_,rfl,L,J,l⟩
end
end Go.Proofs.YtldmkbhgdbafhaaGreat
