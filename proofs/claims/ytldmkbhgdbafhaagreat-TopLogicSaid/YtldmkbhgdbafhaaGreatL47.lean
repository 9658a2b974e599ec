import Derived.Test.YtldmkbhgdbafhaaGreatL46
namespace Go.Proofs.YtldmkbhgdbafhaaGreat
open Go.RowKit
set_option linter.unusedSimpArgs false
set_option linter.unusedVariables false
set_option maxRecDepth 100000
set_option maxHeartbeats 64000000
theorem kj:∀a b:List F,F.expS (a++b)=F.expS a++F.expS b
 | [],b=>rfl
 | x::a,b=>by simp only[D3,F.expS,kj a b,Dd]
theorem rS (fs:List F) (j:Nat):(F.expS (fs.take j)).length<=(F.expS fs).length:=by
 have:=kj (fs.take j) (fs.drop j);rw[Du] at this;rw[this,CU];omega
theorem tU {fs:List F} {x:F} (h:x∈fs):x.exp.length<=(F.expS fs).length:=by
 induction fs with
 | nil=>cases h
 | cons y fs ih=>
  simp only[F.expS,CU];rcases Db.1 h with rfl | h
  ·omega
  have:=ih h;omega
theorem nW (x:F):∀(a:List F) (b:List (List Lt)),F.expP (a++[x]) b=cF (F.expP a b) x.exp
 | [],b=>rfl
 | y::a,b=>by simp only[D3,F.expP];exact nW x a _
theorem km:∀(a b:List F) (c:List (List Lt)),F.expP (a++b) c=F.expP b (F.expP a c)
 | [],b,c=>rfl
 | y::a,b,c=>by simp only[D3,F.expP];exact km a b _
theorem rT {fs:List F} (h:0<(F.expP fs [[]]).length) (j:Nat):(F.expP (fs.take j) [[]]).length<=(F.expP fs [[]]).length:=by
 have e:F.expP fs [[]]=F.expP (fs.drop j) (F.expP (fs.take j) [[]]):=by rw[<-km,Du]
 have a:(F.expP fs [[]]).length=(F.expP (fs.take j) [[]]).length*(F.expP (fs.drop j) [[]]).length:=by rw[e,fJ]
 rw[a] at h ⊢;exact Nat.le_mul_of_pos_right _ (Nat.pos_of_mul_pos_left h)
theorem nV {fs:List F} {x:F} (h:0<(F.expP fs [[]]).length) (i:x∈fs):x.exp.length<=(F.expP fs [[]]).length:=by
 obtain⟨a,b,rfl⟩:=List.append_of_mem i;have e:F.expP (a++x::b) [[]]=F.expP b (cF (F.expP a [[]]) x.exp):=by rw[km];rfl
 have c:(F.expP (a++x::b) [[]]).length=(F.expP a [[]]).length*x.exp.length*(F.expP b [[]]).length:=by rw[e,fJ,ew]
 rw[c] at h ⊢;have d:=Nat.pos_of_mul_pos_left h;have f:=Nat.pos_of_mul_pos_right h;have g:=Nat.pos_of_mul_pos_right f
 calc x.exp.length<=(F.expP a [[]]).length*x.exp.length:=Nat.le_mul_of_pos_left _ g
  _<=_:=Nat.le_mul_of_pos_right _ d
theorem oO {fs:List F} {x:F} (h:x∈fs):x.sz<=F.szs fs:=by
 induction fs with
 | nil=>cases h
 | cons y fs ih=>
  simp only[F.szs];rcases Db.1 h with rfl | h
  ·omega
  have:=ih h;omega
theorem nU (kd:Int) (fs:List F) (C:Nat->Prop) (w:World) (i A:Option Addr) (j c:Nat) (f:F.exp (.nd kd fs)=[]) (d:∀W,ad [] w W->Calls Tryz.prog 46 #[fmV (.nd kd fs) i j A c] W (RoP W (I (F.cnt (.nd kd fs))))):
 Calls Tryz.prog 47 #[fmV (.nd kd fs) i j A c] w (RwP cK w C (F.exp (.nd kd fs))):=by
  have b:F.cnt (.nd kd fs)=0:=by rw[kC,f];rfl
  rw[b] at d;rw[f];replace d:=bZ d;have g:Z (∀o,ad [] w (w.alloc o)):=bZ (fun o=>(ad.refl [] w).alloc o);unfold fmV fmL amL at*;simp only[F.kd,F.am,F.args,D3,Dm] at*;clear f b;generalize fs.length=n at*;generalize am0.t.con=tk at*;generalize am0.t.pts.length=tl at*;generalize am0.kd=ak at*;generalize am0.v=av at*;generalize am0.o=ao at*;generalize am0.te.v=ev at*;generalize am0.te.kd=ek at*;generalize am0.te.ng=en at*;generalize am0.te.s=es at*;go_enter Tryz.func47,Tryz.ntmps47;go_wp2_with (go_at_call 46;refine(d.o _ (g.o _)).mono ?_;rintro e l ⟨rfl,k⟩);go_ret;exact⟨none,0,rfl,bZ (ag.nil (fun a h=>by cases h)),bZ ⟨C9 _,by simp[maxLen]⟩,bZ ((g.o _).trans k.o)⟩
theorem rP (C:Nat->Prop) (fs:List F) (w:World) (tA A:Option Addr) (tc c:Nat) (r:fs.length<=c/\c<=maxLen) (hb:fs.length<=100000) (u:(F.expS fs).length<=256) (a3:0<F.cnt (.nd 1 fs)) (h:ag F.tr w C A fs)
 (HC:∀W,ad [] w W->Calls Tryz.prog 46 #[fmV (.nd 1 fs) tA tc A c] W (RoP W (I (F.cnt (.nd 1 fs)))))
 (HX:∀x∈fs,∀(C:Nat->Prop) W xA xc B d,bQ W C x xA xc B d->Calls Tryz.prog 47 #[fmV x xA xc B d] W (RwP cK W (fun g=>C g\/W.heap.size<=g) x.exp)):
 Calls Tryz.prog 47 #[fmV (.nd 1 fs) tA tc A c] w (RwP cK w (fun g=>C g\/w.heap.size<=g) (F.exp (.nd 1 fs))):=by
  obtain⟨n,hn⟩:∃n,n=fs.length:=⟨_,rfl⟩;obtain⟨W0,q⟩:∃W,W=w.alloc (.cells #[I 1,I 0,I 0,I 0,I 0,.slice tA 0 tc,I 0,I 0,.bool false,.string ⟨#[]⟩,.slice A n c] 45):=⟨_,rfl⟩;have e:fmV (.nd 1 fs) tA tc A c=.agg #[I 1,I 0,I 0,I 0,I 0,.slice tA 0 tc,I 0,I 0,.bool false,.string ⟨#[]⟩,.slice A n c]:=by rw[hn];rfl
  have hE:Z (F.exp (.nd 1 fs)=F.expS fs):=bZ (by unfold F.exp;rw[if_pos rfl]);rw[e] at HC ⊢;clear e;obtain⟨gb,O⟩:∃g,g=w.heap.size:=⟨_,rfl⟩;have k0:Z (ad [] w W0):=bZ (by rw[q];exact(ad.refl [] w).alloc _);have b0:Z (Blk W0 gb 45 #[I 1,I 0,I 0,I 0,I 0,.slice tA 0 tc,I 0,I 0,.bool false,.string ⟨#[]⟩,.slice A n c]):=bZ (by rw[q,O];exact Blk.new w 45 _);replace h:=bZ (h.mono (E:=fun g=>C g/\g<w.heap.size) (fun g H h2=>⟨h2,H⟩));replace HC:=bZ (HC W0 k0.o);replace HX:=bZ HX;obtain⟨N,hN⟩:∃N,N=F.cnt (.nd 1 fs):=⟨_,rfl⟩;have ap:((N:Int)==0)=false:=beq_false_of_ne (by omega);rw[<-hN] at HC;clear hN a3;rw[<-hn] at r hb;have a2:=bZ hn;have a5:=bZ u;have aq:Z (w.heap.size<=W0.heap.size):=bZ k0.o.size;clear hn u;go_enter Tryz.func47,Tryz.ntmps47;go_wp2_with (go_at_call 46;rw[<-q,<-O];clear q O;refine HC.o.mono ?_;rintro e T ⟨rfl,k5⟩;have c0:=bZ (b0.o.keep k5.o (by simp));have y:=c0.o.cell;have yl:=c0.o.lt);have kk:=bZ (k0.o.trans k5.o);clear y yl;obtain⟨D,hD⟩:∃D:Nat->Prop,D=fun g=>(C g/\g<w.heap.size)\/T.heap.size<=g:=⟨_,rfl⟩;replace hD:=bZ hD;go_loopw [3,45] (fun s3 P wr=>∃(j m:Nat) (R:List (List Lt)) (Q:Option Addr) (S:Nat),j<=n/\s3=.slice Q m S/\P=I j/\Z (R.length=m)/\Z (R=F.expS (fs.take j))/\Z (af cK 1 107 D T.heap.size wr Q S R)/\Z (ad [] T wr)) (fun _ P _=>n - (intOf P).toNat)
  case atStart=>exact⟨0,0,[],none,0,C3 _,rfl,rfl,bZ rfl,bZ rfl,bZ af.nil,bZ (ad.refl _ _)⟩
  obtain⟨j,m,R,Q,S,hj,rfl,rfl,i,hR,J,hK⟩:=hrel;obtain⟨z,ab⟩:∃x,x=wr:=⟨_,rfl⟩;subst ab;have kw:Z (ad [] w z):=bZ (kk.o.trans hK.o);have aa:Z (T.heap.size<=z.heap.size):=bZ hK.o.size;by_cases a6:j<n
  ·obtain⟨x,hx⟩:=aI (l:=fs) (j:=j) (by rw[<-a2.o];exact a6);obtain⟨g,au,rc,rfl,hC,hg,hI,a⟩:=(h.o.keep0 kw.o).get F.tr_len (by decide) hx;obtain⟨xA,xc,B,d,rfl,hF⟩:=fI.1 hI;have p:Z (∀W,ad [] z W->Calls Tryz.prog 47 #[fmV x xA xc B d] W (RwP cK W (fun g=>(C g/\g<w.heap.size)\/W.heap.size<=g) x.exp)):=bZ (fun W hW=>HX.o x (CW hx) _ W xA xc B d (hF.keep0 hW));have K:Z (R++x.exp=F.expS (fs.take (j+1))):=bZ (by rw[cN hx,kj,hR.o];simp[F.expS]);have a9:m+x.exp.length<=256:=by
    have H:=congrArg List.length K.o;rw[CU,i.o] at H;rw[H];exact Dc (rS fs (j+1)) a5.o
   obtain⟨M,hM⟩:∃M,M=x.exp:=⟨_,rfl⟩;rw[<-hM] at p K a9;clear hM;unfold fmL amL at a;unfold fmV fmL amL at p;simp only[D3,Dm] at a p;have x0:=a 0 _ rfl;have x1:=a 1 _ rfl;have x2:=a 2 _ rfl;have x3:=a 3 _ rfl;have x4:=a 4 _ rfl;have x5:=a 5 _ rfl;have x6:=a 6 _ rfl;have x7:=a 7 _ rfl;have x8:=a 8 _ rfl;have x9:=a 9 _ rfl;have av:=a 10 _ rfl;simp only[Fg] at x0;have ar:(j:Int)<(n:Int):=by omega
   have wj:IntKind.i64.wrap ((j:Int)+1)=(j:Int)+1:=C0 _ (by omega);generalize x.kd=k1 at*;generalize x.am.kd=k2 at*;generalize x.am.v=k3 at*;generalize x.am.o=k4 at*;generalize x.am.t.con=k5_ at*;generalize x.am.t.pts.length=k6 at*;generalize x.am.te.v=k7 at*;generalize x.am.te.kd=k8 at*;generalize x.am.te.ng=k9 at*;generalize x.am.te.s=k10 at*;generalize x.args.length=k11 at*;have ka:Z (∀o,ad [] z (z.alloc o)):=bZ (fun o=>(ad.refl [] z).alloc o);have ak:Z (∀(W Y:World) (bA:Option Addr),ad [] z W->ad [] W Y->ag cK Y (fun g=>(C g/\g<w.heap.size)\/W.heap.size<=g) bA M->∃b,b.length=M.length*1/\cH Y bA M.length b/\Is Y (fun g=>D g/\(Value.slice Q R.length S).ownBlock≠some g) (cat cK M) b/\af cK 1 107 D T.heap.size Y Q S R):=bZ (fun W Y bA H h2 h3=>by
    obtain⟨rs,r1,r2⟩:=h3;have a1:rs.length=M.length*1:=by rw[r2.len,bF iD]
    refine⟨rs,a1,r1.2.src a1 (by decide),r2.mono (fun g _ r=>?_),J.o.keep0 (H.trans h2)⟩;rw[hD.o];have q1:=H.size;have q2:=aa.o;have q3:=kk.o.size;refine⟨?_,fun ho=>?_⟩
    ·show (C g/\g<w.heap.size)\/T.heap.size<=g;rcases r with r | r
     ·exact .inl r
     exact .inr (by omega)
    have h4:=J.o.own ho;rcases r with r | r<;>omega)
   clear hI hx a hF hC J;go_wp2_with (first | (go_at_call 47;refine(p.o _ (ka.o _)).mono ?_;intro e Y h7;obtain⟨bA,bc,rfl,R7,q7,k7⟩:=h7;obtain⟨b,s1,s2,s3,G7⟩:=ak.o _ _ _ (ka.o _) k7.o R7.o;replace s1:=bZ s1;replace s2:=bZ s2;replace s3:=bZ s3;replace G7:=bZ G7;have kg:=bZ ((hK.o.trans (ka.o _)).trans k7.o)) | (at_builtin;refine da (f:=cK) (k:=1) (W0:=T) (X:=[]) (by rfl) (.tmp 49) (.tmp 51) 105 rfl 24 _ Tryz.underlying105 qR rfl (by decide) (L:=R) M G7.o kg.o (by rw[i.o];rfl) bA M.length bc rfl b rfl s1.o s2.o s3.o (by rw[i.o];omega) (by rw[i.o];unfold maxLen;omega) ?_;intro an ao w8 G8 ac q8;rw[i.o]));go_roundw
   case rel=>exact⟨j+1,m+M.length,R++M,an,ao,by omega,by first | rfl | simp,by go_num,bZ (by simp[i.o]),K,G8,ac⟩
   case measure=>simp[intOf];omega
  obtain rfl:j=n:=by omega
  have a4:Z (R=F.expS fs):=bZ (by rw[hR.o,C6 (by rw[<-a2.o];exact C9 _)]);have a0:Z (RwP cK w (fun g=>C g\/w.heap.size<=g) (F.exp (.nd 1 fs)) (.returned (.slice Q m S)) z):=bZ (by
   rw[hE.o,<-a4.o];refine⟨Q,S,by rw[i.o],bZ (J.o.rows.mono (fun g _ h=>?_)),bZ ⟨J.o.mc,J.o.cm⟩,kw⟩;have q3:=kk.o.size;rw[hD.o] at h;rcases h with (h | h) | h
   ·exact .inl h.1
   ·exact .inr (by omega)
   exact .inr (by omega))
  clear J;go_wp2_with fail;go_ret;exact a0.o
theorem pg {R M:List (List Lt)} {i:Nat} {a:List Lt} (h:R[i]? =some a):cF (R.take (i+1)) M=cF (R.take i) M++M.map (fun b=>a++b):=by
 unfold cF;rw[Dq,h];simp
theorem sR {R M:List (List Lt)} (i:Nat):(cF (R.take i) M).length<=R.length*M.length:=by
 rw[ew];exact Nat.mul_le_mul (by rw[CY];omega) (C9 _)
theorem pJ (C:Nat->Prop) (fs:List F) (w:World) (tA A:Option Addr) (tc c:Nat) (J:fs.length<=c/\c<=maxLen) (hb:fs.length<=100000) (a0:(F.expP fs [[]]).length<=256) (ab:0<F.cnt (.nd 0 fs)) (bp:F.szs fs<=100000) (h:ag F.tr w C A fs)
 (HC:∀W,ad [] w W->Calls Tryz.prog 46 #[fmV (.nd 0 fs) tA tc A c] W (RoP W (.int .i64 (F.cnt (.nd 0 fs)))))
 (HX:∀x∈fs,∀(C:Nat->Prop) W xA xc B d,bQ W C x xA xc B d->Calls Tryz.prog 47 #[fmV x xA xc B d] W (RwP cK W (fun g=>C g\/W.heap.size<=g) x.exp)):
 Calls Tryz.prog 47 #[fmV (.nd 0 fs) tA tc A c] w (RwP cK w (fun g=>C g\/w.heap.size<=g) (F.exp (.nd 0 fs))):=by
  obtain⟨n,hn⟩:∃n,n=fs.length:=⟨_,rfl⟩;obtain⟨W0,a3⟩:∃W,W=w.alloc (.cells #[.int .i64 0,.int .i64 0,.int .i64 0,.int .i64 0,.int .i64 0,.slice tA 0 tc,.int .i64 0,.int .i64 0,.bool false,.string ⟨#[]⟩,.slice A n c] 45):=⟨_,rfl⟩;have e:fmV (.nd 0 fs) tA tc A c=.agg #[.int .i64 0,.int .i64 0,.int .i64 0,.int .i64 0,.int .i64 0,.slice tA 0 tc,.int .i64 0,.int .i64 0,.bool false,.string ⟨#[]⟩,.slice A n c]:=by rw[hn];rfl
  have hE:Z (F.exp (.nd 0 fs)=F.expP fs [[]]):=bZ (by unfold F.exp;rw[if_neg (by decide)]);have ap:0<(F.expP fs [[]]).length:=by
   rw[kC,hE.o] at ab;omega
  rw[e] at HC ⊢;clear e;obtain⟨gb,an⟩:∃g,g=w.heap.size:=⟨_,rfl⟩;have k0:Z (ad [] w W0):=bZ (by rw[a3];exact(ad.refl [] w).alloc _);have b0:Z (Blk W0 gb 45 #[.int .i64 0,.int .i64 0,.int .i64 0,.int .i64 0,.int .i64 0,.slice tA 0 tc,.int .i64 0,.int .i64 0,.bool false,.string ⟨#[]⟩,.slice A n c]):=bZ (by rw[a3,an];exact Blk.new w 45 _);replace h:=bZ (h.mono (E:=fun g=>C g/\g<w.heap.size) (fun g h1 h2=>⟨h2,h1⟩));replace HC:=bZ (HC W0 k0.o);replace HX:=bZ HX;obtain⟨N,hN⟩:∃N,N=F.cnt (.nd 0 fs):=⟨_,rfl⟩;have ds:((N:Int)==0)=false:=beq_false_of_ne (by omega);rw[<-hN] at HC;clear hN ab;rw[<-hn] at J hb;have bo:=bZ hn;have cl:Z (∀j,(F.expP (fs.take j) [[]]).length<=256):=bZ (fun j=>Dc (rT ap j) a0);have cu:Z (∀x∈fs,x.exp.length<=256/\∀c∈x.exp,c.length<=100000):=bZ (fun x hx=>⟨Dc (nV ap hx) a0,fun c J=>Dc (iz x c J).1 (Dc (oO hx) bp)⟩);have co:Z (∀j,∀c∈F.expP (fs.take j) [[]],c.length<=100000):=bZ (fun j c J=>by
   have h1:=(iz (.nd 0 (fs.take j)) c (by unfold F.exp;rw[if_neg (by decide)];exact J)).1;have h2:F.szs (fs.take j)<=F.szs fs:=by
    have:∀(a b:List F),F.szs (a++b)=F.szs a+F.szs b:=by
     intro a
     induction a with
     | nil=>intro b;simp[F.szs]
     | cons y a ih=>intro b;simp only[D3,F.szs,ih];omega
    have:=this (fs.take j) (fs.drop j);rw[Du] at this;omega
   simp only[F.sz] at h1;omega)
  clear hn a0 ap bp;go_enter Tryz.func47,Tryz.ntmps47;go_wp2_with (go_at_call 46;rw[<-a3,<-an];clear a3 an;refine HC.o.mono ?_;rintro e w5 ⟨rfl,k5⟩;have c0:=bZ (b0.o.keep k5.o (by simp));have y:=c0.o.cell;have yl:=c0.o.lt);obtain⟨w6,a9⟩:∃W,W=w5.alloc (.cells #[.slice none 0 0] 107):=⟨_,rfl⟩;obtain⟨g6,a5⟩:∃g,g=w5.heap.size:=⟨_,rfl⟩;rw[<-a9,<-a5];have k6:Z (ad [] w w6):=bZ (by rw[a9];exact(k0.o.trans k5.o).alloc _);have b6:Z (Blk w6 g6 107 #[.slice none 0 0]):=bZ (by rw[a9,a5];exact Blk.new w5 107 _);have b9:Z (w.heap.size<=g6):=bZ (by rw[a5];exact(k0.o.trans k5.o).size);clear y yl a9 a5;obtain⟨D,hD⟩:∃D:Nat->Prop,D=fun g=>(C g/\g<w.heap.size)\/w.heap.size<=g:=⟨_,rfl⟩;replace hD:=bZ hD;have r0:Z (ag cK w6 D (V g6) [[]]):=bZ (gY (cs:=[.slice none 0 0]) b6.o (by rw[hD.o];exact .inr b9.o) (by rw[mC];exact lL.2 ⟨none,0,rfl,C9 _,by simp[maxLen],ag.nil (fun a h=>by cases h)⟩));go_loopw [6,59] (fun s6 ar wr=>∃(j m:Nat) (R:List (List Lt)) (vA:Option Addr) (vc:Nat),j<=n/\s6=.slice vA m vc/\ar=.int .i64 j/\Z (R.length=m)/\Z (R=F.expP (fs.take j) [[]])/\Z (m<=vc/\vc<=maxLen)/\Z (ag cK wr D vA R)/\Z (ad [] w wr)) (fun _ ar _=>n - (intOf ar).toNat)
  case atStart=>exact⟨0,1,[[]],_,1,C3 _,rfl,rfl,bZ rfl,bZ rfl,bZ ⟨C9 _,by simp[maxLen]⟩,r0,k6⟩
  obtain⟨j,m,R,vA,vc,hj,rfl,rfl,S,hR,bm,hG,hK⟩:=hrel;obtain⟨wo,d0⟩:∃x,x=wr:=⟨_,rfl⟩;subst d0;by_cases ct:j<n
  ·obtain⟨x,hx⟩:∃v,fs[j]? =some v:=⟨_,CT (by rw[<-bo.o];exact ct)⟩;obtain⟨g,e6,rc,rfl,hC,hg,hI,r⟩:=(h.o.keep0 hK.o).get F.tr_len (by decide) hx;obtain⟨xA,xc,B,d,rfl,hF⟩:=fI.1 hI;have a2:Z (∀W,ad [] wo W->Calls Tryz.prog 47 #[fmV x xA xc B d] W (RwP cK W (fun g=>(C g/\g<w.heap.size)\/W.heap.size<=g) x.exp)):=bZ (fun W hW=>HX.o x (CW hx) _ W xA xc B d (hF.keep0 hW));have b3:Z (cF R x.exp=F.expP (fs.take (j+1)) [[]]):=bZ (by rw[cN hx,nW,hR.o]);have aa:=cu.o x (CW hx);have b4:R.length<=256:=by rw[hR.o];exact cl.o j
   have cd:Z (∀c∈R,c.length<=100000):=bZ (by rw[hR.o];exact co.o j);obtain⟨M,hM⟩:∃M,M=x.exp:=⟨_,rfl⟩;rw[<-hM] at a2 b3 aa;have b2:=aa.1;have cb:=bZ aa.2;obtain⟨p,hp⟩:∃p,p=M.length:=⟨_,rfl⟩;rw[<-hp] at b2;have a6:=bZ hp;rw[S.o] at b4;clear hM aa hp;unfold fmL amL at r;unfold fmV fmL amL at a2;simp only[D3,Dm] at r a2;have x0:=r 0 _ rfl;have x1:=r 1 _ rfl;have x2:=r 2 _ rfl;have x3:=r 3 _ rfl;have x4:=r 4 _ rfl;have x5:=r 5 _ rfl;have x6:=r 6 _ rfl;have x7:=r 7 _ rfl;have x8:=r 8 _ rfl;have x9:=r 9 _ rfl;have df:=r 10 _ rfl;simp only[Fg] at x0;have e2:(j:Int)<(n:Int):=by omega
   have wj:IntKind.i64.wrap ((j:Int)+1)=(j:Int)+1:=C0 _ (by omega);generalize x.kd=k1 at*;generalize x.am.kd=k2 at*;generalize x.am.v=k3 at*;generalize x.am.o=k4 at*;generalize x.am.t.con=k5_ at*;generalize x.am.t.pts.length=k6_ at*;generalize x.am.te.v=k7 at*;generalize x.am.te.kd=k8 at*;generalize x.am.te.ng=k9 at*;generalize x.am.te.s=k10 at*;generalize x.args.length=k11 at*;have ka:Z (∀o,ad [] wo (wo.alloc o)):=bZ (fun o=>(ad.refl [] wo).alloc o);clear hI hx r hF hC;go_wp2_with (go_at_call 47;refine(a2.o _ (ka.o _)).mono ?_;intro e P h7;obtain⟨bA,bc,rfl,R7,q7,c1⟩:=h7;have c2:=bZ ((hK.o.trans (ka.o _)).trans c1.o);have d9:=bZ (ka.o (.cells #[.int .i64 k1,.int .i64 k2,.int .i64 k3,.int .i64 k4,.int .i64 k5_,.slice xA k6_ xc,.int .i64 k7,.int .i64 k8,.bool k9,.string k10,.slice B k11 d] 45)).size);clear x0 x1 x2 x3 x4 x5 x6 x7 x8 x9 df;have ca:Z (ag cK P (fun g=>D g/\g<P.heap.size) bA M):=bZ (R7.o.mono (fun g hg J=>by
    rw[hD.o];have q1:=hK.o.size;have q2:=d9.o;refine⟨?_,hg⟩;rcases J with J | J
    ·exact .inl J
    exact .inr (by omega)))
   have c6:=bZ (((hG.o.keep0 (ka.o _)).keep0 c1.o).mono (E:=fun g=>D g/\g<P.heap.size) (fun g hg J=>⟨J,hg⟩));have bq:Z (w.heap.size<=P.heap.size):=bZ c2.o.size;have bb:R.length*M.length<=65536:=Dc (Nat.mul_le_mul (by rw[S.o];exact b4) (by rw[<-a6.o];exact b2)) (by decide);have bd:=bZ bb;clear R7 hG bb;rw[<-a6.o];go_loopw [9,67] (fun s9 au wr=>∃(i q:Nat) (L:List (List Lt)) (T:Option Addr) (Q:Nat),i<=m/\s9=.slice T q Q/\au=.int .i64 i/\Z (L.length=q)/\Z (L=cF (R.take i) M)/\Z (af cK 1 107 D P.heap.size wr T Q L)/\Z (ad [] P wr)) (fun _ au _=>m - (intOf au).toNat)
   case atStart=>exact⟨0,0,[],none,0,C3 _,rfl,rfl,bZ rfl,bZ rfl,bZ af.nil,bZ (ad.refl _ _)⟩
   obtain⟨i,q,L,T,Q,hi,rfl,rfl,H,hL,u,ac⟩:=hrel;obtain⟨dc,br⟩:∃x,x=wr:=⟨_,rfl⟩;subst br;by_cases bf:i<m
   ·obtain⟨l,hl⟩:∃v,R[i]? =some v:=⟨_,CT (by rw[S.o];exact bf)⟩;obtain⟨g1,dk,e7,rfl,c4,dx,ax,bs⟩:=c6.o.get iD (by decide) hl;obtain⟨fA,fc,rfl,cp,dv,b7⟩:=lL.1 ax;have x0:=ac.o.cellEq (bs 0 _ rfl) (by simp);rw[EU,Fg] at x0;have b8:Z (∀K,ad [] P K->ag Lt.tr K (fun g=>D g/\g<P.heap.size) fA l):=bZ (fun K hW=>b7.keep0 hW);have ba:=cd.o l (CW hl);have e1:(i:Int)<(m:Int):=by omega
    have e9:IntKind.i64.wrap ((i:Int)+1)=(i:Int)+1:=C0 _ (by omega);have cv:Z (cF (R.take (i+1)) M=cF (R.take i) M++M.map (fun b=>l++b)):=bZ (pg hl);have cx:Z ((cF (R.take i) M).length<=65536):=bZ (Dc (sR i) bd.o);obtain⟨fl,a4⟩:∃k,k=l.length:=⟨_,rfl⟩;rw[<-a4] at x0 ba;replace a4:=bZ a4;clear ax bs hl c4 b7 cp;go_wp2_with fail;go_loopw [9,73] (fun s9 av wr=>∃(k q:Nat) (L:List (List Lt)) (T:Option Addr) (Q:Nat),k<=p/\s9=.slice T q Q/\av=.int .i64 k/\Z (L.length=q)/\Z (L=cF (R.take i) M++(M.take k).map (fun b=>l++b))/\Z (af cK 1 107 D P.heap.size wr T Q L)/\Z (ad [] P wr)) (fun _ av _=>p - (intOf av).toNat)
    case atStart=>exact⟨0,q,L,T,Q,C3 _,rfl,rfl,H,bZ (by rw[hL.o];simp),u,ac⟩
    clear x0;obtain⟨k,q,L,T,Q,hk,rfl,rfl,H,hL,u,Y⟩:=hrel;obtain⟨K,cy⟩:∃x,x=wr:=⟨_,rfl⟩;subst cy;have e4:q<=70000:=by
     have h1:=congrArg List.length hL.o;rw[CU,Df,CY,H.o] at h1;have:=cx.o;omega
    by_cases bk:k<p
    ·obtain⟨y,hy⟩:∃v,M[k]? =some v:=⟨_,CT (by rw[<-a6.o];exact bk)⟩;obtain⟨g2,dr,e8,rfl,c5,dy,b1,bt⟩:=(ca.o.keep0 Y.o).get iD (by decide) hy;obtain⟨yA,yc,rfl,d2,e5,bx⟩:=lL.1 b1;have x0:=bt 0 _ rfl;rw[EU,Fg] at x0;have bu:=cb.o y (CW hy);have e3:(k:Int)<(p:Int):=by omega
     have ee:IntKind.i64.wrap ((k:Int)+1)=(k:Int)+1:=C0 _ (by omega);have d1:=bZ hy;obtain⟨yl,aq⟩:∃k,k=y.length:=⟨_,rfl⟩;obtain⟨lk,ao⟩:∃z,z=l++y:=⟨_,rfl⟩;obtain⟨O,a1⟩:∃z,z=lk.length:=⟨_,rfl⟩;rw[<-aq] at x0 bu;have c3:Z (Calls Tryz.prog 78 #[.slice (V K.heap.size) 2 2] (K.alloc (.cells #[.slice fA fl fc,.slice yA yl yc] 107)) (fun e w'=>∃A c,e=.returned (.slice A O c)/\O<=c/\c<=maxLen/\Z (ag Lt.tr w' (fun g=>(D g/\g<P.heap.size)\/K.heap.size+1<=g) A lk)/\Z (ad [] K w'))):=bZ (by
      have hb:=Blk.new K 107 #[.slice fA fl fc,.slice yA yl yc];have:=ub (fun g=>D g/\g<P.heap.size) (K.alloc (.cells #[.slice fA fl fc,.slice yA yl yc] 107)) K.heap.size fA yA l y fl fc yl yc a4.o.symm aq.symm ((b8.o K Y.o).keep0 ((ad.refl [] K).alloc _)) (bx.keep0 ((ad.refl [] K).alloc _)) ba bu (hb.cell 0) (hb.cell 1);refine this.mono ?_;rintro e w' ⟨A,c,rfl,r1,r2,r3⟩;rw[a1,ao];rw[Fl] at r1;exact⟨A,c,rfl,r2.o.1,r2.o.2,r1,bZ (((ad.refl [] K).alloc _).trans r3.o)⟩)
     have c7:Z (∀w' (A:Option Addr) (c:Nat),O<=c->c<=maxLen->ag Lt.tr w' (fun g=>(D g/\g<P.heap.size)\/K.heap.size+1<=g) A lk->ad [] K w'->Is (w'.alloc (.cells #[.slice A O c] 107)) (fun g=>D g/\(Value.slice T L.length Q).ownBlock≠some g) (cK lk) [.slice A O c]/\af cK 1 107 D P.heap.size (w'.alloc (.cells #[.slice A O c] 107)) T Q L):=bZ (fun w' A c h1 h2 h3 h4=>by
      have cq:=u.o.keep0 h4;refine⟨?_,cq.keep0 ((ad.refl [] w').alloc _)⟩;rw[a1] at h1 ⊢;refine lL.2 ⟨A,c,rfl,h1,h2,(h3.keep0 ((ad.refl [] w').alloc _)).mono (fun g _ J=>?_)⟩;have q1:=bq.o;have q3:=Y.o.size;rcases J with J | J
      ·exact⟨J.1,fun ho=>by have:=(u.o.own ho).1;omega⟩
      exact⟨by rw[hD.o];exact .inr (by omega),fun ho=>by have:=(u.o.own ho).2;omega⟩)
     have c9:Z (L++[lk]=cF (R.take i) M++(M.take (k+1)).map (fun b=>l++b)):=bZ (by rw[Dq,d1.o,hL.o,ao];simp);have cr:=Y;clear b1 bt hy c5 bx ao a1 aq u d2;go_wp2_with (first | (go_at_call 78;clear x0;refine c3.o.mono ?_;intro e w8 h8;obtain⟨A8,c8,rfl,d6,d8,R8,K8⟩:=h8;obtain⟨I8,G8⟩:=c7.o w8 A8 c8 d6 d8 R8.o K8.o;replace I8:=bZ I8;replace G8:=bZ G8;have d3:=bZ (cr.o.trans K8.o)) | (at_builtin;refine aw (f:=cK) (k:=1) (W0:=P) (X:=[]) (by rfl) (.tmp 77) (.tmp 82) 105 rfl 24 _ Tryz.underlying105 qR rfl (by decide) (L:=L) lk G8.o (d3.o.alloc _) (by rw[H.o];rfl) (V w8.heap.size) 1 [.slice A8 O c8] rfl rfl aF I8.o (by rw[H.o];omega) (by rw[H.o];unfold maxLen;omega) ?_;intro d4 d5 w9 G9 K9 q9;rw[H.o] at q9 ⊢));go_roundw
     case rel=>exact⟨k+1,q+1,L++[lk],d4,d5,by omega,by first | rfl | simp,by go_num,bZ (by simp[H.o]),c9,G9,K9⟩
     case measure=>simp[intOf];omega
    obtain rfl:k=p:=by omega
    have ak:Z (L=cF (R.take (i+1)) M):=bZ (by rw[hL.o,cv.o,C6 (l:=M) (by rw[<-a6.o];exact C9 _)]);clear hL;go_wp2_with fail;go_roundw
    case rel=>exact⟨i+1,q,L,T,Q,by omega,rfl,by go_num,H,ak,u,Y⟩
    case measure=>simp[intOf];omega
   obtain rfl:i=m:=by omega
   have ak:Z (L=F.expP (fs.take (j+1)) [[]]):=bZ (by rw[hL.o,C6 (by rw[S.o];exact C9 _),b3.o]);have ck:Z (ag cK dc D T L):=bZ (u.o.rows.mono (fun g _ h=>h.elim id (fun h=>by rw[hD.o];exact .inr (by have:=bq.o;omega))));have bn:Z (q<=Q/\Q<=maxLen):=bZ ⟨by rw[<-H.o];exact u.o.mc,u.o.cm⟩;have bz:=bZ (c2.o.trans ac.o);clear hL u;go_wp2_with fail;go_roundw
   case rel=>exact⟨j+1,q,L,T,Q,by omega,rfl,by go_num,H,ak,bn,ck,bz⟩
   case measure=>simp[intOf];omega
  obtain rfl:j=n:=by omega
  have cc:Z (R=F.expP fs [[]]):=bZ (by rw[hR.o,C6 (by rw[<-bo.o];exact C9 _)]);have b5:Z (RwP cK w (fun g=>C g\/w.heap.size<=g) (F.exp (.nd 0 fs)) (.returned (.slice vA m vc)) wo):=bZ (by
   rw[hE.o,<-cc.o];refine⟨vA,vc,by rw[S.o],bZ (hG.o.mono (fun g _ h=>?_)),bZ ⟨by rw[S.o];exact bm.o.1,bm.o.2⟩,hK⟩;rw[hD.o] at h;exact h.imp (fun h=>h.1) id)
  clear hG;go_wp2_with fail;go_ret;exact b5.o
theorem tT (l:List Vb):∀(f:F) (C:Nat->Prop) (w:World) (i:Option Addr) (j:Nat) (A:Option Addr) (c:Nat),F.ok l f->f.exp.length<=256->f.sz<=100000->f.wd<=100000->bQ w C f i j A c->Calls Tryz.prog 47 #[fmV f i j A c] w (RwP cK w (fun g=>C g\/w.heap.size<=g) f.exp):=by
 refine F.ind (fun a=>?_) (fun kd fs v=>?_)
 ·intro C w i j A c _ _ _ _ h;exact rQ C a w i A j c h.at_
 intro C w i j A c n m r p h;have s:∀W,ad [] w W->Calls Tryz.prog 46 #[fmV (.nd kd fs) i j A c] W (RoP W (.int .i64 (F.cnt (.nd kd fs)))):=fun W E=>qW l _ C W i j A c n (h.keep0 E);by_cases q:F.exp (.nd kd fs)=[]
 ·refine(nU kd fs C w i A j c q s).mono ?_;rintro e J ⟨B,d,y,z,D⟩;exact⟨B,d,y,bZ (z.o.mono (fun g _ H=>.inl H)),D⟩
 rw[F.ok,F.oks_iff] at n;rw[F.wd,Nat.max_le,F.wds_mem] at p;rw[F.sz] at r;have k:0<F.cnt (.nd kd fs):=by
  rw[kC];have:=E5.2 q;omega
 rcases n.1 with rfl | rfl
 ·have e:F.exp (.nd 0 fs)=F.expP fs [[]]:=by unfold F.exp;rw[if_neg (by decide)]
  rw[e] at m q;exact pJ C fs w i A j c h.am p.1 m k r h.ar s (fun x b C W u xc B d t=>v x b C W u xc B d (n.2 x b) (Dc (nV (E5.2 q) b) m) (Dc (oO b) r) (p.2 x b) t)
 have e:F.exp (.nd 1 fs)=F.expS fs:=by unfold F.exp;rw[if_pos rfl]
 rw[e] at m;exact rP C fs w i A j c h.am p.1 m k h.ar s (fun x b C W u xc B d t=>v x b C W u xc B d (n.2 x b) (Dc (tU b) m) (Dc (oO b) r) (p.2 x b) t)
theorem jg {w e wz:World} {C:Nat->Prop} {d:Nat} {cs:Array Value} {f:F} {a A:Option Addr} {b c:Nat} (k:w.heap.size<=d) (h:Blk e d 45 cs) (p:cs.size=11) (o:ad [] w e)
 (n:bQ e (fun g=>C g/\g≠d) f a b A c) (r:wz=aj e d 0 (fmL f a b A c)):
 Blk wz d 45 (fmL f a b A c).toArray/\FoP w C f (.returned (fmV f a b A c)) wz:=by
  have j:=aL (l:=fmL f a b A c) (X:=[]) h (by rw[p];rfl) (.inr k) o;have m:=(n.keep (jU (g:=d) (l:=fmL f a b A c) (i:=0)) (fun y q=>by rw[CZ.1 q];exact fun h=>h.2 rfl)).mono (D:=C) (fun g _ h=>h.1);rw[<-r] at j m;exact⟨j.1,a,b,A,c,rfl,bZ m,bZ j.2⟩
theorem mV (C:Nat->Prop) (l:List Vb) (a:Am) (w:World) (B A L:Option Addr) (E c Y cl:Nat) (S:Y=l.length) (a3:Y<=cl/\cl<=maxLen) (ha:a.ok l) (hV:bR w L l) (h:bQ w C (.at a) B E A c):
 Calls Tryz.prog 45 #[fmV (.at a) B E A c,.slice L Y cl] w (FoP w C (F.simp l (.at a))):=by
  obtain⟨j,hj⟩:∃j:Nat,(a.kd=0\/a.kd=1)->a.v=j/\j<Y:=by
   refine⟨a.v.toNat,fun hk=>?_⟩;rcases ha with q | q | q | q
   ·have:=q.2.1;unfold inV at this;omega
   ·omega
   ·omega
   omega
  obtain⟨R,hR⟩:∃R,R=F.simp l (.at a):=⟨_,rfl⟩;have z:=bZ (show R=if (a.kd=0\/a.kd=1)/\nlb l a.v=false then (if a.kd=0 then .nd 1 [] else .nd 0 []) else .at a by rw[hR,F.simp]);rw[<-hR];clear hR;have O:=bZ h;unfold fmV fmL amL;simp only[F.kd,F.am,F.args,D6,D3,Dm];obtain⟨f,hf⟩:∃f,f=F.at a:=⟨_,rfl⟩;rw[<-hf] at O z;have N:=bZ (show fmL f B E A c=[I 2,I a.kd,I a.v,I a.o,I a.t.con,.slice B a.t.pts.length E,I a.te.v,I a.te.kd,.bool a.te.ng,.string a.te.s,.slice A 0 c] by rw[hf];rfl);clear h hf ha;generalize a.t.con=tk at*;generalize a.t.pts.length=tl at*;generalize a.te.v=ev at*;generalize a.te.kd=ek at*;generalize a.te.ng=en at*;generalize a.te.s=es at*;generalize a.kd=ak at*;generalize a.v=av at*;generalize a.o=ao at*;obtain⟨W0,k,t1,t2,k0,a2⟩:=dX w 45 45 #[I 2,I ak,I av,I ao,I tk,.slice B tl E,I ev,I ek,.bool en,.string es,.slice A 0 c] #[I 0,I 0,I 0,I 0,I 0,.slice none 0 0,I 0,I 0,.bool false,.string ⟨#[]⟩,.slice none 0 0];obtain⟨gb,e⟩:∃g,g=w.heap.size:=⟨_,rfl⟩;obtain⟨M,i⟩:∃g,g=w.heap.size+1:=⟨_,rfl⟩;obtain⟨g5,m⟩:∃g,g=w.heap.size+1+1:=⟨_,rfl⟩;obtain⟨J,d⟩:∃W,W=W0.alloc (.cells #[I ak,I av,I ao,I tk,.slice B tl E,I ev,I ek,.bool en,.string es] 42):=⟨_,rfl⟩;rw[<-i] at t2;rw[<-e] at t1;have k1:Z (ad [] W0 J):=bZ (by rw[d];exact(ad.refl [] W0).alloc _);have P:=bZ (k0.trans k1.o);have u:=bZ (t1.keep k1.o (by simp));have n:=bZ (t2.keep k1.o (by simp));have Q:g5=W0.heap.size:=by omega
  have y:Z (Blk J g5 42 #[I ak,I av,I ao,I tk,.slice B tl E,I ev,I ek,.bool en,.string es]):=bZ (by rw[d,Q];exact Blk.new W0 42 _);have H:Z (w.heap.size<=M/\M<J.heap.size/\w.heap.size<=J.heap.size):=bZ (by have:=k1.o.size;omega);have V1:=bZ (hV.keep0 P.o);have F1:Z (bQ J (fun g=>C g/\g≠M) f B E A c):=bZ ((O.o.mono (D:=fun g=>C g/\g≠M) (fun g h1 h2=>⟨h2,by have:=H.o;omega⟩)).keep0 P.o);have N1:∀kd,Z (bQ J (fun g=>C g/\g≠M) (.nd kd []) none 0 none 0):=fun kd=>bZ pu;have X:=bZ S;clear t1 t2 Q hV a2 k0 S O;have hq:(ak=0\/ak=1)\/((ak==0)=false/\(ak==1)=false):=by
   by_cases h:ak=0\/ak=1
   ·exact .inl h
   exact .inr ⟨by rw[beq_eq_false_iff_ne];omega,by rw[beq_eq_false_iff_ne];omega⟩
  rcases hq with hq | ⟨q0,q1⟩
  ·obtain⟨a0,a1⟩:=hj hq;subst a0;obtain⟨x,hx⟩:∃x,l[j]? =some x:=⟨l[j]'(by rw[<-X.o];exact a1),CT _⟩;obtain⟨g,a5,rfl,c0,c1,c2,c3,c4⟩:=V1.o j x hx;have hn:nlb l (j:Int)=x.nl:=by unfold nlb;simp[hx]
   rw[hn] at z;have a4:(j:Int)<(Y:Int):=by omega
   have gl:=block_lt_of_cell c0;clear hx hj hn V1;generalize x.nl=xn at*;rcases hq with rfl | rfl
   ·cases xn
    ·skip;go_enter Tryz.func45,Tryz.ntmps45;go_upto_region 3 with fail;rw[<-k,<-d,<-m,<-i,<-e];clear k d m i e;have y0:=u.o.cell;have l0:=u.o.lt;have f0:=u.o.frozen;have y5:=y.o.cell;have l5:=y.o.lt;have f5:=y.o.frozen;have y3:=n.o.cell;have l3:=n.o.lt;have f3:=n.o.frozen;go_wp2_with fail;have r:Z (R=.nd 1 []):=bZ (by rw[z.o];exact by simp);obtain⟨wz,b⟩:∃wz,wz=aj J M 0 [I 1,I 0,I 0,I 0,I 0,.slice none 0 0,I 0,I 0,.bool false,.string ⟨#[]⟩,.slice none 0 0]:=⟨_,rfl⟩;have p:=jg (f:=.nd 1 []) (wz:=wz) H.o.1 n.o rfl P.o (N1 1).o b;simp only[aj,Nat.reduceAdd] at b;rw[<-b];clear b;have K:=p.1.cell;simp only[fmL,amL,F.kd,F.am,F.args,am0,D6,D3,Dm] at K;refine bodyPost_ret (v:=.agg #[I 1,I 0,I 0,I 0,I 0,.slice none 0 0,I 0,I 0,.bool false,.string ⟨#[]⟩,.slice none 0 0]) (by simp[results,Tryz.results45,go_sem,K,T.con,T.pts,ts0]<;>rfl) rfl ?_;rw[r.o];exact p.2
    skip;go_enter Tryz.func45,Tryz.ntmps45;go_upto_region 3 with fail;rw[<-k,<-d,<-m,<-i,<-e];clear k d m i e;have y0:=u.o.cell;have l0:=u.o.lt;have f0:=u.o.frozen;have y5:=y.o.cell;have l5:=y.o.lt;have f5:=y.o.frozen;have y3:=n.o.cell;have l3:=n.o.lt;have f3:=n.o.frozen;go_wp2_with fail;have r:Z (R=f):=bZ (by rw[z.o];exact by simp);obtain⟨wz,b⟩:∃wz,wz=aj J M 0 (fmL f B E A c):=⟨_,rfl⟩;have p:=jg H.o.1 n.o rfl P.o F1.o b;unfold fmV at p;rw[N.o] at b p;simp only[aj,Nat.reduceAdd] at b;rw[<-b];clear b;have K:=p.1.cell;refine bodyPost_ret (v:=.agg #[I 2,I 0,I (j:Int),I ao,I tk,.slice B tl E,I ev,I ek,.bool en,.string es,.slice A 0 c]) (by simp[results,Tryz.results45,go_sem,K]) rfl ?_;rw[r.o];exact p.2
   cases xn
   ·skip;go_enter Tryz.func45,Tryz.ntmps45;go_upto_region 3 with fail;rw[<-k,<-d,<-m,<-i,<-e];clear k d m i e;have y0:=u.o.cell;have l0:=u.o.lt;have f0:=u.o.frozen;have y5:=y.o.cell;have l5:=y.o.lt;have f5:=y.o.frozen;have y3:=n.o.cell;have l3:=n.o.lt;have f3:=n.o.frozen;go_wp2_with fail;have r:Z (R=.nd 0 []):=bZ (by rw[z.o];exact by simp);obtain⟨wz,b⟩:∃wz,wz=aj J M 0 [I 0,I 0,I 0,I 0,I 0,.slice none 0 0,I 0,I 0,.bool false,.string ⟨#[]⟩,.slice none 0 0]:=⟨_,rfl⟩;have p:=jg (f:=.nd 0 []) (wz:=wz) H.o.1 n.o rfl P.o (N1 0).o b;simp only[aj,Nat.reduceAdd] at b;rw[<-b];clear b;have K:=p.1.cell;simp only[fmL,amL,F.kd,F.am,F.args,am0,D6,D3,Dm] at K;refine bodyPost_ret (v:=.agg #[I 0,I 0,I 0,I 0,I 0,.slice none 0 0,I 0,I 0,.bool false,.string ⟨#[]⟩,.slice none 0 0]) (by simp[results,Tryz.results45,go_sem,K,T.con,T.pts,ts0]<;>rfl) rfl ?_;rw[r.o];exact p.2
   skip;go_enter Tryz.func45,Tryz.ntmps45;go_upto_region 3 with fail;rw[<-k,<-d,<-m,<-i,<-e];clear k d m i e;have y0:=u.o.cell;have l0:=u.o.lt;have f0:=u.o.frozen;have y5:=y.o.cell;have l5:=y.o.lt;have f5:=y.o.frozen;have y3:=n.o.cell;have l3:=n.o.lt;have f3:=n.o.frozen;go_wp2_with fail;have r:Z (R=f):=bZ (by rw[z.o];exact by simp);obtain⟨wz,b⟩:∃wz,wz=aj J M 0 (fmL f B E A c):=⟨_,rfl⟩;have p:=jg H.o.1 n.o rfl P.o F1.o b;unfold fmV at p;rw[N.o] at b p;simp only[aj,Nat.reduceAdd] at b;rw[<-b];clear b;have K:=p.1.cell;refine bodyPost_ret (v:=.agg #[I 2,I 1,I (j:Int),I ao,I tk,.slice B tl E,I ev,I ek,.bool en,.string es,.slice A 0 c]) (by simp[results,Tryz.results45,go_sem,K]) rfl ?_;rw[r.o];exact p.2
  have q2:¬(ak=0\/ak=1):=by rw[beq_eq_false_iff_ne] at q0 q1;omega
  replace q2:=bZ q2;clear hj V1;go_enter Tryz.func45,Tryz.ntmps45;go_upto_region 3 with fail;rw[<-k,<-d,<-m,<-i,<-e];clear k d m i e;have y0:=u.o.cell;have l0:=u.o.lt;have f0:=u.o.frozen;have y5:=y.o.cell;have l5:=y.o.lt;have f5:=y.o.frozen;have y3:=n.o.cell;have l3:=n.o.lt;have f3:=n.o.frozen;go_wp2_with fail;have r:Z (R=f):=bZ (by rw[z.o];exact if_neg (fun h=>q2.o h.1));obtain⟨wz,b⟩:∃wz,wz=aj J M 0 (fmL f B E A c):=⟨_,rfl⟩;have p:=jg H.o.1 n.o rfl P.o F1.o b;unfold fmV at p;rw[N.o] at b p;simp only[aj,Nat.reduceAdd] at b;rw[<-b];clear b;have K:=p.1.cell;refine bodyPost_ret (v:=.agg #[I 2,I ak,I av,I ao,I tk,.slice B tl E,I ev,I ek,.bool en,.string es,.slice A 0 c]) (by simp[results,Tryz.results45,go_sem,K]) rfl ?_;rw[r.o];exact p.2
end Go.Proofs.YtldmkbhgdbafhaaGreat
