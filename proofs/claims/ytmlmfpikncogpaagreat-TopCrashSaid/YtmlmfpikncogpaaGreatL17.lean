import Derived.Test.YtmlmfpikncogpaaGreatL13
namespace Go.Proofs.YtmlmfpikncogpaaGreat
open Go.RowKit
set_option linter.unusedSimpArgs false
set_option linter.unusedVariables false
set_option maxRecDepth 100000
set_option maxHeartbeats 16000000
def iy:=fun P J (K:Value->Prop) (L:Value->Prop) p7=>∀(w:World) (H p q r j m a d i k:Nat) (M N:Value) (X Y W Q R S T:Nat) (o x:Option Addr) (D E C t u s z A y:Nat) (c f n B b e:List Value) (cs g h F:List Nat)
 (hT:Blk w H P #[M,I 16,N]) (O:aE J w w p q r (V X) (V Y) (V W) (V Q) (V R) o (V S) (V T) x D E C t u s z A y c f n B b e cs g h F)
 (l1:c.length=a) (l2:f.length=a) (l3:cs.length=a+1) (m1:n.length=d) (m2:B.length=d) (m3:g.length=i) (r1:b.length=m+1) (r2:e.length=m+1) (r3:h.length=k)
 (hj:j<a) (hq:cs[j]? =some q) (hr:cs[j+1]? =some r) (l:Bg w cs j) (b1:a<=100) (b2:7<=m/\m<=100) (b3:1<=d/\d<=100/\i<=100) (b4:i=0/\k=0\/k=m+2)
 (f1:∀v∈c,K v) (f2:∀v∈f,L v) (f5:∀v∈b,K v) (f6:∀v∈e,L v),Calls Tryz.prog p7 #[ptr H,ptr p,I j] w (zC J w p q r c f n B b e cs g h j F)
theorem kR:iy 204 tyI cX dk 185/\iy 250 tyS dP dW 189:=by
 refine⟨?_,?_⟩;have a:=trivial;rotate_left;rotate_left
 all_goals
  as_aux_lemma=>
   intro w bt p q r j m T H dq dr c0 c2 A O xc qk qv rk rv a8 er a0 a2 ct a9 ac b8 a1 a4 ak ks vs kq vq kr vr cs cq cr F hT d l1 l2 l3 m1 m2 m3 r1 r2 r3 hj hq hr bi b1 b2 b3 b4 f1 f2 f5 f6
   first | (have:=a;obtain⟨cd,hk,bh,ba,bb⟩:=info_parts kH) | obtain⟨cd,hk,bh,ba,bb⟩:=info_parts infoS
   first | (have:=a;obtain⟨ch,hv,bs,bn,bp⟩:=info_parts pg) | obtain⟨ch,hv,bs,bn,bp⟩:=info_parts kH
   first | (have:=a;obtain⟨dc,hp,cn,cl,cm⟩:=info_parts pi) | obtain⟨dc,hp,cn,cl,cm⟩:=info_parts ph
   obtain⟨f4,c7⟩:∃e,ks[j]? =some e:=⟨_,CT (by omega)⟩;obtain⟨dl,c3⟩:∃e,vs[j]? =some e:=⟨_,CT (by omega)⟩;obtain⟨ex,rfl⟩:=f1 f4 (CW c7)
   first | (have:=a;obtain⟨eA,en,ec,rfl⟩:=f2 dl (CW c3)) | obtain⟨ey,rfl⟩:=f2 dl (CW c3)
   obtain⟨fd,c8⟩:∃e,kr[0]? =some e:=⟨_,CT (by omega)⟩;obtain⟨dn,c4⟩:∃e,vr[0]? =some e:=⟨_,CT (by omega)⟩;obtain⟨fx,rfl⟩:=f5 fd (CW c8)
   first | (have:=a;obtain⟨fA,fn,fc,rfl⟩:=f6 dn (CW c4)) | obtain⟨fy,rfl⟩:=f6 dn (CW c4)
   first | (have:=a;have co:Z (∀v∈kr,v.oneCell'=true):=bZ (fun v hv=>dQ (f5 v hv))) | have co:Z (∀v∈kr,v.oneCell'=true):=bZ (fun v hv=>dO (f5 v hv))
   first | (have:=a;have cp:Z (∀v∈vr,v.oneCell'=true):=bZ (fun v hv=>dN (f6 v hv))) | have cp:Z (∀v∈vr,v.oneCell'=true):=bZ (fun v hv=>dM (f6 v hv))
   clear f1 f2 f5 f6;have i1:(j:Int)<(T:Int):=by omega
   have i2:(j:Int)+1<(T:Int)+1:=by omega
   have i3:(j:Int)<(T:Int)+1:=by omega
   have i5:(7:Int)<(m:Int)+1:=by omega
   have i6:(0:Int)<(m:Int)+1:=by omega
   have i7:(0:Int)<(m:Int)+2:=by omega
   have g0:IntKind.i64.wrap ((j:Int)+1)=(j:Int)+1:=C0 _ (by omega);have NX:=d.X.num l1 l2 l3;have x2:=NX.1.cell 2;have x0:=NX.1.cell 0;have xq:=aj NX.2.2.2 (j:=j) (u:=.pointer (V q)) (by rw[De,hq];rfl);have xr:=aj NX.2.2.2 (j:=j+1) (u:=.pointer (V r)) (by rw[De,hr];rfl);have XR:=bZ NX.2.2.2;have r0:=(d.R.numk r1).1
   first | (have:=a;have CL:∀n,Calls Tryz.prog 184 #[.pointer (V bt)] (w.drewN n) fun e w'=>e=.returned (I 7)/\w.drewN n=w':=fun n=>ie (w.drewN n) bt c0 c2 ((hT.keep ((aa.refl [] w).drewN n) (by simp)).cell 1)) | have CL:∀n,Calls Tryz.prog 188 #[.pointer (V bt)] (w.drewN n) fun e w'=>e=.returned (I 7)/\w.drewN n=w':=fun n=>ic (w.drewN n) bt c0 c2 ((hT.keep ((aa.refl [] w).drewN n) (by simp)).cell 1)
   have g4:∀n,(w.drewN n).cell? (U p 2)=G (V xc) (T+1) ct:=fun n=>x2;have ds:=bZ hT;clear NX hT;replace d:=bZ d;replace bi:=bZ bi;replace l1:=bZ l1;replace l2:=bZ l2;replace l3:=bZ l3;replace m1:=bZ m1;replace m2:=bZ m2;replace m3:=bZ m3;replace r1:=bZ r1;replace r2:=bZ r2;replace r3:=bZ r3;replace hq:=bZ hq;replace hr:=bZ hr;replace c7:=bZ c7;replace c3:=bZ c3;replace c8:=bZ c8;replace c4:=bZ c4;replace CL:=bZ CL;replace hk:=bZ hk;replace bh:=bZ bh;replace ba:=bZ ba;replace bb:=bZ bb;replace hv:=bZ hv;replace bs:=bZ bs;replace bn:=bZ bn;replace bp:=bZ bp;replace hp:=bZ hp;replace cn:=bZ cn;replace cl:=bZ cl;replace cm:=bZ cm;unfold ptr
   first | (have:=a;go_enter Tryz.func185,Tryz.ntmps185) | go_enter Tryz.func189,Tryz.ntmps189
   go_wp2_with fail;go_cut [21] (fun v wx=>v=.bool false/\∃k,wx=w.drewN k)
   case first=>
    rcases bi.o with h0 | ⟨j',l0,A0,n0,f0,h0,fl,fk,gf⟩
    ·have g1:((0:Int)<(j:Int))=False:=eq_false (by omega);have fe:decide ((0:Int)<(j:Int))=false:=decide_eq_false (by omega);have fi:¬0<j:=by omega
     replace h0:=bZ h0;go_quiet (with_reducible exact bw (CL.o _));go_wp2_with fail;go_meet;exact⟨rfl,_,rfl⟩
    have xl:=aj XR.o (j:=j') (u:=.pointer (V l0)) (by rw[De,fl];rfl);have gv:∀n,(w.drewN n).cell? (U xc j')=some (.pointer (V l0)):=fun n=>xl;have ge:∀n,(w.drewN n).cell? (U l0 0)=G A0 n0 f0:=fun n=>fk;have g1:((0:Int)<(j:Int))=True:=eq_true (by omega);have fe:decide ((0:Int)<(j:Int))=true:=decide_eq_true (by omega);have fi:0<j:=by omega
    have g2:¬(7:Int)<(n0:Int):=by omega
    have g3:(j':Int)<(T:Int)+1:=by omega
    have g5:IntKind.i64.wrap ((j:Int) - 1)=(j':Int):=by rw[C0 _ (by omega)];omega
    replace h0:=bZ h0;go_quiet (with_reducible exact bw (CL.o _));go_wp2_with fail;go_meet;exact⟨rfl,_,rfl⟩
   obtain⟨rfl,k1,rfl⟩:=hcut;obtain⟨wb,da⟩:∃x,x=w.drewN k1:=⟨_,rfl⟩;have c6:Z (aa [] w wb):=bZ (by rw[da];exact(aa.refl [] w).drewN k1);rw[<-da];have y2:wb.cell? (U p 2)=G (V xc) (T+1) ct:=c6.o.cellEq x2 (by simp);have y0:wb.cell? (U p 0)=G (V A) T a0:=c6.o.cellEq x0 (by simp);have yr:wb.cell? (U xc (j+1))=some (.pointer (V r)):=c6.o.cellEq xr (by simp);have ev:wb.cell? (U r 0)=G (V rk) (m+1) a1:=c6.o.cellEq r0 (by simp)
   first | (have:=a;have CM:Z (∀n,Calls Tryz.prog 184 #[.pointer (V bt)] (wb.drewN n) fun e w'=>e=.returned (I 7)/\wb.drewN n=w'):=bZ (fun n=>ie (wb.drewN n) bt c0 c2 (c6.o.cellEq (ds.o.cell 1) (by simp)))) | have CM:Z (∀n,Calls Tryz.prog 188 #[.pointer (V bt)] (wb.drewN n) fun e w'=>e=.returned (I 7)/\wb.drewN n=w'):=bZ (fun n=>ic (wb.drewN n) bt c0 c2 (c6.o.cellEq (ds.o.cell 1) (by simp)))
   have g7:∀n,(wb.drewN n).cell? (U p 2)=G (V xc) (T+1) ct:=fun n=>y2;have g6:∀n,(wb.drewN n).cell? (U p 0)=G (V A) T a0:=fun n=>y0;have g8:∀n,(wb.drewN n).cell? (U xc (j+1))=some (.pointer (V r)):=fun n=>yr;have ew:∀n,(wb.drewN n).cell? (U r 0)=G (V rk) (m+1) a1:=fun n=>ev;replace d:=bZ (d.o.keep0 c6.o);clear da x2 g4 x0 xq xr r0 CL XR bi;go_wp2_with fail;go_quiet (with_reducible exact bw (CM.o _));go_wp2_with fail;obtain⟨wa,ek⟩:∃x,x=wb.drewN nq:=⟨_,rfl⟩;replace d:=bZ (d.o.keep0 ((aa.refl [] wb).drewN nq));rw[<-ek] at d ⊢;clear ek y2 y0 yr ev g7 g6 g8 ew CM c6;have C:=bZ d.o.drew;obtain⟨hN,bl,cc,c5⟩:=C.o.ls;have NZ:=C.o.Q.num m1.o m2.o m3.o;have NX:=C.o.X.num l1.o l2.o l3.o
   first | (have:=a;have f:wa.drew.cell? (U q 0)=G (V qk) H a9/\wa.drew.cell? (U q 1)=G (V qv) H ac/\wa.drew.cell? (U p 0)=G (V A) T a0/\wa.drew.cell? (U p 1)=G (V O) T a2/\wa.drew.cell? (U A j)=some (I ex)/\wa.drew.cell? (U O j)=some (Value.slice eA en ec):=⟨NZ.1.cell 0,NZ.1.cell 1,NX.1.cell 0,NX.1.cell 1,aj NX.2.1 c7.o,aj NX.2.2.1 c3.o⟩) | have f:wa.drew.cell? (U q 0)=G (V qk) H a9/\wa.drew.cell? (U q 1)=G (V qv) H ac/\wa.drew.cell? (U p 0)=G (V A) T a0/\wa.drew.cell? (U p 1)=G (V O) T a2/\wa.drew.cell? (U A j)=some (Value.string ex)/\wa.drew.cell? (U O j)=some (I ey):=⟨NZ.1.cell 0,NZ.1.cell 1,NX.1.cell 0,NX.1.cell 1,aj NX.2.1 c7.o,aj NX.2.2.1 c3.o⟩
   have RK:=bZ NZ.2.1;have RV:=bZ NZ.2.2.1;have L:=bZ NZ.1;have db:Z (∀x,x∈fb (V qk)\/x∈fb (V qv)->x<wa.drew.heap.size):=bZ (fun x hx=>hx.elim (fun h=>(aw NZ.2.1 h).2.1) (fun h=>(aw NZ.2.2.1 h).2.1));have bd:Z (∀y∈fb (V qk),y∉fb (V qv)):=bZ (cG hN 5 [6] rfl rfl (by decide));have ap:Z (∀y∈fb (V qk),y∉[q,p,A,O]):=bZ (cG hN 5 [4,0,1,2] rfl rfl (by decide));have b0:Z (∀y∈fb (V qv),y∉[q,p,A,O]):=bZ (cG hN 6 [4,0,1,2] rfl rfl (by decide))
   first | (have:=a;have J:Z (∀(W P:World) (Y:List Nat),(W.cell? (U q 0)=G (V qk) H a9/\W.cell? (U q 1)=G (V qv) H ac/\W.cell? (U p 0)=G (V A) T a0/\W.cell? (U p 1)=G (V O) T a2/\W.cell? (U A j)=some (I ex)/\W.cell? (U O j)=some (Value.slice eA en ec))->aa Y W P->(∀y∈Y,y∉[q,p,A,O])->(P.cell? (U q 0)=G (V qk) H a9/\P.cell? (U q 1)=G (V qv) H ac/\P.cell? (U p 0)=G (V A) T a0/\P.cell? (U p 1)=G (V O) T a2/\P.cell? (U A j)=some (I ex)/\P.cell? (U O j)=some (Value.slice eA en ec))):=bZ (fun W P Y h1 h2 h3=>⟨h2.cellEq h1.1 (fun b=>h3 _ b (by simp)),h2.cellEq h1.2.1 (fun b=>h3 _ b (by simp)),h2.cellEq h1.2.2.1 (fun b=>h3 _ b (by simp)),h2.cellEq h1.2.2.2.1 (fun b=>h3 _ b (by simp)),h2.cellEq h1.2.2.2.2.1 (fun b=>h3 _ b (by simp)),h2.cellEq h1.2.2.2.2.2 (fun b=>h3 _ b (by simp))⟩)) | have J:Z (∀(W P:World) (Y:List Nat),(W.cell? (U q 0)=G (V qk) H a9/\W.cell? (U q 1)=G (V qv) H ac/\W.cell? (U p 0)=G (V A) T a0/\W.cell? (U p 1)=G (V O) T a2/\W.cell? (U A j)=some (Value.string ex)/\W.cell? (U O j)=some (I ey))->aa Y W P->(∀y∈Y,y∉[q,p,A,O])->(P.cell? (U q 0)=G (V qk) H a9/\P.cell? (U q 1)=G (V qv) H ac/\P.cell? (U p 0)=G (V A) T a0/\P.cell? (U p 1)=G (V O) T a2/\P.cell? (U A j)=some (Value.string ex)/\P.cell? (U O j)=some (I ey))):=bZ (fun W P Y h1 h2 h3=>⟨h2.cellEq h1.1 (fun b=>h3 _ b (by simp)),h2.cellEq h1.2.1 (fun b=>h3 _ b (by simp)),h2.cellEq h1.2.2.1 (fun b=>h3 _ b (by simp)),h2.cellEq h1.2.2.2.1 (fun b=>h3 _ b (by simp)),h2.cellEq h1.2.2.2.2.1 (fun b=>h3 _ b (by simp)),h2.cellEq h1.2.2.2.2.2 (fun b=>h3 _ b (by simp))⟩)
   clear hN bl cc c5 NZ NX d;have cb:Z (q∉fb (V qk)/\q∉fb (V qv)):=bZ ⟨(aW.1 C.o.Q.nd).1.1,(aW.1 C.o.Q.nd).1.2.1⟩;go_wp2_with fail
   first | (have:=a;go_cut [] (fun wx=>∃a6 b5 a7 b6,Z (aE tyI w wx p q r (V A) (V O) (V xc) a6 a7 a8 (V rk) (V rv) er a0 a2 ct b5 b6 b8 a1 a4 ak ks vs (kq++[I ex]) (vq++[Value.slice eA en ec]) kr vr cs cq cr F))) | go_cut [] (fun wx=>∃a6 b5 a7 b6,Z (aE tyS w wx p q r (V A) (V O) (V xc) a6 a7 a8 (V rk) (V rv) er a0 a2 ct b5 b6 b8 a1 a4 ak ks vs (kq++[Value.string ex]) (vq++[I ey]) kr vr cs cq cr F))
   case first=>
    as_aux_lemma=>
     refine bj (by kernel_rfl) ?_;refine JW 1 ?_
     try simp only[PT,Y1,Y2,Y3]
     first | (have:=a;refine bu (S:=(fun w':World=>w'.cell? (U q 0)=G (V qk) H a9/\w'.cell? (U q 1)=G (V qv) H ac/\w'.cell? (U p 0)=G (V A) T a0/\w'.cell? (U p 1)=G (V O) T a2/\w'.cell? (U A j)=some (I ex)/\w'.cell? (U O j)=some (Value.slice eA en ec))) (n:=30) _ _ _ _ ?_) | refine bu (S:=(fun w':World=>w'.cell? (U q 0)=G (V qk) H a9/\w'.cell? (U q 1)=G (V qv) H ac/\w'.cell? (U p 0)=G (V A) T a0/\w'.cell? (U p 1)=G (V O) T a2/\w'.cell? (U A j)=some (Value.string ex)/\w'.cell? (U O j)=some (I ey))) (n:=30) _ _ _ _ ?_
     generalize wa.drew=wd at*;obtain⟨wc,s⟩:∃x,x=wd:=⟨_,rfl⟩;have Ka:Z (aa [] wd wc):=bZ (by rw[s];exact aa.refl _ _);rw[<-s] at RK RV L f ⊢;clear s;refine ord [0,2,3,4,5,6,7,8,9,10,11,12,15,16,17,18,19,20,21,22,23,24,25] ?_
     iterate 23 (refine tq f ?_;try simp only[PT,Y1,Y2,Y3])
     refine av ?_;refine cK (i:=13) (j:=26) rfl rfl (by kernel_rfl) (fun K t=>?_) (fun K t=>?_)
     ·dsimp only[Y1,Y2,Y3];go_simp;obtain⟨b1,b9⟩:∃g,g=wc.heap.size:=⟨_,rfl⟩;have ga:Z (wd.heap.size<=b1):=bZ (by rw[b9];exact Ka.o.size)
      first | (have:=a;have a5:=bZ (Blk.new wc 2 #[I ex])) | have a5:=bZ (Blk.new wc 9 #[Value.string ex])
      first | (have:=a;have E:aa [] wc (wc.alloc (.cells #[I ex] 2)):=(aa.refl [] wc).alloc _) | have E:aa [] wc (wc.alloc (.cells #[Value.string ex] 9)):=(aa.refl [] wc).alloc _
      replace Ka:=bZ (Ka.o.trans E);replace RK:=bZ (ab RK.o E);replace RV:=bZ (ab RV.o E);replace L:=bZ (L.o.keep E (by simp));have f:=J.o _ _ [] f E (by simp);refine t _ _ (.inr f) ?_;clear t K E;rw[<-b9] at a5 ⊢
      first | (have:=a;generalize wc.alloc (.cells #[I ex] 2)=M at*) | generalize wc.alloc (.cells #[Value.string ex] 9)=M at*
      clear b9;obtain⟨wc,s⟩:∃x,x=M:=⟨_,rfl⟩;subst s
      try simp only[PT,Y1,Y2,Y3]
      refine cK (i:=14) (j:=26) rfl rfl (by kernel_rfl) (fun K t=>?_) (fun K t=>?_)
      ·dsimp only[Y1,Y2,Y3]
       first | (have:=a;refine am (.tmp 209) (.tmp 217) 207 (by rfl) 0 2 cd (I 0) 1 8 Tryz.underlying207 hk.o bh.o ba.o bb.o rfl (by decide) (.slice (V qk) H a9) H (kq) (by rfl) RK.o (V b1) 1 _ [I ex] (by rfl) rfl (by have:=aI (off:=0) (l:=[I ex]) a5.o (by simp) 1;exact this) (by simp[Value.oneCell']) (by unfold maxLen;omega) (by omega) (C3 _) ?_) | (refine am (.tmp 209) (.tmp 217) 251 (by rfl) 0 9 cd (.string ⟨#[]⟩) 1 16 Tryz.underlying251 hk.o bh.o ba.o bb.o rfl (by decide) (.slice (V qk) H a9) H (kq) (by rfl) RK.o (V b1) 1 _ [Value.string ex] (by rfl) rfl (by have:=aI (off:=0) (l:=[Value.string ex]) a5.o (by simp) 1;exact this) (by simp[Value.oneCell']) (by unfold maxLen;omega) (by omega) (C3 _) ?_)
       intro v4 M q1 q2 q3 q4;obtain⟨a6,b5,rfl,o,k,nf⟩:=dz q1 q2 q4;clear q1 q2 q3 q4;have a3:Z (wd.heap.size<=wc.heap.size):=bZ Ka.o.size;have k1:Z (aa (fb (V qk)) wd M):=bZ (Ka.o.nil.trans k.o);have O1:=o;have n1:Z (∀g∈fb a6,g∈fb (V qk)\/wd.heap.size<=g):=bZ (fun g hg=>(nf.o g hg).imp_right (fun h=>Dc a3.o h));have cj:Z (wd.heap.size<=M.heap.size):=bZ k1.o.size;obtain⟨an,ar⟩:∃x,x=M:=⟨_,rfl⟩;rw[<-ar] at O1 k1 cj;have Kb:Z (aa [] an M):=bZ (by rw[ar];exact aa.refl _ _);replace RV:=bZ (aq RV.o k.o bd.o);replace L:=bZ (L.o.keep k.o cb.o.1);have f:=J.o _ _ _ f k.o ap.o;refine t _ _ (.inr f) ?_;clear t K o k nf RK ar Ka a5 a3;obtain⟨wc,s⟩:∃x,x=M:=⟨_,rfl⟩;subst s
       try simp only[PT,Y1,Y2,Y3]
       refine J1 26 fun K t=>?_;dsimp only[Y1,Y2,Y3];go_simp;obtain⟨b2,b7⟩:∃g,g=wc.heap.size:=⟨_,rfl⟩;have d5:Z (wd.heap.size<=b2):=bZ (by rw[b7];exact Dc cj.o Kb.o.size)
       first | (have:=a;have B:=bZ (Blk.new wc 62 #[Value.slice eA en ec])) | have B:=bZ (Blk.new wc 2 #[I ey])
       first | (have:=a;have E:aa [] wc (wc.alloc (.cells #[Value.slice eA en ec] 62)):=(aa.refl [] wc).alloc _) | have E:aa [] wc (wc.alloc (.cells #[I ey] 2)):=(aa.refl [] wc).alloc _
       replace Kb:=bZ (Kb.o.trans E);replace RV:=bZ (ab RV.o E);replace L:=bZ (L.o.keep E (by simp));have f:=J.o _ _ [] f E (by simp);refine t _ _ (.inr f) ?_;clear t K E;rw[<-b7] at B ⊢
       first | (have:=a;generalize wc.alloc (.cells #[Value.slice eA en ec] 62)=M at*) | generalize wc.alloc (.cells #[I ey] 2)=M at*
       clear b7;obtain⟨wc,s⟩:∃x,x=M:=⟨_,rfl⟩;subst s
       try simp only[PT,Y1,Y2,Y3]
       refine J1 27 fun K t=>?_;dsimp only[Y1,Y2,Y3]
       first | (have:=a;refine am (.tmp 222) (.tmp 230) 198 (by rfl) 0 62 ch (.slice none 0 0) 1 24 Tryz.underlying198 hv.o bs.o bn.o bp.o rfl (by decide) (.slice (V qv) H ac) H (vq) (by rfl) RV.o (V b2) 1 _ [Value.slice eA en ec] (by rfl) rfl (by have:=aI (off:=0) (l:=[Value.slice eA en ec]) B.o (by simp) 1;exact this) (by simp[Value.oneCell']) (by unfold maxLen;omega) (by omega) (C3 _) ?_) | (refine am (.tmp 222) (.tmp 230) 207 (by rfl) 0 2 ch (I 0) 1 8 Tryz.underlying207 hv.o bs.o bn.o bp.o rfl (by decide) (.slice (V qv) H ac) H (vq) (by rfl) RV.o (V b2) 1 _ [I ey] (by rfl) rfl (by have:=aI (off:=0) (l:=[I ey]) B.o (by simp) 1;exact this) (by simp[Value.oneCell']) (by unfold maxLen;omega) (by omega) (C3 _) ?_)
       intro v4 M q1 q2 q3 q4;obtain⟨a7,b6,rfl,o,k,nf⟩:=dz q1 q2 q4;clear q1 q2 q3 q4;have a3:Z (an.heap.size<=wc.heap.size):=bZ Kb.o.size;have k2:Z (aa (fb (V qv)) an M):=bZ (Kb.o.nil.trans k.o);have O2:=o;have n2:Z (∀g∈fb a7,g∈fb (V qv)\/an.heap.size<=g):=bZ (fun g hg=>(nf.o g hg).imp_right (fun h=>Dc a3.o h));replace L:=bZ (L.o.keep k.o cb.o.2);have f:=J.o _ _ _ f k.o b0.o;have d3:=L.o.cell 0;have d4:=L.o.cell 1;have xf:=L.o.frozen;refine t _ _ (.inr f) ?_;clear t K o k nf RV Kb B a3;obtain⟨wc,s⟩:∃x,x=M:=⟨_,rfl⟩;subst s
       try simp only[PT,Y1,Y2,Y3]
       refine ord [28,29] ?_
       iterate 2 (refine tq f ?_;try simp only[PT,Y1,Y2,Y3])
       refine av ?_;refine JQ 30 ?_
       try simp only[PT,Y1,Y2,Y3]
       refine JQ 31 ?_
       try simp only[PT,Y1,Y2,Y3]
       refine JQ 32 ?_
       try simp only[PT,Y1,Y2,Y3]
       refine JQ 33 ?_
       try simp only[PT,Y1,Y2,Y3]
       refine JD ?_;go_wp2_with fail;go_meet
       first | (have:=a;exact⟨a6,b5,a7,b6,bZ (let N:=C.o.Q.two (ks':=kq++[I ex]) (vs':=vq++[Value.slice eA en ec]) (n':=H+1) (by simp[m1.o]) (by simp[m2.o]) O1.o k1.o n1.o O2.o k2.o n2.o;C.o.stQ N.1 N.2.1 bV N.2.2)⟩) | (exact⟨a6,b5,a7,b6,bZ (let N:=C.o.Q.two (ks':=kq++[Value.string ex]) (vs':=vq++[I ey]) (n':=H+1) (by simp[m1.o]) (by simp[m2.o]) O1.o k1.o n1.o O2.o k2.o n2.o;C.o.stQ N.1 N.2.1 bV N.2.2)⟩)
      dsimp only[Y1,Y2,Y3];go_simp;obtain⟨b2,b7⟩:∃g,g=wc.heap.size:=⟨_,rfl⟩;have d5:Z (wd.heap.size<=b2):=bZ (by rw[b7];exact Ka.o.size)
      first | (have:=a;have B:=bZ (Blk.new wc 62 #[Value.slice eA en ec])) | have B:=bZ (Blk.new wc 2 #[I ey])
      first | (have:=a;have E:aa [] wc (wc.alloc (.cells #[Value.slice eA en ec] 62)):=(aa.refl [] wc).alloc _) | have E:aa [] wc (wc.alloc (.cells #[I ey] 2)):=(aa.refl [] wc).alloc _
      replace Ka:=bZ (Ka.o.trans E);replace RK:=bZ (ab RK.o E);replace RV:=bZ (ab RV.o E);replace L:=bZ (L.o.keep E (by simp));replace a5:=bZ (a5.o.keep E (by simp));have f:=J.o _ _ [] f E (by simp);refine t _ _ (.inr f) ?_;clear t K E;rw[<-b7] at B ⊢
      first | (have:=a;generalize wc.alloc (.cells #[Value.slice eA en ec] 62)=M at*) | generalize wc.alloc (.cells #[I ey] 2)=M at*
      clear b7;obtain⟨wc,s⟩:∃x,x=M:=⟨_,rfl⟩;subst s
      try simp only[PT,Y1,Y2,Y3]
      refine J1 14 fun K t=>?_;dsimp only[Y1,Y2,Y3]
      first | (have:=a;refine am (.tmp 209) (.tmp 217) 207 (by rfl) 0 2 cd (I 0) 1 8 Tryz.underlying207 hk.o bh.o ba.o bb.o rfl (by decide) (.slice (V qk) H a9) H (kq) (by rfl) RK.o (V b1) 1 _ [I ex] (by rfl) rfl (by have:=aI (off:=0) (l:=[I ex]) a5.o (by simp) 1;exact this) (by simp[Value.oneCell']) (by unfold maxLen;omega) (by omega) (C3 _) ?_) | (refine am (.tmp 209) (.tmp 217) 251 (by rfl) 0 9 cd (.string ⟨#[]⟩) 1 16 Tryz.underlying251 hk.o bh.o ba.o bb.o rfl (by decide) (.slice (V qk) H a9) H (kq) (by rfl) RK.o (V b1) 1 _ [Value.string ex] (by rfl) rfl (by have:=aI (off:=0) (l:=[Value.string ex]) a5.o (by simp) 1;exact this) (by simp[Value.oneCell']) (by unfold maxLen;omega) (by omega) (C3 _) ?_)
      intro v4 M q1 q2 q3 q4;obtain⟨a6,b5,rfl,o,k,nf⟩:=dz q1 q2 q4;clear q1 q2 q3 q4;have a3:Z (wd.heap.size<=wc.heap.size):=bZ Ka.o.size;have k1:Z (aa (fb (V qk)) wd M):=bZ (Ka.o.nil.trans k.o);have O1:=o;have n1:Z (∀g∈fb a6,g∈fb (V qk)\/wd.heap.size<=g):=bZ (fun g hg=>(nf.o g hg).imp_right (fun h=>Dc a3.o h));have cj:Z (wd.heap.size<=M.heap.size):=bZ k1.o.size;obtain⟨an,ar⟩:∃x,x=M:=⟨_,rfl⟩;rw[<-ar] at O1 k1 cj;have Kb:Z (aa [] an M):=bZ (by rw[ar];exact aa.refl _ _);replace RV:=bZ (aq RV.o k.o bd.o);replace L:=bZ (L.o.keep k.o cb.o.1);replace B:=bZ (B.o.keep k.o (fun b=>by have:=db.o _ (.inl b);have:=d5.o;omega));have f:=J.o _ _ _ f k.o ap.o;refine t _ _ (.inr f) ?_;clear t K o k nf RK ar Ka a5 a3;obtain⟨wc,s⟩:∃x,x=M:=⟨_,rfl⟩;subst s
      try simp only[PT,Y1,Y2,Y3]
      refine J1 27 fun K t=>?_;dsimp only[Y1,Y2,Y3]
      first | (have:=a;refine am (.tmp 222) (.tmp 230) 198 (by rfl) 0 62 ch (.slice none 0 0) 1 24 Tryz.underlying198 hv.o bs.o bn.o bp.o rfl (by decide) (.slice (V qv) H ac) H (vq) (by rfl) RV.o (V b2) 1 _ [Value.slice eA en ec] (by rfl) rfl (by have:=aI (off:=0) (l:=[Value.slice eA en ec]) B.o (by simp) 1;exact this) (by simp[Value.oneCell']) (by unfold maxLen;omega) (by omega) (C3 _) ?_) | (refine am (.tmp 222) (.tmp 230) 207 (by rfl) 0 2 ch (I 0) 1 8 Tryz.underlying207 hv.o bs.o bn.o bp.o rfl (by decide) (.slice (V qv) H ac) H (vq) (by rfl) RV.o (V b2) 1 _ [I ey] (by rfl) rfl (by have:=aI (off:=0) (l:=[I ey]) B.o (by simp) 1;exact this) (by simp[Value.oneCell']) (by unfold maxLen;omega) (by omega) (C3 _) ?_)
      intro v4 M q1 q2 q3 q4;obtain⟨a7,b6,rfl,o,k,nf⟩:=dz q1 q2 q4;clear q1 q2 q3 q4;have a3:Z (an.heap.size<=wc.heap.size):=bZ Kb.o.size;have k2:Z (aa (fb (V qv)) an M):=bZ (Kb.o.nil.trans k.o);have O2:=o;have n2:Z (∀g∈fb a7,g∈fb (V qv)\/an.heap.size<=g):=bZ (fun g hg=>(nf.o g hg).imp_right (fun h=>Dc a3.o h));replace L:=bZ (L.o.keep k.o cb.o.2);have f:=J.o _ _ _ f k.o b0.o;have d3:=L.o.cell 0;have d4:=L.o.cell 1;have xf:=L.o.frozen;refine t _ _ (.inr f) ?_;clear t K o k nf RV Kb B a3;obtain⟨wc,s⟩:∃x,x=M:=⟨_,rfl⟩;subst s
      try simp only[PT,Y1,Y2,Y3]
      refine ord [28,29] ?_
      iterate 2 (refine tq f ?_;try simp only[PT,Y1,Y2,Y3])
      refine av ?_;refine JQ 30 ?_
      try simp only[PT,Y1,Y2,Y3]
      refine JQ 31 ?_
      try simp only[PT,Y1,Y2,Y3]
      refine JQ 32 ?_
      try simp only[PT,Y1,Y2,Y3]
      refine JQ 33 ?_
      try simp only[PT,Y1,Y2,Y3]
      refine JD ?_;go_wp2_with fail;go_meet
      first | (have:=a;exact⟨a6,b5,a7,b6,bZ (let N:=C.o.Q.two (ks':=kq++[I ex]) (vs':=vq++[Value.slice eA en ec]) (n':=H+1) (by simp[m1.o]) (by simp[m2.o]) O1.o k1.o n1.o O2.o k2.o n2.o;C.o.stQ N.1 N.2.1 bV N.2.2)⟩) | (exact⟨a6,b5,a7,b6,bZ (let N:=C.o.Q.two (ks':=kq++[Value.string ex]) (vs':=vq++[I ey]) (n':=H+1) (by simp[m1.o]) (by simp[m2.o]) O1.o k1.o n1.o O2.o k2.o n2.o;C.o.stQ N.1 N.2.1 bV N.2.2)⟩)
     dsimp only[Y1,Y2,Y3];go_simp;obtain⟨b2,b7⟩:∃g,g=wc.heap.size:=⟨_,rfl⟩;have d5:Z (wd.heap.size<=b2):=bZ (by rw[b7];exact Ka.o.size)
     first | (have:=a;have B:=bZ (Blk.new wc 62 #[Value.slice eA en ec])) | have B:=bZ (Blk.new wc 2 #[I ey])
     first | (have:=a;have E:aa [] wc (wc.alloc (.cells #[Value.slice eA en ec] 62)):=(aa.refl [] wc).alloc _) | have E:aa [] wc (wc.alloc (.cells #[I ey] 2)):=(aa.refl [] wc).alloc _
     replace Ka:=bZ (Ka.o.trans E);replace RK:=bZ (ab RK.o E);replace RV:=bZ (ab RV.o E);replace L:=bZ (L.o.keep E (by simp));have f:=J.o _ _ [] f E (by simp);refine t _ _ (.inr f) ?_;clear t K E;rw[<-b7] at B ⊢
     first | (have:=a;generalize wc.alloc (.cells #[Value.slice eA en ec] 62)=M at*) | generalize wc.alloc (.cells #[I ey] 2)=M at*
     clear b7;obtain⟨wc,s⟩:∃x,x=M:=⟨_,rfl⟩;subst s
     try simp only[PT,Y1,Y2,Y3]
     refine J1 13 fun K t=>?_;dsimp only[Y1,Y2,Y3];go_simp;obtain⟨b1,b9⟩:∃g,g=wc.heap.size:=⟨_,rfl⟩;have ga:Z (wd.heap.size<=b1):=bZ (by rw[b9];exact Ka.o.size)
     first | (have:=a;have a5:=bZ (Blk.new wc 2 #[I ex])) | have a5:=bZ (Blk.new wc 9 #[Value.string ex])
     first | (have:=a;have E:aa [] wc (wc.alloc (.cells #[I ex] 2)):=(aa.refl [] wc).alloc _) | have E:aa [] wc (wc.alloc (.cells #[Value.string ex] 9)):=(aa.refl [] wc).alloc _
     replace Ka:=bZ (Ka.o.trans E);replace RK:=bZ (ab RK.o E);replace RV:=bZ (ab RV.o E);replace L:=bZ (L.o.keep E (by simp));replace B:=bZ (B.o.keep E (by simp));have f:=J.o _ _ [] f E (by simp);refine t _ _ (.inr f) ?_;clear t K E;rw[<-b9] at a5 ⊢
     first | (have:=a;generalize wc.alloc (.cells #[I ex] 2)=M at*) | generalize wc.alloc (.cells #[Value.string ex] 9)=M at*
     clear b9;obtain⟨wc,s⟩:∃x,x=M:=⟨_,rfl⟩;subst s
     try simp only[PT,Y1,Y2,Y3]
     refine J1 14 fun K t=>?_;dsimp only[Y1,Y2,Y3]
     first | (have:=a;refine am (.tmp 209) (.tmp 217) 207 (by rfl) 0 2 cd (I 0) 1 8 Tryz.underlying207 hk.o bh.o ba.o bb.o rfl (by decide) (.slice (V qk) H a9) H (kq) (by rfl) RK.o (V b1) 1 _ [I ex] (by rfl) rfl (by have:=aI (off:=0) (l:=[I ex]) a5.o (by simp) 1;exact this) (by simp[Value.oneCell']) (by unfold maxLen;omega) (by omega) (C3 _) ?_) | (refine am (.tmp 209) (.tmp 217) 251 (by rfl) 0 9 cd (.string ⟨#[]⟩) 1 16 Tryz.underlying251 hk.o bh.o ba.o bb.o rfl (by decide) (.slice (V qk) H a9) H (kq) (by rfl) RK.o (V b1) 1 _ [Value.string ex] (by rfl) rfl (by have:=aI (off:=0) (l:=[Value.string ex]) a5.o (by simp) 1;exact this) (by simp[Value.oneCell']) (by unfold maxLen;omega) (by omega) (C3 _) ?_)
     intro v4 M q1 q2 q3 q4;obtain⟨a6,b5,rfl,o,k,nf⟩:=dz q1 q2 q4;clear q1 q2 q3 q4;have a3:Z (wd.heap.size<=wc.heap.size):=bZ Ka.o.size;have k1:Z (aa (fb (V qk)) wd M):=bZ (Ka.o.nil.trans k.o);have O1:=o;have n1:Z (∀g∈fb a6,g∈fb (V qk)\/wd.heap.size<=g):=bZ (fun g hg=>(nf.o g hg).imp_right (fun h=>Dc a3.o h));have cj:Z (wd.heap.size<=M.heap.size):=bZ k1.o.size;obtain⟨an,ar⟩:∃x,x=M:=⟨_,rfl⟩;rw[<-ar] at O1 k1 cj;have Kb:Z (aa [] an M):=bZ (by rw[ar];exact aa.refl _ _);replace RV:=bZ (aq RV.o k.o bd.o);replace L:=bZ (L.o.keep k.o cb.o.1);replace B:=bZ (B.o.keep k.o (fun b=>by have:=db.o _ (.inl b);have:=d5.o;omega));have f:=J.o _ _ _ f k.o ap.o;refine t _ _ (.inr f) ?_;clear t K o k nf RK ar Ka a5 a3;obtain⟨wc,s⟩:∃x,x=M:=⟨_,rfl⟩;subst s
     try simp only[PT,Y1,Y2,Y3]
     refine J1 27 fun K t=>?_;dsimp only[Y1,Y2,Y3]
     first | (have:=a;refine am (.tmp 222) (.tmp 230) 198 (by rfl) 0 62 ch (.slice none 0 0) 1 24 Tryz.underlying198 hv.o bs.o bn.o bp.o rfl (by decide) (.slice (V qv) H ac) H (vq) (by rfl) RV.o (V b2) 1 _ [Value.slice eA en ec] (by rfl) rfl (by have:=aI (off:=0) (l:=[Value.slice eA en ec]) B.o (by simp) 1;exact this) (by simp[Value.oneCell']) (by unfold maxLen;omega) (by omega) (C3 _) ?_) | (refine am (.tmp 222) (.tmp 230) 207 (by rfl) 0 2 ch (I 0) 1 8 Tryz.underlying207 hv.o bs.o bn.o bp.o rfl (by decide) (.slice (V qv) H ac) H (vq) (by rfl) RV.o (V b2) 1 _ [I ey] (by rfl) rfl (by have:=aI (off:=0) (l:=[I ey]) B.o (by simp) 1;exact this) (by simp[Value.oneCell']) (by unfold maxLen;omega) (by omega) (C3 _) ?_)
     intro v4 M q1 q2 q3 q4;obtain⟨a7,b6,rfl,o,k,nf⟩:=dz q1 q2 q4;clear q1 q2 q3 q4;have a3:Z (an.heap.size<=wc.heap.size):=bZ Kb.o.size;have k2:Z (aa (fb (V qv)) an M):=bZ (Kb.o.nil.trans k.o);have O2:=o;have n2:Z (∀g∈fb a7,g∈fb (V qv)\/an.heap.size<=g):=bZ (fun g hg=>(nf.o g hg).imp_right (fun h=>Dc a3.o h));replace L:=bZ (L.o.keep k.o cb.o.2);have f:=J.o _ _ _ f k.o b0.o;have d3:=L.o.cell 0;have d4:=L.o.cell 1;have xf:=L.o.frozen;refine t _ _ (.inr f) ?_;clear t K o k nf RV Kb B a3;obtain⟨wc,s⟩:∃x,x=M:=⟨_,rfl⟩;subst s
     try simp only[PT,Y1,Y2,Y3]
     refine ord [28,29] ?_
     iterate 2 (refine tq f ?_;try simp only[PT,Y1,Y2,Y3])
     refine av ?_;refine JQ 30 ?_
     try simp only[PT,Y1,Y2,Y3]
     refine JQ 31 ?_
     try simp only[PT,Y1,Y2,Y3]
     refine JQ 32 ?_
     try simp only[PT,Y1,Y2,Y3]
     refine JQ 33 ?_
     try simp only[PT,Y1,Y2,Y3]
     refine JD ?_;go_wp2_with fail;go_meet
     first | (have:=a;exact⟨a6,b5,a7,b6,bZ (let N:=C.o.Q.two (ks':=kq++[I ex]) (vs':=vq++[Value.slice eA en ec]) (n':=H+1) (by simp[m1.o]) (by simp[m2.o]) O1.o k1.o n1.o O2.o k2.o n2.o;C.o.stQ N.1 N.2.1 bV N.2.2)⟩) | (exact⟨a6,b5,a7,b6,bZ (let N:=C.o.Q.two (ks':=kq++[Value.string ex]) (vs':=vq++[I ey]) (n':=H+1) (by simp[m1.o]) (by simp[m2.o]) O1.o k1.o n1.o O2.o k2.o n2.o;C.o.stQ N.1 N.2.1 bV N.2.2)⟩)
   obtain⟨a6,gb,a7,gc,d⟩:=hcut;obtain⟨w1,ar⟩:∃x,x=wc:=⟨_,rfl⟩;subst ar;clear C f RK RV L db bd ap b0 J cb;obtain⟨gk,c1,ee,_,_,_,_,_,_⟩:=ax d.o.Q.rk (by simp<;>omega);injection ee with e1 _ e2;subst e1 e2;obtain⟨gl,c2,ee,_,_,_,_,_,_⟩:=ax d.o.Q.rv (by simp<;>omega);injection ee with e1 _ e2;subst e1 e2
   as_aux_lemma=>
    have C:=bZ d.o.drew;obtain⟨hN,bl,cc,c5⟩:=C.o.ls;have NX:=C.o.X.num l1.o l2.o l3.o;have NQ:=C.o.R.num r1.o r2.o r3.o
    first | (have:=a;have f:w1.drew.cell? (U p 0)=G (V A) T a0/\w1.drew.cell? (U p 1)=G (V O) T a2/\w1.drew.cell? (U r 0)=G (V rk) (m+1) a1/\w1.drew.cell? (U r 1)=G (V rv) (m+1) a4/\w1.drew.cell? (U rk 0)=some (I fx)/\w1.drew.cell? (U rv 0)=some (Value.slice fA fn fc):=⟨NX.1.cell 0,NX.1.cell 1,NQ.1.cell 0,NQ.1.cell 1,aj NQ.2.1 c8.o,aj NQ.2.2.1 c4.o⟩) | have f:w1.drew.cell? (U p 0)=G (V A) T a0/\w1.drew.cell? (U p 1)=G (V O) T a2/\w1.drew.cell? (U r 0)=G (V rk) (m+1) a1/\w1.drew.cell? (U r 1)=G (V rv) (m+1) a4/\w1.drew.cell? (U rk 0)=some (Value.string fx)/\w1.drew.cell? (U rv 0)=some (I fy):=⟨NX.1.cell 0,NX.1.cell 1,NQ.1.cell 0,NQ.1.cell 1,aj NQ.2.1 c8.o,aj NQ.2.2.1 c4.o⟩
    obtain⟨fv,e4⟩:∃e,(ks)[j]? =some e:=⟨_,CT (by rw[l1.o];omega)⟩;obtain⟨fz,e5⟩:∃e,(vs)[j]? =some e:=⟨_,CT (by rw[l2.o];omega)⟩;have ck:=aj NX.2.1 e4;have cv:=aj NX.2.2.1 e5;have kf:=jh NX.2.1 (by omega);have vf:=jh NX.2.2.1 (by omega);have ap:Z (∀y∈[A],y∉[p,r,rk,rv]):=bZ (cG hN 1 [0,7,8,9] rfl rfl (by decide));have b0:Z (∀y∈[O],y∉[p,r,rk,rv]):=bZ (cG hN 2 [0,7,8,9] rfl rfl (by decide));have bd:Z (∀y∈[A],y∉[O]):=bZ (cG hN 1 [2] rfl rfl (by decide))
    first | (have:=a;have J:Z (∀(W P:World) (Y:List Nat),(W.cell? (U p 0)=G (V A) T a0/\W.cell? (U p 1)=G (V O) T a2/\W.cell? (U r 0)=G (V rk) (m+1) a1/\W.cell? (U r 1)=G (V rv) (m+1) a4/\W.cell? (U rk 0)=some (I fx)/\W.cell? (U rv 0)=some (Value.slice fA fn fc))->aa Y W P->(∀y∈Y,y∉[p,r,rk,rv])->(P.cell? (U p 0)=G (V A) T a0/\P.cell? (U p 1)=G (V O) T a2/\P.cell? (U r 0)=G (V rk) (m+1) a1/\P.cell? (U r 1)=G (V rv) (m+1) a4/\P.cell? (U rk 0)=some (I fx)/\P.cell? (U rv 0)=some (Value.slice fA fn fc))):=bZ (fun W P Y h1 h2 h3=>⟨h2.cellEq h1.1 (fun b=>h3 _ b (by simp)),h2.cellEq h1.2.1 (fun b=>h3 _ b (by simp)),h2.cellEq h1.2.2.1 (fun b=>h3 _ b (by simp)),h2.cellEq h1.2.2.2.1 (fun b=>h3 _ b (by simp)),h2.cellEq h1.2.2.2.2.1 (fun b=>h3 _ b (by simp)),h2.cellEq h1.2.2.2.2.2 (fun b=>h3 _ b (by simp))⟩)) | have J:Z (∀(W P:World) (Y:List Nat),(W.cell? (U p 0)=G (V A) T a0/\W.cell? (U p 1)=G (V O) T a2/\W.cell? (U r 0)=G (V rk) (m+1) a1/\W.cell? (U r 1)=G (V rv) (m+1) a4/\W.cell? (U rk 0)=some (Value.string fx)/\W.cell? (U rv 0)=some (I fy))->aa Y W P->(∀y∈Y,y∉[p,r,rk,rv])->(P.cell? (U p 0)=G (V A) T a0/\P.cell? (U p 1)=G (V O) T a2/\P.cell? (U r 0)=G (V rk) (m+1) a1/\P.cell? (U r 1)=G (V rv) (m+1) a4/\P.cell? (U rk 0)=some (Value.string fx)/\P.cell? (U rv 0)=some (I fy))):=bZ (fun W P Y h1 h2 h3=>⟨h2.cellEq h1.1 (fun b=>h3 _ b (by simp)),h2.cellEq h1.2.1 (fun b=>h3 _ b (by simp)),h2.cellEq h1.2.2.1 (fun b=>h3 _ b (by simp)),h2.cellEq h1.2.2.2.1 (fun b=>h3 _ b (by simp)),h2.cellEq h1.2.2.2.2.1 (fun b=>h3 _ b (by simp)),h2.cellEq h1.2.2.2.2.2 (fun b=>h3 _ b (by simp))⟩)
    clear hN bl cc c5 NX NQ d e4 e5;go_wp2_with fail
    first | (have:=a;refine ad (S:=(fun w':World=>w'.cell? (U p 0)=G (V A) T a0/\w'.cell? (U p 1)=G (V O) T a2/\w'.cell? (U r 0)=G (V rk) (m+1) a1/\w'.cell? (U r 1)=G (V rv) (m+1) a4/\w'.cell? (U rk 0)=some (I fx)/\w'.cell? (U rv 0)=some (Value.slice fA fn fc))) (n:=26) (by kernel_rfl) ?_) | refine ad (S:=(fun w':World=>w'.cell? (U p 0)=G (V A) T a0/\w'.cell? (U p 1)=G (V O) T a2/\w'.cell? (U r 0)=G (V rk) (m+1) a1/\w'.cell? (U r 1)=G (V rv) (m+1) a4/\w'.cell? (U rk 0)=some (Value.string fx)/\w'.cell? (U rv 0)=some (I fy))) (n:=26) (by kernel_rfl) ?_
    generalize w1.drew=wd at*;refine ord [0,1,2,3,4,5,6,7,8,9,10,11,12,13,14,15,16,17,18,19,20,21,22] ?_
    iterate 23 (refine tq f ?_;try simp only[PT,Y1,Y2,Y3])
    refine av ?_;refine J1 23 fun K t=>?_;dsimp only[Y1,Y2,Y3];go_simp
    first | (have:=a;have k1:aa [A] wd (wd.setCell (U A j) (I fx)):=(aa.refl [A] wd).setCell (p:=(U A j)) (.inl (by simp)) _) | have k1:aa [A] wd (wd.setCell (U A j) (Value.string fx)):=(aa.refl [A] wd).setCell (p:=(U A j)) (.inl (by simp)) _
    have f:=J.o _ _ _ f k1 ap.o;have f3:=k1.cellEq cv (fun b=>bd.o _ b (by simp))
    first | (have:=a;have es:(wd.setCell (U A j) (I fx)).frozen? (U O j)=false:=k1.frozenEq cv (vf _) (fun b=>bd.o _ b (by simp))) | have es:(wd.setCell (U A j) (Value.string fx)).frozen? (U O j)=false:=k1.frozenEq cv (vf _) (fun b=>bd.o _ b (by simp))
    refine t _ _ (.inr f) ?_;clear t K ck kf
    try simp only[PT,Y1,Y2,Y3]
    refine ord [24] ?_
    (refine tq f ?_;try simp only[PT,Y1,Y2,Y3])
    refine av ?_;refine J1 25 fun K t=>?_;dsimp only[Y1,Y2,Y3];go_simp
    first | (have:=a;have k2:aa [O] (wd.setCell (U A j) (I fx)) ((wd.setCell (U A j) (I fx)).setCell (U O j) (Value.slice fA fn fc)):=(aa.refl [O] _).setCell (p:=(U O j)) (.inl (by simp)) _) | have k2:aa [O] (wd.setCell (U A j) (Value.string fx)) ((wd.setCell (U A j) (Value.string fx)).setCell (U O j) (I fy)):=(aa.refl [O] _).setCell (p:=(U O j)) (.inl (by simp)) _
    have f:=J.o _ _ _ f k2 b0.o;refine t _ _ (.inr f) ?_;clear t K
    try simp only[PT,Y1,Y2,Y3]
    refine JD ?_
    first | (have:=a;have d:=bZ (let N:=C.o.X.set1 (i:=j) (by rw[l1.o];omega) (by rw[l2.o];omega) (I fx) (Value.slice fA fn fc);C.o.stX N.1 N.2 (fun y hy=>bf.2 (by simp only[Db,Dw,or_false] at hy;rcases hy with rfl | rfl<;>simp[fb])) (fun x hx=>.inl hx))) | (have d:=bZ (let N:=C.o.X.set1 (i:=j) (by rw[l1.o];omega) (by rw[l2.o];omega) (Value.string fx) (I fy);C.o.stX N.1 N.2 (fun y hy=>bf.2 (by simp only[Db,Dw,or_false] at hy;rcases hy with rfl | rfl<;>simp[fb])) (fun x hx=>.inl hx)))
    first | (have:=a;obtain⟨w2,d7⟩:∃x,x=(wd.setCell (U A j) (I fx)).setCell (U O j) (Value.slice fA fn fc):=⟨_,rfl⟩) | obtain⟨w2,d7⟩:∃x,x=(wd.setCell (U A j) (Value.string fx)).setCell (U O j) (I fy):=⟨_,rfl⟩
    rw[<-d7] at d ⊢;clear d7 C f J ap b0 bd k1 k2 cv vf f3 es
    as_aux_lemma=>
     have C:=bZ d.o.drew;obtain⟨hN,bl,cc,c5⟩:=C.o.ls;have NX:=C.o.R.num r1.o r2.o r3.o;have f:w2.drew.cell? (U r 0)=G (V rk) (m+1) a1/\w2.drew.cell? (U r 1)=G (V rv) (m+1) a4:=⟨NX.1.cell 0,NX.1.cell 1⟩;have RK:=bZ NX.2.1;have RV:=bZ NX.2.2.1;have L:=bZ NX.1;have ap:Z (∀y∈[rk],y∉[r,rv]):=bZ (cG hN 8 [7,9] rfl rfl (by decide));have b0:Z (∀y∈[rv],y∉[r,rk]):=bZ (cG hN 9 [7,8] rfl rfl (by decide));clear hN bl cc c5 NX d;go_wp2_with fail;refine bj (by kernel_rfl) ?_;refine JW 1 ?_
     try simp only[PT,Y1,Y2,Y3]
     refine bu (S:=(fun w':World=>w'.cell? (U r 0)=G (V rk) (m+1) a1/\w'.cell? (U r 1)=G (V rv) (m+1) a4)) (n:=14) _ _ _ _ ?_;generalize w2.drew=wd at*;refine ord [0,2,3,4,5,7,8,9,10] ?_
     iterate 9 (refine tq f ?_;try simp only[PT,Y1,Y2,Y3])
     refine av ?_;refine J1 6 fun K t=>?_;dsimp only[Y1,Y2,Y3];go_simp
     first | (have:=a;refine(Et (cw.1 _ rk (0) (1) (m) (m+1) (m) a1 (kr) r1.o rfl (by omega) (by omega) RK.o co.o (by omega)) ?_)) | refine(Et (cw.2.2.2.1 _ rk (0) (1) (m) (m+1) (m) a1 (kr) r1.o rfl (by omega) (by omega) RK.o co.o (by omega)) ?_)
     rintro e w4 ⟨rfl,o1,k1⟩;have f:w4.cell? (U r 0)=G (V rk) (m+1) a1/\w4.cell? (U r 1)=G (V rv) (m+1) a4:=⟨k1.o.cellEq f.1 (fun b=>ap.o _ b (by simp)),k1.o.cellEq f.2 (fun b=>ap.o _ b (by simp))⟩;replace RV:=bZ (aq RV.o k1.o (fun y hy b=>ap.o y hy (by rw[show fb (V rv)=[rv] from rfl,CZ] at b;rw[b];simp)));replace L:=bZ (L.o.keep k1.o (fun b=>ap.o _ b (by simp)));refine t _ _ (.inr f) ?_;clear t K RK
     try simp only[PT,Y1,Y2,Y3]
     refine J1 11 fun K t=>?_;dsimp only[Y1,Y2,Y3];go_simp
     first | (have:=a;refine(Et (cw.2.1 _ rv (0) (1) (m) (m+1) (m) a4 (vr) r2.o rfl (by omega) (by omega) RV.o cp.o (by omega)) ?_)) | refine(Et (cw.1 _ rv (0) (1) (m) (m+1) (m) a4 (vr) r2.o rfl (by omega) (by omega) RV.o cp.o (by omega)) ?_)
     rintro e w5 ⟨rfl,o2,k2⟩;have f:w5.cell? (U r 0)=G (V rk) (m+1) a1/\w5.cell? (U r 1)=G (V rv) (m+1) a4:=⟨k2.o.cellEq f.1 (fun b=>b0.o _ b (by simp)),k2.o.cellEq f.2 (fun b=>b0.o _ b (by simp))⟩;replace L:=bZ (L.o.keep k2.o (fun b=>b0.o _ b (by simp)));have d3:=L.o.cell 0;have d4:=L.o.cell 1;have xf:=L.o.frozen;refine t _ _ (.inr f) ?_;clear t K RV
     try simp only[PT,Y1,Y2,Y3]
     refine ord [12,13] ?_
     iterate 2 (refine tq f ?_;try simp only[PT,Y1,Y2,Y3])
     refine av ?_;refine JQ 14 ?_
     try simp only[PT,Y1,Y2,Y3]
     refine JQ 15 ?_
     try simp only[PT,Y1,Y2,Y3]
     refine JQ 16 ?_
     try simp only[PT,Y1,Y2,Y3]
     refine JQ 17 ?_
     try simp only[PT,Y1,Y2,Y3]
     refine JD ?_;have d:=bZ (let N:=C.o.R.two (ks':=(kr).eraseIdx (0)) (vs':=(vr).eraseIdx (0)) (n':=m) (by rw[DT,r1.o,if_pos (by omega)];omega) (by rw[DT,r2.o,if_pos (by omega)];omega) o1.o k1.o (fun g hg=>.inl hg) o2.o k2.o (fun g hg=>.inl hg);C.o.stR N.1 N.2.1 bV N.2.2);clear o1 o2 k1 k2 f ap b0;obtain⟨w3,d2⟩:∃x,x=(w5.setCell (U r 0) (.slice (V rk) (m) a1)).setCell (U r 1) (.slice (V rv) (m) a4):=⟨_,rfl⟩;rw[<-d2] at d ⊢;clear d2 d3 d4 xf L C
     as_aux_lemma=>
      clear fv fz i1 i2 i3 i5 g0
      first | (have:=a;have bk:=bM.1 w3 r _ _ cr _ d.o.R.at_ (by rw[r3.o];omega)) | (have bk:=bM.2 w3 r _ _ cr _ d.o.R.at_ (by rw[r3.o];omega))
      rw[r3.o] at bk;unfold ptr at bk;rcases b4 with ⟨e0,e1⟩ | e0
      ·subst e0 e1;rw[show decide ((0:Nat)=0)=true from rfl] at bk;go_wp2_with fail;refine bk.mono ?_;rintro e w' ⟨rfl,rfl⟩;clear bk;go_wp2_with fail
       first | (have:=a;refine bodyPost_ret (v:=.tuple #[]) (by simp[results,Tryz.results185,go_sem]) rfl ?_) | refine bodyPost_ret (v:=.tuple #[]) (by simp[results,Tryz.results189,go_sem]) rfl ?_
       obtain rfl:cq=[]:=Dh m3.o;obtain rfl:cr=[]:=Dh r3.o;exact⟨_,_,_,_,_,_,_,_,_,_,_,_,_,_,_,_,_,_,_,_,_,_,rfl,c7.o,c3.o,c8.o,c4.o,bZ d.o⟩
      subst e0;rw[show decide (m+2=0)=false from by simp] at bk;obtain⟨z,hz⟩:∃z,cr[0]? =some z:=⟨_,CT (by rw[r3.o];omega)⟩;obtain⟨rc,c9,e9,_⟩:=ax d.o.R.rc (by rw[r3.o];omega);injection e9 with e8 _ e9;subst e8 e9;replace hz:=bZ hz;go_wp2_with fail;refine bk.mono ?_;rintro e w' ⟨rfl,rfl⟩;clear bk;go_wp2_with fail;have C:=bZ d.o.drew;obtain⟨hN,bl,cc,c5⟩:=C.o.ls;have d0:w3.drew.cell? (U q 2)=G a8 dq b8:=by have:=C.o.Q.blk.cell 2;rw[m3.o] at this;exact this
      have e6:w3.drew.cell? (U r 2)=G (V rc) (m+2) ak:=by have:=C.o.R.blk.cell 2;rw[r3.o] at this;exact this
      first | (have:=a;have d6:w3.drew.ownsRow 0 202 1 (.slice (V rc) (m+2) ak) (m+2) (cr.map ptr):=by have:=C.o.R.rc;rw[r3.o] at this;exact this) | (have d6:w3.drew.ownsRow 0 248 1 (.slice (V rc) (m+2) ak) (m+2) (cr.map ptr):=by have:=C.o.R.rc;rw[r3.o] at this;exact this)
      have f:w3.drew.cell? (U q 2)=G a8 dq b8/\w3.drew.cell? (U r 2)=G (V rc) (m+2) ak/\w3.drew.cell? (U rc 0)=some (.pointer (V z)):=⟨d0,e6,aj d6 (by rw[De,hz.o];rfl)⟩
      first | (have:=a;have RC:Z (w3.drew.ownsRow 0 202 1 (.slice a8 dq b8) dq ((cq).map ptr)):=bZ (by have:=C.o.Q.rc;rw[m3.o] at this;exact this)) | (have RC:Z (w3.drew.ownsRow 0 248 1 (.slice a8 dq b8) dq ((cq).map ptr)):=bZ (by have:=C.o.Q.rc;rw[m3.o] at this;exact this))
      have e3:Z (∀y∈fb a8,y∉[q,r,rc]):=bZ (fun y hy b=>by
       simp only[Db,Dw,or_false] at b;rcases b with rfl | rfl | rfl
       ·exact bl _ hy (by simp)
       ·exact bl _ hy (by simp)
       exact c5 _ hy (by simp[fb]))
      have J:Z (∀(W P:World) (Y:List Nat),(W.cell? (U q 2)=G a8 dq b8/\W.cell? (U r 2)=G (V rc) (m+2) ak/\W.cell? (U rc 0)=some (.pointer (V z)))->aa Y W P->(∀y∈Y,y∉[q,r,rc])->(P.cell? (U q 2)=G a8 dq b8/\P.cell? (U r 2)=G (V rc) (m+2) ak/\P.cell? (U rc 0)=some (.pointer (V z)))):=bZ (fun W P Y h1 h2 h3=>⟨h2.cellEq h1.1 (fun b=>h3 _ b (by simp)),h2.cellEq h1.2.1 (fun b=>h3 _ b (by simp)),h2.cellEq h1.2.2 (fun b=>h3 _ b (by simp))⟩);clear hN bl cc c5 d d0 e6 d6;go_wp2_with fail;refine ad (S:=(fun w':World=>w'.cell? (U q 2)=G a8 dq b8/\w'.cell? (U r 2)=G (V rc) (m+2) ak/\w'.cell? (U rc 0)=some (.pointer (V z)))) (n:=15) (by kernel_rfl) ?_;generalize w3.drew=wd at*;obtain⟨wc,s⟩:∃x,x=wd:=⟨_,rfl⟩;have Ka:Z (aa [] wd wc):=bZ (by rw[s];exact aa.refl _ _);rw[<-s] at RC f ⊢;clear s;refine ord [0,1,2,3,4,5,6,7,8,9,10] ?_
      iterate 11 (refine tq f ?_;try simp only[PT,Y1,Y2,Y3])
      refine av ?_;refine J1 11 fun K t=>?_;dsimp only[Y1,Y2,Y3];go_simp;obtain⟨b1,b9⟩:∃g,g=wc.heap.size:=⟨_,rfl⟩
      first | (have:=a;have E:aa [] wc (wc.alloc (.cells #[.pointer (V z)] 202)):=(aa.refl [] wc).alloc _) | have E:aa [] wc (wc.alloc (.cells #[.pointer (V z)] 248)):=(aa.refl [] wc).alloc _
      first | (have:=a;have B1:=bZ (Blk.new wc 202 #[.pointer (V z)])) | have B1:=bZ (Blk.new wc 248 #[.pointer (V z)])
      have gd:Z (b1∉fb a8):=bZ (fun b=>by have:=(aw RC.o b).2.1;omega);replace RC:=bZ (ab RC.o E);have Kb:=bZ (Ka.o.trans E);have f:=J.o _ _ [] f E (by simp);refine t _ _ (.inr f) ?_;clear t K E;rw[<-b9] at B1 ⊢
      first | (have:=a;generalize wc.alloc (.cells #[.pointer (V z)] 202)=M at*) | generalize wc.alloc (.cells #[.pointer (V z)] 248)=M at*
      obtain⟨w3,d2⟩:∃x,x=M:=⟨_,rfl⟩;subst d2;clear b9
      try simp only[PT,Y1,Y2,Y3]
      refine J1 12 fun K t=>?_;dsimp only[Y1,Y2,Y3]
      first | (have:=a;refine am (.tmp 283) (.tmp 290) 208 (by rfl) 0 202 dc (.pointer none) 1 8 Tryz.underlying208 hp.o cn.o cl.o cm.o rfl (by decide) (.slice a8 dq b8) (dq) ((cq).map ptr) (by rfl) RC.o (V b1) 1 _ [.pointer (V z)] (by rfl) rfl (by have:=aI (off:=0) (l:=[.pointer (V z)]) B1.o (by simp) 1;exact this) (by simp[Value.oneCell']) (by unfold maxLen;omega) (by omega) (C3 _) ?_) | (refine am (.tmp 283) (.tmp 290) 252 (by rfl) 0 248 dc (.pointer none) 1 8 Tryz.underlying252 hp.o cn.o cl.o cm.o rfl (by decide) (.slice a8 dq b8) (dq) ((cq).map ptr) (by rfl) RC.o (V b1) 1 _ [.pointer (V z)] (by rfl) rfl (by have:=aI (off:=0) (l:=[.pointer (V z)]) B1.o (by simp) 1;exact this) (by simp[Value.oneCell']) (by unfold maxLen;omega) (by omega) (C3 _) ?_)
      intro v4 w4 q1 q2 q3 q4;obtain⟨ep,fs,rfl,o,k,nf⟩:=dz q1 q2 q4;clear q1 q2 q3 q4;have f:=J.o _ _ _ f k.o e3.o;have k1:Z (aa (fb a8) wd w4):=bZ (Kb.o.nil.trans k.o);have n1:Z (∀g∈fb ep,g∈fb a8\/wd.heap.size<=g):=bZ (fun g hg=>(nf.o g hg).imp_right (fun h=>Dc Kb.o.size h));have QB:=C.o.Q.blk.keep k1.o (aW.1 C.o.Q.nd).1.2.2;have qb:=QB.cell 2;have qf:=QB.frozen;clear QB;refine t _ _ (.inr f) ?_;clear t K k nf RC B1
      try simp only[PT,Y1,Y2,Y3]
      refine ord [13,14] ?_
      iterate 2 (refine tq f ?_;try simp only[PT,Y1,Y2,Y3])
      refine av ?_;refine JQ 15 ?_
      try simp only[PT,Y1,Y2,Y3]
      refine JD ?_;have d:=bZ (let N:=C.o.Q.kids (cs':=cq++[z]) (n':=dq+1) (by simp[m3.o]) (by have h:=o.o;simp[ptr] at h ⊢;exact h) k1.o n1.o;C.o.stQ N.1 N.2.1 eP N.2.2);obtain⟨w4,eg⟩:∃x,x=w4.setCell (U q 2) (.slice ep (dq+1) fs):=⟨_,rfl⟩;rw[<-eg] at d ⊢;clear eg qb qf C o k1 n1 f J e3 Ka Kb
      as_aux_lemma=>
       have d0:w4.cell? (U r 2)=G (V rc) (m+2) ak:=by have:=d.o.R.blk.cell 2;rw[r3.o] at this;exact this
       first | (have:=a;have d1:w4.ownsRow 0 202 1 (.slice (V rc) (m+2) ak) (m+2) (cr.map ptr):=by have:=d.o.R.rc;rw[r3.o] at this;exact this) | (have d1:w4.ownsRow 0 248 1 (.slice (V rc) (m+2) ak) (m+2) (cr.map ptr):=by have:=d.o.R.rc;rw[r3.o] at this;exact this)
       first | (have:=a;have D:=cw.2.2.1 w4 rc 0 1 (m+1) (m+2) (m+1) ak (cr.map ptr) (by rw[Df,r3.o]) rfl (by omega) (by omega) d1 (fun v hv=>by obtain⟨c,_,rfl⟩:=Dt.1 hv;rfl) (by omega)) | (have D:=cw.2.2.2.2 w4 rc 0 1 (m+1) (m+2) (m+1) ak (cr.map ptr) (by rw[Df,r3.o]) rfl (by omega) (by omega) d1 (fun v hv=>by obtain⟨c,_,rfl⟩:=Dt.1 hv;rfl) (by omega))
       rw[show ((0:Nat):Int)=0 from rfl,show ((1:Nat):Int)=1 from rfl] at D;have fr:Z (r≠rc):=bZ (fun e=>(aW.1 d.o.R.nd).1.2.2 (by simp[fb,e]));have L:=bZ d.o.R.blk;clear d1;go_wp2_with fail;refine D.mono ?_;clear D;rintro e w9 ⟨rfl,o,k⟩;have X9:=L.o.keep k.o (by simp[fr.o]);have gs:=X9.cell 2;have gt:=X9.frozen;clear X9 L d0;have e7:=bZ (let N:=d.o.R.kids (cs':=cr.eraseIdx 0) (n':=m+1) (by rw[DT,r3.o,if_pos (by omega)];omega) (by have:=o.o;rwa [lG] at this) k.o (fun g hg=>.inl hg);d.o.stR N.1 N.2.1 eP N.2.2);clear d o k;go_wp2_with fail
       first | (have:=a;refine bodyPost_ret (v:=.tuple #[]) (by simp[results,Tryz.results185,go_sem]) rfl ?_) | refine bodyPost_ret (v:=.tuple #[]) (by simp[results,Tryz.results189,go_sem]) rfl ?_
       have h:=e7.o;exact⟨_,_,_,_,_,_,_,_,_,_,_,_,_,_,_,_,_,_,_,_,_,_,rfl,c7.o,c3.o,c8.o,c4.o,bZ (by rw[hz.o];exact h)⟩
end Go.Proofs.YtmlmfpikncogpaaGreat
