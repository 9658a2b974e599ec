import Derived.Test.YtmlmfpikncogpaaGreatL13
namespace Go.Proofs.YtmlmfpikncogpaaGreat
open Go.RowKit
set_option linter.unusedSimpArgs false
set_option linter.unusedVariables false
set_option maxRecDepth 100000
set_option maxHeartbeats 16000000
def iz:=fun O K (o:Value->Prop) (s:Value->Prop) p7=>∀(w:World) (J p q r j a b f m n:Nat) (L M:Value) (W X T P Q R S:Nat) (t z:Option Addr) (E H D x y u B C A:Nat) (e i c g d h:List Value) (cs k l F:List Nat)
 (hT:Blk w J O #[L,I 16,M]) (N:aE K w w p q r (V W) (V X) (V T) (V P) (V Q) t (V R) (V S) z E H D x y u B C A e i c g d h cs k l F)
 (l1:e.length=b) (l2:i.length=b) (l3:cs.length=b+1) (m1:c.length=a+1) (m2:g.length=a+1) (m3:k.length=m) (r1:d.length=f) (r2:h.length=f) (r3:l.length=n)
 (hj:j<b) (hq:cs[j]? =some q) (hr:cs[j+1]? =some r) (Y:b<=100) (b2:7<=a/\a<=100) (b3:1<=f/\f<=100/\n<=100) (b4:m=0/\n=0\/m=a+2)
 (f1:∀v∈e,o v) (f2:∀v∈i,s v) (f3:∀v∈d,o v) (f4:∀v∈h,s v) (f5:∀v∈c,o v) (f6:∀v∈g,s v),Calls Tryz.prog p7 #[ptr J,ptr p,I ((j:Int)+1)] w (zD K w p q r e i c g d h cs k l j a F)
theorem kS:iz 204 tyI cX dk 185/\iz 250 tyS dP dW 189:=by
 refine⟨?_,?_⟩;have a:=trivial;rotate_left;rotate_left
 all_goals
  intro w bt p q r j b nx lr dq dr c0 c2 t L xc qk qv rk rv e4 a6 P T d3 O a1 a7 a8 a9 b8 ks vs kq vq kr vr cs cq cr F hT f l1 l2 l3 m1 m2 m3 r1 r2 r3 hj hq hr b1 b2 b3 b4 f1 f2 f3 f4 f5 f6
  first | (have:=a;obtain⟨ep,hk,cm,cj,cl⟩:=info_parts kH) | obtain⟨ep,hk,cm,cj,cl⟩:=info_parts infoS
  first | (have:=a;obtain⟨es,hv,d1,ct,d0⟩:=info_parts pg) | obtain⟨es,hv,d1,ct,d0⟩:=info_parts kH
  first | (have:=a;obtain⟨er,hp,cp,cn,co⟩:=info_parts pi) | obtain⟨er,hp,cp,cn,co⟩:=info_parts ph
  obtain⟨e7,bp⟩:∃e,ks[j]? =some e:=⟨_,CT (by omega)⟩;obtain⟨d4,bi⟩:∃e,vs[j]? =some e:=⟨_,CT (by omega)⟩;obtain⟨ex,rfl⟩:=f1 e7 (CW bp)
  first | (have:=a;obtain⟨eA,en,ec,rfl⟩:=f2 d4 (CW bi)) | obtain⟨ey,rfl⟩:=f2 d4 (CW bi)
  obtain⟨eg,bs⟩:∃e,kq[b]? =some e:=⟨_,CT (by omega)⟩;obtain⟨d5,bk⟩:∃e,vq[b]? =some e:=⟨_,CT (by omega)⟩;obtain⟨fx,rfl⟩:=f5 eg (CW bs)
  first | (have:=a;obtain⟨fA,fn,fc,rfl⟩:=f6 d5 (CW bk)) | obtain⟨fy,rfl⟩:=f6 d5 (CW bk)
  first | (have:=a;have b6:Z (∀v∈kr,v.oneCell'=true):=bZ (fun v hv=>dQ (f3 v hv))) | have b6:Z (∀v∈kr,v.oneCell'=true):=bZ (fun v hv=>dO (f3 v hv))
  first | (have:=a;have b7:Z (∀v∈vr,v.oneCell'=true):=bZ (fun v hv=>dN (f4 v hv))) | have b7:Z (∀v∈vr,v.oneCell'=true):=bZ (fun v hv=>dM (f4 v hv))
  first | (have:=a;have c7:Z (∀v∈kq,v.oneCell'=true):=bZ (fun v hv=>dQ (f5 v hv))) | have c7:Z (∀v∈kq,v.oneCell'=true):=bZ (fun v hv=>dO (f5 v hv))
  first | (have:=a;have c8:Z (∀v∈vq,v.oneCell'=true):=bZ (fun v hv=>dN (f6 v hv))) | have c8:Z (∀v∈vq,v.oneCell'=true):=bZ (fun v hv=>dM (f6 v hv))
  clear f1 f2 f3 f4 f5 f6;have i1:(j:Int)<(nx:Int):=by omega
  have i2:(j:Int)+1<(nx:Int)+1:=by omega
  have i3:(j:Int)<(nx:Int)+1:=by omega
  have i4:(0:Int)<(j:Int)+1:=by omega
  have i5:(7:Int)<(b:Int)+1:=by omega
  have i6:(b:Int)<(b:Int)+1:=by omega
  have i7:(b:Int)+1<(b:Int)+2:=by omega
  have i8:(0:Int)<=(b:Int)+1:=by omega
  have wj:IntKind.i64.wrap (j:Int)=(j:Int):=C0 _ (by omega);have fe:IntKind.i64.wrap ((j:Int)+1 - 1)=(j:Int):=by rw[C0 _ (by omega)];omega
  have wn:IntKind.i64.wrap (b:Int)=(b:Int):=C0 _ (by omega);have fz:IntKind.i64.wrap ((b:Int)+1)=(b:Int)+1:=C0 _ (by omega);have g0:IntKind.i64.wrap ((b:Int)+2)=(b:Int)+2:=C0 _ (by omega);have g1:IntKind.i64.wrap ((b:Int)+1 - 1)=(b:Int):=by rw[C0 _ (by omega)];omega
  have NX:=f.X.num l1 l2 l3;have x2:=NX.1.cell 2;have xq:=aj NX.2.2.2 (j:=j) (u:=.pointer (V q)) (by rw[De,hq];rfl);have xr:=aj NX.2.2.2 (j:=j+1) (u:=.pointer (V r)) (by rw[De,hr];rfl);have q0:=(f.Q.numk m1).1
  first | (have:=a;have CL:∀n,Calls Tryz.prog 184 #[.pointer (V bt)] (w.drewN n) fun e w'=>e=.returned (I 7)/\w.drewN n=w':=fun n=>ie (w.drewN n) bt c0 c2 ((hT.keep ((aa.refl [] w).drewN n) (by simp)).cell 1)) | have CL:∀n,Calls Tryz.prog 188 #[.pointer (V bt)] (w.drewN n) fun e w'=>e=.returned (I 7)/\w.drewN n=w':=fun n=>ic (w.drewN n) bt c0 c2 ((hT.keep ((aa.refl [] w).drewN n) (by simp)).cell 1)
  have fi:∀n,(w.drewN n).cell? (U p 2)=G (V xc) (nx+1) d3:=fun n=>x2;have fk:∀n,(w.drewN n).cell? (U xc j)=some (.pointer (V q)):=fun n=>xq;have fd:∀n,(w.drewN n).cell? (U q 0)=G (V qk) (b+1) O:=fun n=>q0;clear NX hT;replace f:=bZ f;replace l1:=bZ l1;replace l2:=bZ l2;replace l3:=bZ l3;replace m1:=bZ m1;replace m2:=bZ m2;replace m3:=bZ m3;replace r1:=bZ r1;replace r2:=bZ r2;replace r3:=bZ r3;replace hq:=bZ hq;replace hr:=bZ hr;replace bp:=bZ bp;replace bi:=bZ bi;replace bs:=bZ bs;replace bk:=bZ bk;replace CL:=bZ CL;replace hk:=bZ hk;replace cm:=bZ cm;replace cj:=bZ cj;replace cl:=bZ cl;replace hv:=bZ hv;replace d1:=bZ d1;replace ct:=bZ ct;replace d0:=bZ d0;replace hp:=bZ hp;replace cp:=bZ cp;replace cn:=bZ cn;replace co:=bZ co;unfold ptr
  first | (have:=a;go_enter Tryz.func185,Tryz.ntmps185) | go_enter Tryz.func189,Tryz.ntmps189
  go_wp2_with fail;go_quiet (with_reducible exact bw (CL.o _));go_wp2_with fail;obtain⟨wa,ds⟩:∃x,x=w.drewN nq:=⟨_,rfl⟩;replace f:=bZ (f.o.keep0 ((aa.refl [] w).drewN nq));rw[<-ds] at f ⊢;clear ds x2 xq xr q0 fi fk fd CL;have B:=bZ f.o.drew;obtain⟨hN,c4,bh,bn⟩:=B.o.ls;have NZ:=B.o.R.num r1.o r2.o r3.o;have NX:=B.o.X.num l1.o l2.o l3.o
  first | (have:=a;have l:wa.drew.cell? (U r 0)=G (V rk) lr a8/\wa.drew.cell? (U r 1)=G (V rv) lr a9/\wa.drew.cell? (U p 0)=G (V t) nx P/\wa.drew.cell? (U p 1)=G (V L) nx T/\wa.drew.cell? (U t j)=some (I ex)/\wa.drew.cell? (U L j)=some (Value.slice eA en ec):=⟨NZ.1.cell 0,NZ.1.cell 1,NX.1.cell 0,NX.1.cell 1,aj NX.2.1 bp.o,aj NX.2.2.1 bi.o⟩) | have l:wa.drew.cell? (U r 0)=G (V rk) lr a8/\wa.drew.cell? (U r 1)=G (V rv) lr a9/\wa.drew.cell? (U p 0)=G (V t) nx P/\wa.drew.cell? (U p 1)=G (V L) nx T/\wa.drew.cell? (U t j)=some (Value.string ex)/\wa.drew.cell? (U L j)=some (I ey):=⟨NZ.1.cell 0,NZ.1.cell 1,NX.1.cell 0,NX.1.cell 1,aj NX.2.1 bp.o,aj NX.2.2.1 bi.o⟩
  have RK:=bZ NZ.2.1;have RV:=bZ NZ.2.2.1;have H:=bZ NZ.1;have a5:Z (∀x,x∈fb (V rk)\/x∈fb (V rv)->x<wa.drew.heap.size):=bZ (fun x hx=>hx.elim (fun h=>(aw NZ.2.1 h).2.1) (fun h=>(aw NZ.2.2.1 h).2.1));have bb:Z (∀y∈fb (V rk),y∉fb (V rv)):=bZ (cG hN 8 [9] rfl rfl (by decide));have ak:Z (∀y∈fb (V rk),y∉[r,p,t,L]):=bZ (cG hN 8 [7,0,1,2] rfl rfl (by decide));have ap:Z (∀y∈fb (V rv),y∉[r,p,t,L]):=bZ (cG hN 9 [7,0,1,2] rfl rfl (by decide))
  first | (have:=a;have E:Z (∀(W M:World) (Y:List Nat),(W.cell? (U r 0)=G (V rk) lr a8/\W.cell? (U r 1)=G (V rv) lr a9/\W.cell? (U p 0)=G (V t) nx P/\W.cell? (U p 1)=G (V L) nx T/\W.cell? (U t j)=some (I ex)/\W.cell? (U L j)=some (Value.slice eA en ec))->aa Y W M->(∀y∈Y,y∉[r,p,t,L])->(M.cell? (U r 0)=G (V rk) lr a8/\M.cell? (U r 1)=G (V rv) lr a9/\M.cell? (U p 0)=G (V t) nx P/\M.cell? (U p 1)=G (V L) nx T/\M.cell? (U t j)=some (I ex)/\M.cell? (U L j)=some (Value.slice eA en ec))):=bZ (fun W M Y h1 h2 h3=>⟨h2.cellEq h1.1 (fun d=>h3 _ d (by simp)),h2.cellEq h1.2.1 (fun d=>h3 _ d (by simp)),h2.cellEq h1.2.2.1 (fun d=>h3 _ d (by simp)),h2.cellEq h1.2.2.2.1 (fun d=>h3 _ d (by simp)),h2.cellEq h1.2.2.2.2.1 (fun d=>h3 _ d (by simp)),h2.cellEq h1.2.2.2.2.2 (fun d=>h3 _ d (by simp))⟩)) | have E:Z (∀(W M:World) (Y:List Nat),(W.cell? (U r 0)=G (V rk) lr a8/\W.cell? (U r 1)=G (V rv) lr a9/\W.cell? (U p 0)=G (V t) nx P/\W.cell? (U p 1)=G (V L) nx T/\W.cell? (U t j)=some (Value.string ex)/\W.cell? (U L j)=some (I ey))->aa Y W M->(∀y∈Y,y∉[r,p,t,L])->(M.cell? (U r 0)=G (V rk) lr a8/\M.cell? (U r 1)=G (V rv) lr a9/\M.cell? (U p 0)=G (V t) nx P/\M.cell? (U p 1)=G (V L) nx T/\M.cell? (U t j)=some (Value.string ex)/\M.cell? (U L j)=some (I ey))):=bZ (fun W M Y h1 h2 h3=>⟨h2.cellEq h1.1 (fun d=>h3 _ d (by simp)),h2.cellEq h1.2.1 (fun d=>h3 _ d (by simp)),h2.cellEq h1.2.2.1 (fun d=>h3 _ d (by simp)),h2.cellEq h1.2.2.2.1 (fun d=>h3 _ d (by simp)),h2.cellEq h1.2.2.2.2.1 (fun d=>h3 _ d (by simp)),h2.cellEq h1.2.2.2.2.2 (fun d=>h3 _ d (by simp))⟩)
  clear hN c4 bh bn NZ NX f;have c3:Z (r∉fb (V rk)/\r∉fb (V rv)):=bZ ⟨(aW.1 B.o.R.nd).1.1,(aW.1 B.o.R.nd).1.2.1⟩;go_wp2_with fail
  first | (have:=a;go_cut [] (fun wx=>∃a3 ar a4 b0,Z (aE tyI w wx p q r (V t) (V L) (V xc) (V qk) (V qv) e4 a3 a4 a6 P T d3 O a1 a7 ar b0 b8 ks vs kq vq ((kr).take (0)++(I ex)::(kr).drop (0)) ((vr).take (0)++(Value.slice eA en ec)::(vr).drop (0)) cs cq cr F))) | go_cut [] (fun wx=>∃a3 ar a4 b0,Z (aE tyS w wx p q r (V t) (V L) (V xc) (V qk) (V qv) e4 a3 a4 a6 P T d3 O a1 a7 ar b0 b8 ks vs kq vq ((kr).take (0)++(Value.string ex)::(kr).drop (0)) ((vr).take (0)++(I ey)::(vr).drop (0)) cs cq cr F))
  case first=>
   as_aux_lemma=>
    refine bj (by kernel_rfl) ?_;refine JW 1 ?_
    try simp only[PT,Y1,Y2,Y3]
    first | (have:=a;refine bu (S:=(fun w':World=>w'.cell? (U r 0)=G (V rk) lr a8/\w'.cell? (U r 1)=G (V rv) lr a9/\w'.cell? (U p 0)=G (V t) nx P/\w'.cell? (U p 1)=G (V L) nx T/\w'.cell? (U t j)=some (I ex)/\w'.cell? (U L j)=some (Value.slice eA en ec))) (n:=32) _ _ _ _ ?_) | refine bu (S:=(fun w':World=>w'.cell? (U r 0)=G (V rk) lr a8/\w'.cell? (U r 1)=G (V rv) lr a9/\w'.cell? (U p 0)=G (V t) nx P/\w'.cell? (U p 1)=G (V L) nx T/\w'.cell? (U t j)=some (Value.string ex)/\w'.cell? (U L j)=some (I ey))) (n:=32) _ _ _ _ ?_
    generalize wa.drew=wd at*;obtain⟨wc,m⟩:∃x,x=wd:=⟨_,rfl⟩;have Ka:Z (aa [] wd wc):=bZ (by rw[m];exact aa.refl _ _);rw[<-m] at RK RV H l ⊢;clear m;refine ord [0,2,3,4,5,6,7,8,9,10,11,12,13,16,17,18,19,20,21,22,23,24,25,26,27] ?_
    iterate 25 (refine tq l ?_;try simp only[PT,Y1,Y2,Y3])
    refine av ?_;refine cK (i:=14) (j:=28) rfl rfl (by kernel_rfl) (fun K s=>?_) (fun K s=>?_)
    ·dsimp only[Y1,Y2,Y3];go_simp;obtain⟨b1,b9⟩:∃g,g=wc.heap.size:=⟨_,rfl⟩;have c5:Z (wd.heap.size<=b1):=bZ (by rw[b9];exact Ka.o.size)
     first | (have:=a;have a2:=bZ (Blk.new wc 2 #[I ex])) | have a2:=bZ (Blk.new wc 9 #[Value.string ex])
     first | (have:=a;have C:aa [] wc (wc.alloc (.cells #[I ex] 2)):=(aa.refl [] wc).alloc _) | have C:aa [] wc (wc.alloc (.cells #[Value.string ex] 9)):=(aa.refl [] wc).alloc _
     replace Ka:=bZ (Ka.o.trans C);replace RK:=bZ (ab RK.o C);replace RV:=bZ (ab RV.o C);replace H:=bZ (H.o.keep C (by simp));have l:=E.o _ _ [] l C (by simp);refine s _ _ (.inr l) ?_;clear s K C;rw[<-b9] at a2 ⊢
     first | (have:=a;generalize wc.alloc (.cells #[I ex] 2)=J at*) | generalize wc.alloc (.cells #[Value.string ex] 9)=J at*
     clear b9;obtain⟨wc,m⟩:∃x,x=J:=⟨_,rfl⟩;subst m
     try simp only[PT,Y1,Y2,Y3]
     refine cK (i:=15) (j:=28) rfl rfl (by kernel_rfl) (fun K s=>?_) (fun K s=>?_)
     ·dsimp only[Y1,Y2,Y3];go_simp
      first | (have:=a;have CC:=aP.1 wc (V rk) lr a8 (0) b1 (kr) (I ex) RK.o (C3 _) a2.o (fun d=>by have:=(a5.o _ (.inl d));have:=c5.o;omega) (by omega) b6.o rfl) | (have CC:=aP.2.2.2.1 wc (V rk) lr a8 (0) b1 (kr) (Value.string ex) RK.o (C3 _) a2.o (fun d=>by have:=(a5.o _ (.inl d));have:=c5.o;omega) (by omega) b6.o rfl)
      refine CC.mono ?_;clear CC;rintro e J ⟨a3,ar,rfl,o,k,nf⟩;have a0:Z (wd.heap.size<=wc.heap.size):=bZ Ka.o.size;have k1:Z (aa (fb (V rk)) wd J):=bZ (Ka.o.nil.trans k.o);have O1:=o;have b:Z (∀g∈fb a3,g∈fb (V rk)\/wd.heap.size<=g):=bZ (fun g hg=>(nf.o g hg).imp_right (fun h=>Dc a0.o h));have c6:Z (wd.heap.size<=J.heap.size):=bZ k1.o.size;obtain⟨ac,an⟩:∃x,x=J:=⟨_,rfl⟩;rw[<-an] at O1 k1 c6;have Kb:Z (aa [] ac J):=bZ (by rw[an];exact aa.refl _ _);replace RV:=bZ (aq RV.o k.o bb.o);replace H:=bZ (H.o.keep k.o c3.o.1);have l:=E.o _ _ _ l k.o ak.o;refine s _ _ (.inr l) ?_;clear s K o k nf RK an Ka a2 a0;obtain⟨wc,m⟩:∃x,x=J:=⟨_,rfl⟩;subst m
      try simp only[PT,Y1,Y2,Y3]
      refine J1 28 fun K s=>?_;dsimp only[Y1,Y2,Y3];go_simp;obtain⟨b2,b5⟩:∃g,g=wc.heap.size:=⟨_,rfl⟩;have ba:Z (wd.heap.size<=b2):=bZ (by rw[b5];exact Dc c6.o Kb.o.size)
      first | (have:=a;have A:=bZ (Blk.new wc 62 #[Value.slice eA en ec])) | have A:=bZ (Blk.new wc 2 #[I ey])
      first | (have:=a;have C:aa [] wc (wc.alloc (.cells #[Value.slice eA en ec] 62)):=(aa.refl [] wc).alloc _) | have C:aa [] wc (wc.alloc (.cells #[I ey] 2)):=(aa.refl [] wc).alloc _
      replace Kb:=bZ (Kb.o.trans C);replace RV:=bZ (ab RV.o C);replace H:=bZ (H.o.keep C (by simp));have l:=E.o _ _ [] l C (by simp);refine s _ _ (.inr l) ?_;clear s K C;rw[<-b5] at A ⊢
      first | (have:=a;generalize wc.alloc (.cells #[Value.slice eA en ec] 62)=J at*) | generalize wc.alloc (.cells #[I ey] 2)=J at*
      clear b5;obtain⟨wc,m⟩:∃x,x=J:=⟨_,rfl⟩;subst m
      try simp only[PT,Y1,Y2,Y3]
      refine J1 29 fun K s=>?_;dsimp only[Y1,Y2,Y3];go_simp
      first | (have:=a;have CC:=aP.2.1 wc (V rv) lr a9 (0) b2 (vr) (Value.slice eA en ec) RV.o (C3 _) A.o (fun d=>by have:=(a5.o _ (.inr d));have:=ba.o;omega) (by omega) b7.o rfl) | (have CC:=aP.1 wc (V rv) lr a9 (0) b2 (vr) (I ey) RV.o (C3 _) A.o (fun d=>by have:=(a5.o _ (.inr d));have:=ba.o;omega) (by omega) b7.o rfl)
      refine CC.mono ?_;clear CC;rintro e J ⟨a4,b0,rfl,o,k,nf⟩;have a0:Z (ac.heap.size<=wc.heap.size):=bZ Kb.o.size;have k2:Z (aa (fb (V rv)) ac J):=bZ (Kb.o.nil.trans k.o);have O2:=o;have n2:Z (∀g∈fb a4,g∈fb (V rv)\/ac.heap.size<=g):=bZ (fun g hg=>(nf.o g hg).imp_right (fun h=>Dc a0.o h));replace H:=bZ (H.o.keep k.o c3.o.2);have l:=E.o _ _ _ l k.o ap.o;have cd:=H.o.cell 0;have ch:=H.o.cell 1;have xf:=H.o.frozen;refine s _ _ (.inr l) ?_;clear s K o k nf RV Kb A a0;obtain⟨wc,m⟩:∃x,x=J:=⟨_,rfl⟩;subst m
      try simp only[PT,Y1,Y2,Y3]
      refine ord [30,31] ?_
      iterate 2 (refine tq l ?_;try simp only[PT,Y1,Y2,Y3])
      refine av ?_;refine JQ 32 ?_
      try simp only[PT,Y1,Y2,Y3]
      refine JQ 33 ?_
      try simp only[PT,Y1,Y2,Y3]
      refine JQ 34 ?_
      try simp only[PT,Y1,Y2,Y3]
      refine JQ 35 ?_
      try simp only[PT,Y1,Y2,Y3]
      refine JD ?_;go_wp2_with fail;go_meet
      first | (have:=a;exact⟨a3,ar,a4,b0,bZ (let N:=B.o.R.two (ks':=(kr).take (0)++(I ex)::(kr).drop (0)) (vs':=(vr).take (0)++(Value.slice eA en ec)::(vr).drop (0)) (n':=lr+1) (by simp[r1.o]) (by simp[r2.o]) O1.o k1.o b.o O2.o k2.o n2.o;B.o.stR N.1 N.2.1 bV N.2.2)⟩) | (exact⟨a3,ar,a4,b0,bZ (let N:=B.o.R.two (ks':=(kr).take (0)++(Value.string ex)::(kr).drop (0)) (vs':=(vr).take (0)++(I ey)::(vr).drop (0)) (n':=lr+1) (by simp[r1.o]) (by simp[r2.o]) O1.o k1.o b.o O2.o k2.o n2.o;B.o.stR N.1 N.2.1 bV N.2.2)⟩)
     dsimp only[Y1,Y2,Y3];go_simp;obtain⟨b2,b5⟩:∃g,g=wc.heap.size:=⟨_,rfl⟩;have ba:Z (wd.heap.size<=b2):=bZ (by rw[b5];exact Ka.o.size)
     first | (have:=a;have A:=bZ (Blk.new wc 62 #[Value.slice eA en ec])) | have A:=bZ (Blk.new wc 2 #[I ey])
     first | (have:=a;have C:aa [] wc (wc.alloc (.cells #[Value.slice eA en ec] 62)):=(aa.refl [] wc).alloc _) | have C:aa [] wc (wc.alloc (.cells #[I ey] 2)):=(aa.refl [] wc).alloc _
     replace Ka:=bZ (Ka.o.trans C);replace RK:=bZ (ab RK.o C);replace RV:=bZ (ab RV.o C);replace H:=bZ (H.o.keep C (by simp));replace a2:=bZ (a2.o.keep C (by simp));have l:=E.o _ _ [] l C (by simp);refine s _ _ (.inr l) ?_;clear s K C;rw[<-b5] at A ⊢
     first | (have:=a;generalize wc.alloc (.cells #[Value.slice eA en ec] 62)=J at*) | generalize wc.alloc (.cells #[I ey] 2)=J at*
     clear b5;obtain⟨wc,m⟩:∃x,x=J:=⟨_,rfl⟩;subst m
     try simp only[PT,Y1,Y2,Y3]
     refine J1 15 fun K s=>?_;dsimp only[Y1,Y2,Y3];go_simp
     first | (have:=a;have CC:=aP.1 wc (V rk) lr a8 (0) b1 (kr) (I ex) RK.o (C3 _) a2.o (fun d=>by have:=(a5.o _ (.inl d));have:=c5.o;omega) (by omega) b6.o rfl) | (have CC:=aP.2.2.2.1 wc (V rk) lr a8 (0) b1 (kr) (Value.string ex) RK.o (C3 _) a2.o (fun d=>by have:=(a5.o _ (.inl d));have:=c5.o;omega) (by omega) b6.o rfl)
     refine CC.mono ?_;clear CC;rintro e J ⟨a3,ar,rfl,o,k,nf⟩;have a0:Z (wd.heap.size<=wc.heap.size):=bZ Ka.o.size;have k1:Z (aa (fb (V rk)) wd J):=bZ (Ka.o.nil.trans k.o);have O1:=o;have b:Z (∀g∈fb a3,g∈fb (V rk)\/wd.heap.size<=g):=bZ (fun g hg=>(nf.o g hg).imp_right (fun h=>Dc a0.o h));have c6:Z (wd.heap.size<=J.heap.size):=bZ k1.o.size;obtain⟨ac,an⟩:∃x,x=J:=⟨_,rfl⟩;rw[<-an] at O1 k1 c6;have Kb:Z (aa [] ac J):=bZ (by rw[an];exact aa.refl _ _);replace RV:=bZ (aq RV.o k.o bb.o);replace H:=bZ (H.o.keep k.o c3.o.1);replace A:=bZ (A.o.keep k.o (fun d=>by have:=a5.o _ (.inl d);have:=ba.o;omega));have l:=E.o _ _ _ l k.o ak.o;refine s _ _ (.inr l) ?_;clear s K o k nf RK an Ka a2 a0;obtain⟨wc,m⟩:∃x,x=J:=⟨_,rfl⟩;subst m
     try simp only[PT,Y1,Y2,Y3]
     refine J1 29 fun K s=>?_;dsimp only[Y1,Y2,Y3];go_simp
     first | (have:=a;have CC:=aP.2.1 wc (V rv) lr a9 (0) b2 (vr) (Value.slice eA en ec) RV.o (C3 _) A.o (fun d=>by have:=(a5.o _ (.inr d));have:=ba.o;omega) (by omega) b7.o rfl) | (have CC:=aP.1 wc (V rv) lr a9 (0) b2 (vr) (I ey) RV.o (C3 _) A.o (fun d=>by have:=(a5.o _ (.inr d));have:=ba.o;omega) (by omega) b7.o rfl)
     refine CC.mono ?_;clear CC;rintro e J ⟨a4,b0,rfl,o,k,nf⟩;have a0:Z (ac.heap.size<=wc.heap.size):=bZ Kb.o.size;have k2:Z (aa (fb (V rv)) ac J):=bZ (Kb.o.nil.trans k.o);have O2:=o;have n2:Z (∀g∈fb a4,g∈fb (V rv)\/ac.heap.size<=g):=bZ (fun g hg=>(nf.o g hg).imp_right (fun h=>Dc a0.o h));replace H:=bZ (H.o.keep k.o c3.o.2);have l:=E.o _ _ _ l k.o ap.o;have cd:=H.o.cell 0;have ch:=H.o.cell 1;have xf:=H.o.frozen;refine s _ _ (.inr l) ?_;clear s K o k nf RV Kb A a0;obtain⟨wc,m⟩:∃x,x=J:=⟨_,rfl⟩;subst m
     try simp only[PT,Y1,Y2,Y3]
     refine ord [30,31] ?_
     iterate 2 (refine tq l ?_;try simp only[PT,Y1,Y2,Y3])
     refine av ?_;refine JQ 32 ?_
     try simp only[PT,Y1,Y2,Y3]
     refine JQ 33 ?_
     try simp only[PT,Y1,Y2,Y3]
     refine JQ 34 ?_
     try simp only[PT,Y1,Y2,Y3]
     refine JQ 35 ?_
     try simp only[PT,Y1,Y2,Y3]
     refine JD ?_;go_wp2_with fail;go_meet
     first | (have:=a;exact⟨a3,ar,a4,b0,bZ (let N:=B.o.R.two (ks':=(kr).take (0)++(I ex)::(kr).drop (0)) (vs':=(vr).take (0)++(Value.slice eA en ec)::(vr).drop (0)) (n':=lr+1) (by simp[r1.o]) (by simp[r2.o]) O1.o k1.o b.o O2.o k2.o n2.o;B.o.stR N.1 N.2.1 bV N.2.2)⟩) | (exact⟨a3,ar,a4,b0,bZ (let N:=B.o.R.two (ks':=(kr).take (0)++(Value.string ex)::(kr).drop (0)) (vs':=(vr).take (0)++(I ey)::(vr).drop (0)) (n':=lr+1) (by simp[r1.o]) (by simp[r2.o]) O1.o k1.o b.o O2.o k2.o n2.o;B.o.stR N.1 N.2.1 bV N.2.2)⟩)
    dsimp only[Y1,Y2,Y3];go_simp;obtain⟨b2,b5⟩:∃g,g=wc.heap.size:=⟨_,rfl⟩;have ba:Z (wd.heap.size<=b2):=bZ (by rw[b5];exact Ka.o.size)
    first | (have:=a;have A:=bZ (Blk.new wc 62 #[Value.slice eA en ec])) | have A:=bZ (Blk.new wc 2 #[I ey])
    first | (have:=a;have C:aa [] wc (wc.alloc (.cells #[Value.slice eA en ec] 62)):=(aa.refl [] wc).alloc _) | have C:aa [] wc (wc.alloc (.cells #[I ey] 2)):=(aa.refl [] wc).alloc _
    replace Ka:=bZ (Ka.o.trans C);replace RK:=bZ (ab RK.o C);replace RV:=bZ (ab RV.o C);replace H:=bZ (H.o.keep C (by simp));have l:=E.o _ _ [] l C (by simp);refine s _ _ (.inr l) ?_;clear s K C;rw[<-b5] at A ⊢
    first | (have:=a;generalize wc.alloc (.cells #[Value.slice eA en ec] 62)=J at*) | generalize wc.alloc (.cells #[I ey] 2)=J at*
    clear b5;obtain⟨wc,m⟩:∃x,x=J:=⟨_,rfl⟩;subst m
    try simp only[PT,Y1,Y2,Y3]
    refine J1 14 fun K s=>?_;dsimp only[Y1,Y2,Y3];go_simp;obtain⟨b1,b9⟩:∃g,g=wc.heap.size:=⟨_,rfl⟩;have c5:Z (wd.heap.size<=b1):=bZ (by rw[b9];exact Ka.o.size)
    first | (have:=a;have a2:=bZ (Blk.new wc 2 #[I ex])) | have a2:=bZ (Blk.new wc 9 #[Value.string ex])
    first | (have:=a;have C:aa [] wc (wc.alloc (.cells #[I ex] 2)):=(aa.refl [] wc).alloc _) | have C:aa [] wc (wc.alloc (.cells #[Value.string ex] 9)):=(aa.refl [] wc).alloc _
    replace Ka:=bZ (Ka.o.trans C);replace RK:=bZ (ab RK.o C);replace RV:=bZ (ab RV.o C);replace H:=bZ (H.o.keep C (by simp));replace A:=bZ (A.o.keep C (by simp));have l:=E.o _ _ [] l C (by simp);refine s _ _ (.inr l) ?_;clear s K C;rw[<-b9] at a2 ⊢
    first | (have:=a;generalize wc.alloc (.cells #[I ex] 2)=J at*) | generalize wc.alloc (.cells #[Value.string ex] 9)=J at*
    clear b9;obtain⟨wc,m⟩:∃x,x=J:=⟨_,rfl⟩;subst m
    try simp only[PT,Y1,Y2,Y3]
    refine J1 15 fun K s=>?_;dsimp only[Y1,Y2,Y3];go_simp
    first | (have:=a;have CC:=aP.1 wc (V rk) lr a8 (0) b1 (kr) (I ex) RK.o (C3 _) a2.o (fun d=>by have:=(a5.o _ (.inl d));have:=c5.o;omega) (by omega) b6.o rfl) | (have CC:=aP.2.2.2.1 wc (V rk) lr a8 (0) b1 (kr) (Value.string ex) RK.o (C3 _) a2.o (fun d=>by have:=(a5.o _ (.inl d));have:=c5.o;omega) (by omega) b6.o rfl)
    refine CC.mono ?_;clear CC;rintro e J ⟨a3,ar,rfl,o,k,nf⟩;have a0:Z (wd.heap.size<=wc.heap.size):=bZ Ka.o.size;have k1:Z (aa (fb (V rk)) wd J):=bZ (Ka.o.nil.trans k.o);have O1:=o;have b:Z (∀g∈fb a3,g∈fb (V rk)\/wd.heap.size<=g):=bZ (fun g hg=>(nf.o g hg).imp_right (fun h=>Dc a0.o h));have c6:Z (wd.heap.size<=J.heap.size):=bZ k1.o.size;obtain⟨ac,an⟩:∃x,x=J:=⟨_,rfl⟩;rw[<-an] at O1 k1 c6;have Kb:Z (aa [] ac J):=bZ (by rw[an];exact aa.refl _ _);replace RV:=bZ (aq RV.o k.o bb.o);replace H:=bZ (H.o.keep k.o c3.o.1);replace A:=bZ (A.o.keep k.o (fun d=>by have:=a5.o _ (.inl d);have:=ba.o;omega));have l:=E.o _ _ _ l k.o ak.o;refine s _ _ (.inr l) ?_;clear s K o k nf RK an Ka a2 a0;obtain⟨wc,m⟩:∃x,x=J:=⟨_,rfl⟩;subst m
    try simp only[PT,Y1,Y2,Y3]
    refine J1 29 fun K s=>?_;dsimp only[Y1,Y2,Y3];go_simp
    first | (have:=a;have CC:=aP.2.1 wc (V rv) lr a9 (0) b2 (vr) (Value.slice eA en ec) RV.o (C3 _) A.o (fun d=>by have:=(a5.o _ (.inr d));have:=ba.o;omega) (by omega) b7.o rfl) | (have CC:=aP.1 wc (V rv) lr a9 (0) b2 (vr) (I ey) RV.o (C3 _) A.o (fun d=>by have:=(a5.o _ (.inr d));have:=ba.o;omega) (by omega) b7.o rfl)
    refine CC.mono ?_;clear CC;rintro e J ⟨a4,b0,rfl,o,k,nf⟩;have a0:Z (ac.heap.size<=wc.heap.size):=bZ Kb.o.size;have k2:Z (aa (fb (V rv)) ac J):=bZ (Kb.o.nil.trans k.o);have O2:=o;have n2:Z (∀g∈fb a4,g∈fb (V rv)\/ac.heap.size<=g):=bZ (fun g hg=>(nf.o g hg).imp_right (fun h=>Dc a0.o h));replace H:=bZ (H.o.keep k.o c3.o.2);have l:=E.o _ _ _ l k.o ap.o;have cd:=H.o.cell 0;have ch:=H.o.cell 1;have xf:=H.o.frozen;refine s _ _ (.inr l) ?_;clear s K o k nf RV Kb A a0;obtain⟨wc,m⟩:∃x,x=J:=⟨_,rfl⟩;subst m
    try simp only[PT,Y1,Y2,Y3]
    refine ord [30,31] ?_
    iterate 2 (refine tq l ?_;try simp only[PT,Y1,Y2,Y3])
    refine av ?_;refine JQ 32 ?_
    try simp only[PT,Y1,Y2,Y3]
    refine JQ 33 ?_
    try simp only[PT,Y1,Y2,Y3]
    refine JQ 34 ?_
    try simp only[PT,Y1,Y2,Y3]
    refine JQ 35 ?_
    try simp only[PT,Y1,Y2,Y3]
    refine JD ?_;go_wp2_with fail;go_meet
    first | (have:=a;exact⟨a3,ar,a4,b0,bZ (let N:=B.o.R.two (ks':=(kr).take (0)++(I ex)::(kr).drop (0)) (vs':=(vr).take (0)++(Value.slice eA en ec)::(vr).drop (0)) (n':=lr+1) (by simp[r1.o]) (by simp[r2.o]) O1.o k1.o b.o O2.o k2.o n2.o;B.o.stR N.1 N.2.1 bV N.2.2)⟩) | (exact⟨a3,ar,a4,b0,bZ (let N:=B.o.R.two (ks':=(kr).take (0)++(Value.string ex)::(kr).drop (0)) (vs':=(vr).take (0)++(I ey)::(vr).drop (0)) (n':=lr+1) (by simp[r1.o]) (by simp[r2.o]) O1.o k1.o b.o O2.o k2.o n2.o;B.o.stR N.1 N.2.1 bV N.2.2)⟩)
  obtain⟨a3,fl,a4,fr,f⟩:=hcut;obtain⟨w1,an⟩:∃x,x=wc:=⟨_,rfl⟩;subst an;clear B l RK RV H a5 bb ak ap E c3;obtain⟨fs,c1,ee,_,_,_,_,_,_⟩:=ax f.o.R.rk (by simp<;>omega);injection ee with e1 _ e2;subst e1 e2;obtain⟨fv,c2,ee,_,_,_,_,_,_⟩:=ax f.o.R.rv (by simp<;>omega);injection ee with e1 _ e2;subst e1 e2
  as_aux_lemma=>
   have B:=bZ f.o.drew;obtain⟨hN,c4,bh,bn⟩:=B.o.ls;have NX:=B.o.X.num l1.o l2.o l3.o;have NQ:=B.o.Q.num m1.o m2.o m3.o
   first | (have:=a;have l:w1.drew.cell? (U p 0)=G (V t) nx P/\w1.drew.cell? (U p 1)=G (V L) nx T/\w1.drew.cell? (U q 0)=G (V qk) (b+1) O/\w1.drew.cell? (U q 1)=G (V qv) (b+1) a1/\w1.drew.cell? (U qk b)=some (I fx)/\w1.drew.cell? (U qv b)=some (Value.slice fA fn fc):=⟨NX.1.cell 0,NX.1.cell 1,NQ.1.cell 0,NQ.1.cell 1,aj NQ.2.1 bs.o,aj NQ.2.2.1 bk.o⟩) | have l:w1.drew.cell? (U p 0)=G (V t) nx P/\w1.drew.cell? (U p 1)=G (V L) nx T/\w1.drew.cell? (U q 0)=G (V qk) (b+1) O/\w1.drew.cell? (U q 1)=G (V qv) (b+1) a1/\w1.drew.cell? (U qk b)=some (Value.string fx)/\w1.drew.cell? (U qv b)=some (I fy):=⟨NX.1.cell 0,NX.1.cell 1,NQ.1.cell 0,NQ.1.cell 1,aj NQ.2.1 bs.o,aj NQ.2.2.1 bk.o⟩
   obtain⟨ew,da⟩:∃e,(ks)[j]? =some e:=⟨_,CT (by rw[l1.o];omega)⟩;obtain⟨f0,db⟩:∃e,(vs)[j]? =some e:=⟨_,CT (by rw[l2.o];omega)⟩;have ck:=aj NX.2.1 da;have cv:=aj NX.2.2.1 db;have kf:=jh NX.2.1 (by omega);have vf:=jh NX.2.2.1 (by omega);have ak:Z (∀y∈[t],y∉[p,q,qk,qv]):=bZ (cG hN 1 [0,4,5,6] rfl rfl (by decide));have ap:Z (∀y∈[L],y∉[p,q,qk,qv]):=bZ (cG hN 2 [0,4,5,6] rfl rfl (by decide));have bb:Z (∀y∈[t],y∉[L]):=bZ (cG hN 1 [2] rfl rfl (by decide))
   first | (have:=a;have E:Z (∀(W M:World) (Y:List Nat),(W.cell? (U p 0)=G (V t) nx P/\W.cell? (U p 1)=G (V L) nx T/\W.cell? (U q 0)=G (V qk) (b+1) O/\W.cell? (U q 1)=G (V qv) (b+1) a1/\W.cell? (U qk b)=some (I fx)/\W.cell? (U qv b)=some (Value.slice fA fn fc))->aa Y W M->(∀y∈Y,y∉[p,q,qk,qv])->(M.cell? (U p 0)=G (V t) nx P/\M.cell? (U p 1)=G (V L) nx T/\M.cell? (U q 0)=G (V qk) (b+1) O/\M.cell? (U q 1)=G (V qv) (b+1) a1/\M.cell? (U qk b)=some (I fx)/\M.cell? (U qv b)=some (Value.slice fA fn fc))):=bZ (fun W M Y h1 h2 h3=>⟨h2.cellEq h1.1 (fun d=>h3 _ d (by simp)),h2.cellEq h1.2.1 (fun d=>h3 _ d (by simp)),h2.cellEq h1.2.2.1 (fun d=>h3 _ d (by simp)),h2.cellEq h1.2.2.2.1 (fun d=>h3 _ d (by simp)),h2.cellEq h1.2.2.2.2.1 (fun d=>h3 _ d (by simp)),h2.cellEq h1.2.2.2.2.2 (fun d=>h3 _ d (by simp))⟩)) | have E:Z (∀(W M:World) (Y:List Nat),(W.cell? (U p 0)=G (V t) nx P/\W.cell? (U p 1)=G (V L) nx T/\W.cell? (U q 0)=G (V qk) (b+1) O/\W.cell? (U q 1)=G (V qv) (b+1) a1/\W.cell? (U qk b)=some (Value.string fx)/\W.cell? (U qv b)=some (I fy))->aa Y W M->(∀y∈Y,y∉[p,q,qk,qv])->(M.cell? (U p 0)=G (V t) nx P/\M.cell? (U p 1)=G (V L) nx T/\M.cell? (U q 0)=G (V qk) (b+1) O/\M.cell? (U q 1)=G (V qv) (b+1) a1/\M.cell? (U qk b)=some (Value.string fx)/\M.cell? (U qv b)=some (I fy))):=bZ (fun W M Y h1 h2 h3=>⟨h2.cellEq h1.1 (fun d=>h3 _ d (by simp)),h2.cellEq h1.2.1 (fun d=>h3 _ d (by simp)),h2.cellEq h1.2.2.1 (fun d=>h3 _ d (by simp)),h2.cellEq h1.2.2.2.1 (fun d=>h3 _ d (by simp)),h2.cellEq h1.2.2.2.2.1 (fun d=>h3 _ d (by simp)),h2.cellEq h1.2.2.2.2.2 (fun d=>h3 _ d (by simp))⟩)
   clear hN c4 bh bn NX NQ f da db;go_wp2_with fail
   first | (have:=a;refine ad (S:=(fun w':World=>w'.cell? (U p 0)=G (V t) nx P/\w'.cell? (U p 1)=G (V L) nx T/\w'.cell? (U q 0)=G (V qk) (b+1) O/\w'.cell? (U q 1)=G (V qv) (b+1) a1/\w'.cell? (U qk b)=some (I fx)/\w'.cell? (U qv b)=some (Value.slice fA fn fc))) (n:=30) (by kernel_rfl) ?_) | refine ad (S:=(fun w':World=>w'.cell? (U p 0)=G (V t) nx P/\w'.cell? (U p 1)=G (V L) nx T/\w'.cell? (U q 0)=G (V qk) (b+1) O/\w'.cell? (U q 1)=G (V qv) (b+1) a1/\w'.cell? (U qk b)=some (Value.string fx)/\w'.cell? (U qv b)=some (I fy))) (n:=30) (by kernel_rfl) ?_
   generalize w1.drew=wd at*;refine ord [0,1,2,3,4,5,6,7,8,9,10,11,12,13,14,15,16,17,18,19,20,21,22,23,24,25,26] ?_
   iterate 27 (refine tq l ?_;try simp only[PT,Y1,Y2,Y3])
   refine av ?_;refine J1 27 fun K s=>?_;dsimp only[Y1,Y2,Y3];go_simp
   first | (have:=a;have k1:aa [t] wd (wd.setCell (U t j) (I fx)):=(aa.refl [t] wd).setCell (p:=(U t j)) (.inl (by simp)) _) | have k1:aa [t] wd (wd.setCell (U t j) (Value.string fx)):=(aa.refl [t] wd).setCell (p:=(U t j)) (.inl (by simp)) _
   have l:=E.o _ _ _ l k1 ak.o;have e6:=k1.cellEq cv (fun d=>bb.o _ d (by simp))
   first | (have:=a;have e5:(wd.setCell (U t j) (I fx)).frozen? (U L j)=false:=k1.frozenEq cv (vf _) (fun d=>bb.o _ d (by simp))) | have e5:(wd.setCell (U t j) (Value.string fx)).frozen? (U L j)=false:=k1.frozenEq cv (vf _) (fun d=>bb.o _ d (by simp))
   refine s _ _ (.inr l) ?_;clear s K ck kf
   try simp only[PT,Y1,Y2,Y3]
   refine ord [28] ?_
   (refine tq l ?_;try simp only[PT,Y1,Y2,Y3])
   refine av ?_;refine J1 29 fun K s=>?_;dsimp only[Y1,Y2,Y3];go_simp
   first | (have:=a;have k2:aa [L] (wd.setCell (U t j) (I fx)) ((wd.setCell (U t j) (I fx)).setCell (U L j) (Value.slice fA fn fc)):=(aa.refl [L] _).setCell (p:=(U L j)) (.inl (by simp)) _) | have k2:aa [L] (wd.setCell (U t j) (Value.string fx)) ((wd.setCell (U t j) (Value.string fx)).setCell (U L j) (I fy)):=(aa.refl [L] _).setCell (p:=(U L j)) (.inl (by simp)) _
   have l:=E.o _ _ _ l k2 ap.o;refine s _ _ (.inr l) ?_;clear s K
   try simp only[PT,Y1,Y2,Y3]
   refine JD ?_
   first | (have:=a;have f:=bZ (let N:=B.o.X.set1 (i:=j) (by rw[l1.o];omega) (by rw[l2.o];omega) (I fx) (Value.slice fA fn fc);B.o.stX N.1 N.2 (fun y hy=>bf.2 (by simp only[Db,Dw,or_false] at hy;rcases hy with rfl | rfl<;>simp[fb])) (fun x hx=>.inl hx))) | (have f:=bZ (let N:=B.o.X.set1 (i:=j) (by rw[l1.o];omega) (by rw[l2.o];omega) (Value.string fx) (I fy);B.o.stX N.1 N.2 (fun y hy=>bf.2 (by simp only[Db,Dw,or_false] at hy;rcases hy with rfl | rfl<;>simp[fb])) (fun x hx=>.inl hx)))
   first | (have:=a;obtain⟨w2,d2⟩:∃x,x=(wd.setCell (U t j) (I fx)).setCell (U L j) (Value.slice fA fn fc):=⟨_,rfl⟩) | obtain⟨w2,d2⟩:∃x,x=(wd.setCell (U t j) (Value.string fx)).setCell (U L j) (I fy):=⟨_,rfl⟩
   rw[<-d2] at f ⊢;clear d2 B l E ak ap bb k1 k2 cv vf e6 e5
   as_aux_lemma=>
    have B:=bZ f.o.drew;obtain⟨hN,c4,bh,bn⟩:=B.o.ls;have NX:=B.o.Q.num m1.o m2.o m3.o;have l:w2.drew.cell? (U q 0)=G (V qk) (b+1) O/\w2.drew.cell? (U q 1)=G (V qv) (b+1) a1:=⟨NX.1.cell 0,NX.1.cell 1⟩;have RK:=bZ NX.2.1;have RV:=bZ NX.2.2.1;have H:=bZ NX.1;have ak:Z (∀y∈[qk],y∉[q,qv]):=bZ (cG hN 5 [4,6] rfl rfl (by decide));have ap:Z (∀y∈[qv],y∉[q,qk]):=bZ (cG hN 6 [4,5] rfl rfl (by decide));clear hN c4 bh bn NX f;go_wp2_with fail;refine bj (by kernel_rfl) ?_;refine JW 1 ?_
    try simp only[PT,Y1,Y2,Y3]
    refine bu (S:=(fun w':World=>w'.cell? (U q 0)=G (V qk) (b+1) O/\w'.cell? (U q 1)=G (V qv) (b+1) a1)) (n:=20) _ _ _ _ ?_;generalize w2.drew=wd at*;refine ord [0,2,3,4,5,6,7,8,10,11,12,13,14,15,16] ?_
    iterate 15 (refine tq l ?_;try simp only[PT,Y1,Y2,Y3])
    refine av ?_;refine J1 9 fun K s=>?_;dsimp only[Y1,Y2,Y3];go_simp
    first | (have:=a;refine(Et (cw.1 _ qk (b) (b+1) (0) (b+1) (b) O (kq) m1.o rfl rfl rfl RK.o c7.o (by omega)) ?_)) | refine(Et (cw.2.2.2.1 _ qk (b) (b+1) (0) (b+1) (b) O (kq) m1.o rfl rfl rfl RK.o c7.o (by omega)) ?_)
    rintro e w4 ⟨rfl,o1,k1⟩;have l:w4.cell? (U q 0)=G (V qk) (b+1) O/\w4.cell? (U q 1)=G (V qv) (b+1) a1:=⟨k1.o.cellEq l.1 (fun d=>ak.o _ d (by simp)),k1.o.cellEq l.2 (fun d=>ak.o _ d (by simp))⟩;replace RV:=bZ (aq RV.o k1.o (fun y hy d=>ak.o y hy (by rw[show fb (V qv)=[qv] from rfl,CZ] at d;rw[d];simp)));replace H:=bZ (H.o.keep k1.o (fun d=>ak.o _ d (by simp)));refine s _ _ (.inr l) ?_;clear s K RK
    try simp only[PT,Y1,Y2,Y3]
    refine J1 17 fun K s=>?_;dsimp only[Y1,Y2,Y3];go_simp
    first | (have:=a;refine(Et (cw.2.1 _ qv (b) (b+1) (0) (b+1) (b) a1 (vq) m2.o rfl rfl rfl RV.o c8.o (by omega)) ?_)) | refine(Et (cw.1 _ qv (b) (b+1) (0) (b+1) (b) a1 (vq) m2.o rfl rfl rfl RV.o c8.o (by omega)) ?_)
    rintro e w5 ⟨rfl,o2,k2⟩;have l:w5.cell? (U q 0)=G (V qk) (b+1) O/\w5.cell? (U q 1)=G (V qv) (b+1) a1:=⟨k2.o.cellEq l.1 (fun d=>ap.o _ d (by simp)),k2.o.cellEq l.2 (fun d=>ap.o _ d (by simp))⟩;replace H:=bZ (H.o.keep k2.o (fun d=>ap.o _ d (by simp)));have cd:=H.o.cell 0;have ch:=H.o.cell 1;have xf:=H.o.frozen;refine s _ _ (.inr l) ?_;clear s K RV
    try simp only[PT,Y1,Y2,Y3]
    refine ord [18,19] ?_
    iterate 2 (refine tq l ?_;try simp only[PT,Y1,Y2,Y3])
    refine av ?_;refine JQ 20 ?_
    try simp only[PT,Y1,Y2,Y3]
    refine JQ 21 ?_
    try simp only[PT,Y1,Y2,Y3]
    refine JQ 22 ?_
    try simp only[PT,Y1,Y2,Y3]
    refine JQ 23 ?_
    try simp only[PT,Y1,Y2,Y3]
    refine JD ?_;have f:=bZ (let N:=B.o.Q.two (ks':=(kq).eraseIdx (b)) (vs':=(vq).eraseIdx (b)) (n':=b) (by rw[DT,m1.o,if_pos (by omega)];omega) (by rw[DT,m2.o,if_pos (by omega)];omega) o1.o k1.o (fun g hg=>.inl hg) o2.o k2.o (fun g hg=>.inl hg);B.o.stQ N.1 N.2.1 bV N.2.2);clear o1 o2 k1 k2 l ak ap;obtain⟨w3,cc⟩:∃x,x=(w5.setCell (U q 0) (.slice (V qk) (b) O)).setCell (U q 1) (.slice (V qv) (b) a1):=⟨_,rfl⟩;rw[<-cc] at f ⊢;clear cc cd ch xf H B
    as_aux_lemma=>
     clear ew f0 i1 i2 i3 i4 i5 wj fe
     first | (have:=a;have bd:=bM.1 w3 q _ _ cq _ f.o.Q.at_ (by rw[m3.o];omega)) | (have bd:=bM.2 w3 q _ _ cq _ f.o.Q.at_ (by rw[m3.o];omega))
     rw[m3.o] at bd;unfold ptr at bd;rcases b4 with ⟨e0,e1⟩ | e0
     ·subst e0 e1;rw[show decide ((0:Nat)=0)=true from rfl] at bd;go_wp2_with fail;refine bd.mono ?_;rintro e w' ⟨rfl,rfl⟩;clear bd;go_wp2_with fail
      first | (have:=a;refine bodyPost_ret (v:=.tuple #[]) (by simp[results,Tryz.results185,go_sem]) rfl ?_) | refine bodyPost_ret (v:=.tuple #[]) (by simp[results,Tryz.results189,go_sem]) rfl ?_
      obtain rfl:cq=[]:=Dh m3.o;have h:=f.o;simp only[EY,EE,Dm] at h;exact⟨_,_,_,_,_,_,_,_,_,_,_,_,_,_,_,_,_,_,_,_,_,_,rfl,bp.o,bi.o,bs.o,bk.o,bZ h⟩
     subst e0;rw[show decide (b+2=0)=false from by simp] at bd;obtain⟨z,hz⟩:∃z,cq[b+1]? =some z:=⟨_,CT (by rw[m3.o];omega)⟩;obtain⟨qc,c9,e9,_⟩:=ax f.o.Q.rc (by rw[m3.o];omega);injection e9 with e8 _ e9;subst e8 e9;replace hz:=bZ hz;go_wp2_with fail;refine bd.mono ?_;rintro e w' ⟨rfl,rfl⟩;clear bd;go_wp2_with fail;have B:=bZ f.o.drew;obtain⟨hN,c4,bh,bn⟩:=B.o.ls;have cb:w3.drew.cell? (U q 2)=G (V qc) (b+2) a7:=by have:=B.o.Q.blk.cell 2;rw[m3.o] at this;exact this
     have dc:w3.drew.cell? (U r 2)=G a6 dr b8:=by have:=B.o.R.blk.cell 2;rw[r3.o] at this;exact this
     first | (have:=a;have bl:w3.drew.ownsRow 0 202 1 (.slice (V qc) (b+2) a7) (b+2) (cq.map ptr):=by have:=B.o.Q.rc;rw[m3.o] at this;exact this) | (have bl:w3.drew.ownsRow 0 248 1 (.slice (V qc) (b+2) a7) (b+2) (cq.map ptr):=by have:=B.o.Q.rc;rw[m3.o] at this;exact this)
     have l:w3.drew.cell? (U r 2)=G a6 dr b8/\w3.drew.cell? (U q 2)=G (V qc) (b+2) a7/\w3.drew.cell? (U qc (b+1))=some (.pointer (V z)):=⟨dc,cb,aj bl (by rw[De,hz.o];rfl)⟩
     first | (have:=a;have RC:Z (w3.drew.ownsRow 0 202 1 (.slice a6 dr b8) dr ((cr).map ptr)):=bZ (by have:=B.o.R.rc;rw[r3.o] at this;exact this)) | (have RC:Z (w3.drew.ownsRow 0 248 1 (.slice a6 dr b8) dr ((cr).map ptr)):=bZ (by have:=B.o.R.rc;rw[r3.o] at this;exact this))
     have d6:Z (∀y∈fb a6,y∉[r,q,qc]):=bZ (fun y hy d=>by
      simp only[Db,Dw,or_false] at d;rcases d with rfl | rfl | rfl
      ·exact bh _ hy (by simp)
      ·exact bh _ hy (by simp)
      exact bn _ (by simp[fb]) hy)
     have E:Z (∀(W M:World) (Y:List Nat),(W.cell? (U r 2)=G a6 dr b8/\W.cell? (U q 2)=G (V qc) (b+2) a7/\W.cell? (U qc (b+1))=some (.pointer (V z)))->aa Y W M->(∀y∈Y,y∉[r,q,qc])->(M.cell? (U r 2)=G a6 dr b8/\M.cell? (U q 2)=G (V qc) (b+2) a7/\M.cell? (U qc (b+1))=some (.pointer (V z)))):=bZ (fun W M Y h1 h2 h3=>⟨h2.cellEq h1.1 (fun d=>h3 _ d (by simp)),h2.cellEq h1.2.1 (fun d=>h3 _ d (by simp)),h2.cellEq h1.2.2 (fun d=>h3 _ d (by simp))⟩);clear hN c4 bh bn f cb dc bl;go_wp2_with fail;refine ad (S:=(fun w':World=>w'.cell? (U r 2)=G a6 dr b8/\w'.cell? (U q 2)=G (V qc) (b+2) a7/\w'.cell? (U qc (b+1))=some (.pointer (V z)))) (n:=17) (by kernel_rfl) ?_;generalize w3.drew=wd at*;obtain⟨wc,m⟩:∃x,x=wd:=⟨_,rfl⟩;have Ka:Z (aa [] wd wc):=bZ (by rw[m];exact aa.refl _ _);rw[<-m] at RC l ⊢;clear m;refine ord [0,1,2,3,4,5,6,7,8,9,10,11,12] ?_
     iterate 13 (refine tq l ?_;try simp only[PT,Y1,Y2,Y3])
     refine av ?_;refine J1 13 fun K s=>?_;dsimp only[Y1,Y2,Y3];go_simp;obtain⟨b1,b9⟩:∃g,g=wc.heap.size:=⟨_,rfl⟩
     first | (have:=a;have C:aa [] wc (wc.alloc (.cells #[.pointer (V z)] 202)):=(aa.refl [] wc).alloc _) | have C:aa [] wc (wc.alloc (.cells #[.pointer (V z)] 248)):=(aa.refl [] wc).alloc _
     first | (have:=a;have B1:=bZ (Blk.new wc 202 #[.pointer (V z)])) | have B1:=bZ (Blk.new wc 248 #[.pointer (V z)])
     have d7:Z (b1∉fb a6):=bZ (fun d=>by have:=(aw RC.o d).2.1;omega);replace RC:=bZ (ab RC.o C);have Kb:=bZ (Ka.o.trans C);have l:=E.o _ _ [] l C (by simp);refine s _ _ (.inr l) ?_;clear s K C;rw[<-b9] at B1 ⊢
     first | (have:=a;generalize wc.alloc (.cells #[.pointer (V z)] 202)=J at*) | generalize wc.alloc (.cells #[.pointer (V z)] 248)=J at*
     obtain⟨w3,cc⟩:∃x,x=J:=⟨_,rfl⟩;subst cc;clear b9
     try simp only[PT,Y1,Y2,Y3]
     refine J1 14 fun K s=>?_;dsimp only[Y1,Y2,Y3];go_simp
     first | (have:=a;have CC:=aP.2.2.1 w3 a6 dr b8 0 b1 ((cr).map ptr) (.pointer (V z)) RC.o (C3 _) B1.o d7.o (by omega) (fun v hv=>by obtain⟨c,_,rfl⟩:=Dt.1 hv;rfl) rfl) | (have CC:=aP.2.2.2.2 w3 a6 dr b8 0 b1 ((cr).map ptr) (.pointer (V z)) RC.o (C3 _) B1.o d7.o (by omega) (fun v hv=>by obtain⟨c,_,rfl⟩:=Dt.1 hv;rfl) rfl)
     refine CC.mono ?_;clear CC;rintro e w4 ⟨e3,ev,rfl,o,k,nf⟩;have l:=E.o _ _ _ l k.o d6.o;have k1:Z (aa (fb a6) wd w4):=bZ (Kb.o.nil.trans k.o);have b:Z (∀g∈fb e3,g∈fb a6\/wd.heap.size<=g):=bZ (fun g hg=>(nf.o g hg).imp_right (fun h=>Dc Kb.o.size h));have QB:=B.o.R.blk.keep k1.o (aW.1 B.o.R.nd).1.2.2;have qb:=QB.cell 2;have qf:=QB.frozen;clear QB;refine s _ _ (.inr l) ?_;clear s K k nf RC B1
     try simp only[PT,Y1,Y2,Y3]
     refine ord [15,16] ?_
     iterate 2 (refine tq l ?_;try simp only[PT,Y1,Y2,Y3])
     refine av ?_;refine JQ 17 ?_
     try simp only[PT,Y1,Y2,Y3]
     refine JD ?_;have f:=bZ (let N:=B.o.R.kids (cs':=z::cr) (n':=dr+1) (by simp[r3.o]) (by have h:=o.o;simp[ptr] at h ⊢;exact h) k1.o b.o;B.o.stR N.1 N.2.1 eP N.2.2);obtain⟨w4,dn⟩:∃x,x=w4.setCell (U r 2) (.slice e3 (dr+1) ev):=⟨_,rfl⟩;rw[<-dn] at f ⊢;clear dn qb qf B o k1 b l E d6 Ka Kb
     as_aux_lemma=>
      have cb:w4.cell? (U q 2)=G (V qc) (b+2) a7:=by have:=f.o.Q.blk.cell 2;rw[m3.o] at this;exact this
      first | (have:=a;have bl:w4.ownsRow 0 202 1 (.slice (V qc) (b+2) a7) (b+2) (cq.map ptr):=by have:=f.o.Q.rc;rw[m3.o] at this;exact this) | (have bl:w4.ownsRow 0 248 1 (.slice (V qc) (b+2) a7) (b+2) (cq.map ptr):=by have:=f.o.Q.rc;rw[m3.o] at this;exact this)
      first | (have:=a;have D:=cw.2.2.1 w4 qc (b+1) (b+2) 0 (b+2) (b+1) a7 (cq.map ptr) (by rw[Df,m3.o]) rfl rfl rfl bl (fun v hv=>by obtain⟨c,_,rfl⟩:=Dt.1 hv;rfl) (by omega)) | (have D:=cw.2.2.2.2 w4 qc (b+1) (b+2) 0 (b+2) (b+1) a7 (cq.map ptr) (by rw[Df,m3.o]) rfl rfl rfl bl (fun v hv=>by obtain⟨c,_,rfl⟩:=Dt.1 hv;rfl) (by omega))
      rw[show ((b+1:Nat):Int)=(b:Int)+1 from by omega,show ((b+2:Nat):Int)=(b:Int)+2 from by omega] at D;have ek:Z (q≠qc):=bZ (fun e=>(aW.1 f.o.Q.nd).1.2.2 (by simp[fb,e]));have H:=bZ f.o.Q.blk;clear bl;go_wp2_with fail;refine D.mono ?_;clear D;rintro e w9 ⟨rfl,o,k⟩;have X9:=H.o.keep k.o (by simp[ek.o]);have g2:=X9.cell 2;have g3:=X9.frozen;clear X9 H cb;have dl:=bZ (let N:=f.o.Q.kids (cs':=cq.eraseIdx (b+1)) (n':=b+1) (by rw[DT,m3.o,if_pos (by omega)];omega) (by have:=o.o;rwa [lG] at this) k.o (fun g hg=>.inl hg);f.o.stQ N.1 N.2.1 eP N.2.2);clear f o k;go_wp2_with fail
      first | (have:=a;refine bodyPost_ret (v:=.tuple #[]) (by simp[results,Tryz.results185,go_sem]) rfl ?_) | refine bodyPost_ret (v:=.tuple #[]) (by simp[results,Tryz.results189,go_sem]) rfl ?_
      have h:=dl.o;simp only[EY,EE,Dm] at h;exact⟨_,_,_,_,_,_,_,_,_,_,_,_,_,_,_,_,_,_,_,_,_,_,rfl,bp.o,bi.o,bs.o,bk.o,bZ (by rw[hz.o];exact h)⟩
end Go.Proofs.YtmlmfpikncogpaaGreat
