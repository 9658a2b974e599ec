import Derived.Test.YtmlmfpikncogpaaGreatL10
namespace Go.Proofs.YtmlmfpikncogpaaGreat
open Go.RowKit
set_option linter.unusedSimpArgs false
set_option linter.unusedVariables false
set_option maxRecDepth 100000
set_option maxHeartbeats 16000000
def jt (S:Bool) (T:BTy) (w:World) (h p m:Nat) (d:List Ent) (F:List Nat) (k v:Value) (e:Ending) (w':World):Prop:=
 ∃old b f a c,e=.returned (.tuple #[old,.bool b])/\Z (il S T w h p m d F k v b w' f a c)
theorem il.drew {S:Bool} {T:BTy} {w:World} {h p m:Nat} {d:List Ent} {F:List Nat} {k v:Value} {e:Bool} {w':World} {f:Nat} {b:List Ent} {c:List Nat} (a:il S T w.drew h p m d F k v e w' f b c):il S T w h p m d F k v e w' f b c:=
 ⟨a.vw,a.nd,a.lo,a.hi,(aa.refl _ w).drew.trans a.kp,a.nw,a.sub,a.ord⟩
theorem aU.drew {T:BTy} {w:World} {p:Nat} {c f a:Option Addr} {d g b:Nat} {e i:List Value} {cs:List Nat} (h:aU T w p c d f g a b e i cs):aU T w.drew p c d f g a b e i cs:=h.keep (aa.refl [] w).drew (by simp)
theorem bo.drew {T:BTy} {w:World} {h:Nat} {en:List Ent} {kids:List Kid} {a:List Ent} (b:bo T w h en kids a):bo T w.drew h en kids a:=b.keep (aa.refl [] w).drew (by simp)
theorem il.keepR {S:Bool} {T:BTy} {w:World} {h p m:Nat} {d:List Ent} {F:List Nat} {k v:Value} {e:Bool} {w' w2:World} {g:Nat} {b:List Ent} {c:List Nat} (a:il S T w h p m d F k v e w' g b c) (f:aa [] w' w2):il S T w h p m d F k v e w2 g b c:=
 ⟨a.vw.keep f (by simp),a.nd,a.lo,a.hi,a.kp.trans f.nil,a.nw,a.sub,a.ord⟩
theorem cR.keep0 {T:BTy} {w w':World} {h p:Nat} {en:List Ent} {kids:List Kid} {a:List Nat} (W:cR T w h p en kids a) (b:aa [] w w'):cR T w' h p en kids a:=
 ⟨W.len,W.node.keep b (by simp),fun c d=>(W.kid c d).keep b _ _ _ _ _ (by simp),W.nd⟩
theorem iZ.from_ {T:BTy} {w w2:World} {h p:Nat} {A:List Kid} {c:Kid} {B:List Kid} {EA EB:List Ent} {b:List Nat} {w':World} (o:iZ T w2 h p A c B EA EB b w') (d:aa [] w w2):iZ T w h p A c B EA EB b w':=by
 obtain⟨e,c1,f,a,g,i,j,k,l,m,n⟩:=o;exact⟨e,c1,f,a,g,i,j,k,l,d.nil.trans m,fun x q=>(n x q).imp_right (Dc d.size)⟩
theorem bo.en_sub {T:BTy} {w:World} {h:Nat} {en:List Ent} {kids:List Kid} {a:List Ent} (c:bo T w h en kids a):∀x∈en,x∈a:=fun x b=>by
 rcases c with ⟨_,_,rfl⟩ | ⟨k,_,d,rfl,_⟩
 ·exact b
 exact bL d b
theorem dC:∀ {K:List Kid} {E:List Ent} {c:Kid} {x:Ent},K.length=E.length+1->c∈K->x∈c.2.2.1->x∈ao K E
 | [],_,_,_,_,b,_=>by cases b
 | d::K,[],c,x,hl,b,hx=>by
  have:K=[]:=by cases K with
   | nil=>rfl
   | cons a K=>simp at hl
  subst this;rw[CZ.1 b] at hx;exact hx
 | d::K,e::E,c,x,hl,b,hx=>by
  simp only[ao,CX,Db];rcases Db.1 b with rfl | b
  ·exact .inl hx
  exact .inr (.inr (dC (by simpa using hl) b hx))
theorem fV:(∀(w:World) (bt p h:Nat) (b0 b2:Value) (en:List Ent) (kids:List Kid) (es:List Ent) (F0:List Nat) (E:Int) (vA:Option Addr) (vn t:Nat)
 (hT:Blk w bt 204 #[b0,I 16,b2]) (hN:aX tyI w p (en.map (·.1)) (en.map (·.2)) (kids.map (·.1)) F0) (hb:bo tyI w h en kids es) (P:(F0++af kids).Nodup) (ap:bt∉F0++af kids) (r:en.length<=15)
 (f:∀x∈es,cX x.1/\dk x.2)
 (IH:∀h' c,h=h'+1->c∈kids->Calls Tryz.prog 149 #[ptr bt,ptr c.1,I E,Value.slice vA vn t] w (jt true tyI w h' c.1 c.2.1 c.2.2.1 c.2.2.2 (I E) (Value.slice vA vn t))),Calls Tryz.prog 149 #[ptr bt,ptr p,I E,Value.slice vA vn t] w (jt true tyI w h p en.length es (F0++af kids) (I E) (Value.slice vA vn t)))/\
 (∀(w:World) (bt p h:Nat) (b0 b2:Value) (en:List Ent) (kids:List Kid) (es:List Ent) (F0:List Nat) (E:ByteArray) (vx:Int)
 (hT:Blk w bt 250 #[b0,I 16,b2]) (hN:aX tyS w p (en.map (·.1)) (en.map (·.2)) (kids.map (·.1)) F0) (hb:bo tyS w h en kids es) (P:(F0++af kids).Nodup) (ap:bt∉F0++af kids) (r:en.length<=15)
 (f:∀x∈es,dP x.1/\dW x.2)
 (IH:∀h' c,h=h'+1->c∈kids->Calls Tryz.prog 151 #[ptr bt,ptr c.1,Value.string E,I vx] w (jt false tyS w h' c.1 c.2.1 c.2.2.1 c.2.2.2 (Value.string E) (I vx))),Calls Tryz.prog 151 #[ptr bt,ptr p,Value.string E,I vx] w (jt false tyS w h p en.length es (F0++af kids) (Value.string E) (I vx))):=by
  refine⟨?_,?_⟩;have a:=trivial;intro w bt p h b0 b2 en kids es F0 E vA vn t hT hN hb P ap r f IH;rotate_left;intro w bt p h b0 b2 en kids es F0 E vx hT hN hb P ap r f IH;rotate_left
  all_goals
   obtain⟨b,F,l,H,a9,bk,N,rfl⟩:=hN.c (Dp.1 P).1
   first | (have:=a;have fk:∀x∈en.map (·.1),cX x:=fun v hv=>by obtain⟨x,hx,rfl⟩:=Dt.1 hv;exact(f x (hb.en_sub x hx)).1) | (have fk:∀x∈en.map (·.1),dP x:=fun v hv=>by obtain⟨x,hx,rfl⟩:=Dt.1 hv;exact(f x (hb.en_sub x hx)).1)
   first | (have:=a;have fv:∀x∈en.map (·.2),dk x:=fun v hv=>by obtain⟨x,hx,rfl⟩:=Dt.1 hv;exact(f x (hb.en_sub x hx)).2) | (have fv:∀x∈en.map (·.2),dW x:=fun v hv=>by obtain⟨x,hx,rfl⟩:=Dt.1 hv;exact(f x (hb.en_sub x hx)).2)
   have hl:h=0/\kids=[]\/kids.length=en.length+1:=by
    rcases hb with ⟨h1,h2,_⟩ | ⟨_,_,h2,_⟩
    ·exact .inl ⟨h1,h2⟩
    exact .inr h2
   first | (have:=a;have b9:=kQ.1 w p (en.map (·.1)) (en.map (·.2)) (kids.map (·.1)) _ E N.at_ fk (by simp;omega)) | (have b9:=kQ.2 w p (en.map (·.1)) (en.map (·.2)) (kids.map (·.1)) _ E N.at_ fk (by simp;omega))
   first | (have:=a;have b4:=bM.1 w p (en.map (·.1)) (en.map (·.2)) (kids.map (·.1)) _ N.at_ (by rcases hl with ⟨_,rfl⟩ | h2<;>simp<;>omega)) | (have b4:=bM.2 w p (en.map (·.1)) (en.map (·.2)) (kids.map (·.1)) _ N.at_ (by rcases hl with ⟨_,rfl⟩ | h2<;>simp<;>omega))
   first | (have:=a;have o1:Z (∀v∈en.map (·.1),v.oneCell'=true):=bZ (fun v hv=>dQ (fk v hv))) | have o1:Z (∀v∈en.map (·.1),v.oneCell'=true):=bZ (fun v hv=>dO (fk v hv))
   first | (have:=a;have o2:Z (∀v∈en.map (·.2),v.oneCell'=true):=bZ (fun v hv=>dN (fv v hv))) | have o2:Z (∀v∈en.map (·.2),v.oneCell'=true):=bZ (fun v hv=>dM (fv v hv))
   obtain⟨q,ar⟩:∃n,n=en.length:=⟨_,rfl⟩;have l1:(en.map (·.1)).length=q:=by simp[ar]
   have l2:(en.map (·.2)).length=q:=by simp[ar]
   rw[<-ar] at r
   first | (have:=a;have an:Blk w p 210 #[.slice b q F,.slice l q H,.slice a9 (kids.map (·.1)).length bk]:=by have:=N.blk;rw[l1,l2] at this;exact this) | (have an:Blk w p 254 #[.slice b q F,.slice l q H,.slice a9 (kids.map (·.1)).length bk]:=by have:=N.blk;rw[l1,l2] at this;exact this)
   have x0:=an.cell 0;have x1:=an.cell 1;replace an:=bZ an;replace N:=bZ N;replace hb:=bZ hb;replace P:=bZ P;replace ap:=bZ ap;replace f:=bZ f;replace fk:=bZ fk;replace fv:=bZ fv;replace hl:=bZ hl;replace hT:=bZ hT;replace IH:=bZ IH;replace ar:=bZ ar;replace l1:=bZ l1;replace l2:=bZ l2;unfold ptr at*
   first | (have:=a;go_enter Tryz.func149,Tryz.ntmps149) | go_enter Tryz.func151,Tryz.ntmps151
   go_wp2_with fail;refine b9.mono ?_;rintro e w' ⟨i,ok,rfl,hf,rfl⟩;clear b9;have hi:i<=q:=by have:=hf.o.1;rw[l1.o] at this;exact this
   cases ok with
   | true=>
    clear b4 IH;have hi:i<q:=by have:=hf.o.2.1 rfl;rw[l1.o] at this;exact this
    obtain⟨gk,c1,e1,da,e6,_,_,cl,e0,ck⟩:=ax N.o.rk (by rw[l1.o];omega);obtain⟨gv,c2,e2,dl,ee,_,_,cq,e4,cp⟩:=ax N.o.rv (by rw[l2.o];omega);injection e1 with e1 _ e1';injection e2 with e2 _ e2';subst e1 e1' e2 e2';rw[l1.o] at da;rw[l2.o] at dl;obtain⟨d0,d4⟩:∃e,(en.map (·.1))[i]? =some e:=⟨_,CT (by rw[l1.o];exact hi)⟩;obtain⟨cc,c6⟩:∃e,(en.map (·.2))[i]? =some e:=⟨_,CT (by rw[l2.o];exact hi)⟩
    first | (have:=a;obtain⟨eA,cb,ec,rfl⟩:=fv.o cc (CW c6)) | obtain⟨ey,rfl⟩:=fv.o cc (CW c6)
    have cd:=cq i _ c6;have d1:=cl i _ d4;have kf:=ck.frozen;have vf:=cp.frozen;have e7:(i:Int)<(q:Int):=by omega
    have e9:gk≠gv:=by have:=(aW.1 N.o.nd).2.1 gk (by simp[fb]);simp[fb] at this;exact this.1
    first | (have:=a;obtain⟨b3,bn⟩:=q9 (S:=true) (k:=I E) (v:=Value.slice vA vn t) N.o.drew hb.o.drew P.o hf.o) | obtain⟨b3,bn⟩:=q9 (S:=false) (k:=Value.string E) (v:=I vx) N.o.drew hb.o.drew P.o hf.o
    have cn:=bZ bn.drew;clear bn;have z:w.drew.cell? (U p 0)=G (V gk) q F/\w.drew.cell? (U p 1)=G (V gv) q H:=⟨x0,x1⟩
    first | (have:=a;have ch:w.drew.cell? (U gv i)=some (Value.slice eA cb ec):=cd) | have ch:w.drew.cell? (U gv i)=some (I ey):=cd
    have dq:w.drew.cell? (U gk i)=some d0:=d1;have ep:∀i,w.drew.frozen? (U gk i)=false:=kf;have ev:∀i,w.drew.frozen? (U gv i)=false:=vf;clear cl cq ck cp kf vf hf;go_wp2_with fail;refine bj (by kernel_rfl) ?_;refine JW 9 ?_
    try simp only[PT,Y1,Y2,Y3]
    refine JW 11 ?_
    try simp only[PT,Y1,Y2,Y3]
    refine bu (S:=(fun w':World=>w'.cell? (U p 0)=G (V gk) q F/\w'.cell? (U p 1)=G (V gv) q H)) (n:=12) _ _ _ _ ?_;generalize eg:w.drew=wd at*;refine ord [0,1,2,3,4,5,6,7,8,10] ?_
    iterate 10 (refine tq z ?_;try simp only[PT,Y1,Y2,Y3])
    refine av ?_;refine JQ 12 ?_
    try simp only[PT,Y1,Y2,Y3]
    refine JQ 13 ?_
    try simp only[PT,Y1,Y2,Y3]
    refine JQ 14 ?_
    try simp only[PT,Y1,Y2,Y3]
    refine JQ 15 ?_
    try simp only[PT,Y1,Y2,Y3]
    refine JD ?_;go_wp2_with fail
    first | (have:=a;refine bodyPost_ret (v:=.tuple #[Value.slice eA cb ec,.bool true]) (by simp[results,Tryz.results149,go_sem]) rfl ?_) | refine bodyPost_ret (v:=.tuple #[I ey,.bool true]) (by simp[results,Tryz.results151,go_sem]) rfl ?_
    exact⟨_,true,_,_,_,rfl,cn⟩
   | false=>
    have T:∃ks,ks=en.map (·.1):=⟨_,rfl⟩;have a0:∃vs,vs=en.map (·.2):=⟨_,rfl⟩;rcases hl.o with ⟨rfl,rfl⟩ | ac
    ·obtain rfl:en=es:=by
      rcases hb.o with ⟨_,_,h3⟩ | ⟨_,h1,_⟩
      ·exact h3.symm
      omega
     simp only[af,List.flatMap_nil,DA] at P ap ⊢;have hd:decide ((List.map (fun x:Kid=>x.1) []).length=0)=true:=rfl;rw[hd] at b4;clear hd IH;go_wp2_with fail;refine b4.mono ?_;rintro e w' ⟨rfl,rfl⟩;clear b4;have bh:Z (q+1=en.length+1):=bZ (by rw[ar.o]);go_wp2_with fail;obtain⟨⟨a1,a2,a3⟩,a4,a5⟩:=aW.1 N.o.nd;have z:w.drew.cell? (U p 0)=G b q F/\w.drew.cell? (U p 1)=G l q H:=⟨x0,x1⟩
     first | (have:=a;have RK:Z (w.drew.ownsRow 0 2 1 (.slice b q F) q (en.map (·.1))):=bZ (by have:=N.o.drew.rk;rw[l1.o] at this;exact this)) | (have RK:Z (w.drew.ownsRow 0 9 1 (.slice b q F) q (en.map (·.1))):=bZ (by have:=N.o.drew.rk;rw[l1.o] at this;exact this))
     first | (have:=a;have R:Z (w.drew.ownsRow 0 62 1 (.slice l q H) q (en.map (·.2))):=bZ (by have:=N.o.drew.rv;rw[l2.o] at this;exact this)) | (have R:Z (w.drew.ownsRow 0 2 1 (.slice l q H) q (en.map (·.2))):=bZ (by have:=N.o.drew.rv;rw[l2.o] at this;exact this))
     first | (have:=a;have M:Z (Blk w.drew p 210 #[.slice b q F,.slice l q H,.slice a9 (List.map (fun x:Kid=>x.1) []).length bk]):=bZ an.o.drew) | have M:Z (Blk w.drew p 254 #[.slice b q F,.slice l q H,.slice a9 (List.map (fun x:Kid=>x.1) []).length bk]):=bZ an.o.drew
     have Q:Z (∀x,x∈fb b\/x∈fb l->x<w.drew.heap.size):=bZ (fun x hx=>N.o.drew.lt x (bf.2 (by rcases hx with h | h<;>simp[h])));have c7:Z (∀y∈fb b,y∉fb l):=bZ (fun y hy=>(a4 y hy).1);have X:Z ((p∉fb b/\∀y∈fb b,y∉[p])/\(p∉fb l/\∀y∈fb l,y∉[p])):=bZ ⟨⟨a1,fun y hy r=>by rw[CZ.1 r] at hy;exact a1 hy⟩,a2,fun y hy r=>by rw[CZ.1 r] at hy;exact a2 hy⟩;have a6:Z (∀(W W':World) (Y:List Nat),(W.cell? (U p 0)=G b q F/\W.cell? (U p 1)=G l q H)->aa Y W W'->(∀y∈Y,y∉[p])->(W'.cell? (U p 0)=G b q F/\W'.cell? (U p 1)=G l q H)):=bZ (fun W W' Y h1 h2 h3=>⟨h2.cellEq h1.1 (fun r=>h3 _ r (by simp)),h2.cellEq h1.2 (fun r=>h3 _ r (by simp))⟩);have Nd:=bZ N.o.drew
     first | (have:=a;have b8:Z (∀ {W:World} {m':Nat} {b3:List Ent} {F':List Nat},il true tyI w.drew 0 p en.length en (ay p b l a9) (I E) (Value.slice vA vn t) false W m' b3 F'->il true tyI w 0 p en.length en (ay p b l a9++af []) (I E) (Value.slice vA vn t) false W m' b3 F'):=bZ (fun h=>by simpa [af] using h.drew)) | have b8:Z (∀ {W:World} {m':Nat} {b3:List Ent} {F':List Nat},il false tyS w.drew 0 p en.length en (ay p b l a9) (Value.string E) (I vx) false W m' b3 F'->il false tyS w 0 p en.length en (ay p b l a9++af []) (Value.string E) (I vx) false W m' b3 F'):=bZ (fun h=>by simpa [af] using h.drew)
     clear a1 a2 a3 a4 a5 x0 x1 an f fk fv hb ap P hT hl;obtain⟨ks,T⟩:=T;obtain⟨vs,a0⟩:=a0;rw[<-T] at RK o1;rw[<-a0] at R o2;replace T:=bZ T;replace a0:=bZ a0;refine bj (by kernel_rfl) ?_;refine JW 1 ?_
     try simp only[PT,Y1,Y2,Y3]
     refine bu (S:=(fun w':World=>w'.cell? (U p 0)=G b q F/\w'.cell? (U p 1)=G l q H)) (n:=20) _ _ _ _ ?_;generalize w.drew=wd at*;obtain⟨wc,m⟩:∃x,x=wd:=⟨_,rfl⟩;have Ka:Z (aa [] wd wc):=bZ (by rw[m];exact aa.refl _ _);rw[<-m] at RK R M z ⊢;clear m;refine ord [0,2,3,4,5,6,7,10,11,12,13,14,15] ?_
     iterate 13 (refine tq z ?_;try simp only[PT,Y1,Y2,Y3])
     refine av ?_;refine cK (i:=8) (j:=16) rfl rfl (by kernel_rfl) (fun K O=>?_) (fun K O=>?_)
     ·dsimp only[Y1,Y2,Y3];go_simp;obtain⟨b1,b7⟩:∃g,g=wc.heap.size:=⟨_,rfl⟩;have ba:Z (wd.heap.size<=b1):=bZ (by rw[b7];exact Ka.o.size)
      first | (have:=a;have L:=bZ (Blk.new wc 2 #[I E])) | have L:=bZ (Blk.new wc 9 #[Value.string E])
      first | (have:=a;have D:aa [] wc (wc.alloc (.cells #[I E] 2)):=(aa.refl [] wc).alloc _) | have D:aa [] wc (wc.alloc (.cells #[Value.string E] 9)):=(aa.refl [] wc).alloc _
      replace Ka:=bZ (Ka.o.trans D);replace RK:=bZ (ab RK.o D);replace R:=bZ (ab R.o D);replace M:=bZ (M.o.keep D (by simp));have z:=a6.o _ _ [] z D (by simp);refine O _ _ (.inr z) ?_;clear O K D;rw[<-b7] at L ⊢
      first | (have:=a;generalize wc.alloc (.cells #[I E] 2)=u at*) | generalize wc.alloc (.cells #[Value.string E] 9)=u at*
      clear b7;obtain⟨wc,m⟩:∃x,x=u:=⟨_,rfl⟩;subst m
      try simp only[PT,Y1,Y2,Y3]
      refine cK (i:=9) (j:=16) rfl rfl (by kernel_rfl) (fun K O=>?_) (fun K O=>?_)
      ·dsimp only[Y1,Y2,Y3];go_simp
       first | (have:=a;refine(aP.1 wc b q F i b1 ks (I E) RK.o hi L.o (fun r=>by have:=(Q.o _ (.inl r));have:=ba.o;omega) (by omega) o1.o rfl).mono ?_) | (refine(aP.2.2.2.1 wc b q F i b1 ks (Value.string E) RK.o hi L.o (fun r=>by have:=(Q.o _ (.inl r));have:=ba.o;omega) (by omega) o1.o rfl).mono ?_)
       rintro e u ⟨b5,c4,rfl,o,k,nf⟩;have J:Z (wd.heap.size<=wc.heap.size):=bZ Ka.o.size;have k1:Z (aa (fb b) wd u):=bZ (Ka.o.nil.trans k.o);have O1:=o;have n1:Z (∀g∈fb b5,g∈fb b\/wd.heap.size<=g):=bZ (fun g hg=>(nf.o g hg).imp_right (fun h=>Dc J.o h));have bi:Z (wd.heap.size<=u.heap.size):=bZ k1.o.size;obtain⟨w1,a8⟩:∃x,x=u:=⟨_,rfl⟩;rw[<-a8] at O1 k1 bi;have Kb:Z (aa [] w1 u):=bZ (by rw[a8];exact aa.refl _ _);replace R:=bZ (aq R.o k.o c7.o);replace M:=bZ (M.o.keep k.o X.o.1.1);have z:=a6.o _ _ (fb b) z k.o X.o.1.2;refine O _ _ (.inr z) ?_;clear O K o k nf RK a8 Ka L J;obtain⟨wc,m⟩:∃x,x=u:=⟨_,rfl⟩;subst m
       try simp only[PT,Y1,Y2,Y3]
       refine J1 16 fun K O=>?_;dsimp only[Y1,Y2,Y3];go_simp;obtain⟨b2,a7⟩:∃g,g=wc.heap.size:=⟨_,rfl⟩;have ak:Z (wd.heap.size<=b2):=bZ (by rw[a7];exact Dc bi.o Kb.o.size)
       first | (have:=a;have s:=bZ (Blk.new wc 62 #[Value.slice vA vn t])) | have s:=bZ (Blk.new wc 2 #[I vx])
       first | (have:=a;have D:aa [] wc (wc.alloc (.cells #[Value.slice vA vn t] 62)):=(aa.refl [] wc).alloc _) | have D:aa [] wc (wc.alloc (.cells #[I vx] 2)):=(aa.refl [] wc).alloc _
       replace Kb:=bZ (Kb.o.trans D);replace R:=bZ (ab R.o D);replace M:=bZ (M.o.keep D (by simp));have z:=a6.o _ _ [] z D (by simp);refine O _ _ (.inr z) ?_;clear O K D;rw[<-a7] at s ⊢
       first | (have:=a;generalize wc.alloc (.cells #[Value.slice vA vn t] 62)=u at*) | generalize wc.alloc (.cells #[I vx] 2)=u at*
       clear a7;obtain⟨wc,m⟩:∃x,x=u:=⟨_,rfl⟩;subst m
       try simp only[PT,Y1,Y2,Y3]
       refine J1 17 fun K O=>?_;dsimp only[Y1,Y2,Y3];go_simp
       first | (have:=a;refine(aP.2.1 wc l q H i b2 vs (Value.slice vA vn t) R.o hi s.o (fun r=>by have:=(Q.o _ (.inr r));have:=ak.o;omega) (by omega) o2.o rfl).mono ?_) | (refine(aP.1 wc l q H i b2 vs (I vx) R.o hi s.o (fun r=>by have:=(Q.o _ (.inr r));have:=ak.o;omega) (by omega) o2.o rfl).mono ?_)
       rintro e u ⟨b6,c5,rfl,o,k,nf⟩;have J:Z (w1.heap.size<=wc.heap.size):=bZ Kb.o.size;have k2:Z (aa (fb l) w1 u):=bZ (Kb.o.nil.trans k.o);have O2:=o;have n2:Z (∀g∈fb b6,g∈fb l\/w1.heap.size<=g):=bZ (fun g hg=>(nf.o g hg).imp_right (fun h=>Dc J.o h));replace M:=bZ (M.o.keep k.o X.o.2.1);have z:=a6.o _ _ (fb l) z k.o X.o.2.2;have ct:=M.o.cell 0;have cv:=M.o.cell 1;have xf:=M.o.frozen;refine O _ _ (.inr z) ?_;clear O K o k nf R Kb s J;obtain⟨wc,m⟩:∃x,x=u:=⟨_,rfl⟩;subst m
       try simp only[PT,Y1,Y2,Y3]
       refine ord [18,19] ?_
       iterate 2 (refine tq z ?_;try simp only[PT,Y1,Y2,Y3])
       refine av ?_;refine JQ 20 ?_
       try simp only[PT,Y1,Y2,Y3]
       refine JQ 21 ?_
       try simp only[PT,Y1,Y2,Y3]
       refine JQ 22 ?_
       try simp only[PT,Y1,Y2,Y3]
       refine JQ 23 ?_
       try simp only[PT,Y1,Y2,Y3]
       refine JD ?_;go_wp2_with fail
       first | (have:=a;refine bodyPost_ret (v:=.tuple #[.slice none 0 0,.bool false]) (by simp[results,Tryz.results149,go_sem]) rfl ?_) | refine bodyPost_ret (v:=.tuple #[I 0,.bool false]) (by simp[results,Tryz.results151,go_sem]) rfl ?_
       first | (have:=a;exact⟨_,false,_,_,_,rfl,bZ (b8.o (gy (S:=true) Nd.o hf.o bh.o (by rw[<-T.o];exact O1.o) k1.o n1.o (by rw[<-a0.o];exact O2.o) k2.o n2.o))⟩) | (exact⟨_,false,_,_,_,rfl,bZ (b8.o (gy (S:=false) Nd.o hf.o bh.o (by rw[<-T.o];exact O1.o) k1.o n1.o (by rw[<-a0.o];exact O2.o) k2.o n2.o))⟩)
      dsimp only[Y1,Y2,Y3];go_simp;obtain⟨b2,a7⟩:∃g,g=wc.heap.size:=⟨_,rfl⟩;have ak:Z (wd.heap.size<=b2):=bZ (by rw[a7];exact Ka.o.size)
      first | (have:=a;have s:=bZ (Blk.new wc 62 #[Value.slice vA vn t])) | have s:=bZ (Blk.new wc 2 #[I vx])
      first | (have:=a;have D:aa [] wc (wc.alloc (.cells #[Value.slice vA vn t] 62)):=(aa.refl [] wc).alloc _) | have D:aa [] wc (wc.alloc (.cells #[I vx] 2)):=(aa.refl [] wc).alloc _
      replace Ka:=bZ (Ka.o.trans D);replace RK:=bZ (ab RK.o D);replace R:=bZ (ab R.o D);replace M:=bZ (M.o.keep D (by simp));replace L:=bZ (L.o.keep D (by simp));have z:=a6.o _ _ [] z D (by simp);refine O _ _ (.inr z) ?_;clear O K D;rw[<-a7] at s ⊢
      first | (have:=a;generalize wc.alloc (.cells #[Value.slice vA vn t] 62)=u at*) | generalize wc.alloc (.cells #[I vx] 2)=u at*
      clear a7;obtain⟨wc,m⟩:∃x,x=u:=⟨_,rfl⟩;subst m
      try simp only[PT,Y1,Y2,Y3]
      refine J1 9 fun K O=>?_;dsimp only[Y1,Y2,Y3];go_simp
      first | (have:=a;refine(aP.1 wc b q F i b1 ks (I E) RK.o hi L.o (fun r=>by have:=(Q.o _ (.inl r));have:=ba.o;omega) (by omega) o1.o rfl).mono ?_) | (refine(aP.2.2.2.1 wc b q F i b1 ks (Value.string E) RK.o hi L.o (fun r=>by have:=(Q.o _ (.inl r));have:=ba.o;omega) (by omega) o1.o rfl).mono ?_)
      rintro e u ⟨b5,c4,rfl,o,k,nf⟩;have J:Z (wd.heap.size<=wc.heap.size):=bZ Ka.o.size;have k1:Z (aa (fb b) wd u):=bZ (Ka.o.nil.trans k.o);have O1:=o;have n1:Z (∀g∈fb b5,g∈fb b\/wd.heap.size<=g):=bZ (fun g hg=>(nf.o g hg).imp_right (fun h=>Dc J.o h));have bi:Z (wd.heap.size<=u.heap.size):=bZ k1.o.size;obtain⟨w1,a8⟩:∃x,x=u:=⟨_,rfl⟩;rw[<-a8] at O1 k1 bi;have Kb:Z (aa [] w1 u):=bZ (by rw[a8];exact aa.refl _ _);replace R:=bZ (aq R.o k.o c7.o);replace M:=bZ (M.o.keep k.o X.o.1.1);replace s:=bZ (s.o.keep k.o (fun r=>by have:=Q.o _ (.inl r);have:=ak.o;omega));have z:=a6.o _ _ (fb b) z k.o X.o.1.2;refine O _ _ (.inr z) ?_;clear O K o k nf RK a8 Ka L J;obtain⟨wc,m⟩:∃x,x=u:=⟨_,rfl⟩;subst m
      try simp only[PT,Y1,Y2,Y3]
      refine J1 17 fun K O=>?_;dsimp only[Y1,Y2,Y3];go_simp
      first | (have:=a;refine(aP.2.1 wc l q H i b2 vs (Value.slice vA vn t) R.o hi s.o (fun r=>by have:=(Q.o _ (.inr r));have:=ak.o;omega) (by omega) o2.o rfl).mono ?_) | (refine(aP.1 wc l q H i b2 vs (I vx) R.o hi s.o (fun r=>by have:=(Q.o _ (.inr r));have:=ak.o;omega) (by omega) o2.o rfl).mono ?_)
      rintro e u ⟨b6,c5,rfl,o,k,nf⟩;have J:Z (w1.heap.size<=wc.heap.size):=bZ Kb.o.size;have k2:Z (aa (fb l) w1 u):=bZ (Kb.o.nil.trans k.o);have O2:=o;have n2:Z (∀g∈fb b6,g∈fb l\/w1.heap.size<=g):=bZ (fun g hg=>(nf.o g hg).imp_right (fun h=>Dc J.o h));replace M:=bZ (M.o.keep k.o X.o.2.1);have z:=a6.o _ _ (fb l) z k.o X.o.2.2;have ct:=M.o.cell 0;have cv:=M.o.cell 1;have xf:=M.o.frozen;refine O _ _ (.inr z) ?_;clear O K o k nf R Kb s J;obtain⟨wc,m⟩:∃x,x=u:=⟨_,rfl⟩;subst m
      try simp only[PT,Y1,Y2,Y3]
      refine ord [18,19] ?_
      iterate 2 (refine tq z ?_;try simp only[PT,Y1,Y2,Y3])
      refine av ?_;refine JQ 20 ?_
      try simp only[PT,Y1,Y2,Y3]
      refine JQ 21 ?_
      try simp only[PT,Y1,Y2,Y3]
      refine JQ 22 ?_
      try simp only[PT,Y1,Y2,Y3]
      refine JQ 23 ?_
      try simp only[PT,Y1,Y2,Y3]
      refine JD ?_;go_wp2_with fail
      first | (have:=a;refine bodyPost_ret (v:=.tuple #[.slice none 0 0,.bool false]) (by simp[results,Tryz.results149,go_sem]) rfl ?_) | refine bodyPost_ret (v:=.tuple #[I 0,.bool false]) (by simp[results,Tryz.results151,go_sem]) rfl ?_
      first | (have:=a;exact⟨_,false,_,_,_,rfl,bZ (b8.o (gy (S:=true) Nd.o hf.o bh.o (by rw[<-T.o];exact O1.o) k1.o n1.o (by rw[<-a0.o];exact O2.o) k2.o n2.o))⟩) | (exact⟨_,false,_,_,_,rfl,bZ (b8.o (gy (S:=false) Nd.o hf.o bh.o (by rw[<-T.o];exact O1.o) k1.o n1.o (by rw[<-a0.o];exact O2.o) k2.o n2.o))⟩)
     dsimp only[Y1,Y2,Y3];go_simp;obtain⟨b2,a7⟩:∃g,g=wc.heap.size:=⟨_,rfl⟩;have ak:Z (wd.heap.size<=b2):=bZ (by rw[a7];exact Ka.o.size)
     first | (have:=a;have s:=bZ (Blk.new wc 62 #[Value.slice vA vn t])) | have s:=bZ (Blk.new wc 2 #[I vx])
     first | (have:=a;have D:aa [] wc (wc.alloc (.cells #[Value.slice vA vn t] 62)):=(aa.refl [] wc).alloc _) | have D:aa [] wc (wc.alloc (.cells #[I vx] 2)):=(aa.refl [] wc).alloc _
     replace Ka:=bZ (Ka.o.trans D);replace RK:=bZ (ab RK.o D);replace R:=bZ (ab R.o D);replace M:=bZ (M.o.keep D (by simp));have z:=a6.o _ _ [] z D (by simp);refine O _ _ (.inr z) ?_;clear O K D;rw[<-a7] at s ⊢
     first | (have:=a;generalize wc.alloc (.cells #[Value.slice vA vn t] 62)=u at*) | generalize wc.alloc (.cells #[I vx] 2)=u at*
     clear a7;obtain⟨wc,m⟩:∃x,x=u:=⟨_,rfl⟩;subst m
     try simp only[PT,Y1,Y2,Y3]
     refine J1 8 fun K O=>?_;dsimp only[Y1,Y2,Y3];go_simp;obtain⟨b1,b7⟩:∃g,g=wc.heap.size:=⟨_,rfl⟩;have ba:Z (wd.heap.size<=b1):=bZ (by rw[b7];exact Ka.o.size)
     first | (have:=a;have L:=bZ (Blk.new wc 2 #[I E])) | have L:=bZ (Blk.new wc 9 #[Value.string E])
     first | (have:=a;have D:aa [] wc (wc.alloc (.cells #[I E] 2)):=(aa.refl [] wc).alloc _) | have D:aa [] wc (wc.alloc (.cells #[Value.string E] 9)):=(aa.refl [] wc).alloc _
     replace Ka:=bZ (Ka.o.trans D);replace RK:=bZ (ab RK.o D);replace R:=bZ (ab R.o D);replace M:=bZ (M.o.keep D (by simp));replace s:=bZ (s.o.keep D (by simp));have z:=a6.o _ _ [] z D (by simp);refine O _ _ (.inr z) ?_;clear O K D;rw[<-b7] at L ⊢
     first | (have:=a;generalize wc.alloc (.cells #[I E] 2)=u at*) | generalize wc.alloc (.cells #[Value.string E] 9)=u at*
     clear b7;obtain⟨wc,m⟩:∃x,x=u:=⟨_,rfl⟩;subst m
     try simp only[PT,Y1,Y2,Y3]
     refine J1 9 fun K O=>?_;dsimp only[Y1,Y2,Y3];go_simp
     first | (have:=a;refine(aP.1 wc b q F i b1 ks (I E) RK.o hi L.o (fun r=>by have:=(Q.o _ (.inl r));have:=ba.o;omega) (by omega) o1.o rfl).mono ?_) | (refine(aP.2.2.2.1 wc b q F i b1 ks (Value.string E) RK.o hi L.o (fun r=>by have:=(Q.o _ (.inl r));have:=ba.o;omega) (by omega) o1.o rfl).mono ?_)
     rintro e u ⟨b5,c4,rfl,o,k,nf⟩;have J:Z (wd.heap.size<=wc.heap.size):=bZ Ka.o.size;have k1:Z (aa (fb b) wd u):=bZ (Ka.o.nil.trans k.o);have O1:=o;have n1:Z (∀g∈fb b5,g∈fb b\/wd.heap.size<=g):=bZ (fun g hg=>(nf.o g hg).imp_right (fun h=>Dc J.o h));have bi:Z (wd.heap.size<=u.heap.size):=bZ k1.o.size;obtain⟨w1,a8⟩:∃x,x=u:=⟨_,rfl⟩;rw[<-a8] at O1 k1 bi;have Kb:Z (aa [] w1 u):=bZ (by rw[a8];exact aa.refl _ _);replace R:=bZ (aq R.o k.o c7.o);replace M:=bZ (M.o.keep k.o X.o.1.1);replace s:=bZ (s.o.keep k.o (fun r=>by have:=Q.o _ (.inl r);have:=ak.o;omega));have z:=a6.o _ _ (fb b) z k.o X.o.1.2;refine O _ _ (.inr z) ?_;clear O K o k nf RK a8 Ka L J;obtain⟨wc,m⟩:∃x,x=u:=⟨_,rfl⟩;subst m
     try simp only[PT,Y1,Y2,Y3]
     refine J1 17 fun K O=>?_;dsimp only[Y1,Y2,Y3];go_simp
     first | (have:=a;refine(aP.2.1 wc l q H i b2 vs (Value.slice vA vn t) R.o hi s.o (fun r=>by have:=(Q.o _ (.inr r));have:=ak.o;omega) (by omega) o2.o rfl).mono ?_) | (refine(aP.1 wc l q H i b2 vs (I vx) R.o hi s.o (fun r=>by have:=(Q.o _ (.inr r));have:=ak.o;omega) (by omega) o2.o rfl).mono ?_)
     rintro e u ⟨b6,c5,rfl,o,k,nf⟩;have J:Z (w1.heap.size<=wc.heap.size):=bZ Kb.o.size;have k2:Z (aa (fb l) w1 u):=bZ (Kb.o.nil.trans k.o);have O2:=o;have n2:Z (∀g∈fb b6,g∈fb l\/w1.heap.size<=g):=bZ (fun g hg=>(nf.o g hg).imp_right (fun h=>Dc J.o h));replace M:=bZ (M.o.keep k.o X.o.2.1);have z:=a6.o _ _ (fb l) z k.o X.o.2.2;have ct:=M.o.cell 0;have cv:=M.o.cell 1;have xf:=M.o.frozen;refine O _ _ (.inr z) ?_;clear O K o k nf R Kb s J;obtain⟨wc,m⟩:∃x,x=u:=⟨_,rfl⟩;subst m
     try simp only[PT,Y1,Y2,Y3]
     refine ord [18,19] ?_
     iterate 2 (refine tq z ?_;try simp only[PT,Y1,Y2,Y3])
     refine av ?_;refine JQ 20 ?_
     try simp only[PT,Y1,Y2,Y3]
     refine JQ 21 ?_
     try simp only[PT,Y1,Y2,Y3]
     refine JQ 22 ?_
     try simp only[PT,Y1,Y2,Y3]
     refine JQ 23 ?_
     try simp only[PT,Y1,Y2,Y3]
     refine JD ?_;go_wp2_with fail
     first | (have:=a;refine bodyPost_ret (v:=.tuple #[.slice none 0 0,.bool false]) (by simp[results,Tryz.results149,go_sem]) rfl ?_) | refine bodyPost_ret (v:=.tuple #[I 0,.bool false]) (by simp[results,Tryz.results151,go_sem]) rfl ?_
     first | (have:=a;exact⟨_,false,_,_,_,rfl,bZ (b8.o (gy (S:=true) Nd.o hf.o bh.o (by rw[<-T.o];exact O1.o) k1.o n1.o (by rw[<-a0.o];exact O2.o) k2.o n2.o))⟩) | (exact⟨_,false,_,_,_,rfl,bZ (b8.o (gy (S:=false) Nd.o hf.o bh.o (by rw[<-T.o];exact O1.o) k1.o n1.o (by rw[<-a0.o];exact O2.o) k2.o n2.o))⟩)
    clear T a0 an
    first | (have:=a;have ob:∃h',h=h'+1/\es=ao kids en/\∀c∈kids,Rep tyI w h' c.1 c.2.1 c.2.2.1 c.2.2.2/\7<=c.2.1/\c.2.1<=15:=?_) | have ob:∃h',h=h'+1/\es=ao kids en/\∀c∈kids,Rep tyS w h' c.1 c.2.1 c.2.2.1 c.2.2.2/\7<=c.2.1/\c.2.1<=15:=?_
    rotate_left
    ·rcases hb.o with ⟨_,h2,_⟩ | ⟨h',h1,_,h3,h4⟩
     ·rw[h2] at ac;simp at ac
     exact⟨h',h1,h3,h4⟩
    obtain⟨h',rfl,d6,c0⟩:=ob;subst d6
    first | (have:=a;have hs:Z (ld true (ao kids en) (en.take i) (en.drop i) (I E)):=bZ (fE ac hf.o)) | have hs:Z (ld false (ao kids en) (en.take i) (en.drop i) (Value.string E)):=bZ (fE ac hf.o)
    first | (have:=a;have W:Z (cR tyI w h' p en kids (ay p b l a9)):=bZ ⟨ac,N.o.at_,fun c hc=>(c0 c hc).1,P.o⟩) | have W:Z (cR tyS w h' p en kids (ay p b l a9)):=bZ ⟨ac,N.o.at_,fun c hc=>(c0 c hc).1,P.o⟩
    obtain⟨c,cm,d3,la,lb,lc⟩:=lJ ac (by rw[<-ar.o];exact hi);have d5:=(Du i en).symm;generalize kids.take i=A at*;generalize kids.drop (i+1)=B at*;generalize en.take i=EA at*;generalize en.drop i=EB at*;clear hb hl hf;subst cm;subst d5;have h7:Z (∀d∈A++c::B,7<=d.2.1/\d.2.1<=15):=bZ (fun d hd=>(c0 d hd).2);have c9:=IH.o h' c rfl (by simp);have bs:Z (∀x∈c.2.2.1,x∈ao (A++c::B) (EA++EB)):=bZ (fun x hx=>by rw[au A EA c B EB la lb];simp[hx]);have bl:Z (∀y∈c.2.2.2,y∉ay p b l a9/\y≠bt):=bZ (fun y hy=>⟨fun r=>(Dp.1 P.o).2.2 y r y (by rw[aB,aG];simp[hy]) rfl,fun e=>ap.o (by rw[aB,aG,<-e];simp[hy])⟩);have bp:(List.map (fun x:Kid=>x.1) (A++c::B)).length=q+1:=by rw[Df,ac,ar.o]
    have cj:(List.map (fun x:Kid=>x.1) (A++c::B))[i]? =some c.1:=by rw[De,d3];rfl
    have hd:decide ((List.map (fun x:Kid=>x.1) (A++c::B)).length=0)=false:=by rw[bp];simp
    rw[hd] at b4;obtain⟨gx,c3,e3,dn,ek,_,_,cr,_⟩:=ax N.o.rc (by rw[bp];omega);injection e3 with e3 _ e3';subst e3 e3';rw[bp] at dn;have x2:w.cell? (U p 2)=G (V gx) (q+1) bk:=by have:=N.o.blk.cell 2;rw[bp] at this;exact this
    have xq:w.cell? (U gx i)=some (.pointer (V c.1)):=cr i _ (by rw[De,cj];rfl);have cs:(i:Int)<(q:Int)+1:=by omega
    have d7:gx∈ay p b l (V gx):=bf.2 (by simp[fb]);have dc:p∈ay p b l (V gx):=bf.2 (.inl rfl);clear hd cr x0 x1 c0 IH bp cj;replace la:=bZ la;replace lb:=bZ lb;replace lc:=bZ lc;go_wp2_with fail;refine b4.mono ?_;rintro e w' ⟨rfl,rfl⟩;clear b4;go_wp2_with fail;refine c9.mono ?_;clear c9;rintro e w1 ⟨old,fd,m1,bd,F1,rfl,hp⟩;have ew:w1.cell? (U p 2)=G (V gx) (q+1) bk:=hp.o.kp.cellEq x2 (fun r=>(bl.o _ r).1 dc);have ex:w1.cell? (U gx i)=some (.pointer (V c.1)):=hp.o.kp.cellEq xq (fun r=>(bl.o _ r).1 d7)
    first | (have:=a;have T1:Z (Blk w1 bt 204 #[b0,I 16,b2]):=bZ (hT.o.keep hp.o.kp (fun r=>(bl.o _ r).2 rfl))) | have T1:Z (Blk w1 bt 250 #[b0,I 16,b2]):=bZ (hT.o.keep hp.o.kp (fun r=>(bl.o _ r).2 rfl))
    have t1:=T1.o.cell 1;obtain⟨qA,qc,q0⟩:∃qA qc,w1.cell? (U c.1 0)=G qA m1 qc:=by
     obtain⟨e5,_,_,db,⟨qA,qc,_,_,_,_,hB,_⟩,_⟩:=hp.o.vw;refine⟨qA,qc,?_⟩;have:=hB.cell 0;rw[Df,<-db] at this;exact this
    have dr:=(h7.o c (by simp)).2;have ds:=hp.o.hi;clear x2 xq cs bl P ap hT;have er:w1.drew.cell? (U c.1 0)=G qA m1 qc:=q0;have cs:(i:Int)<(q:Int)+1:=by omega
    by_cases d2:m1=16
    ·subst d2;obtain⟨W1,bb⟩:=xI (c1:=(c.1,16,bd,F1)) W.o la.o lb.o h7.o hs.o hp.o rfl rfl
     first | (have:=a;have fe:∀x∈EA++EB,cX x.1/\dk x.2:=fun x hx=>f.o x (bL ac hx)) | have fe:∀x∈EA++EB,dP x.1/\dW x.2:=fun x hx=>f.o x (bL ac hx)
     first | (have:=a;have f1:∀x∈bd,cX x.1/\dk x.2:=fun x hx=>?_) | have f1:∀x∈bd,dP x.1/\dW x.2:=fun x hx=>?_
     rotate_left
     ·rcases hp.o.sub x hx with h | rfl
      ·exact f.o x (bs.o x h)
      first | (have:=a;exact⟨⟨_,rfl⟩,⟨_,_,_,rfl⟩⟩) | exact⟨⟨_,rfl⟩,⟨_,rfl⟩⟩
     have c8:EA.length+EB.length<=1000:=by rw[<-CU,<-ar.o];omega
     have kn:∀n,aa [] w1 (w1.drewN n):=fun n=>(aa.refl [] w1).drewN n
     first | (have:=a;have C:=fun n=>xo (w1.drewN n) bt h' p b0 b2 A B (c.1,16,bd,F1) EA EB (ay p b l (V gx)) (T1.o.keep (kn n) (by simp)) (W1.keep0 (kn n)) la.o lb.o rfl c8 fe f1) | have C:=fun n=>xm (w1.drewN n) bt h' p b0 b2 A B (c.1,16,bd,F1) EA EB (ay p b l (V gx)) (T1.o.keep (kn n) (by simp)) (W1.keep0 (kn n)) la.o lb.o rfl c8 fe f1
     rw[lc.o] at C;replace kn:=bZ kn;replace C:=bZ C;replace bb:=bZ bb;clear W1 fe f1 hp W hs h7 bs f fk fv c8;unfold ptr at C;go_wp2_with fail;go_quiet (fail);go_wp2_with fail;refine(C.o _).mono ?_;rintro e w2 ⟨rfl,co⟩;obtain⟨b3,F',hR⟩:=bb.o w2 (co.o.from_ (kn.o _));clear C bb co;go_wp2_with fail
     first | (have:=a;refine bodyPost_ret (v:=.tuple #[old,.bool fd]) (by simp[results,Tryz.results149,go_sem]) rfl ?_) | refine bodyPost_ret (v:=.tuple #[old,.bool fd]) (by simp[results,Tryz.results151,go_sem]) rfl ?_
     exact⟨old,fd,_,_,_,rfl,bZ hR⟩
    have e8:¬(16:Int)<=(m1:Int):=by omega
    have hR:=bZ (xH (c1:=(c.1,m1,bd,F1)) W.o la.o lb.o h7.o hs.o hp.o rfl (by show m1<=15;omega));clear hp W hs h7 bs f fk fv T1;go_wp2_with fail;go_quiet (fail);go_wp2_with fail
    first | (have:=a;refine bodyPost_ret (v:=.tuple #[old,.bool fd]) (by simp[results,Tryz.results149,go_sem]) rfl ?_) | refine bodyPost_ret (v:=.tuple #[old,.bool fd]) (by simp[results,Tryz.results151,go_sem]) rfl ?_
    exact⟨old,fd,_,_,_,rfl,bZ (hR.o.keepR ((aa.refl [] w1).drewN _))⟩
theorem xJ:(∀(b:Nat) (i j:Value) (n:Int) (D:Option Addr) (E o:Nat),∀(h:Nat) (w:World) (p m:Nat) (d:List Ent) (F:List Nat),Blk w b 204 #[i,I 16,j]->iY tyI w h p m d F->F.Nodup->b∉F->m<=15->(∀x∈d,cX x.1/\dk x.2)->
 Calls Tryz.prog 149 #[ptr b,ptr p,I n,Value.slice D E o] w (jt true tyI w h p m d F (I n) (Value.slice D E o)))/\
 (∀(b:Nat) (i j:Value) (n:ByteArray) (H:Int),∀(h:Nat) (w:World) (p m:Nat) (d:List Ent) (F:List Nat),Blk w b 250 #[i,I 16,j]->iY tyS w h p m d F->F.Nodup->b∉F->m<=15->(∀x∈d,dP x.1/\dW x.2)->
 Calls Tryz.prog 151 #[ptr b,ptr p,Value.string n,I H] w (jt false tyS w h p m d F (Value.string n) (I H))):=by
  refine⟨?_,?_⟩;have k:=trivial;intro b i j n D E o;rotate_left;intro b i j n H;rotate_left
  all_goals
   intro h
   induction h with
   | zero=>
    rintro w p m d F r ⟨en,kids,q,rfl,v,rfl,s⟩ a g l f
    first | (have:=k;exact fV.1 w b p 0 i j en kids d q _ _ _ _ r v s a g l f (fun z c e _=>by cases e)) | exact fV.2 w b p 0 i j en kids d q _ _ r v s a g l f (fun z c e _=>by cases e)
   | succ h ih=>
    rintro w p m d F r ⟨en,kids,q,rfl,v,rfl,s⟩ a g l f
    first | (have:=k;refine fV.1 w b p (h+1) i j en kids d q _ _ _ _ r v s a g l f (fun z c e t=>?_)) | refine fV.2 w b p (h+1) i j en kids d q _ _ r v s a g l f (fun z c e t=>?_)
    injection e with e;subst e;rcases s with ⟨u,_⟩ | ⟨z,u,K,rfl,J⟩
    ·cases u
    injection u with u;subst u;obtain⟨A,B,rfl⟩:=List.append_of_mem t;have C:∀y∈c.2.2.2,y∈q++af (A++c::B):=fun y M=>Dg _ (aT.2 ⟨c,t,M⟩);refine ih w c.1 c.2.1 c.2.2.1 c.2.2.2 r (J c t).1.toView ?_ (fun l=>g (C _ l)) (J c t).2.2 (fun x L=>f x (dC K t L));rw[aB,aG] at a;refine Do.2 (fun x=>?_);have:=Do.1 a x;simp only[DN] at this;omega
end Go.Proofs.YtmlmfpikncogpaaGreat
