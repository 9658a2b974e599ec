import Derived.Test.YtldmkbhgdbafhaaGreatL45
namespace Go.Proofs.YtldmkbhgdbafhaaGreat
open Go.RowKit
set_option linter.unusedSimpArgs false
set_option linter.unusedVariables false
set_option maxRecDepth 100000
set_option maxHeartbeats 64000000
theorem xY {o:Int} {t:T} {a:Am} (e:t.wd<=10000) (h:(dP o t).1=.am a):a.t.wd<=20000:=by
 have g:(az t (-1)).wd<=10000:=ce e;have d:∀u:T,u.wd<=10000->(aQ u (.c 1)).wd<=20000:=fun u b=>by
  have:=aA b;exact eY (by omega) (by simp[T.wd]) (by simp only[T.pts,D6];omega)
 have b:(if o=15\/o=14 then az t (-1) else t).wd<=10000:=by split<;>assumption
 unfold dP at h
 split at h
 ·cases h
 split at h
 ·injection h with h;subst h;dsimp only;omega
 split at h
 ·injection h with h;subst h;dsimp only;omega
 generalize (if o=15\/o=14 then az t (-1) else t)=u at*;have f:(if o=12\/o=14 then aQ u (.c 1) else u).wd<=20000:=by
  split
  ·exact d u b
  omega
 generalize (if o=12\/o=14 then aQ u (.c 1) else u)=z at*
 split at h
 ·split at h
  ·injection h with h;subst h;exact f
  cases h
 cases h
theorem vh {l:List Vb} {o m:Int} {x y:E} {a:Am} (e:(ofE x).1.wd<=4096) (f:(ofE y).1.wd<=4096) (h:(cG l o x y m).1=.am a):a.t.wd<=20000:=by
 have b:(T.c 0).wd<=20000:=by simp[T.wd]
 unfold cG at h
 split at h
 ·unfold ii at h;dsimp only at h
  split at h
  ·cases h
  injection h with h;subst h;exact b
 split at h
 ·unfold ej at h;dsimp only at h
  split at h
  ·cases h
  split at h
  ·injection h with h;subst h;exact b
  split at h
  ·injection h with h;subst h;exact b
  split at h
  ·cases h
  injection h with h;subst h;exact b
 unfold fd at h
 split at h
 ·split at h
  ·refine xY ?_ h;have:=aA e;have d:(az (ofE y).1 (-1)).wd<=4096:=ce f;have:=aA d;exact eY (by omega) (by omega) (by omega)
  cases h
 cases h
theorem wT {l:List Vb} {a:Am} (i:l.length<=10) (h:a.ok l) (g:2<=a.kd):(∀v∈a.t.vars,0<=v/\v<10)/\(sc a.vars).length<=100000:=by
 have d:∀ {v:Int},inV l v->0<=v/\v<10:=fun h=>by unfold inV at h;omega
 have e:∀v∈(T.c 0).vars,0<=v/\v<10:=fun v b=>by cases b
 have f:∀v∈a.t.vars,0<=v/\v<10:=by
  rcases h with h | h | h | h
  ·omega
  ·exact fun v b=>d (T.ty_vars h.2.2.2.2.1.1 h.2.2.2.2.2 v b)
  ·rw[h.2.2.2.1];exact e
  rw[h.2.2.2.2.1];exact e
 refine⟨f,?_⟩;unfold Am.vars
 split
 ·exact Dc (cS (K:=10) (fun v b=>f v b)) (by decide)
 split
 ·exact Dc (gu _) (by simp)
 exact Dc (gu _) (by simp)
theorem qp {l:List Vb} {L:List Int} (b:l.length<=10) (h:∀v∈L,inV l v):(sc L).length<=100000:=
 Dc (cS (K:=10) (fun v a=>by have:=h v a;unfold inV at this;omega)) (by decide)
theorem cZ (C:Nat->Prop) (r:List Vl) (l:List Vb) (L:Option Addr) (nl cl R:Nat) (a6:nl=l.length) (hr:bD r l) (hl:l.length<=10) (a0:nl<=cl/\cl<=maxLen):∀(d:Nat) (e:E) (w:World) (Y T:ByteArray) (A:Option Addr) (n c:Nat) (m:Int),0<=m/\m<=3->ci l d e=true->e.rg->aY w C e A n->n<=c->c<=maxLen->bR w L l->w.cell? (U R 0)=G L nl cl->
 Calls Tryz.prog 35 #[.pointer (V R),exV e Y T A n c,I m] w (FmP w (fun g=>w.heap.size<=g) (trE l e m))
 | 0,e,w,Y,T,A,n,c,m,hm,h,_,_,_,_,_,_=>by cases e<;>cases h
 | d+1,.z _ _ _,w,Y,T,A,n,c,m,hm,h,_,_,_,_,_,_=>by cases h
 | d+1,.many _ _ _,w,Y,T,A,n,c,m,hm,h,_,_,_,_,_,_=>by cases h
 | d+1,.a o i v x,w,Y,T,A,n,c,m,hm,h,hrg,hA,hnc,hcm,hV,hT=>by
   obtain⟨rfl,g,t,Q,P,B,O,M,rfl,hC,hg,D⟩:=hA.get1;have X:Z (∀W,ad [] w W->aC W g t x Q P B O M):=bZ (fun W f=>(D.keep0 f).cells);unfold ci at h;rw[Bool.and_eq_true] at h;have a5:=h.1;replace h:=h.2;have a9:=bX hrg (show x∈(E.a o i v x).args by simp[E.args]);have a1:x.short 11=true:=dm (d:=11) a5 (show x∈(E.a o i v x).args by simp[E.args]);have b1:=block_lt_of_cell hT;by_cases ak:o=20
   ·subst ak;rw[if_pos rfl] at h;have H:Z (∀W,ad [] w W->Calls Tryz.prog 35 #[.pointer (V R),exV x Q P B O M,I (ngM m)] W (FmP W (fun g=>W.heap.size<=g) (trE l x (ngM m)))):=bZ (fun W f=>cZ C r l L nl cl R a6 hr hl a0 d x W Q P B O M (ngM m) (tj hm) h a9 ((D.keep0 f).ar) D.mc D.cm (hV.keep0 f) (f.cellEq hT (by simp)));rw[trE,if_pos rfl];exact yR w i m v x Y T Q P B g t c R O M hm hg ⟨hnc,hcm⟩ _ X H
   rw[if_neg ak] at h;simp only[Bool.and_eq_true,decide_eq_true_eq] at h;obtain⟨rfl,av⟩:=h;have ox:=dt hr av;have aa:Z (∀W,ad [] w W->Calls Tryz.prog 58 #[exV x Q P B O M] W (RoP W (.bool x.null))):=bZ (fun W f=>th C x W Q P B O M (cw a1) ((D.keep0 f).ar) D.mc D.cm);have ab:Z (∀W h,ad [] w W->(∀j u,(xc x.op x.ix x.lit Q P B O M)[j]? =some u->W.cell? (U h j)=some u)->Calls Tryz.prog 62 #[.slice (V h) 1 1] W (eZ W 3 1 (sc (ah x)).length ((sc (ah x)).map (Value.int .i64)))):=bZ (fun W h f hc=>by
    have q:=pO C 11 [x] W (V h) 1 1 (by decide) rfl (by decide) (by decide) (by decide) (fun y N=>by rw[CZ.1 N];exact a1) (fun j y N=>by
     cases j with
     | zero=>
      injection N with N;subst N;refine⟨h,0,Q,P,B,O,M,rfl,⟨?_,D.mc,D.cm,(D.keep0 f).ar⟩⟩;exact⟨hc 0 _ rfl,hc 1 _ rfl,hc 2 _ rfl,hc 3 _ rfl,hc 4 _ rfl,hc 5 _ rfl,hc 6 _ rfl,hc 7 _ rfl⟩
     | succ j=>cases N)
    simp only[List.flatMap_cons,List.flatMap_nil,DA] at q;exact q)
   have q:=yS w i m v x Y T Q P B g t c R O M hm hg ⟨hnc,hcm⟩ (qp hl ox.ran) X aa ab;have e:trE l (.a 17 i v x) m=(if x.null then aD (psM m) else if psM m then aN 1 (ay 0 (sc (ah x))) else aN 0 (ay 1 (sc (ah x))),0):=by
    rw[trE,if_neg (by decide)]
    split
    ·rfl
    split<;>rfl
   rw[e];exact q
 | d+1,.b o i v x y,w,Y,T,A,n,c,m,hm,h,hrg,hA,hnc,hcm,hV,hT=>by
   have aq:=hA;obtain⟨rfl,g,t,Q,P,B,O,M,ty,ny,B',my,cy,rfl,hC,hg,D,N⟩:=hA.get2;unfold ci at h;rw[Bool.and_eq_true] at h;have a5:=h.1;replace h:=h.2;have a9:=bX hrg (show x∈(E.b o i v x y).args by simp[E.args]);have an:=bX hrg (show y∈(E.b o i v x y).args by simp[E.args]);have a1:x.short 11=true:=dm (d:=11) a5 (show x∈(E.b o i v x y).args by simp[E.args]);have ao:y.short 11=true:=dm (d:=11) a5 (show y∈(E.b o i v x y).args by simp[E.args]);by_cases a4:o=18\/o=19
   ·rw[if_pos a4,Bool.and_eq_true] at h;have H:∀W,ad [] w W->Calls Tryz.prog 35 #[.pointer (V R),exV x Q P B O M,I m] W (FmP W (fun g=>W.heap.size<=g) (trE l x m)):=fun W f=>cZ C r l L nl cl R a6 hr hl a0 d x W Q P B O M m hm h.1 a9 ((D.keep0 f).ar) D.mc D.cm (hV.keep0 f) (f.cellEq hT (by simp));have K:∀W,ad [] w W->Calls Tryz.prog 35 #[.pointer (V R),exV y ty ny B' my cy,I m] W (FmP W (fun g=>W.heap.size<=g) (trE l y m)):=fun W f=>cZ C r l L nl cl R a6 hr hl a0 d y W ty ny B' my cy m hm h.2 an ((N.keep0 f).ar) N.mc N.cm (hV.keep0 f) (f.cellEq hT (by simp));have e:trE l (.b o i v x y) m=(if (trE l x m).2=0 then (if (trE l y m).2=0 then (.nd (if decide (o=18)=psM m then 0 else 1) [(trE l x m).1,(trE l y m).1],0) else (.nd 0 [],(trE l y m).2)) else (.nd 0 [],(trE l x m).2)):=by rw[trE,if_pos a4]
    refine xF w o i m v x y Y T g t c R a4 hm hg ⟨hnc,hcm⟩ [trE l x m,trE l y m] rfl (bZ (fun j r F=>?_)) _ (fun j r F h0 hq=>?_) (fun hq=>?_)
    ·match j,F with
     | 0,F=>
      injection F with F;subst F;exact⟨x.op,x.ix,x.lit.k,x.lit.n,Q,P,x.lit.s,B,O,M,fun W f=>(D.keep0 f).cells,H⟩
     | 1,F=>
      injection F with F;subst F;exact⟨y.op,y.ix,y.lit.k,y.lit.n,ty,ny,y.lit.s,B',my,cy,fun W f=>(N.keep0 f).cells,K⟩
    ·rw[e]
     match j,F with
     | 0,F=>
      injection F with F;subst F;rw[if_neg h0]
     | 1,F=>
      injection F with F;subst F;rw[if_pos (hq _ (by simp)),if_neg h0]
    rw[e,if_pos (hq _ (by simp)),if_pos (hq _ (by simp))];rfl
   rw[if_neg a4] at h;have am:(10<=o/\o<=16)/\bT l x=true/\bT l y=true/\(if o=16 then cC l x y=true else kD l o x y=true):=by
    by_cases a3:o=16
    ·rw[if_pos a3] at h ⊢;have h':=h;unfold cC at h';simp only[Bool.and_eq_true,Bool.or_eq_true,decide_eq_true_eq] at h';obtain⟨⟨⟨⟨⟨⟨J,h2⟩,S⟩,h4⟩,h5⟩,h6⟩,h7⟩:=h';exact⟨by omega,S,(jz (l:=l) J h4 h5 h6).1,h⟩
    rw[if_neg a3] at h ⊢;simp only[Bool.and_eq_true,decide_eq_true_eq] at h;exact⟨by omega,h.1.1.2,h.1.2,h.2⟩
   obtain⟨ho,px,py,hc⟩:=am;have ox:=dt hr px;have oy:=dt hr py;have ax:=lS a1 (by decide);have b0:=lS ao (by decide);have au:o=16->x.op=1->x.lit.s.size<=100000/\y.lit.s.size<=100000:=fun a3 a2=>by
    rw[if_pos a3] at hc;unfold cC at hc;simp only[Bool.and_eq_true,Bool.or_eq_true,decide_eq_true_eq] at hc;obtain⟨⟨⟨⟨⟨⟨J,h2⟩,S⟩,h4⟩,h5⟩,h6⟩,h7⟩:=hc;have ac:∀v:Vl,vOk v=true->v.s.size<=100000:=fun v hv=>by
     unfold vOk at hv
     split at hv
     ·simp only[Bool.and_eq_true,decide_eq_true_eq] at hv;omega
     split at hv
     ·simp only[decide_eq_true_eq] at hv;omega
     split at hv
     ·simp only[Bool.and_eq_true,decide_eq_true_eq] at hv;omega
     cases hv
    refine⟨?_,ac _ h6⟩;unfold bT at S
    split at S
    ·simp only[Bool.or_eq_true,decide_eq_true_eq] at S;rcases S with S | S
     ·omega
     exact ac _ S
    cases x with
    | z p i v=>
     simp only[E.op] at a2;subst a2;simp only[E.int,Bool.and_eq_true,if_true,decide_eq_true_eq] at S;exact ac _ S.1.2
    | a p i v x=>
     rename_i q;rcases h2 with h2 | h2
     ·cases h2
     exfalso;simp only[E.op] at a2;subst a2;simp[E.int] at S
    | b p i v x y=>
     exfalso;simp only[E.op] at a2;subst a2;simp[E.int] at S
    | many=>cases a1
   have aa:Z (∀W,ad [] w W->Calls Tryz.prog 58 #[exV (.b o i v x y) Y T (some (U g t)) 2 c] W (RoP W (.bool (x.null || y.null)))):=bZ (fun W f=>by
    have q:=th C (.b o i v x y) W Y T (some (U g t)) 2 c (cw a5) (aq.keep0 f) hnc hcm;have e:(E.b o i v x y).null=(x.null || y.null):=by
     have:¬(o=1):=by omega
     simp[E.null,this]
    rw[e] at q;exact q)
   have ab:Z (∀W,ad [] w W->Calls Tryz.prog 62 #[.slice (some (U g t)) 2 c] W (eZ W 3 1 (sc (ah x++ah y)).length ((sc (ah x++ah y)).map (Value.int .i64)))):=bZ (fun W f=>by
    have q:=pO C 11 [x,y] W (some (U g t)) 2 c (by decide) rfl (by decide) hnc hcm (fun z hz=>by
     simp only[Db,Dw,or_false] at hz;rcases hz with rfl | rfl<;>assumption) (fun j z hz=>by
      match j,hz with
      | 0,hz=>injection hz with hz;subst hz;exact⟨g,t,Q,P,B,O,M,rfl,D.keep0 f⟩
      | 1,hz=>injection hz with hz;subst hz;exact⟨g,t,ty,ny,B',my,cy,rfl,N.keep0 f⟩)
    simp only[List.flatMap_cons,List.flatMap_nil,DA] at q;exact q)
   have ap:Z ((x.null || y.null)=false->∀W,ad [] w W->Calls Tryz.prog 95 #[.pointer (V R),exV (.b o i v x y) Y T (some (U g t)) 2 c,I m] W (PaP W (fun g=>W.heap.size<=g) (cG l o x y m))):=bZ (fun hn W f=>by
    rw[Bool.or_eq_false_iff] at hn;refine xJ W l o i m v x y Y T Q P ty ny L B B' g t c nl cl R O M my cy ho hm ⟨hnc,hcm⟩ a6 (hV.keep0 f) (f.cellEq hT (by simp)) a0 au (bZ (fun W1 J=>(D.keep0 (f.trans J)).cells)) (bZ (fun W1 J=>(N.keep0 (f.trans J)).cells)) (ofE x).1 (ofE y).1 ⟨rfl,rfl⟩ (fun a3 ht=>?_);rw[jE ox hn.1,jE oy hn.2,Bool.or_eq_false_iff] at ht;obtain⟨ix,fx⟩:=ox.int_ hn.1 ht.1;obtain⟨iy,fy⟩:=oy.int_ hn.2 ht.2;have Ex:EOk l x:=⟨⟨11,by decide,a1⟩,a9,ix,hn.1⟩;have Ey:EOk l y:=⟨⟨11,by decide,ao⟩,an,iy,hn.2⟩;refine⟨Ex.nm.1 fx,Ey.nm.1 fy,by omega,by omega,fun W1 J=>?_,fun W1 J=>?_⟩
    ·have q:=xm C l x W1 Q P B O M Ex ((D.keep0 (f.trans J)).ar) D.mc D.cm;rw[show ofE x=((ofE x).1,0) by rw[<-fx]] at q;exact q
    have q:=xm C l y W1 ty ny B' my cy Ey ((N.keep0 (f.trans J)).ar) N.mc N.cm;rw[show ofE y=((ofE y).1,0) by rw[<-fy]] at q;exact q)
   rw[trE,if_neg a4];refine xE w o i m v x y Y T _ c R ho _ (bZ (fun W f=>?_));refine mA W l o i m v x y Y T g t c R ho hm ⟨hnc,hcm⟩ (bZ (fun W1 J=>aa.o W1 (f.trans J))) (bZ (fun W1 J=>ab.o W1 (f.trans J))) (qp hl (fun v hv=>(CX.1 hv).elim (ox.ran v) (oy.ran v))) (bZ (fun hn W1 J=>ap.o hn W1 (f.trans J))) (sU l o x y m) (fun hn h0 a ha=>?_);rw[Bool.or_eq_false_iff] at hn;have hp:=qu (m:=m) ho hr ox oy hn.1 hn.2 hc (p:=(cG l o x y m).1) (by rw[<-h0]);obtain⟨J,h2⟩:=hp.ok a ha;obtain⟨S,h4⟩:=wT hl J h2;exact⟨S,vh ax b0 ha,h4⟩
theorem jN (C:Nat->Prop) (r:List Vl) (l:List Vb) (L:Option Addr) (t q d:Nat) (e:E) (w:World) (N M:ByteArray) (A:Option Addr) (n c:Nat) (F:t=l.length) (hr:bD r l) (hl:l.length<=10) (D:t<=q/\q<=maxLen)
 (h:ci l d e=true) (T:e.rg) (hA:aY w C e A n) (S:n<=c) (Q:c<=maxLen) (hV:bR w L l):
 Calls Tryz.prog 10 #[exV e N M A n c,.slice L t q] w (FmP w (fun g=>w.heap.size<=g) (trE l e 0)):=by
  obtain⟨W0,i,t1,t2,k0,X⟩:=dX w 26 45 (exC e N M A n c) #[I 0,I 0,I 0,I 0,I 0,.slice none 0 0,I 0,I 0,.bool false,.string ⟨#[]⟩,.slice none 0 0];obtain⟨gb,j⟩:∃g,g=w.heap.size:=⟨_,rfl⟩;obtain⟨P,p⟩:∃g,g=w.heap.size+1:=⟨_,rfl⟩;obtain⟨H,x⟩:∃g,g=w.heap.size+1+1:=⟨_,rfl⟩;obtain⟨m,a⟩:∃W,W=W0.alloc (.cells #[.slice L t q] 85):=⟨_,rfl⟩;rw[<-p] at t2;rw[<-j] at t1;have K:Z (ad [] W0 m):=bZ (by rw[a];exact(ad.refl [] W0).alloc _);have Y:=bZ (k0.trans K.o);have O:=bZ (t1.keep K.o (by simp));have b3:=bZ (t2.keep K.o (by simp));have u:H=W0.heap.size:=by omega
  have bt:Z (Blk m H 85 #[.slice L t q]):=bZ (by rw[a,u];exact Blk.new W0 85 _);have B:Z (w.heap.size<=P/\P<m.heap.size/\w.heap.size<=m.heap.size):=bZ (by have:=K.o.size;omega);have HX:Z (Calls Tryz.prog 35 #[.pointer (V H),exV e N M A n c,I 0] m (FmP m (fun g=>m.heap.size<=g) (trE l e 0))):=bZ (cZ C r l L t q H F hr hl D d e m N M A n c 0 (by decide) h T (hA.keep0 Y.o) S Q (hV.keep0 Y.o) (bt.o.cell 0));generalize trE l e 0=R at*;unfold exC at i O;unfold exV at*;generalize e.op=xo at*;generalize e.ix=xi at*;generalize e.lit.k=xk at*;generalize e.lit.n=xn at*;generalize e.lit.s=xs at*;have y:=O.o.cell;have yl:=O.o.lt;rw[a,i] at y yl;rw[j] at y yl;clear t1 t2 u hV X k0 F;go_enter Tryz.func10,Tryz.ntmps10;go_wp2_with (go_at_call 35;rw[<-i,<-a];rw[<-x,<-p,<-j];clear i a x p j y yl;refine HX.o.mono ?_;intro e w6 h6;obtain⟨tA,tc,A_,c_,rfl,F6,k6⟩:=h6;have c3:=bZ (b3.o.keep k6.o (by simp));have z:=c3.o.cell;have zf:=c3.o.frozen;have zl:=c3.o.lt;unfold fmV fmL amL;simp only[D3,Dm]);obtain⟨wz,b⟩:∃wz,wz=aj w6 P 0 (fmL (R.1) tA tc A_ c_):=⟨_,rfl⟩;have J:=cQ (f:=R.1) B.o.1 c3.o rfl (Y.o.trans k6.o) (F6.o.mono (fun g h1 h2=>by have q1:=B.o;(try dsimp only at h2);omega)) b (R.2);unfold fmL amL at b J;simp only[aj,D3,Dm,Nat.reduceAdd] at b J;rw[<-b];clear b;have dc:=J.1.cell;refine bodyPost_ret (v:=.tuple #[fmV (R.1) tA tc A_ c_,I (R.2)]) (by simp[results,Tryz.results10,go_sem,dc,fmV,fmL,amL]) rfl ?_;exact J.2
theorem mN (C:Nat->Prop) (r:List Vl) (l:List Vb) (L:Option Addr) (t q d:Nat) (e:E) (w:World) (N M:ByteArray) (A:Option Addr) (n c:Nat) (F:t=l.length) (hr:bD r l) (hl:l.length<=10) (D:t<=q/\q<=maxLen)
 (h:ci l d e=true) (T:e.rg) (hA:aY w C e A n) (S:n<=c) (Q:c<=maxLen) (hV:bR w L l):
 Calls Tryz.prog 11 #[exV e N M A n c,.slice L t q] w (FmP w (fun g=>w.heap.size<=g) (trE l e 1)):=by
  obtain⟨W0,i,t1,t2,k0,X⟩:=dX w 26 45 (exC e N M A n c) #[I 0,I 0,I 0,I 0,I 0,.slice none 0 0,I 0,I 0,.bool false,.string ⟨#[]⟩,.slice none 0 0];obtain⟨gb,j⟩:∃g,g=w.heap.size:=⟨_,rfl⟩;obtain⟨P,p⟩:∃g,g=w.heap.size+1:=⟨_,rfl⟩;obtain⟨H,x⟩:∃g,g=w.heap.size+1+1:=⟨_,rfl⟩;obtain⟨m,a⟩:∃W,W=W0.alloc (.cells #[.slice L t q] 85):=⟨_,rfl⟩;rw[<-p] at t2;rw[<-j] at t1;have K:Z (ad [] W0 m):=bZ (by rw[a];exact(ad.refl [] W0).alloc _);have Y:=bZ (k0.trans K.o);have O:=bZ (t1.keep K.o (by simp));have b3:=bZ (t2.keep K.o (by simp));have u:H=W0.heap.size:=by omega
  have bt:Z (Blk m H 85 #[.slice L t q]):=bZ (by rw[a,u];exact Blk.new W0 85 _);have B:Z (w.heap.size<=P/\P<m.heap.size/\w.heap.size<=m.heap.size):=bZ (by have:=K.o.size;omega);have HX:Z (Calls Tryz.prog 35 #[.pointer (V H),exV e N M A n c,I 1] m (FmP m (fun g=>m.heap.size<=g) (trE l e 1))):=bZ (cZ C r l L t q H F hr hl D d e m N M A n c 1 (by decide) h T (hA.keep0 Y.o) S Q (hV.keep0 Y.o) (bt.o.cell 0));generalize trE l e 1=R at*;unfold exC at i O;unfold exV at*;generalize e.op=xo at*;generalize e.ix=xi at*;generalize e.lit.k=xk at*;generalize e.lit.n=xn at*;generalize e.lit.s=xs at*;have y:=O.o.cell;have yl:=O.o.lt;rw[a,i] at y yl;rw[j] at y yl;clear t1 t2 u hV X k0 F;go_enter Tryz.func11,Tryz.ntmps11;go_wp2_with (go_at_call 35;rw[<-i,<-a];rw[<-x,<-p,<-j];clear i a x p j y yl;refine HX.o.mono ?_;intro e w6 h6;obtain⟨tA,tc,A_,c_,rfl,F6,k6⟩:=h6;have c3:=bZ (b3.o.keep k6.o (by simp));have z:=c3.o.cell;have zf:=c3.o.frozen;have zl:=c3.o.lt;unfold fmV fmL amL;simp only[D3,Dm]);obtain⟨wz,b⟩:∃wz,wz=aj w6 P 0 (fmL (R.1) tA tc A_ c_):=⟨_,rfl⟩;have J:=cQ (f:=R.1) B.o.1 c3.o rfl (Y.o.trans k6.o) (F6.o.mono (fun g h1 h2=>by have q1:=B.o;(try dsimp only at h2);omega)) b (R.2);unfold fmL amL at b J;simp only[aj,D3,Dm,Nat.reduceAdd] at b J;rw[<-b];clear b;have dc:=J.1.cell;refine bodyPost_ret (v:=.tuple #[fmV (R.1) tA tc A_ c_,I (R.2)]) (by simp[results,Tryz.results11,go_sem,dc,fmV,fmL,amL]) rfl ?_;exact J.2
theorem jO (C:Nat->Prop) (r:List Vl) (l:List Vb) (L:Option Addr) (t q d:Nat) (e:E) (w:World) (N M:ByteArray) (A:Option Addr) (n c:Nat) (F:t=l.length) (hr:bD r l) (hl:l.length<=10) (D:t<=q/\q<=maxLen)
 (h:ci l d e=true) (T:e.rg) (hA:aY w C e A n) (S:n<=c) (Q:c<=maxLen) (hV:bR w L l):
 Calls Tryz.prog 12 #[exV e N M A n c,.slice L t q] w (FmP w (fun g=>w.heap.size<=g) (trE l e 2)):=by
  obtain⟨W0,i,t1,t2,k0,X⟩:=dX w 26 45 (exC e N M A n c) #[I 0,I 0,I 0,I 0,I 0,.slice none 0 0,I 0,I 0,.bool false,.string ⟨#[]⟩,.slice none 0 0];obtain⟨gb,j⟩:∃g,g=w.heap.size:=⟨_,rfl⟩;obtain⟨P,p⟩:∃g,g=w.heap.size+1:=⟨_,rfl⟩;obtain⟨H,x⟩:∃g,g=w.heap.size+1+1:=⟨_,rfl⟩;obtain⟨m,a⟩:∃W,W=W0.alloc (.cells #[.slice L t q] 85):=⟨_,rfl⟩;rw[<-p] at t2;rw[<-j] at t1;have K:Z (ad [] W0 m):=bZ (by rw[a];exact(ad.refl [] W0).alloc _);have Y:=bZ (k0.trans K.o);have O:=bZ (t1.keep K.o (by simp));have b3:=bZ (t2.keep K.o (by simp));have u:H=W0.heap.size:=by omega
  have bt:Z (Blk m H 85 #[.slice L t q]):=bZ (by rw[a,u];exact Blk.new W0 85 _);have B:Z (w.heap.size<=P/\P<m.heap.size/\w.heap.size<=m.heap.size):=bZ (by have:=K.o.size;omega);have HX:Z (Calls Tryz.prog 35 #[.pointer (V H),exV e N M A n c,I 2] m (FmP m (fun g=>m.heap.size<=g) (trE l e 2))):=bZ (cZ C r l L t q H F hr hl D d e m N M A n c 2 (by decide) h T (hA.keep0 Y.o) S Q (hV.keep0 Y.o) (bt.o.cell 0));generalize trE l e 2=R at*;unfold exC at i O;unfold exV at*;generalize e.op=xo at*;generalize e.ix=xi at*;generalize e.lit.k=xk at*;generalize e.lit.n=xn at*;generalize e.lit.s=xs at*;have y:=O.o.cell;have yl:=O.o.lt;rw[a,i] at y yl;rw[j] at y yl;clear t1 t2 u hV X k0 F;go_enter Tryz.func12,Tryz.ntmps12;go_wp2_with (go_at_call 35;rw[<-i,<-a];rw[<-x,<-p,<-j];clear i a x p j y yl;refine HX.o.mono ?_;intro e w6 h6;obtain⟨tA,tc,A_,c_,rfl,F6,k6⟩:=h6;have c3:=bZ (b3.o.keep k6.o (by simp));have z:=c3.o.cell;have zf:=c3.o.frozen;have zl:=c3.o.lt;unfold fmV fmL amL;simp only[D3,Dm]);obtain⟨wz,b⟩:∃wz,wz=aj w6 P 0 (fmL (R.1) tA tc A_ c_):=⟨_,rfl⟩;have J:=cQ (f:=R.1) B.o.1 c3.o rfl (Y.o.trans k6.o) (F6.o.mono (fun g h1 h2=>by have q1:=B.o;(try dsimp only at h2);omega)) b (R.2);unfold fmL amL at b J;simp only[aj,D3,Dm,Nat.reduceAdd] at b J;rw[<-b];clear b;have dc:=J.1.cell;refine bodyPost_ret (v:=.tuple #[fmV (R.1) tA tc A_ c_,I (R.2)]) (by simp[results,Tryz.results12,go_sem,dc,fmV,fmL,amL]) rfl ?_;exact J.2
theorem og (x:F):∀(fs:List F) (s:Nat),F.cntS (fs++[x]) s=min (F.cntS fs s+x.cnt) 257
 | [],s=>rfl
 | f::fs,s=>by simp only[D3,F.cntS];exact og x fs _
theorem oh (x:F):∀(fs:List F) (p:Nat),F.cntP (fs++[x]) p=if 0<x.cnt then min (F.cntP fs p*x.cnt) 257 else F.cntP fs p*x.cnt
 | [],p=>rfl
 | f::fs,p=>by simp only[D3,F.cntP];exact oh x fs _
theorem ym (f:F):f.cnt<=257:=by rw[kC];omega
theorem qX:∀(fs:List F) (s:Nat),s<=257->F.cntS fs s<=257
 | [],s,h=>h
 | f::fs,s,h=>by simp only[F.cntS];exact qX fs _ (by omega)
theorem qY:∀(fs:List F) (p:Nat),p<=257->F.cntP fs p<=257
 | [],p,h=>h
 | f::fs,p,h=>by
   simp only[F.cntP];refine qY fs _ ?_
   split
   ·omega
   rename_i h0;have:f.cnt=0:=by omega
   rw[this];omega
theorem nZ (a:Am) (w:World) (g A:Option Addr) (h c:Nat):Calls Tryz.prog 46 #[fmV (.at a) g h A c] w (RoP w (I (F.cnt (.at a)))):=by
 have e:Z (∀o,ad [] w (w.alloc o)):=bZ (fun o=>(ad.refl [] w).alloc o);unfold fmV fmL amL;simp only[F.kd,F.am,F.args,D6,D3,Dm];generalize a.t.con=tk at*;generalize a.t.pts.length=tl at*;by_cases b:a.kd=4
 ·have f:(a.kd==4)=true:=by rw[beq_iff_eq];exact b
  have d:Z (F.cnt (.at a)=2):=bZ (by simp[F.cnt,b]);clear b;go_enter Tryz.func46,Tryz.ntmps46;go_wp2_with fail;go_ret;rw[d.o];exact⟨rfl,bZ (e.o _)⟩
 have f:(a.kd==4)=false:=by rw[beq_eq_false_iff_ne];exact b
 have d:Z (F.cnt (.at a)=1):=bZ (by simp[F.cnt,b]);clear b;go_enter Tryz.func46,Tryz.ntmps46;go_wp2_with fail;go_ret;rw[d.o];exact⟨rfl,bZ (e.o _)⟩
theorem ua (C:Nat->Prop) (kd:Int) (fs:List F) (w:World) (m A:Option Addr) (p c:Nat) (hk:kd=0\/kd=1) (hc:fs.length<=c/\c<=maxLen) (h:ag F.tr w C A fs)
 (HX:Z (∀x∈fs,∀W m p B d,bQ W C x m p B d->Calls Tryz.prog 46 #[fmV x m p B d] W (RoP W (I x.cnt)))):
 Calls Tryz.prog 46 #[fmV (.nd kd fs) m p A c] w (RoP w (I (F.cnt (.nd kd fs)))):=by
  obtain⟨R,hR⟩:∃R,R=F.cnt (.nd kd fs):=⟨_,rfl⟩;have H:Z (R=if kd=1 then F.cntS fs 0 else F.cntP fs 1):=bZ (by rw[hR,F.cnt]);rw[<-hR];clear hR;obtain⟨n,Q⟩:∃n,n=fs.length:=⟨_,rfl⟩;obtain⟨W0,i⟩:∃W,W=w.alloc (.cells #[I kd,I 0,I 0,I 0,I 0,.slice m 0 p,I 0,I 0,.bool false,.string ⟨#[]⟩,.slice A n c] 45):=⟨_,rfl⟩;have e:fmV (.nd kd fs) m p A c=.agg #[I kd,I 0,I 0,I 0,I 0,.slice m 0 p,I 0,I 0,.bool false,.string ⟨#[]⟩,.slice A n c]:=by rw[Q];rfl
  rw[e];clear e;obtain⟨gb,y⟩:∃g,g=w.heap.size:=⟨_,rfl⟩;have k0:Z (ad [] w W0):=bZ (by rw[i];exact(ad.refl [] w).alloc _);have b0:Z (Blk W0 gb 45 #[I kd,I 0,I 0,I 0,I 0,.slice m 0 p,I 0,I 0,.bool false,.string ⟨#[]⟩,.slice A n c]):=bZ (by rw[i,y];exact Blk.new w 45 _);replace h:=bZ (h.keep0 k0.o);have ac:(kd==2)=false:=by rw[beq_eq_false_iff_ne];omega
  obtain⟨q1,a4⟩:∃b,(kd==1)=b:=⟨_,rfl⟩;have k:=bZ a4;rw[<-Q] at hc;have K:=bZ Q;clear Q;go_enter Tryz.func46,Tryz.ntmps46;go_wp2_with fail;rw[<-i,<-y];clear i y;go_loopw [3,4,18] (fun s3 s4 D wr=>∃(j S P:Nat),j<=n/\s3=I S/\s4=I P/\D=I j/\Z (S=F.cntS (fs.take j) 0)/\Z (P=F.cntP (fs.take j) 1)/\Z (ad [] W0 wr)) (fun _ _ D _=>n - (intOf D).toNat)
  case atStart=>exact⟨0,0,1,C3 _,rfl,rfl,rfl,bZ rfl,bZ rfl,bZ (ad.refl _ _)⟩
  obtain⟨j,S,P,hj,rfl,rfl,rfl,O,M,E⟩:=hrel;obtain⟨Y,a5⟩:∃x,x=wr:=⟨_,rfl⟩;subst a5;by_cases a2:j<n
  ·obtain⟨x,L⟩:=aI (l:=fs) (j:=j) (by rw[<-K.o];exact a2);obtain⟨g,ak,rc,rfl,hC,hg,hI,a⟩:=(h.o.keep0 E.o).get F.tr_len (by decide) L;obtain⟨xA,xc,B,d,rfl,hF⟩:=fI.1 hI;have aa:S<=257:=by rw[O.o];exact qX _ _ (by omega)
   have a1:P<=257:=by rw[M.o];exact qY _ _ (by omega)
   have J:=ym x;have u:Z (F.cntS (fs.take (j+1)) 0=min (S+x.cnt) 257):=bZ (by rw[Dq,L,O.o];exact og x _ _);have q:Z (F.cntP (fs.take (j+1)) 1=if 0<x.cnt then min (P*x.cnt) 257 else P*x.cnt):=bZ (by rw[Dq,L,M.o];exact oh x _ _);have f:Z (∀W,ad [] Y W->Calls Tryz.prog 46 #[fmV x xA xc B d] W (RoP W (I x.cnt))):=bZ (fun W hW=>HX.o x (CW L) W xA xc B d (hF.keep0 hW));unfold fmL amL at a;unfold fmV fmL amL at f;simp only[D3,Dm] at a f;have x0:=a 0 _ rfl;have x1:=a 1 _ rfl;have x2:=a 2 _ rfl;have x3:=a 3 _ rfl;have x4:=a 4 _ rfl;have x5:=a 5 _ rfl;have x6:=a 6 _ rfl;have x7:=a 7 _ rfl;have x8:=a 8 _ rfl;have x9:=a 9 _ rfl;have an:=a 10 _ rfl;simp only[Fg] at x0;have ab:(j:Int)<(n:Int):=by omega
   have wj:IntKind.i64.wrap ((j:Int)+1)=(j:Int)+1:=C0 _ (by have a3:=hc.2;unfold maxLen at a3;omega);obtain⟨N,hN⟩:∃N,N=x.cnt:=⟨_,rfl⟩;rw[<-hN] at J u q f;have a9:P*N<=257*257:=Nat.mul_le_mul a1 J;have w1:IntKind.i64.wrap ((S:Int)+(N:Int))=(S:Int)+(N:Int):=C0 _ (by omega);have w2:IntKind.i64.wrap ((P:Int)*(N:Int))=((P*N:Nat):Int):=by rw[C0 _ (by rw[<-Int.natCast_mul];omega)];simp
   generalize x.kd=k1 at*;generalize x.am.kd=k2 at*;generalize x.am.v=k3 at*;generalize x.am.o=k4 at*;generalize x.am.t.con=k5 at*;generalize x.am.t.pts.length=k6 at*;generalize x.am.te.v=T at*;generalize x.am.te.kd=k8 at*;generalize x.am.te.ng=k9 at*;generalize x.am.te.s=k10 at*;generalize x.args.length=k11 at*;have X:Z (∀o,ad [] Y (Y.alloc o)):=bZ (fun o=>(ad.refl [] Y).alloc o);clear hI L a hF hN HX;by_cases h0:0<N
   ·have a6:(0:Int)<(N:Int):=by omega
    go_wp2_with (go_at_call 46;refine(f.o _ (X.o _)).mono ?_;rintro e w7 ⟨rfl,T⟩);go_roundw
    case rel=>exact⟨j+1,min (S+N) 257,min (P*N) 257,by omega,by go_num,by go_num,by go_num,bZ (u.o.symm),bZ (by rw[q.o,if_pos h0]),bZ ((E.o.trans (X.o _)).trans T.o)⟩
    case measure=>simp[intOf];omega
   have a0:N=0:=by omega
   subst a0;go_wp2_with (go_at_call 46;refine(f.o _ (X.o _)).mono ?_;rintro e w7 ⟨rfl,T⟩);go_roundw
   case rel=>exact⟨j+1,min (S+0) 257,P*0,by omega,by go_num,by go_num,by go_num,bZ (u.o.symm),bZ (by rw[q.o,if_neg h0]),bZ ((E.o.trans (X.o _)).trans T.o)⟩
   case measure=>simp[intOf];omega
  obtain rfl:j=n:=by omega
  rw[C6 (by rw[<-K.o];exact C9 _)] at O M;have z:=(b0.o.keep E.o (by simp)).cell;have zl:=(b0.o.keep E.o (by simp)).lt;have kk:=bZ (k0.o.trans E.o);cases q1
  ·have r:Z (R=P):=bZ (by rw[H.o,if_neg (by have:=k.o;rw[beq_eq_false_iff_ne] at this;exact this),M.o]);go_wp2_with fail;go_ret;rw[r.o];exact⟨rfl,kk⟩
  have r:Z (R=S):=bZ (by rw[H.o,if_pos (by have:=k.o;rw[beq_iff_eq] at this;exact this),O.o]);go_wp2_with fail;go_ret;rw[r.o];exact⟨rfl,kk⟩
theorem qW (l:List Vb):∀(f:F) (C:Nat->Prop) (w:World) (b:Option Addr) (e:Nat) (A:Option Addr) (c:Nat),F.ok l f->bQ w C f b e A c->Calls Tryz.prog 46 #[fmV f b e A c] w (RoP w (I f.cnt)):=by
 refine F.ind (fun a=>?_) (fun kd fs k=>?_)
 ·intro C w b e A c _ _;exact nZ a w b A e c
 intro C w b e A c g h;rw[F.ok,F.oks_iff] at g;exact ua C kd fs w b A e c g.1 h.am h.ar (bZ (fun x i W b e B d j=>k x i C W b e B d (g.2 x i) j))
section
section
variable {α:Type} {f:α->Tr} {w:World} {C:Nat->Prop}
theorem gY {g:Nat} {t:TypeId} {cs:List Value} {L:List α} (e:Blk w g t cs.toArray) (b:C g) (c:Is w C (cat f L) cs):ag f w C (V g) L:=
 ⟨cs,⟨fun a d=>by cases d;rfl,dl.mk_ b (fun i u h=>by rw[Dl,e.cell];simpa using h)⟩,c⟩
end
theorem mC {α:Type} (f:α->Tr) (x:α):cat f [x]=f x:=by simp[cat,Tr.app_nil]
theorem qR:(Tryz.prog.info? 107).map (fun i=>(i.zero,i.size,i.bytes))=some (G none 0 0,1,24):=by kernel_rfl
theorem vJ {w:World} {C:Nat->Prop} {a:Am} {up:Bool} {b:Option Addr} {c g:Nat} (h:cP w C a b c) (e:Blk w g 155 (ltL ⟨a,up⟩ b c).toArray) (d:C g):Is w C (cK [⟨a,up⟩]) [.slice (V g) 1 1]:=
 lL.2 ⟨_,1,rfl,C9 _,by simp[maxLen],gY e d (by rw[mC];exact xt.2 ⟨b,c,rfl,h⟩)⟩
theorem rQ (C:Nat->Prop) (a:Am) (w:World) (b A:Option Addr) (d c:Nat) (h:cP w C a b d):Calls Tryz.prog 47 #[fmV (.at a) b d A c] w (RwP cK w (fun g=>C g\/w.heap.size<=g) (F.exp (.at a))):=by
 obtain⟨W0,f⟩:∃W,W=w.alloc (.cells #[I 2,I a.kd,I a.v,I a.o,I a.t.con,.slice b a.t.pts.length d,I a.te.v,I a.te.kd,.bool a.te.ng,.string a.te.s,.slice A 0 c] 45):=⟨_,rfl⟩;obtain⟨E,k⟩:∃g,g=w.heap.size:=⟨_,rfl⟩;have B:Z (ad [] w W0):=bZ (by rw[f];exact(ad.refl [] w).alloc _);have z:Z (Blk W0 E 45 #[I 2,I a.kd,I a.v,I a.o,I a.t.con,.slice b a.t.pts.length d,I a.te.v,I a.te.kd,.bool a.te.ng,.string a.te.s,.slice A 0 c]):=bZ (by rw[f,k];exact Blk.new w 45 _);have m:Z (∀W,Calls Tryz.prog 46 #[fmV (.at a) b d A c] W (RoP W (I (F.cnt (.at a))))):=bZ (fun W=>nZ a W b A d c);obtain⟨N,u⟩:∃N,N=F.cnt (.at a):=⟨_,rfl⟩;have H:((N:Int)==0)=false:=beq_false_of_ne (by rw[u];unfold F.cnt;split<;>decide);rw[<-u] at m;clear u;have l:Z (∀(W:World) up,ad [] w W->Is (W.alloc (.cells (ltL ⟨a,up⟩ b d).toArray 155)) (fun g=>C g\/w.heap.size<=g) (cK [⟨a,up⟩]) [.slice (V W.heap.size) 1 1]):=bZ (fun W up j=>
  vJ ((h.keep0 (j.alloc _)).mono (fun g _ J=>.inl J)) (Blk.new W 155 _) (.inr j.size))
 by_cases n:a.kd=4
 ·have r:(a.kd==4)=true:=by simp[n]
  have i:Z (∀W,ad [] w W->RwP cK w (fun g=>C g\/w.heap.size<=g) (F.exp (.at a)) (.returned (.slice (V (W.heap.size+1+1)) 2 2))
   (((W.alloc (.cells (ltL ⟨a,false⟩ b d).toArray 155)).alloc (.cells (ltL ⟨a,true⟩ b d).toArray 155)).alloc (.cells #[.slice (V W.heap.size) 1 1,.slice (V (W.heap.size+1)) 1 1] 107))):=bZ (fun W j=>by
   have e:F.exp (.at a)=[[⟨a,false⟩],[⟨a,true⟩]]:=by unfold F.exp;rw[if_pos n]
   rw[e]
   have x:=l.o W false j
   have D:=l.o (W.alloc (.cells (ltL ⟨a,false⟩ b d).toArray 155)) true (j.alloc _)
   have p:=Blk.new ((W.alloc (.cells (ltL ⟨a,false⟩ b d).toArray 155)).alloc (.cells (ltL ⟨a,true⟩ b d).toArray 155)) 107 #[.slice (V W.heap.size) 1 1,.slice (V (W.heap.size+1)) 1 1]
   simp only[Fl] at D p
   refine⟨_,2,rfl,bZ (gY (cs:=[.slice (V W.heap.size) 1 1,.slice (V (W.heap.size+1)) 1 1]) p (.inr (by have:=j.size;omega)) ?_),bZ ⟨C9 _,by simp[maxLen]⟩,bZ (((j.alloc _).alloc _).alloc _)⟩
   rw[show cat cK [[⟨a,false⟩],[⟨a,true⟩]]=(cK [⟨a,false⟩]).app (cK [⟨a,true⟩]) by simp[cat,Tr.app_nil]]
   exact((x.keep (((ad.refl [] _).alloc _).alloc _) (by simp)).app (D.keep ((ad.refl [] _).alloc _) (by simp))))
  unfold fmV fmL amL;unfold fmV fmL amL at m;unfold ltL at i;simp only[F.kd,F.am,F.args,D6,D3,Dm] at m ⊢;clear h l;generalize a.t.con=tk at*;generalize a.t.pts.length=tl at*;generalize F.exp (.at a)=R at*;generalize a.kd=ak at*;generalize a.v=av at*;generalize a.o=ao at*;generalize a.te.v=ev at*;generalize a.te.kd=ek at*;generalize a.te.ng=en at*;generalize a.te.s=es at*;clear n;go_enter Tryz.func47,Tryz.ntmps47;go_wp2_with (go_at_call 46;rw[<-f,<-k];clear f k;refine(m.o _).mono ?_;rintro e K ⟨rfl,q⟩;have c0:=bZ (z.o.keep q.o (by simp));have y:=c0.o.cell;have L:=c0.o.lt);go_ret;exact i.o _ (B.o.trans q.o)
 have r:(a.kd==4)=false:=beq_false_of_ne n;have i:Z (∀W,ad [] w W->RwP cK w (fun g=>C g\/w.heap.size<=g) (F.exp (.at a)) (.returned (.slice (V (W.heap.size+1)) 1 1))
  ((W.alloc (.cells (ltL ⟨a,false⟩ b d).toArray 155)).alloc (.cells #[.slice (V W.heap.size) 1 1] 107))):=bZ (fun W j=>by
  have e:F.exp (.at a)=[[⟨a,false⟩]]:=by unfold F.exp;rw[if_neg n]
  rw[e]
  have x:=l.o W false j
  have p:=Blk.new (W.alloc (.cells (ltL ⟨a,false⟩ b d).toArray 155)) 107 #[.slice (V W.heap.size) 1 1]
  simp only[Fl] at p
  refine⟨_,1,rfl,bZ (gY (cs:=[.slice (V W.heap.size) 1 1]) p (.inr (by have:=j.size;omega)) ?_),bZ ⟨C9 _,by simp[maxLen]⟩,bZ ((j.alloc _).alloc _)⟩
  rw[mC]
  exact x.keep ((ad.refl [] _).alloc _) (by simp))
 unfold fmV fmL amL;unfold fmV fmL amL at m;unfold ltL at i;simp only[F.kd,F.am,F.args,D6,D3,Dm] at m ⊢;clear h l;generalize a.t.con=tk at*;generalize a.t.pts.length=tl at*;generalize F.exp (.at a)=R at*;generalize a.kd=ak at*;generalize a.v=av at*;generalize a.o=ao at*;generalize a.te.v=ev at*;generalize a.te.kd=ek at*;generalize a.te.ng=en at*;generalize a.te.s=es at*;clear n;go_enter Tryz.func47,Tryz.ntmps47;go_wp2_with (go_at_call 46;rw[<-f,<-k];clear f k;refine(m.o _).mono ?_;rintro e K ⟨rfl,q⟩;have c0:=bZ (z.o.keep q.o (by simp));have y:=c0.o.cell;have L:=c0.o.lt);go_ret;exact i.o _ (B.o.trans q.o)
end
end Go.Proofs.YtldmkbhgdbafhaaGreat
