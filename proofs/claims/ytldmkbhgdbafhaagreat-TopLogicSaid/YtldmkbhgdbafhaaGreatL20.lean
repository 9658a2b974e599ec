import Derived.Test.YtldmkbhgdbafhaaGreatL19
namespace Go.Proofs.YtldmkbhgdbafhaaGreat
open Go.RowKit
set_option linter.unusedSimpArgs false
set_option linter.unusedVariables false
set_option maxRecDepth 100000
set_option maxHeartbeats 64000000
theorem nw (w:World) (e:E) (J F:ByteArray) (A:Option Addr) (n c:Nat) (t:T) (O:Sm t)
 (L:Z (∀W,ad [] w W->Calls Tryz.prog 127 #[exV e J F A n c] W (LeP W (fun g=>W.heap.size<=g) t true)))
 (q:Z (∀(C:Nat->Prop) W A c,t.pts.length<=c/\c<=maxLen->TAt W C A t->Calls Tryz.prog 128 #[tmV t A c] W (TeP W C (al t)))):
 Calls Tryz.prog 90 #[exV e J F A n c] w (TeP w (fun g=>w.heap.size<=g) (t,0)):=by
  obtain⟨x,d,t1,H,z,y⟩:=dX w 26 38 (exC e J F A n c) #[I 0,.slice none 0 0];obtain⟨N,f⟩:∃g,g=w.heap.size+1:=⟨_,rfl⟩;rw[<-f] at H;obtain⟨D,u⟩:∃D:Nat->Prop,D=fun g=>w.heap.size<=g:=⟨_,rfl⟩;rw[<-u];have i:Z (w.heap.size<=N/\N<x.heap.size/\w.heap.size<=x.heap.size):=bZ (by omega);have l:=bZ (L.o x z);have m:al t=(t,0):=by unfold al;rw[if_pos O]
  rw[m] at q;replace u:=bZ u;have yr:=bZ H;have B:=bZ z;obtain⟨r,P⟩:∃r:T×Int,r=(t,0):=⟨_,rfl⟩;rw[<-P] at q ⊢;unfold exV at l ⊢;unfold exC at d;unfold tmV at q;generalize e.ix=ix at*;generalize e.lit.k=vk at*;generalize e.lit.n=vn at*;generalize e.lit.s=vs at*;generalize e.op=o at*;clear t1 H z y L P m O;go_enter Tryz.func90,Tryz.ntmps90;go_wp2_with (first | (go_at_call 127;rw[<-d,<-f];clear d f;refine l.o.mono ?_;intro e X h5;obtain⟨A5,c5,rfl,m5,n5,T5,Q⟩:=h5;have a:=bZ (yr.o.keep Q.o (by simp));have Y:=a.o.cell;have p:=a.o.frozen;have S:=a.o.lt) | (go_at_call 128;refine(q.o _ _ A5 c5 ⟨m5,n5⟩ (T5.o.keep0 ((ad.refl [] X).alloc _))).mono ?_;intro e w6 h6;obtain⟨K,c6,rfl,m6,n6,T6,k6⟩:=h6;have R:=bZ (((ad.refl [] X).alloc _).trans k6.o);have b:=bZ (a.o.keep R.o (by simp));clear Y p S;have Y:=b.o.cell;have p:=b.o.frozen;have S:=b.o.lt));have j:=bZ (aM (D:=D) (r:=r) i.o.1 ((B.o.trans Q.o).trans R.o) ⟨m6,n6⟩ (T6.o.mono (fun g _ h=>⟨by rw[u.o];have:=i.o;omega,by have:=i.o;omega⟩)));have M:=(b.o.set_ 0 (I r.1.con)).set_ 1 (.slice K r.1.pts.length c6);have d0:=M.cell 0;have d1:=M.cell 1;refine bodyPost_ret (v:=.tuple #[.agg #[I r.1.con,.slice K r.1.pts.length c6],I r.2]) (by simp[results,Tryz.results90,go_sem,d0,d1]) rfl ?_;exact j.o
theorem sY (w:World) (i k:Int) (s L H:ByteArray) (A:Option Addr) (c:Nat) (Y: -9223372036854775808<=k/\k<9223372036854775808):
 Calls Tryz.prog 90 #[exV (.z 1 i ⟨1,k,s⟩) L H A 0 c] w (TeP w (fun g=>w.heap.size<=g) (al (.c k))):=by
  obtain⟨n,b,J,K,k1,C⟩:=dX w 26 38 (exC (.z 1 i ⟨1,k,s⟩) L H A 0 c) #[I 0,.slice none 0 0];obtain⟨X,j⟩:∃g,g=w.heap.size:=⟨_,rfl⟩;obtain⟨p,l⟩:∃g,g=w.heap.size+1:=⟨_,rfl⟩;rw[<-l] at K;rw[<-j] at J;obtain⟨D,y⟩:∃D:Nat->Prop,D=fun g=>w.heap.size<=g:=⟨_,rfl⟩;rw[<-y];have B:Z (w.heap.size<=p/\p<n.heap.size/\w.heap.size<=n.heap.size/\X<n.heap.size/\X≠p):=bZ (by omega);have a:=bZ (jb n (.z 1 i ⟨1,k,s⟩) L H A 0 c (by simp only[opz];decide));have Q:Z (∀W,Calls Tryz.prog 128 #[tmV (.c k) none 0] W (TeP W (fun g=>D g/\g≠p) (al (.c k)))):=bZ (fun W=>mm W _ k Y);replace y:=bZ y;have N:=bZ K;have t:=bZ J;have E:=bZ k1;unfold exV at a ⊢;unfold exC at b t;unfold tmV at Q;simp only[opz,ixz,ltz] at a b t ⊢;generalize al (.c k)=r at*;clear J K k1 C Y;go_enter Tryz.func90,Tryz.ntmps90;go_wp2_with (go_at_call 127;rw[<-b,<-l,<-j];clear b l j;refine a.o.mono ?_;intro e w5 h5;obtain⟨A5,c5,rfl,m5,n5,T5,x⟩:=h5;have O:=bZ (N.o.keep x.o (by simp));have M:=bZ (t.o.keep x.o (by simp)));obtain⟨W0,h⟩:∃W,W=w5.alloc (.cells #[I (T.c 0).con,.slice A5 (T.c 0).pts.length c5] 38):=⟨_,rfl⟩;have F:Z (ad [] n W0):=bZ (by rw[h];exact x.o.alloc _);have d:Z (Blk W0 p 38 #[I 0,.slice none 0 0]):=bZ (N.o.keep F.o (by simp));have u:=bZ (t.o.keep F.o (by simp));rw[<-h];clear h O M N t T5 x m5 n5 a;go_loopw [6,7] (fun s6 s7 wr=>s6=.slice none 0 0/\s7=I 0/\wr=W0) (fun _ s7 _=>0)
  case atStart=>exact⟨rfl,rfl,rfl⟩
  obtain⟨rfl,rfl,rfl⟩:=hrel;have xr:=d.o.cell;have q:=d.o.frozen;have lr:=d.o.lt;have y0:=u.o.cell;have lb:=u.o.lt;go_wp2_with (go_at_call 128;refine(Q.o _).mono ?_;intro e w8 h8;obtain⟨P,S,rfl,m8,n8,T8,k8⟩:=h8;have f:=bZ (d.o.keep k8.o (by simp));clear xr q lr y0 lb;have xr:=f.o.cell;have q:=f.o.frozen;have lr:=f.o.lt);have m:=bZ (aM (D:=D) (r:=r) B.o.1 ((E.o.trans F.o).trans k8.o) ⟨m8,n8⟩ T8.o);have R:=(f.o.set_ 0 (I r.1.con)).set_ 1 (.slice P r.1.pts.length S);have d0:=R.cell 0;have d1:=R.cell 1;refine bodyPost_ret (v:=.tuple #[.agg #[I r.1.con,.slice P r.1.pts.length S],I r.2]) (by simp[results,Tryz.results90,go_sem,d0,d1]) rfl ?_;exact m.o
theorem sZ (w:World) (i:Int) (v:Vl) (L H:ByteArray) (A:Option Addr) (c:Nat) (hi:0<=i):
 Calls Tryz.prog 90 #[exV (.z 2 i v) L H A 0 c] w (TeP w (fun g=>w.heap.size<=g) (.p 1 0 i 0 (.c 0) (.c 0),0)):=by
  obtain⟨q,d,J,K,S,E⟩:=dX w 26 38 (exC (.z 2 i v) L H A 0 c) #[I 0,.slice none 0 0];obtain⟨Q,l⟩:∃g,g=w.heap.size:=⟨_,rfl⟩;obtain⟨b,m⟩:∃g,g=w.heap.size+1:=⟨_,rfl⟩;rw[<-m] at K;rw[<-l] at J;obtain⟨D,x⟩:∃D:Nat->Prop,D=fun g=>w.heap.size<=g:=⟨_,rfl⟩;rw[<-x];have r:Z (w.heap.size<=b/\b<q.heap.size/\w.heap.size<=q.heap.size/\Q<q.heap.size/\Q≠b):=bZ (by omega);have a:=bZ (jb q (.z 2 i v) L H A 0 c (by simp only[opz];decide));replace x:=bZ x;have N:=bZ K;have t:=bZ J;have F:=bZ S;unfold exV at a ⊢;unfold exC at d t;simp only[opz,ixz,ltz] at a d t ⊢;generalize v.k=vk at*;generalize v.n=vn at*;generalize v.s=vs at*;clear J K S E;go_enter Tryz.func90,Tryz.ntmps90;go_wp2_with (go_at_call 127;rw[<-d,<-m,<-l];clear d m l;refine a.o.mono ?_;intro e w5 h5;obtain⟨Y,c5,rfl,m5,n5,T5,B⟩:=h5;have O:=bZ (N.o.keep B.o (by simp));have M:=bZ (t.o.keep B.o (by simp)));obtain⟨W0,j⟩:∃W,W=w5.alloc (.cells #[I (T.c 0).con,.slice Y (T.c 0).pts.length c5] 38):=⟨_,rfl⟩;have C:Z (ad [] q W0):=bZ (by rw[j];exact B.o.alloc _);have f:Z (Blk W0 b 38 #[I 0,.slice none 0 0]):=bZ (N.o.keep C.o (by simp));have u:=bZ (t.o.keep C.o (by simp));rw[<-j];clear j O M N t T5 B m5 n5 a;go_loopw [6,7] (fun s6 X wr=>s6=.slice none 0 0/\X=I 0/\wr=W0) (fun _ X _=>0)
  case atStart=>exact⟨rfl,rfl,rfl⟩
  obtain⟨rfl,rfl,rfl⟩:=hrel;have xr:=f.o.cell;have a1:=f.o.frozen;have lr:=f.o.lt;have y0:=u.o.cell;have lb:=u.o.lt;have a0:¬i<0:=by omega
  go_wp2_with fail;have P:=((f.o.set_ 0 (I 0)).set_ 1 (.slice (V wr.heap.size) 1 1)).alloc (.cells #[I 1,I 0,I i,I 0,.slice none 0 0] 221);have d0:=P.cell 0;have d1:=P.cell 1;refine bodyPost_ret (v:=.tuple #[.agg #[I 0,.slice (V wr.heap.size) 1 1],I 0]) (by simp[results,Tryz.results90,go_sem,d0,d1]) rfl ?_;have kf:=((ad.refl [b] wr).setCell (p:=(U b 0)) (.inl (by simp)) (I 0)).setCell (p:=(U b 1)) (.inl (by simp)) (.slice (V wr.heap.size) 1 1);have R:=iT ((wr.setCell (U b 0) (I 0)).setCell (U b 1) (.slice (V wr.heap.size) 1 1)) i 0 (by decide);rw[show ((wr.setCell (U b 0) (I 0)).setCell (U b 1) (.slice (V wr.heap.size) 1 1)).heap.size=wr.heap.size by simp] at R;exact⟨V wr.heap.size,1,rfl,by simp[T.pts],by simp[maxLen],bZ (R.mono (fun g _ h=>by rw[x.o];have:=r.o;have:=C.o.size;show w.heap.size<=g;omega)),bZ ((((F.o.trans C.o).nil.trans kf).mono (fun y hy=>.inr (by rw[CZ.1 hy];exact r.o.1))).alloc _)⟩
theorem wY {t:T} (h:Sm t):Md t:=⟨by have:=h.1;omega,fun p a=>by have:=h.2.1 p a;omega⟩
theorem zR (C:Nat->Prop) (l:List Vb):∀(e:E) (w:World) (F D:ByteArray) (A:Option Addr) (n c:Nat),EOk l e->aY w C e A n->n<=c->c<=maxLen->
 Calls Tryz.prog 90 #[exV e F D A n c] w (TeP w (fun g=>w.heap.size<=g) (ofE e)):=by
  refine E.ind (fun e ih=>?_);intro w F D A n c q hA a1 a0;have rd:∀x∈e.args,EOk l x->∀g a X S B m H,XAt w C g a x X S B m H->OfC 90 x w g a:=fun x t d g a X S B m H h=>
   ⟨X,S,B,m,H,fun W r=>(h.keep0 r).cells,fun W r=>ih x t W X S B m H d ((h.keep0 r).ar) h.mc h.cm⟩
  have a3:∀(i:Int) (v:Vl) (x:E),e=.a 9 i v x->x.leaf=true->Calls Tryz.prog 90 #[exV e F D A n c] w (TeP w (fun g=>w.heap.size<=g) (ofE e)):=by
   rintro i v x rfl t;have K:=q.int_;have hn:=q.nn;cases x with
   | z p j u=>
    obtain⟨rfl,g,f,P,O,B,m,H,rfl,hC,Q,h5,h6,h7,hc⟩:=hA.one;obtain⟨rfl,_⟩:=h7;have hu:(E.z p j u).text l=true/\(decide (p=2) || vOk u)=true:=by
     simp only[E.null,Bool.or_eq_false_iff] at hn;unfold E.int at K;simp only[if_true,Bool.or_eq_true,Bool.and_eq_true,decide_eq_true_eq] at K ⊢;rcases K with K | ⟨h1,h2,_⟩
     ·exact K
     have:=hn.2;simp[h1,h2] at this
    have Y:(if p=2 then aK l j 2 else decide (p=1) && decide (u.k=2))=true:=hu.1;have a2:∀W,ad [] w W->aC W g f (.z p j u) P O B 0 H:=fun W r=>(aC.of hc).keep r (by simp);by_cases R:p=2
    ·subst R;rw[if_pos rfl] at Y;have h0:0<=j:=(cM Y).1;exact nw w _ F D _ 1 c (.p 1 1 j 0 (.c 0) (.c 0)) (q.nm.1 rfl).2.1 (bZ (fun W r=>pE W i j u.n u.k v F D P O u.s g f c H B h0 (Dr Q r.size) (a2 W r) _))
      (bZ (fun C W A c hc hT=>dY C _ W A c hc (q.nm.1 rfl).1 (wY (q.nm.1 rfl).2.1) (by simp[T.wd,T.pts]) hT))
    rw[if_neg R] at Y;simp only[Bool.and_eq_true,decide_eq_true_eq] at Y;obtain⟨rfl,L⟩:=Y;have hs:u.s.size<=16:=by
     have:=hu.2;simp only[show (1:Int)≠2 by decide,decide_false,Bool.false_or] at this;rw[qe L] at this;simp only[Bool.and_eq_true,decide_eq_true_eq] at this;exact this.2.2
    exact nw w _ F D _ 1 c (.c (u.s.size:Int)) ⟨by show ((u.s.size:Int)).natAbs<=_;omega,fun p R=>(by cases R),by show ((u.s.size:Int)).natAbs<=_;omega⟩ (bZ (fun W r=>pD W i j u.n v F D P O u.s g f c H B (Dr Q r.size) (by have:=a2 W r;rw[show u=⟨2,u.n,u.s⟩ from by rw[<-L]] at this;exact this) _))
     (bZ (fun C W A c hc hT=>dY C _ W A c hc trivial ⟨by show ((u.s.size:Int)).natAbs<=_;omega,fun p R=>by cases R⟩ (by simp[T.wd]) hT))
   | a _ _ _ _=>cases t
   | b _ _ _ _ _=>cases t
   | many _ _ _=>cases t
  cases e with
  | z o i v=>
   obtain⟨rfl,_⟩:=hA;have hl:=q.z;have K:=q.int_;have hn:=q.nn;simp only[E.lf,Bool.or_eq_true,decide_eq_true_eq] at hl;rcases hl with rfl | rfl
   ·have L:v.k=1:=by
     simp only[E.int,if_true,Bool.and_eq_true,decide_eq_true_eq] at K;simp only[E.null,decide_true,Bool.true_and,decide_eq_false_iff_not] at hn;omega
    have:=sY w i v.n v.s F D A c q.rg.1;rw[show ofE (.z 1 i v)=al (.c v.n) by simp[ofE]];rw[show v=⟨1,v.n,v.s⟩ from by rw[<-L]];exact this
   have h0:0<=i:=by
    simp only[E.int,show (2:Int)≠1 by decide,if_false,if_true] at K;exact(cM K).1
   exact sZ w i v F D A c h0
  | a o i v x=>
   rcases q.a with rfl | h
   ·obtain⟨rfl,g,f,X,S,B,m,H,rfl,hC,Q,t⟩:=hA.get1;have d:=q.neg;refine lu w (.a 3 i v x) F D g f 1 c (ofE (.a 3 i v x)) Q ⟨a1,a0⟩ rfl (by decide) (by simp only[opa];decide) (fun y M=>?_) (fun j y M L J=>?_) (.inl ⟨x,rfl,by simp only[opa],fun h=>?_⟩) (fun j y M=>?_)
    ·obtain rfl:y=x:=by simpa [E.args] using M
     exact⟨d.nm.1,Dc d.nm.2 (by decide)⟩
    ·cases j with
     | zero=>
      obtain rfl:x=y:=by simpa [E.args] using M
      rw[ofE,if_neg (by decide),if_neg L]
     | succ j=>simp[E.args] at M
    ·rw[ofE,if_neg (by decide),if_pos h]
    cases j with
    | zero=>
     obtain rfl:x=y:=by simpa [E.args] using M
     rw[Nat.zero_mul,Fg];exact rd x (by simp[E.args]) d _ _ _ _ _ _ _ t
    | succ j=>simp[E.args] at M
   simp only[E.lf,Bool.and_eq_true,decide_eq_true_eq] at h;obtain⟨rfl,t⟩:=h;exact a3 i v x rfl t
  | b o i v x y=>
   obtain⟨rfl,g,f,X,S,B,m,H,ty,ny,B',m',c2,rfl,hC,Q,t,M⟩:=hA.get2;obtain⟨o1,o2,d,N⟩:=q.bin;refine lu w (.b o i v x y) F D g f 2 c (ofE (.b o i v x y)) Q ⟨a1,a0⟩ rfl (by decide) (by simp only[opb];omega) (fun z J=>?_) (fun j z J L hr=>?_) (.inr ⟨x,y,rfl,by simp only[opb];omega,by simp only[opb];omega,fun h h'=>?_⟩) (fun j z J=>?_)
   ·rcases(by simpa [E.args] using J:z=x\/z=y) with rfl | rfl
    ·exact⟨d.nm.1,Dc d.nm.2 (by decide)⟩
    exact⟨N.nm.1,Dc N.nm.2 (by decide)⟩
   ·rcases j with _ | _ | j
    ·obtain rfl:x=z:=by simpa [E.args] using J
     rw[ofE,if_neg L]
    ·obtain rfl:y=z:=by simpa [E.args] using J
     rw[ofE,if_pos (hr x (by simp[E.args])),if_neg L]
    simp[E.args] at J
   ·rw[ofE,if_pos h,if_pos h'];simp only[opb]
   rcases j with _ | _ | j
   ·obtain rfl:x=z:=by simpa [E.args] using J
    rw[Nat.zero_mul,Fg];exact rd x (by simp[E.args]) d _ _ _ _ _ _ _ t
   ·obtain rfl:y=z:=by simpa [E.args] using J
    exact rd y (by simp[E.args]) N _ _ _ _ _ _ _ M
   simp[E.args] at J
  | many=>exact absurd q.int_ (by simp[E.int])
theorem aY.nlen2 {w:World} {C:Nat->Prop} {e:E} {A:Option Addr} {n:Nat} (h:aY w C e A n) (c:n<=2):n=e.args.length:=by
 cases e with
 | z=>exact h.1
 | a=>exact h.1
 | b=>exact h.1
 | many=>have h:3<=n:=h;omega
theorem sH {w:World} {C:Nat->Prop} {e:E} {A:Option Addr} {n:Nat} (h:aY w C e A n) (d:Nat):e.short (d+1)=(decide (n<=2) && e.args.all (E.short d)):=by
 cases e with
 | z=>have:=h.1;simp[E.short,E.args,this]
 | a=>have:=h.1;simp[E.short,E.args,this]
 | b=>have:=h.1;simp[E.short,E.args,this]
 | many=>have h:3<=n:=h;simp[E.short,show ¬n<=2 by omega]
theorem mP {α:Type} {l:List α} {f:α->Bool} {j:Nat} {x:α} (h:l[j]? =some x):(l.take (j+1)).all f=((l.take j).all f && f x):=by
 rw[Dq,h,List.all_append];simp
theorem pW {α:Type} {l:List α} {f:α->Bool} {j:Nat} {x:α} (h:l[j]? =some x) (a:f x=false):l.all f=false:=by
 rw[List.all_eq_false];exact⟨x,CW h,by simp[a]⟩
theorem qm (C:Nat->Prop):∀(d:Nat) (e:E) (w:World) (t q:ByteArray) (A:Option Addr) (n c:Nat),d<=100->aY w C e A n->n<=c->c<=maxLen->
 Calls Tryz.prog 24 #[exV e t q A n c,I (d:Int)] w (RoP w (.bool (e.short d)))
 | 0,e,w,t,q,A,n,c,hd,hA,hnc,hcm=>by
   have F:e.short 0=false:=by cases e<;>rfl
   rw[F];have kf:Z (∀o,ad [] w (w.alloc o)):=bZ (fun o=>(ad.refl [] w).alloc o);unfold exV;clear F hA;go_enter Tryz.func24,Tryz.ntmps24;go_wp2_with fail;go_ret;exact⟨rfl,bZ (kf.o _)⟩
 | d+1,e,w,t,q,A,n,c,hd,hA,hnc,hcm=>by
   have a:=sH hA d;obtain⟨W0,b⟩:∃W,W=w.alloc (.cells (exC e t q A n c) 26):=⟨_,rfl⟩;have O:Z (ad [] w W0):=bZ (by rw[b];exact(ad.refl [] w).alloc _);obtain⟨Q,u⟩:∃g,g=w.heap.size:=⟨_,rfl⟩;have P:Z (Blk W0 Q 26 (exC e t q A n c)):=bZ (by rw[b,u];exact Blk.new w 26 _);have hR:Z (∀W,ad [] w W->∀j x,e.args[j]? =some x->∃g p t q B m c,A=some (U g p)/\aC W g (p+j*8) x t q B m c/\Calls Tryz.prog 24 #[exV x t q B m c,I (d:Int)] W (RoP W (.bool (x.short d)))):=bZ (fun W hW j x M=>by
    obtain⟨g,p,t,q,B,m,c,h1,h2,h3,N⟩:=hA.get M;exact⟨g,p,t,q,B,m,c,h1,(N.keep0 hW).cells,qm C d x W t q B m c (by omega) (N.ar.keep0 hW) N.mc N.cm⟩)
   have hl:Z (n<=2->n=e.args.length):=bZ (hA.nlen2);generalize e.args=xs at*;generalize e.short (d+1)=r at*;unfold exV;unfold exC at b P;generalize e.op=o at*;generalize e.lit.k=lk at*;generalize e.lit.n=ln at*;generalize e.lit.s=ls at*;generalize e.ix=ix at*;have J:¬((d+1:Nat):Int)=0:=by omega
   have R:(((d+1:Nat):Int)==0)=false:=by simpa using J
   have S:IntKind.i64.wrap (((d+1:Nat):Int) - 1)=(d:Int):=by rw[C0 _ (by omega)];omega
   clear hA;obtain⟨D,hD⟩:∃x:Int,x=((d+1:Nat):Int):=⟨_,rfl⟩;rw[<-hD] at J R S ⊢;clear hD;by_cases v:n<=2
   ·have T:¬(2:Int)<(n:Int):=by omega
    rw[decide_eq_true v,Bool.true_and] at a;replace a:=bZ a;go_enter Tryz.func24,Tryz.ntmps24;go_wp2_with fail;rw[<-b,<-u];clear b u;go_loopw [5] (fun i wr=>∃j:Nat,j<=n/\i=I j/\Z ((xs.take j).all (E.short d)=true)/\Z (ad [] W0 wr)) (fun i _=>n - (intOf i).toNat)
    case atStart=>exact⟨0,C3 _,rfl,bZ (by simp),bZ (ad.refl _ _)⟩
    obtain⟨j,hj,rfl,F,z⟩:=hrel;obtain⟨wo,a0⟩:∃x,x=wr:=⟨_,rfl⟩;subst a0;have K:=bZ (hl.o v);by_cases X:j<n
    ·obtain⟨x,M⟩:=aI (l:=xs) (j:=j) (by rw[<-K.o];exact X);obtain⟨g,p,a3,a2,B,m,c',rfl,⟨x0,x1,x2,x3,x4,x5,x6,x7⟩,H⟩:=hR.o wo (O.o.trans z.o) j x M;have y7:wo.cell? (U Q 7)=G (some (U g p)) n c:=(P.o.keep z.o (by simp)).cell 7;have wj:IntKind.i64.wrap ((j:Int)+1)=(j:Int)+1:=C0 _ (by omega);have a1:(j:Int)<(n:Int):=by omega
     have L:=bZ (mP (f:=E.short d) M);have y:=bZ (fun h=>pW (f:=E.short d) M h);unfold exV at H;replace H:=bZ H;generalize x.short d=xn at*;cases xn
     ·have Y:Z (r=false):=bZ (by rw[a.o];exact y.o rfl);clear y L;go_wp2_with (go_at_call 24;refine H.o.mono ?_;rintro e w' ⟨rfl,kk⟩);go_ret;exact⟨by rw[Y.o];rfl,bZ ((O.o.trans z.o).trans kk.o)⟩
     clear y;go_wp2_with (go_at_call 24;refine H.o.mono ?_;rintro e w' ⟨rfl,kk⟩);go_roundw
     case rel=>exact⟨j+1,by omega,by go_num,bZ (by rw[L.o,F.o];rfl),bZ (z.o.trans kk.o)⟩
     case measure=>simp[intOf];omega
    obtain rfl:j=n:=by omega
    have y7:wo.cell? (U Q 7)=G A j c:=(P.o.keep z.o (by simp)).cell 7;have Y:Z (r=true):=bZ (by rw[a.o];have:=F.o;rw[C6 (by rw[<-K.o];exact C9 _)] at this;exact this);clear F;go_wp2_with fail;go_ret;exact⟨by rw[Y.o];rfl,bZ (O.o.trans z.o)⟩
   have T:(2:Int)<(n:Int):=by omega
   rw[decide_eq_false v,Bool.false_and] at a;replace a:=bZ a;go_enter Tryz.func24,Tryz.ntmps24;go_wp2_with fail;rw[<-b];clear b;go_ret;exact⟨by rw[a.o];rfl,O⟩
structure IOk (l:List Vb) (e:E):Prop where
 sh:∃d,d<=12/\e.short d=true
 rg:e.rg
 int_:e.int l=true
theorem IOk.eok {l:List Vb} {e:E} (h:IOk l e) (a:e.null=false):EOk l e:=⟨h.sh,h.rg,h.int_,a⟩
theorem IOk.ok2 {l:List Vb} {e:E} (h:IOk l e):e.ok2=true:=by
 obtain⟨⟨d,b,a⟩,_⟩:=h;exact cw a
theorem IOk.arg {l:List Vb} {e x:E} (h:IOk l e) (f:x∈e.args) (g:e.op≠9):IOk l x:=by
 obtain⟨⟨d,m,j⟩,k,c⟩:=h;cases d with
 | zero=>cases e<;>cases j
 | succ d=>
  refine⟨⟨d,by omega,dm j f⟩,bX k f,?_⟩;cases e with
  | z=>cases f
  | a o i v y=>
   obtain rfl:=CZ.1 f;have g:o≠9:=by simpa only[opa] using g
   unfold E.int at c;rw[if_neg g] at c
   split at c
   ·exact c
   cases c
  | b o i v y z=>
   unfold E.int at c
   split at c
   ·simp only[Bool.and_eq_true] at c;simp only[E.args,Db,Dw,or_false] at f;rcases f with rfl | rfl
    ·exact c.1
    exact c.2
   cases c
  | many=>cases f
theorem wl {l:List Vb} {e:E} (h:e.int l=true) (c:e.null=false):bC e=decide ((ofE e).2=0):=by
 cases e with
 | z o i v=>rw[bC,c,Bool.false_or]
 | a o i v x=>rw[bC,c];rfl
 | b o i v x y=>rw[bC,c];rfl
 | many=>cases h
theorem tR {l:List Vb} {e:E} (h:e.int l=true) (c:e.null=true):bC e=(!decide (e.op=6\/e.op=7\/e.op=8) && e.args.all (fun x=>decide (e.op=9) || bC x)):=by
 cases e with
 | z o i v=>
  rw[bC,c,Bool.true_or];unfold E.int at h;have:o=1\/o=2:=by
   split at h
   ·exact .inl ‹_›
   split at h
   ·exact .inr ‹_›
   cases h
  simp only[opz,E.args];rcases this with rfl | rfl<;>rfl
 | a o i v x=>rw[bC,if_pos c];simp only[opa,E.args,List.all_cons,List.all_nil,Bool.and_true];rfl
 | b o i v x y=>rw[bC,if_pos c];simp only[opb,E.args,List.all_cons,List.all_nil,Bool.and_true,Bool.and_assoc];rfl
 | many=>cases h
theorem xV (C:Nat->Prop) (l:List Vb):∀(e:E) (w:World) (v u:ByteArray) (A:Option Addr) (n c:Nat),IOk l e->aY w C e A n->n<=c->c<=maxLen->
 Calls Tryz.prog 52 #[exV e v u A n c] w (RoP w (.bool (bC e))):=by
  refine E.ind (fun e ih=>?_);intro w v u A n c M hA a1 a0;have hn:=hA.nlen M.ok2;have a5:n<=2:=by rw[hn];exact fP e
  obtain⟨W0,a⟩:∃W,W=w.alloc (.cells (exC e v u A n c) 26):=⟨_,rfl⟩;have k0:Z (ad [] w W0):=bZ (by rw[a];exact(ad.refl [] w).alloc _);obtain⟨gb,d⟩:∃g,g=w.heap.size:=⟨_,rfl⟩;have Y:Z (Blk W0 gb 26 (exC e v u A n c)):=bZ (by rw[a,d];exact Blk.new w 26 _);have N:=bZ (pq C e W0 v u A n c M.ok2 (hA.keep0 k0.o) a1 a0);cases P:e.null with
  | false=>
   have HO:Z (∀W,ad [] w W->Calls Tryz.prog 90 #[exV e v u A n c] W (TeP W (fun g=>W.heap.size<=g) (ofE e))):=bZ (fun W hW=>zR C l e W v u A n c (M.eok P) (hA.keep0 hW) a1 a0);rw[wl M.int_ P];rw[P] at N;unfold exV at N HO ⊢;unfold exC at a Y;generalize e.op=o at*;generalize e.lit.k=lk at*;generalize e.lit.n=ln at*;generalize e.lit.s=ls at*;generalize e.ix=ix at*;generalize ofE e=q at*;obtain⟨q,k⟩:=q;have hd:∀k:Int,decide (k=0)=(k==0):=fun k=>by simp[Bool.beq_eq_decide_eq]
   clear ih hA P M hn;go_enter Tryz.func52,Tryz.ntmps52;go_wp2_with (first | (go_at_call 27;rw[<-a,<-d];clear a d;refine N.o.mono ?_;rintro e w5 ⟨rfl,J⟩;have H:=bZ (Y.o.keep J.o (by simp));have y:=H.o.cell;have yl:=H.o.lt) | (go_at_call 90;refine(HO.o _ (k0.o.trans J.o)).mono ?_;intro e w6 h6;replace h6:=aS h6;obtain⟨A6,c6,rfl,m6,n6,T6,k6⟩:=h6;clear y yl));go_ret;exact⟨by first | rfl | (dsimp only;rw[hd];rfl) | simp,bZ (((k0.o.trans J.o).trans k6.o).alloc _)⟩
  | true=>
   have hR:Z (∀W,ad [] w W->∀j x,e.args[j]? =some x->e.op≠9->∃g F v u B m c,A=some (U g F)/\aC W g (F+j*8) x v u B m c/\Calls Tryz.prog 52 #[exV x v u B m c] W (RoP W (.bool (bC x)))):=bZ (fun W hW j x L K=>by
    obtain⟨g,F,v,u,B,m,c,h1,h2,h3,h4⟩:=hA.get L;exact⟨g,F,v,u,B,m,c,h1,(h4.keep0 hW).cells,ih x (CW L) W v u B m c (M.arg (CW L) K) (h4.ar.keep0 hW) h4.mc h4.cm⟩)
   have z:=bZ (tR M.int_ P);rw[P] at N;have hl:=bZ hn;unfold exV at N ⊢;unfold exC at a Y;generalize bC e=r at*;generalize e.op=o at*;generalize e.lit.k=lk at*;generalize e.lit.n=ln at*;generalize e.lit.s=ls at*;generalize e.ix=ix at*;generalize e.args=xs at*;clear ih hA P M hn;by_cases p:o=6\/o=7\/o=8
   ·have hr:Z (r=false):=bZ (by rw[z.o,decide_eq_true p];rfl);rcases p with rfl | rfl | rfl
    all_goals
     go_enter Tryz.func52,Tryz.ntmps52;go_wp2_with (go_at_call 27;rw[<-a,<-d];clear a d;refine N.o.mono ?_;rintro e w5 ⟨rfl,J⟩;have H:=bZ (Y.o.keep J.o (by simp));have y:=H.o.cell;have yl:=H.o.lt);go_ret;exact⟨by rw[hr.o];rfl,bZ (k0.o.trans J.o)⟩
   have o6:(o==6)=false:=by rw[beq_eq_false_iff_ne];omega
   have o7:(o==7)=false:=by rw[beq_eq_false_iff_ne];omega
   have o8:(o==8)=false:=by rw[beq_eq_false_iff_ne];omega
   have D:Z (r=xs.all (fun x=>decide (o=9) || bC x)):=bZ (by rw[z.o,decide_eq_false p];rfl);clear p z;go_enter Tryz.func52,Tryz.ntmps52;go_wp2_with (go_at_call 27;rw[<-a,<-d];clear a d;refine N.o.mono ?_;rintro e w5 ⟨rfl,J⟩;have H:=bZ (Y.o.keep J.o (by simp));have y:=H.o.cell;have yl:=H.o.lt);obtain⟨W1,Q⟩:∃x,x=w5:=⟨_,rfl⟩;rw[<-Q] at H ⊢;have k1:Z (ad [] w W1):=bZ (by rw[Q];exact k0.o.trans J.o);clear Q y yl J Y k0;go_loopw [5] (fun i wr=>∃j:Nat,j<=n/\i=I j/\Z ((xs.take j).all (fun x=>decide (o=9) || bC x)=true)/\Z (ad [] W1 wr)) (fun i _=>n - (intOf i).toNat)
   case atStart=>exact⟨0,C3 _,rfl,bZ (by simp),bZ (ad.refl _ _)⟩
   obtain⟨j,hj,rfl,hs,hk⟩:=hrel;obtain⟨wo,a3⟩:∃x,x=wr:=⟨_,rfl⟩;subst a3;have T:=(H.o.keep hk.o (by simp));have y0:=T.cell 0;have y7:=T.cell 7;have lb:=T.lt;by_cases a2:j<n
   ·obtain⟨x,L⟩:=aI (l:=xs) (j:=j) (by rw[<-hl.o];exact a2);have wj:IntKind.i64.wrap ((j:Int)+1)=(j:Int)+1:=C0 _ (by omega);have a4:(j:Int)<(n:Int):=by omega
    have S:=bZ (mP (f:=fun x=>decide (o=9) || bC x) L);by_cases K:o=9
    ·have o9:(o !=9)=false:=by simp[K]
     have O:=bZ K;clear L K;go_wp2_with fail;go_roundw
     case rel=>exact⟨j+1,by omega,by go_num,bZ (by rw[S.o,hs.o,decide_eq_true O.o];rfl),hk⟩
     case measure=>simp[intOf];omega
    have o9:(o !=9)=true:=by rw[bne_iff_ne];exact K
    obtain⟨g,F,a9,a6,B,m,c',rfl,⟨x0,x1,x2,x3,x4,x5,x6,x7⟩,X⟩:=hR.o wo (k1.o.trans hk.o) j x L K;have R:=bZ (fun h=>pW (f:=fun x=>decide (o=9) || bC x) L h);have O:=bZ K;unfold exV at X;replace X:=bZ X;clear L K;obtain⟨xn,t⟩:∃b,b=bC x:=⟨_,rfl⟩;rw[<-t] at X;cases xn
    ·have hr:Z (r=false):=bZ (by rw[D.o];exact R.o (by rw[<-t,decide_eq_false O.o];rfl));clear R S t;go_wp2_with (go_at_call 52;refine X.o.mono ?_;rintro e w' ⟨rfl,kk⟩);go_ret;exact⟨by rw[hr.o];rfl,bZ ((k1.o.trans hk.o).trans kk.o)⟩
    replace t:=bZ t;clear R;go_wp2_with (go_at_call 52;refine X.o.mono ?_;rintro e w' ⟨rfl,kk⟩);go_roundw
    case rel=>exact⟨j+1,by omega,by go_num,bZ (by rw[S.o,hs.o,<-t.o];simp),bZ (hk.o.trans kk.o)⟩
    case measure=>simp[intOf];omega
   obtain rfl:j=n:=by omega
   have hr:Z (r=true):=bZ (by rw[D.o];have:=hs.o;rw[C6 (by rw[<-hl.o];exact C9 _)] at this;exact this);clear hs;go_wp2_with fail;go_ret;exact⟨by rw[hr.o];rfl,bZ (k1.o.trans hk.o)⟩
theorem rB (w:World) (o ix i j:Int) (D C k:ByteArray) (A:Option Addr) (n c R O:Nat) (L:Option Addr) (N T l:Bool)
 (p:Z (∀W,ad [] w W->Calls Tryz.prog 27 #[.agg #[I o,.string D,.string C,I ix,I i,I j,.string k,.slice A n c]] W (RoP W (.bool N))))
 (u:Z (∀W,ad [] w W->Calls Tryz.prog 26 #[.agg #[I o,.string D,.string C,I ix,I i,I j,.string k,.slice A n c],.slice L R O] W (RoP W (.bool T))))
 (v:Z (∀W,Calls Tryz.prog 28 #[.agg #[I i,I j,.string k]] W (RoP W (.bool l))))
 (P:i=0->j=0->k.size=0->l=true)
 (hc:(N=true/\o=1/\n=0)\/(N=false/\T=true)):
 Calls Tryz.prog 25 #[.agg #[I o,.string D,.string C,I ix,I i,I j,.string k,.slice A n c],.slice L R O] w (RoP w (.bool (decide (o=2) || l))):=by
  obtain⟨W0,d⟩:∃W,W=w.alloc (.cells #[I o,.string D,.string C,I ix,I i,I j,.string k,.slice A n c] 26):=⟨_,rfl⟩;have s:Z (ad [] w W0):=bZ (by rw[d];exact(ad.refl [] w).alloc _);obtain⟨Y,f⟩:∃g,g=w.heap.size:=⟨_,rfl⟩;have H:Z (Blk W0 Y 26 #[I o,.string D,.string C,I ix,I i,I j,.string k,.slice A n c]):=bZ (by rw[d,f];exact Blk.new w 26 _);have Q:((i==0)=false)\/((i==0)=true/\(j==0)=false)\/((i==0)=true/\(j==0)=true/\¬k.toList=[])\/((i==0)=true/\(j==0)=true/\k.toList=[]/\l=true):=by
   by_cases z:i=0
   ·by_cases E:j=0
    ·by_cases K:k.size=0
     ·exact .inr (.inr (.inr ⟨by simp[z],by simp[E],dd.2 K,P z E K⟩))
     exact .inr (.inr (.inl ⟨by simp[z],by simp[E],fun h=>K (dd.1 h)⟩))
    exact .inr (.inl ⟨by simp[z],by simp[E]⟩)
   exact .inl (by simp[z])
  rw[show decide (o=2)=(o==2) from rfl];clear P;rcases hc with ⟨rfl,rfl,rfl⟩ | ⟨rfl,rfl⟩
  ·rcases Q with q | ⟨q,x⟩ | ⟨q,x,F⟩ | ⟨q,x,F,rfl⟩
   all_goals
    go_enter Tryz.func25,Tryz.ntmps25;go_wp2_with (first | (go_at_call 27;rw[<-d,<-f];clear d f;refine(p.o _ s.o).mono ?_;rintro e S ⟨rfl,m⟩;have a:=bZ (s.o.trans m.o);have b:=bZ (H.o.keep m.o (by simp));have y:=b.o.cell;have t:=b.o.lt) | (go_at_call 28;refine(v.o _).mono ?_;rintro e X ⟨rfl,r⟩;have B:=bZ (a.o.trans r.o);clear a;have a:=B));go_ret;exact⟨by first | rfl | simp,a⟩
  cases o2:(o==2)
  ·rcases Q with q | ⟨q,x⟩ | ⟨q,x,F⟩ | ⟨q,x,F,rfl⟩
   all_goals
    go_enter Tryz.func25,Tryz.ntmps25;go_wp2_with (first | (go_at_call 27;rw[<-d,<-f];clear d f;refine(p.o _ s.o).mono ?_;rintro e S ⟨rfl,m⟩;have a:=bZ (s.o.trans m.o);have b:=bZ (H.o.keep m.o (by simp));have y:=b.o.cell;have t:=b.o.lt) | (go_at_call 26;refine(u.o _ a.o).mono ?_;rintro e X ⟨rfl,r⟩;have B:=bZ (a.o.trans r.o);clear a;have a:=B;have J:=bZ (b.o.keep r.o (by simp));clear b y t;have b:=J;have y:=b.o.cell;have t:=b.o.lt) | (go_at_call 28;refine(v.o _).mono ?_;rintro e w9 ⟨rfl,k9⟩;have M:=bZ (a.o.trans k9.o);clear a;have a:=M));go_ret;exact⟨by first | rfl | simp,a⟩
  go_enter Tryz.func25,Tryz.ntmps25;go_wp2_with (first | (go_at_call 27;rw[<-d,<-f];clear d f;refine(p.o _ s.o).mono ?_;rintro e S ⟨rfl,m⟩;have a:=bZ (s.o.trans m.o);have b:=bZ (H.o.keep m.o (by simp));have y:=b.o.cell;have t:=b.o.lt) | (go_at_call 26;refine(u.o _ a.o).mono ?_;rintro e X ⟨rfl,r⟩;have B:=bZ (a.o.trans r.o);clear a;have a:=B;have J:=bZ (b.o.keep r.o (by simp));clear b y t;have b:=J;have y:=b.o.cell;have t:=b.o.lt));go_ret;exact⟨by first | rfl | simp,a⟩
theorem rC (w:World) (o ix r s:Int) (q p t:ByteArray) (A:Option Addr) (n c J E:Nat) (L:Option Addr) (N j F:Bool)
 (v:Z (∀W,ad [] w W->Calls Tryz.prog 27 #[.agg #[I o,.string q,.string p,I ix,I r,I s,.string t,.slice A n c]] W (RoP W (.bool N))))
 (u:Z (∀W,ad [] w W->Calls Tryz.prog 26 #[.agg #[I o,.string q,.string p,I ix,I r,I s,.string t,.slice A n c],.slice L J E] W (RoP W (.bool false))))
 (x:Z (∀W,ad [] w W->Calls Tryz.prog 51 #[.agg #[I o,.string q,.string p,I ix,I r,I s,.string t,.slice A n c],.slice L J E] W (RoP W (.bool j))))
 (i:j=true->∀W,ad [] w W->Calls Tryz.prog 52 #[.agg #[I o,.string q,.string p,I ix,I r,I s,.string t,.slice A n c]] W (RoP W (.bool F)))
 (M:N=true->o=1->n≠0):
 Calls Tryz.prog 25 #[.agg #[I o,.string q,.string p,I ix,I r,I s,.string t,.slice A n c],.slice L J E] w (RoP w (.bool (j && F))):=by
  obtain⟨W0,d⟩:∃W,W=w.alloc (.cells #[I o,.string q,.string p,I ix,I r,I s,.string t,.slice A n c] 26):=⟨_,rfl⟩;have B:Z (ad [] w W0):=bZ (by rw[d];exact(ad.refl [] w).alloc _);obtain⟨Q,h⟩:∃g,g=w.heap.size:=⟨_,rfl⟩;have K:Z (Blk W0 Q 26 #[I o,.string q,.string p,I ix,I r,I s,.string t,.slice A n c]):=bZ (by rw[d,h];exact Blk.new w 26 _);have O:N=false\/(N=true/\(o==1)=false)\/(N=true/\(o==1)=true/\((n:Int)==0)=false):=by
   cases R:N
   ·exact .inl rfl
   by_cases H:o=1
   ·exact .inr (.inr ⟨rfl,by simp[H],by rw[beq_eq_false_iff_ne];have:=M R H;omega⟩)
   exact .inr (.inl ⟨rfl,by simp[H]⟩)
  clear M;cases j
  ·clear i;rcases O with rfl | ⟨rfl,D⟩ | ⟨rfl,D,P⟩
   all_goals
    go_enter Tryz.func25,Tryz.ntmps25;go_wp2_with (first | (go_at_call 27;rw[<-d,<-h];clear d h;refine(v.o _ B.o).mono ?_;rintro e S ⟨rfl,z⟩;have b:=bZ (B.o.trans z.o);have a:=bZ (K.o.keep z.o (by simp));have y:=a.o.cell;have l:=a.o.lt) | (go_at_call 26;refine(u.o _ b.o).mono ?_;rintro e C ⟨rfl,f⟩;have k:=bZ (b.o.trans f.o);clear b;have b:=k;have m:=bZ (a.o.keep f.o (by simp));clear a y l;have a:=m;have y:=a.o.cell;have l:=a.o.lt) | (go_at_call 51;refine(x.o _ b.o).mono ?_;rintro e C ⟨rfl,f⟩;have k:=bZ (b.o.trans f.o);clear b;have b:=k;have m:=bZ (a.o.keep f.o (by simp));clear a y l;have a:=m;have y:=a.o.cell;have l:=a.o.lt));go_ret;exact⟨by first | rfl | simp,b⟩
  replace i:=bZ (i rfl);rcases O with rfl | ⟨rfl,D⟩ | ⟨rfl,D,P⟩
  all_goals
   go_enter Tryz.func25,Tryz.ntmps25;go_wp2_with (first | (go_at_call 27;rw[<-d,<-h];clear d h;refine(v.o _ B.o).mono ?_;rintro e S ⟨rfl,z⟩;have b:=bZ (B.o.trans z.o);have a:=bZ (K.o.keep z.o (by simp));have y:=a.o.cell;have l:=a.o.lt) | (go_at_call 26;refine(u.o _ b.o).mono ?_;rintro e C ⟨rfl,f⟩;have k:=bZ (b.o.trans f.o);clear b;have b:=k;have m:=bZ (a.o.keep f.o (by simp));clear a y l;have a:=m;have y:=a.o.cell;have l:=a.o.lt) | (go_at_call 51;refine(x.o _ b.o).mono ?_;rintro e C ⟨rfl,f⟩;have k:=bZ (b.o.trans f.o);clear b;have b:=k;have m:=bZ (a.o.keep f.o (by simp));clear a y l;have a:=m;have y:=a.o.cell;have l:=a.o.lt) | (go_at_call 52;refine(i.o _ b.o).mono ?_;rintro e C ⟨rfl,f⟩;have k:=bZ (b.o.trans f.o);clear b;have b:=k));go_ret;exact⟨by first | rfl | simp,b⟩
end Go.Proofs.YtldmkbhgdbafhaaGreat
