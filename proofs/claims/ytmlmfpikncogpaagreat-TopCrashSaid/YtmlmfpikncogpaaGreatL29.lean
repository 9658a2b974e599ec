import Derived.Test.YtmlmfpikncogpaaGreatL28
namespace Go.Proofs.YtmlmfpikncogpaaGreat
open Go.RowKit
set_option linter.unusedSimpArgs false
set_option linter.unusedVariables false
set_option maxRecDepth 100000
set_option maxHeartbeats 16000000
structure TS where
 cols:Nat
 l:Tab
 next:Int
def jZ (w:World) (a:List (Nat×List Nat)) (ts:List TS):Prop:=aJ (fun (p:Nat×List Nat) (t:TS)=>ci w p.1 t.cols t.l t.next p.2) a ts
def fO (a:List (Nat×List Nat)):List Nat:=a.flatMap (·.2)
theorem dJ {a:List (Nat×List Nat)} {x:Nat}:x∈fO a↔∃p∈a,x∈p.2:=by unfold fO;exact Ea
def vd (a:List (Nat×List Nat)):Prop:=a.Pairwise (fun p q=>∀x∈p.2,x∉q.2)
theorem gr {w w':World} {Y:List Nat} (d:aa Y w w') {a:List (Nat×List Nat)} {ts:List TS} (h:jZ w a ts) (b:∀y∈Y,y∉fO a):jZ w' a ts:=
 aJ.mono h (fun p f t _ c=>c.keep d (fun y g e=>b y g (dJ.2 ⟨p,f,e⟩)))
theorem pK {w:World} {a:List (Nat×List Nat)} {ts:List TS} (h:jZ w a ts):∀x∈fO a,x<w.heap.size:=fun x e=>by
 obtain⟨p,c,b⟩:=dJ.1 e;obtain⟨t,_,d⟩:=h.left p c;exact d.lt x b
theorem ea (p:Nat×List Nat) (a:List (Nat×List Nat)):fO (p::a)=p.2++fO a:=rfl
theorem oT {w w':World} {Y:List Nat} (o:aa Y w w'):∀ {c:List (Nat×List Nat)} {ts:List TS},jZ w c ts->vd c->∀(i:Nat) p t t' F',c[i]? =some p->ts[i]? =some t->(∀y∈Y,y∈p.2\/y∉fO c)->ci w' p.1 t'.cols t'.l t'.next F'->(∀x∈F',x∈p.2\/w.heap.size<=x)->
 jZ w' (c.set i (p.1,F')) (ts.set i t')/\vd (c.set i (p.1,F'))/\(∀x∈fO (c.set i (p.1,F')),x∈fO c\/w.heap.size<=x)/\(c.set i (p.1,F')).map (·.1)=c.map (·.1)
 | [],_,_,_,i,p,t,t',F',hp,_,_,_,_=>by simp at hp
 | _::_,[],h,_,_,_,_,_,_,_,_,_,_,_=>h.elim
 | q::c,s::ts,h,hn,0,p,t,t',F',hp,ht,hY,hO,j=>by
  obtain rfl:q=p:=by simpa using hp
  obtain⟨n,v⟩:=DJ.1 hn;have e:=pK h.2;have k:∀x∈F',x∉fO c:=fun x b a=>by
   rcases j x b with d | d
   ·obtain⟨r,f,a⟩:=dJ.1 a;exact n r f x d a
   have:=e x a;omega
  refine⟨⟨hO,gr o h.2 (fun y m a=>?_)⟩,DJ.2 ⟨fun r f x b a=>k x b (dJ.2 ⟨r,f,a⟩),v⟩,fun x b=>?_,rfl⟩
  ·rcases hY y m with d | d
   ·obtain⟨r,f,a⟩:=dJ.1 a;exact n r f y d a
   exact d (by rw[ea];simp[a])
  rw[List.set_cons_zero,ea,CX] at b;rw[ea,CX];rcases b with b | b
  ·exact(j x b).imp_left .inl
  exact .inl (.inr b)
 | q::c,s::ts,h,hn,i+1,p,t,t',F',hp,ht,hY,hO,j=>by
  obtain⟨n,v⟩:=DJ.1 hn;have u:p∈c:=CW (by simpa using hp);obtain⟨d,A,z,B⟩:=oT o h.2 v i p t t' F' (by simpa using hp) (by simpa using ht) (fun y m=>(hY y m).imp_right (fun d a=>d (by rw[ea];simp[a]))) hO j;have e:=h.1.lt;refine⟨⟨h.1.keep o (fun y m a=>?_),d⟩,DJ.2 ⟨fun r f x b a=>?_,A⟩,fun x b=>?_,by rw[List.set_cons_succ,D1,B];rfl⟩
  ·rcases hY y m with g | g
   ·exact n p u y a g
   exact g (by rw[ea];simp[a])
  ·rcases z x (dJ.2 ⟨r,f,a⟩) with g | g
   ·obtain⟨s,j,a⟩:=dJ.1 g;exact n s j x b a
   have:=e x b;omega
  rw[List.set_cons_succ,ea,CX] at b;rw[ea,CX];rcases b with b | b
  ·exact .inl (.inl b)
  exact(z x b).imp_left .inr
structure cu (w:World) (st:Nat) (ts:List TS) (F:List Nat):Prop where
 out_:∃(sA:Option Addr) (sc:Nat) (vss:List (List Value)) (tA:Option Addr) (tc:Nat) (pf:List (Nat×List Nat)) (b0 b1:Nat),
  Blk w st 147 #[.slice sA ts.length sc,.slice tA ts.length tc]/\dU w (fun x=>b0<=x/\x<b1) sA vss (ts.map (·.cols))/\w.ownsRow 0 111 1 (.slice tA ts.length tc) ts.length (pf.map (fun p=>ptr p.1))/\
  jZ w pf ts/\vd pf/\b0<=b1/\(∀x∈st::(fb tA++fO pf),b1<=x)/\(∀x∈st::fb tA,x∉fO pf)/\st∉fb tA/\F=List.range' b0 (b1 - b0)++(st::(fb tA++fO pf))
 few:ts.length<=1000
theorem fC {a b x:Nat} (h:a<=b):x∈List.range' a (b - a)↔a<=x/\x<b:=by
 rw[List.mem_range'_1];omega
theorem cu.keep {w w':World} {i:Nat} {ts:List TS} {F Y:List Nat} (h:cu w i ts F) (c:aa Y w w') (b:∀y∈Y,y∉F):cu w' i ts F:=by
 obtain⟨u,v,e,z,A,t,j,k,l,m,n,o,p,f,q,r,s,rfl⟩:=h.out_;refine⟨⟨u,v,e,z,A,t,j,k,l.keep c (fun a=>b _ a (by simp)),m.move c (fun x _ g=>⟨fun a=>b x a (Di _ ((fC f).2 g)),g⟩),aq n c (fun y d a=>b y d (by simp[a])),gr c o (fun y d a=>b y d (by simp[a])),p,f,q,r,s,rfl⟩,h.few⟩
theorem cu.mem {w:World} {a:Nat} {ts:List TS} {F:List Nat} (h:cu w a ts F):a∈F:=by
 obtain⟨p,q,b,r,s,o,c,d,e,f,g,i,j,k,l,m,n,rfl⟩:=h.out_;simp
theorem cu.lt {w:World} {b:Nat} {ts:List TS} {F:List Nat} (h:cu w b ts F):∀x∈F,x<w.heap.size:=by
 obtain⟨r,s,j,t,u,q,k,l,c,m,d,e,n,f,g,o,p,rfl⟩:=h.out_;have i:=c.lt;have:=g b (by simp);intro x a;simp only[CX,Db] at a;rcases a with a | a | a | a
 ·have:=(fC f).1 a;omega
 ·omega
 ·exact(aw d a).2.1
 exact pK e x a
theorem cu.at2 {w:World} {e:Nat} {ts:List TS} {F:List Nat} (h:cu w e ts F) {i:Nat} {t:TS} (D:ts[i]? =some t):
 ∃p s,ci w p t.cols t.l t.next s/\((∀x∈s,x∈F)/\e∉s)/\(∃g S,w.cell? (U e 1)=G (V g) ts.length S/\w.cell? (U g i)=some (ptr p))/\(∃g off R B,w.cell? (U e 0)=G (some (U g off)) ts.length R/\(∃W X,w.cell? (U g (off+i*5+1))=G W t.cols X)/\B=0/\g∈F/\g∉s)/\
 ∀(w':World) (L:Tab) (next':Int) (b Y:List Nat),aa Y w w'->(∀y∈Y,y∈s\/y∉F)->ci w' p t.cols L next' b->(∀x∈b,x∈s\/w.heap.size<=x)->∃F',cu w' e (ts.set i ⟨t.cols,L,next'⟩) F'/\∀x∈F',x∈F\/w.heap.size<=x:=by
  obtain⟨sA,R,f,tA,S,A,T,M,N,u,h3,h4,h5,h6,z,O,h9,rfl⟩:=h.out_;have a8:=(CV.1 D).1;have ar:=h4.len;obtain⟨o,m⟩:∃p,A[i]? =some p:=⟨_,CT (by omega)⟩;obtain⟨t',n,hT⟩:=h4.get i o m;rw[D] at n;injection n with n;subst n;have d:∀x∈o.2,x∈fO A:=fun x a=>dJ.2 ⟨o,CW m,a⟩;refine⟨o.1,o.2,hT,⟨fun x a=>by simp[d x a],fun c=>O e (by simp) (d e c)⟩,?_,?_,fun w' L next' b Y E k a2 hs=>?_⟩
  ·obtain⟨g,c',hv,_,_,_,_,hc,_⟩:=ax h3 (by omega);injection hv with P _ _;subst P;exact⟨g,S,N.cell 1,hc i _ (by rw[De,m];rfl)⟩
  ·have H:=u.2.len;rw[Df] at H;obtain⟨B,J⟩:∃B,f[i]? =some B:=⟨_,CT (by omega)⟩;obtain⟨cj,C,q⟩:=u.2.get i B J;rw[De,D] at C;obtain rfl:t.cols=cj:=by simpa using C
   have hf:=cy f 5 u.len i B J;obtain⟨g,off,P,r⟩:=u.1.at_ (by
    have:=hf 0 (by decide);rcases DY f.flatten.length with h0 | h0
    ·rw[Dh h0] at this;rw[List.getElem?_nil,CT (by rw[q.len];decide)] at this;cases this
    exact h0)
   subst P;have a7:T<=g/\g<M:=by
    obtain⟨v0,ac⟩:∃v,f.flatten[i*5+0]? =some v:=by
     have:=hf 0 (by decide);rw[this];exact⟨_,CT (by rw[q.len];decide)⟩
    obtain⟨g',an,a0,a1,_⟩:=u.1 _ _ ac;cases a0;exact a1
   obtain⟨nm,W,X,kA,kn,kc,fA,fn,fc,P,c,hc,ak,ks,fs,rfl,_⟩:=q.out_;exact⟨g,off,R,0,N.cell 0,⟨W,X,by have:=r (i*5+1) _ (by rw[hf 1 (by decide)];rfl);rwa [<-Ej] at this⟩,rfl,Di _ ((fC h6).2 a7),fun c=>by have:=z g (by simp[d g c]);omega⟩
  obtain⟨g1,g2,g3,g4⟩:=oT E h4 h5 i o t ⟨t.cols,L,next'⟩ b m D (fun y K=>(k y K).imp_right (fun h c=>h (by simp[c]))) a2 hs;have a4:e∉Y:=fun c=>by
   rcases k e c with h | h
   ·exact O e (by simp) (d e h)
   exact h (by simp)
  have a5:∀y∈Y,y∉fb tA:=fun y K c=>by
   rcases k y K with h | h
   ·exact O y (by simp[c]) (d y h)
   exact h (by simp[c])
  have a3:∀y∈Y,¬(T<=y/\y<M):=fun y K Q=>by
   rcases k y K with h | h
   ·have:=z y (by simp[d y h]);omega
   exact h (Di _ ((fC h6).2 Q))
  have b3:=E.size;have b2:=N.lt;have ap:=z e (by simp);have e1:(ts.set i ⟨t.cols,L,next'⟩).map (·.cols)=ts.map (·.cols):=by
   rw[EV];refine Ee (fun j=>?_);rw[List.getElem?_set]
   split
   ·rename_i hj;subst hj;rw[De,D];simp[a8]
   rfl
  have e2:(A.set i (o.1,b)).map (fun p=>ptr p.1)=A.map (fun p=>ptr p.1):=by
   have:=congrArg (List.map ptr) g4;simpa [List.map_map,Function.comp_def] using this
  have a9:∀x∈fb tA,x<w.heap.size:=fun x a=>(aw h3 a).2.1;have a6:∀x∈fO (A.set i (o.1,b)),M<=x:=fun x a=>by
   rcases g3 x a with h | h
   ·exact z x (by simp[h])
   omega
  refine⟨_,⟨⟨sA,R,f,tA,S,A.set i (o.1,b),T,M,?_,?_,?_,g1,g2,h6,fun x a=>?_,fun x a c=>?_,h9,rfl⟩,by rw[Em];exact h.few⟩,fun x a=>?_⟩
  ·rw[Em];exact N.keep E a4
  ·rw[e1];exact u.move E (fun x _ Q=>⟨fun c=>a3 x c Q,Q⟩)
  ·rw[Em,e2];exact aq h3 E a5
  ·simp only[Db,CX] at a;rcases a with h | h | h
   ·exact z x (by simp[h])
   ·exact z x (by simp[h])
   exact a6 x h
  ·rcases g3 x c with h | h
   ·exact O x a h
   rcases Db.1 a with rfl | a
   ·omega
   have:=a9 x a;omega
  simp only[Db,CX] at a ⊢;rcases a with h | h | h | h
  ·exact .inl (.inl h)
  ·exact .inl (.inr (.inl h))
  ·exact .inl (.inr (.inr (.inl h)))
  exact(g3 x h).imp_left (fun h=>.inr (.inr (.inr h)))
theorem cu.at {w:World} {e:Nat} {ts:List TS} {F:List Nat} (h:cu w e ts F) {i:Nat} {t:TS} (B:ts[i]? =some t):
 ∃p b,ci w p t.cols t.l t.next b/\(∀x∈b,x∈F)/\(∃g tc,w.cell? (U e 1)=G (V g) ts.length tc/\w.cell? (U g i)=some (ptr p))/\(∃g off f j,w.cell? (U e 0)=G (some (U g off)) ts.length f/\(∃cA cc,w.cell? (U g (off+i*5+1))=G cA t.cols cc)/\j=0)/\
 ∀(w':World) (d:Tab) (next':Int) (a:List Nat),aa b w w'->ci w' p t.cols d next' a->(∀x∈a,x∈b\/w.heap.size<=x)->∃c,cu w' e (ts.set i ⟨t.cols,d,next'⟩) c/\aa F w w'/\∀x∈c,x∈F\/w.heap.size<=x:=by
  obtain⟨p,b,q,k,r,⟨g,off,f,j,s,u,v,_⟩,z⟩:=h.at2 B;refine⟨p,b,q,k.1,r,⟨g,off,f,j,s,u,v⟩,fun w' d next' a m A C=>?_⟩;obtain⟨c,n,o⟩:=z w' d next' a b m (fun y E=>.inl E) A C;exact⟨c,n,m.mono (fun x D=>.inl (k.1 x D)),o⟩
theorem xh (w:World) (c:Nat) (ts:List TS) (F:List Nat) (h:cu w c ts F) (tb:Int) (b:tb<0\/(ts.length:Int)<=tb):Calls Tryz.prog 45 #[ptr c,I tb] w fun e w'=>e=.returned (.pointer none)/\w=w':=by
 obtain⟨l,m,f,n,o,k,g,i,a,_⟩:=h.out_;have p:=a.cell 1;clear h a;unfold ptr;by_cases d:tb<0
 ·go_enter Tryz.func45,Tryz.ntmps45;go_wp2_with fail;go_ret;exact⟨rfl,rfl⟩
 have j:(ts.length:Int)<=tb:=b.resolve_left d;clear b;go_enter Tryz.func45,Tryz.ntmps45;go_wp2_with fail;go_ret;exact⟨rfl,rfl⟩
theorem qK (w:World) (a i p n b g:Nat) (k:w.cell? (U a 1)=G (V g) n b) (c:w.cell? (U g i)=some (ptr p)) (j:i<n):Calls Tryz.prog 45 #[ptr a,I (i:Int)] w fun e w'=>e=.returned (ptr p)/\w=w':=by
 have d:¬(i:Int)<0:=by omega
 have f:(i:Int)<(n:Int):=by omega
 have h:¬(n:Int)<=(i:Int):=by omega
 unfold ptr at c ⊢;go_enter Tryz.func45,Tryz.ntmps45;go_wp2_with fail;go_ret;exact⟨rfl,rfl⟩
theorem tZ (w:World) (j i n t g off cols l:Nat) (k:Option Addr) (B:w.cell? (U j 0)=G (some (U g off)) n t) (C:w.cell? (U g (off+i*5+1))=G k cols l) (z:i<n)
 (A:Option Addr) (r:List Val) (m c:Nat) (f:r.length=m) (d:ah w [] A r) (s:m<=10000) (h:∀v∈r,v.fits):Calls Tryz.prog 95 #[ptr j,I (i:Int),.slice A m c] w fun e w'=>e=.returned (.bool (eq cols r))/\Z (aa [] w w'):=by
  have H:=bZ (rU w A r m c f d s h);have p:(i:Int)<(n:Int):=by omega
  clear d h;unfold eq ptr;rw[f];by_cases a:m=cols
  ·subst a;have y:(m:Int)=(m:Int):=rfl;go_enter Tryz.func95,Tryz.ntmps95;go_wp2_with (refine H.o.mono ?_;rintro e w' ⟨rfl,q⟩);go_ret;exact⟨by simp,q⟩
  have b:¬(m:Int)=(cols:Int):=by omega
  have u:decide ((m:Int)=(cols:Int))=false:=decide_eq_false b;have x:((m:Int)==(cols:Int))=false:=by simpa using b
  go_enter Tryz.func95,Tryz.ntmps95;go_wp2_with fail;go_ret;exact⟨by simp[a],bZ (aa.refl _ _)⟩
def jY (t:TS) (id:Int) (old a:List Val):Int:=
 if id<1\/4611686018427387904<id\/(old=[]/\a=[])\/(a≠[]/\eq t.cols a=false) then 1
 else if old=[]/\dm id t.l=true then 5
 else if old≠[]/\cJ id t.l≠some old then 4
 else 0
def chk (ts:List TS) (tb id:Int) (old a:List Val):Int:=if tb<0 then 1 else match ts[tb.toNat]? with | none=>1 | some t=>jY t id old a
theorem tC {ts:List TS} {i:Nat} {t:TS} (h:ts[i]? =some t) (id:Int) (old a:List Val):chk ts (i:Int) id old a=jY t id old a:=by
 unfold chk;rw[if_neg (by omega),EH,h]
theorem zd {ts:List TS} {tb:Int} (h:tb<0\/(ts.length:Int)<=tb) (id:Int) (old a:List Val):chk ts tb id old a=1:=by
 unfold chk;by_cases b:tb<0
 ·rw[if_pos b]
 rw[if_neg b,D9 (by omega)]
def va (w:World) (r:Int) (e:Ending) (w':World):Prop:=e=.returned (I r)/\Z (aa [] w w')
theorem dD (w:World) (st:Nat) (ts:List TS) (F:List Nat) (h:cu w st ts F) (tb id:Int) (oA nA:Option Addr) (K oc T nc:Nat) (old C:List Val) (ho:old.length=K) (hn:C.length=T) (hO:ah w [] oA old) (hN:ah w [] nA C) (an:K<=1000) (ak:T<=1000)
 (a8:∀v∈old,v.fits) (a5:∀v∈C,v.fits):Calls Tryz.prog 103 #[ptr st,.agg #[I tb,I id,.slice oA K oc,.slice nA T nc]] w (va w (chk ts tb id old C)):=by
  have B3:=Blk.new w 64 #[I tb,I id,.slice oA K oc,.slice nA T nc];have E:aa [] w (w.alloc (.cells #[I tb,I id,.slice oA K oc,.slice nA T nc] 64)):=(aa.refl [] w).alloc _;have a4:cu (w.alloc (.cells #[I tb,I id,.slice oA K oc,.slice nA T nc] 64)) st ts F:=h.keep E (fun y hy=>by cases hy);by_cases hr:tb<0\/(ts.length:Int)<=tb
  ·rw[zd hr];have H:=bZ (xh _ st ts F a4 tb hr);replace E:=bZ E;clear h a4 hO hN a8 a5 hr;unfold ptr at H ⊢;go_enter Tryz.func103,Tryz.ntmps103;go_wp2_with (go_at_call 45;refine H.o.mono ?_;rintro e w1 ⟨rfl,rfl⟩);go_ret;exact⟨rfl,E⟩
  obtain⟨i,hi⟩:∃i:Nat,tb=(i:Int):=⟨tb.toNat,by omega⟩;subst hi;have a6:i<ts.length:=by omega
  obtain⟨t,ht⟩:∃t,ts[i]? =some t:=⟨_,CT a6⟩;rw[tC ht];obtain⟨p,Fi,hT,_,⟨gt,tc,t1,t2⟩,⟨gs,off,sc,_,s0,⟨cA,cc,s1⟩,_⟩,_⟩:=h.at ht;have Q:=bZ (qK _ st i p ts.length tc gt (E.cellEq t1 (by simp)) (E.cellEq t2 (by simp)) a6);have R:=bZ (tZ _ st i ts.length sc gs off t.cols cc cA (E.cellEq s0 (by simp)) (E.cellEq s1 (by simp)) a6 nA C T nc hn (hN.keep E (by simp)) (by omega) a5);have S:Z (∀W,aa [] w W->Calls Tryz.prog 47 #[ptr p,I id] W (ot W id t.l)):=bZ (fun W k=>qQ W p t.cols t.l t.next Fi (hT.keep k (by simp)) id);have X:Z (∀W A row n c,aa [] w W->row.length=n->n<=10000->ah W [] A row->Calls Tryz.prog 133 #[.slice A n c,.slice oA K oc] W (ip (row=old) W)):=bZ (fun W A row n c k a1 a2 a3=>qT W A oA row old n c K oc a1 ho a3 (hO.keep k (by simp)) a2 (by omega));have D:Z (∀row,cJ id t.l=some row->row.length<=1000):=bZ (fun row x=>by
   obtain⟨bt,xA,xn,xc,rs,F1,xs,Gs,_,_,_,_,_,_,hR,_⟩:=hT.out_;rcases uj (id:=id) hR with ⟨r,row',_,_,g2,g3⟩ | ⟨_,g2⟩
   ·rw[g2] at x;cases x;have h9:row.length=t.cols:=g3.2.2.2.1;have:=hT.hc.2;omega
   rw[g2] at x;cases x)
  have s:Z (∀W,aa [] (w.alloc (.cells #[I (i:Int),I id,.slice oA K oc,.slice nA T nc] 64)) W->W.cell? (U w.heap.size 1)=some (I id)/\W.cell? (U w.heap.size 2)=G oA K oc/\W.cell? (U w.heap.size 3)=G nA T nc):=bZ (fun W k=>⟨k.cellEq (B3.cell 1) (by simp),k.cellEq (B3.cell 2) (by simp),k.cellEq (B3.cell 3) (by simp)⟩);have q:Z (dm id t.l=(cJ id t.l).isSome):=bZ kL;clear B3;replace E:=bZ E;have j:old=[]↔K=0:=by rw[<-ho];exact List.length_eq_zero_iff.symm
  have u:C=[]↔T=0:=by rw[<-hn];exact List.length_eq_zero_iff.symm
  clear h a4 hO hN a8 a5 hr hT t1 t2 s0 s1;obtain⟨rr,f⟩:∃r,r=jY t id old C:=⟨_,rfl⟩;rw[<-f];unfold jY at f;unfold ptr at Q R S ⊢;by_cases c1:id<1
  ·obtain rfl:rr=1:=by rw[f,if_pos (.inl c1)]
   clear f j u R S X D;go_enter Tryz.func103,Tryz.ntmps103;go_wp2_with (go_at_call 45;refine Q.o.mono ?_;rintro e w1 ⟨rfl,rfl⟩);go_ret;exact⟨rfl,E⟩
  by_cases c2:(4611686018427387904:Int)<id
  ·obtain rfl:rr=1:=by rw[f,if_pos (.inr (.inl c2))]
   clear f j u R S X D;go_enter Tryz.func103,Tryz.ntmps103;go_wp2_with (go_at_call 45;refine Q.o.mono ?_;rintro e w1 ⟨rfl,rfl⟩);go_ret;exact⟨rfl,E⟩
  by_cases n0:T=0
  ·by_cases o0:K=0
   ·obtain rfl:rr=1:=by rw[f,if_pos (.inr (.inr (.inl ⟨j.2 o0,u.2 n0⟩)))]
    clear f j u R S X D;subst n0 o0;obtain⟨y1,y2,y3⟩:=s.o _ (aa.refl _ _);go_enter Tryz.func103,Tryz.ntmps103;go_wp2_with (go_at_call 45;refine Q.o.mono ?_;rintro e w1 ⟨rfl,rfl⟩);go_ret;exact⟨rfl,E⟩
   have d:¬(id<1\/4611686018427387904<id\/(old=[]/\C=[])\/(C≠[]/\eq t.cols C=false)):=fun h=>by
    rcases h with h | h | h | h
    ·exact c1 h
    ·exact c2 h
    ·exact o0 (j.1 h.1)
    exact h.1 (u.2 n0)
   subst n0;obtain⟨y1,y2,y3⟩:=s.o _ (aa.refl _ _);clear R;have o1:¬K=0:=o0;have o2:(0:Int)<(K:Int):=by omega
   cases M:dm id t.l with
   | false=>
    have x:cJ id t.l=none:=by have:=q.o;rw[M] at this;cases hq:cJ id t.l with
     | none=>rfl
     | some r=>rw[hq] at this;cases this
    obtain rfl:rr=4:=by rw[f,if_neg d,if_neg (fun h=>o1 (j.1 h.1)),if_pos ⟨fun h=>o1 (j.1 h),by rw[x];simp⟩]
    clear f d j u X D q x;have a:=E;go_enter Tryz.func103,Tryz.ntmps103;go_wp2_with (first | (go_at_call 45;refine Q.o.mono ?_;rintro e w1 ⟨rfl,rfl⟩) | (go_at_call 47;refine(S.o _ a.o).mono ?_;rintro e L ⟨A4,Y,c4,N,rfl,z,m,b,P⟩;obtain rfl:N=false:=z.o.trans M;obtain⟨u1,u2,u3⟩:=s.o L (b.o)));go_ret;exact⟨rfl,bZ (a.o.trans b.o)⟩
   | true=>
    obtain⟨row,x⟩:∃row,cJ id t.l=some row:=by have:=q.o;rw[M] at this;cases hq:cJ id t.l with
     | none=>rw[hq] at this;cases this
     | some r=>exact⟨r,rfl⟩
    by_cases J:row=old
    ·obtain rfl:rr=0:=by rw[f,if_neg d,if_neg (fun h=>o1 (j.1 h.1)),if_neg (fun h=>h.2 (by rw[x,J]))]
     clear f d j u q;have a:=E;go_enter Tryz.func103,Tryz.ntmps103;go_wp2_with (first | (go_at_call 45;refine Q.o.mono ?_;rintro e w1 ⟨rfl,rfl⟩) | (go_at_call 47;refine(S.o _ a.o).mono ?_;rintro e L ⟨A4,Y,c4,N,rfl,z,m,b,P⟩;obtain rfl:N=true:=z.o.trans M;obtain⟨u1,u2,u3⟩:=s.o L (b.o)) | (go_at_call 133;refine(X.o L A4 row Y c4 (a.o.trans b.o) (m.o row x).1 (by have:=D.o row x;rw[(m.o row x).1] at this;omega) (m.o row x).2).mono ?_;rintro e w5 ⟨q5,rfl,B,O⟩;replace B:=bZ B;obtain rfl:q5=0:=B.o.2 J));go_ret;exact⟨rfl,bZ ((a.o.trans b.o).trans O.o)⟩
    obtain rfl:rr=4:=by rw[f,if_neg d,if_neg (fun h=>o1 (j.1 h.1)),if_pos ⟨fun h=>o1 (j.1 h),by rw[x];intro h;injection h with h;exact J h⟩]
    clear f d j u q;have a:=E;go_enter Tryz.func103,Tryz.ntmps103;go_wp2_with (first | (go_at_call 45;refine Q.o.mono ?_;rintro e w1 ⟨rfl,rfl⟩) | (go_at_call 47;refine(S.o _ a.o).mono ?_;rintro e L ⟨A4,Y,c4,N,rfl,z,m,b,P⟩;obtain rfl:N=true:=z.o.trans M;obtain⟨u1,u2,u3⟩:=s.o L (b.o)) | (go_at_call 133;refine(X.o L A4 row Y c4 (a.o.trans b.o) (m.o row x).1 (by have:=D.o row x;rw[(m.o row x).1] at this;omega) (m.o row x).2).mono ?_;rintro e w5 ⟨q5,rfl,B,O⟩;replace B:=bZ B;have a7:¬q5=0:=fun h=>J (B.o.1 h);have ac:(q5 !=0)=true:=by simpa using a7));go_ret;exact⟨rfl,bZ ((a.o.trans b.o).trans O.o)⟩
  have n1:(0:Int)<(T:Int):=by omega
  have Y:((T:Int)==0)=false:=by simpa using n0
  obtain⟨y1,y2,y3⟩:=s.o _ (aa.refl _ _);cases a0:eq t.cols C with
  | false=>
   rw[a0] at R;obtain rfl:rr=1:=by rw[f,if_pos (.inr (.inr (.inr ⟨fun h=>n0 (u.1 h),a0⟩)))]
   clear f j u S X D;by_cases o0:K=0
   ·subst o0;go_enter Tryz.func103,Tryz.ntmps103;go_wp2_with (first | (go_at_call 45;refine Q.o.mono ?_;rintro e w1 ⟨rfl,rfl⟩) | (go_at_call 95;refine R.o.mono ?_;rintro e w2 ⟨rfl,g⟩;obtain⟨y1,y2,y3⟩:=s.o w2 g.o;have a:=bZ (E.o.trans g.o)));go_ret;exact⟨rfl,a⟩
   have o1:¬K=0:=o0;go_enter Tryz.func103,Tryz.ntmps103;go_wp2_with (first | (go_at_call 45;refine Q.o.mono ?_;rintro e w1 ⟨rfl,rfl⟩) | (go_at_call 95;refine R.o.mono ?_;rintro e w2 ⟨rfl,g⟩;obtain⟨y1,y2,y3⟩:=s.o w2 g.o;have a:=bZ (E.o.trans g.o)));go_ret;exact⟨rfl,a⟩
  | true=>
   rw[a0] at R;have d:¬(id<1\/4611686018427387904<id\/(old=[]/\C=[])\/(C≠[]/\eq t.cols C=false)):=fun h=>by
    rcases h with h | h | h | h
    ·exact c1 h
    ·exact c2 h
    ·exact n0 (u.1 h.2)
    rw[a0] at h;cases h.2
   by_cases o0:K=0
   ·have a9:=j.2 o0;subst o0;cases M:dm id t.l with
    | true=>
     obtain rfl:rr=5:=by rw[f,if_neg d,if_pos ⟨a9,M⟩]
     clear f d j u X D q;go_enter Tryz.func103,Tryz.ntmps103;go_wp2_with (first | (go_at_call 45;refine Q.o.mono ?_;rintro e w1 ⟨rfl,rfl⟩) | (go_at_call 95;refine R.o.mono ?_;rintro e w2 ⟨rfl,g⟩;obtain⟨y1,y2,y3⟩:=s.o w2 g.o;have a:=bZ (E.o.trans g.o)) | (go_at_call 47;refine(S.o _ a.o).mono ?_;rintro e L ⟨A4,Y,c4,N,rfl,z,m,b,P⟩;obtain rfl:N=true:=z.o.trans M;obtain⟨u1,u2,u3⟩:=s.o L (g.o.trans b.o)));go_ret;exact⟨rfl,bZ (a.o.trans b.o)⟩
    | false=>
     obtain rfl:rr=0:=by rw[f,if_neg d,if_neg (fun h=>by rw[M] at h;cases h.2),if_neg (fun h=>h.1 (a9))]
     clear f d j u X D q;go_enter Tryz.func103,Tryz.ntmps103;go_wp2_with (first | (go_at_call 45;refine Q.o.mono ?_;rintro e w1 ⟨rfl,rfl⟩) | (go_at_call 95;refine R.o.mono ?_;rintro e w2 ⟨rfl,g⟩;obtain⟨y1,y2,y3⟩:=s.o w2 g.o;have a:=bZ (E.o.trans g.o)) | (go_at_call 47;refine(S.o _ a.o).mono ?_;rintro e L ⟨A4,Y,c4,N,rfl,z,m,b,P⟩;obtain rfl:N=false:=z.o.trans M;obtain⟨u1,u2,u3⟩:=s.o L (g.o.trans b.o)));go_ret;exact⟨rfl,bZ (a.o.trans b.o)⟩
   have o1:¬K=0:=o0;have o2:(0:Int)<(K:Int):=by omega
   cases M:dm id t.l with
   | false=>
    have x:cJ id t.l=none:=by have:=q.o;rw[M] at this;cases hq:cJ id t.l with
     | none=>rfl
     | some r=>rw[hq] at this;cases this
    obtain rfl:rr=4:=by rw[f,if_neg d,if_neg (fun h=>o1 (j.1 h.1)),if_pos ⟨fun h=>o1 (j.1 h),by rw[x];simp⟩]
    clear f d j u X D q x;go_enter Tryz.func103,Tryz.ntmps103;go_wp2_with (first | (go_at_call 45;refine Q.o.mono ?_;rintro e w1 ⟨rfl,rfl⟩) | (go_at_call 95;refine R.o.mono ?_;rintro e w2 ⟨rfl,g⟩;obtain⟨y1,y2,y3⟩:=s.o w2 g.o;have a:=bZ (E.o.trans g.o)) | (go_at_call 47;refine(S.o _ a.o).mono ?_;rintro e L ⟨A4,Y,c4,N,rfl,z,m,b,P⟩;obtain rfl:N=false:=z.o.trans M;obtain⟨u1,u2,u3⟩:=s.o L (g.o.trans b.o)));go_ret;exact⟨rfl,bZ (a.o.trans b.o)⟩
   | true=>
    obtain⟨row,x⟩:∃row,cJ id t.l=some row:=by have:=q.o;rw[M] at this;cases hq:cJ id t.l with
     | none=>rw[hq] at this;cases this
     | some r=>exact⟨r,rfl⟩
    by_cases J:row=old
    ·obtain rfl:rr=0:=by rw[f,if_neg d,if_neg (fun h=>o1 (j.1 h.1)),if_neg (fun h=>h.2 (by rw[x,J]))]
     clear f d j u q;go_enter Tryz.func103,Tryz.ntmps103;go_wp2_with (first | (go_at_call 45;refine Q.o.mono ?_;rintro e w1 ⟨rfl,rfl⟩) | (go_at_call 95;refine R.o.mono ?_;rintro e w2 ⟨rfl,g⟩;obtain⟨y1,y2,y3⟩:=s.o w2 g.o;have a:=bZ (E.o.trans g.o)) | (go_at_call 47;refine(S.o _ a.o).mono ?_;rintro e L ⟨A4,Y,c4,N,rfl,z,m,b,P⟩;obtain rfl:N=true:=z.o.trans M;obtain⟨u1,u2,u3⟩:=s.o L (g.o.trans b.o)) | (go_at_call 133;refine(X.o L A4 row Y c4 (a.o.trans b.o) (m.o row x).1 (by have:=D.o row x;rw[(m.o row x).1] at this;omega) (m.o row x).2).mono ?_;rintro e w5 ⟨q5,rfl,B,O⟩;replace B:=bZ B;obtain rfl:q5=0:=B.o.2 J));go_ret;exact⟨rfl,bZ ((a.o.trans b.o).trans O.o)⟩
    obtain rfl:rr=4:=by rw[f,if_neg d,if_neg (fun h=>o1 (j.1 h.1)),if_pos ⟨fun h=>o1 (j.1 h),by rw[x];intro h;injection h with h;exact J h⟩]
    clear f d j u q;go_enter Tryz.func103,Tryz.ntmps103;go_wp2_with (first | (go_at_call 45;refine Q.o.mono ?_;rintro e w1 ⟨rfl,rfl⟩) | (go_at_call 95;refine R.o.mono ?_;rintro e w2 ⟨rfl,g⟩;obtain⟨y1,y2,y3⟩:=s.o w2 g.o;have a:=bZ (E.o.trans g.o)) | (go_at_call 47;refine(S.o _ a.o).mono ?_;rintro e L ⟨A4,Y,c4,N,rfl,z,m,b,P⟩;obtain rfl:N=true:=z.o.trans M;obtain⟨u1,u2,u3⟩:=s.o L (g.o.trans b.o)) | (go_at_call 133;refine(X.o L A4 row Y c4 (a.o.trans b.o) (m.o row x).1 (by have:=D.o row x;rw[(m.o row x).1] at this;omega) (m.o row x).2).mono ?_;rintro e w5 ⟨q5,rfl,B,O⟩;replace B:=bZ B;have a7:¬q5=0:=fun h=>J (B.o.1 h);have ac:(q5 !=0)=true:=by simpa using a7));go_ret;exact⟨rfl,bZ ((a.o.trans b.o).trans O.o)⟩
def eH (t:TS) (id:Int) (a:List Val):TS:=if a=[] then ⟨t.cols,bS id t.l,t.next⟩ else ⟨t.cols,fu id a t.l,max t.next (id+1)⟩
theorem qg {t:TS} {id:Int} {old b:List Val} (h:jY t id old b=0):1<=id/\id<=4611686018427387904/\(b≠[]->eq t.cols b=true):=by
 unfold jY at h
 split at h
 ·omega
 rename_i hn;refine⟨by rcases Int.lt_or_le id 1 with a | a;exact absurd (.inl a) hn;exact a,by rcases Int.lt_or_le 4611686018427387904 id with a | a;exact absurd (.inr (.inl a)) hn;exact a,fun a=>?_⟩;cases c:eq t.cols b with
 | true=>rfl
 | false=>exact absurd (.inr (.inr (.inr ⟨a,c⟩))) hn
def iq (w:World) (b:Nat) (ts:List TS) (F:List Nat) (i:Nat) (c:TS) (e:Ending) (w':World):Prop:=∃a,e=.returned (I 0)/\Z (cu w' b (ts.set i c) a)/\Z (aa F w w')/\Z (∀x∈a,x∈F\/w.heap.size<=x)
theorem wP (w:World) (s:Nat) (ts:List TS) (F:List Nat) (h:cu w s ts F) (tb id:Int) (j i:Option Addr) (d l c k:Nat) (old a:List Val) (A:old.length=d) (z:a.length=c) (u:ah w [] j old) (t:ah w [] i a) (p:d<=1000) (n:c<=1000)
 (g:∀v∈old,v.fits) (f:∀v∈a,v.fits) (r:Int) (x:r=chk ts tb id old a) (q:¬r=0):Calls Tryz.prog 71 #[ptr s,.agg #[I tb,I id,.slice j d l,.slice i c k]] w (va w r):=by
  have b:aa [] w (w.alloc (.cells #[I tb,I id,.slice j d l,.slice i c k] 64)):=(aa.refl [] w).alloc _;have H:=bZ (dD (w.alloc (.cells #[I tb,I id,.slice j d l,.slice i c k] 64)) s ts F (h.keep b (fun y C=>by cases C)) tb id j i d l c k old a A z (u.keep b (by simp)) (t.keep b (by simp)) p n g f);rw[<-x] at H;have B:(r !=0)=true:=by simpa using q
  replace b:=bZ b;clear h u t g f x;unfold ptr at H ⊢;go_enter Tryz.func71,Tryz.ntmps71;go_wp2_with (go_at_call 103;refine H.o.mono ?_;rintro e w1 ⟨rfl,m⟩);go_ret;exact⟨rfl,bZ (b.o.trans m.o)⟩
theorem zi (w:World) (L:Nat) (ts:List TS) (F:List Nat) (h:cu w L ts F) (i:Nat) (t:TS) (ht:ts[i]? =some t) (id:Int) (C n:Option Addr) (A J b q:Nat) (old a:List Val) (ho:old.length=A) (hn:a.length=b) (hO:ah w [] C old) (hN:ah w F n a) (a6:A<=1000) (a5:b<=1000)
 (O:∀v∈old,v.fits) (N:∀v∈a,v.fits) (hr:jY t id old a=0) (B:t.l.length<=1000000):Calls Tryz.prog 71 #[ptr L,.agg #[I (i:Int),I id,.slice C A J,.slice n b q]] w (iq w L ts F i (eH t id a)):=by
  have z:aa [] w (w.alloc (.cells #[I (i:Int),I id,.slice C A J,.slice n b q] 64)):=(aa.refl [] w).alloc _;have M:=Blk.new w 64 #[I (i:Int),I id,.slice C A J,.slice n b q];have H:=bZ (dD (w.alloc (.cells #[I (i:Int),I id,.slice C A J,.slice n b q] 64)) L ts F (h.keep z (fun y E=>by cases E)) (i:Int) id C n A J b q old a ho hn (hO.keep z (by simp)) ((hN.keep z (by simp)).apart (by simp)) a6 a5 O N);rw[tC ht,hr] at H;have ak:=(CV.1 ht).1;obtain⟨a3,a4,Q⟩:=qg hr;obtain⟨p,K,hT,a0,⟨gt,tc,t1,t2⟩,_,R⟩:=h.at ht;have a2:(w.alloc (.cells #[I (i:Int),I id,.slice C A J,.slice n b q] 64)).cell? (U w.heap.size 0)=some (I (i:Int)):=M.cell 0;have r:Z (∀W,aa [] (w.alloc (.cells #[I (i:Int),I id,.slice C A J,.slice n b q] 64)) W->(W.cell? (U w.heap.size 0)=some (I (i:Int))/\W.cell? (U w.heap.size 1)=some (I id)/\W.cell? (U w.heap.size 3)=G n b q)/\W.cell? (U L 1)=G (V gt) ts.length tc/\W.cell? (U gt i)=some (.pointer (V p))):=
   bZ (fun W k=>⟨⟨k.cellEq (M.cell 0) (by simp),k.cellEq (M.cell 1) (by simp),k.cellEq (M.cell 3) (by simp)⟩,(z.trans k).cellEq t1 (by simp),(z.trans k).cellEq t2 (by simp)⟩)
  have H4:Z (∀W,aa [] w W->Calls Tryz.prog 104 #[ptr p,I id] W (ja W p t.cols t.l t.next K id)):=bZ (fun W k=>m8 W p t.cols t.l t.next K (hT.keep k (fun y E=>by cases E)) id (by omega) B trivial);have X:Z (a≠[]->∀W,aa [] w W->Calls Tryz.prog 96 #[ptr p,I id,.slice n b q] W (kZ W p t.cols t.l t.next K id a)):=bZ (fun u W k=>pQ W p t.cols t.l t.next K (hT.keep k (fun y E=>by cases E)) id n a b q hn ((hN.keep k (by simp)).other (fun y E=>.inl (a0 y E))) B ⟨a3,a4⟩ (Q u));have d:Z (∀W w' Y next' T,aa [] w W->eH t id a=⟨t.cols,Y,next'⟩->ci w' p t.cols Y next' T->aa K W w'->(∀x∈T,x∈K\/W.heap.size<=x)->iq w L ts F i (eH t id a) (.returned (I 0)) w'):=bZ (fun W w' Y next' T k he a1 hk hs=>by
   have ar:=k.size;obtain⟨F2,g1,g2,g3⟩:=R w' Y next' T (k.nil.trans hk) a1 (fun x hx=>(hs x hx).imp_right (fun h=>by omega));rw[he];exact⟨F2,rfl,bZ g1,bZ g2,bZ g3⟩)
  have ac:(i:Int)<(ts.length:Int):=by omega
  have f:a=[]↔b=0:=by rw[<-hn];exact List.length_eq_zero_iff.symm
  replace z:=bZ z;clear h hO hN O N hr hT t1 t2 R M a2 Q;unfold ptr at H H4 X ⊢;by_cases s:b=0
  ·have P:=f.2 s;have D:Z (eH t id a=⟨t.cols,bS id t.l,t.next⟩):=bZ (by unfold eH;rw[if_pos P]);subst s;clear X f;go_enter Tryz.func71,Tryz.ntmps71;go_wp2_with (go_at_call 103;refine H.o.mono ?_;rintro e w1 ⟨rfl,c⟩);obtain⟨⟨y0,y1,y3⟩,z1,z2⟩:=r.o w1 c.o;go_quiet (fail);have S:=bZ ((z.o.trans c.o).drewN nq);obtain⟨⟨a7,a8,a9⟩,_,_⟩:=r.o (w1.drewN nq) (c.o.drewN nq);clear y0 y1 y3 z1 z2;go_wp2_with (go_at_call 104;refine(H4.o _ S.o).mono ?_;rintro e w3 ⟨dA,dn,dc,db,F3,rfl,j,m,g⟩);have hf:=bZ (d.o _ _ _ _ _ S.o D.o j.o m.o g.o);clear d j m g;go_ret;exact hf.o
  have u:a≠[]:=fun h=>s (f.1 h);have D:Z (eH t id a=⟨t.cols,fu id a t.l,max t.next (id+1)⟩):=bZ (by unfold eH;rw[if_neg u]);have an:¬(b:Int)=0:=by omega
  have ap:((b:Int)==0)=false:=by simpa using s
  have H7:=bZ (X.o u);clear X f H4;go_enter Tryz.func71,Tryz.ntmps71;go_wp2_with (go_at_call 103;refine H.o.mono ?_;rintro e w1 ⟨rfl,c⟩);obtain⟨⟨y0,y1,y3⟩,z1,z2⟩:=r.o w1 c.o;go_quiet (fail);have S:=bZ ((z.o.trans c.o).drewN nq);obtain⟨⟨a7,a8,a9⟩,_,_⟩:=r.o (w1.drewN nq) (c.o.drewN nq);clear y0 y1 y3 z1 z2;go_wp2_with (go_at_call 96;refine(H7.o _ S.o).mono ?_;rintro e w3 ⟨F3,rfl,j,m,g⟩);have hf:=bZ (d.o _ _ _ _ _ S.o D.o j.o m.o g.o);clear d j m g;go_ret;exact hf.o
end Go.Proofs.YtmlmfpikncogpaaGreat
