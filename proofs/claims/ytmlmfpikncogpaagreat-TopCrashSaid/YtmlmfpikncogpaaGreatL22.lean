import Derived.Test.YtmlmfpikncogpaaGreatL21
namespace Go.Proofs.YtmlmfpikncogpaaGreat
open Go.RowKit
set_option linter.unusedSimpArgs false
set_option linter.unusedVariables false
set_option maxRecDepth 100000
set_option maxHeartbeats 16000000
theorem eW {v:Val} (h:¬v.ok):okB v=false:=by
 cases a:okB v with
 | true=>exact absurd (bT.1 a) h
 | false=>rfl
theorem qS (w:World) (v:Val) (C:v.fits):Calls Tryz.prog 98 #[.agg #[I v.k,I v.n,.string v.s]] w fun e w'=>e=.returned (.bool (okB v))/\Z (aa [] w w'):=by
 have f:Z (aa [] w (w.alloc (.cells #[I v.k,I v.n,.string v.s] 60))):=bZ ((aa.refl [] w).alloc _);obtain⟨y,D⟩:=C;by_cases c:v.k=0
 ·by_cases d:v.n=0
  ·by_cases g:v.s=⟨#[]⟩
   ·have j:v.ok:=.inl ⟨c,d,g⟩;rw[bT.2 j,c,d,g];rw[c,d,g] at f;clear j c d g;go_enter Tryz.func98,Tryz.ntmps98;go_wp2_with fail;go_ret;exact⟨rfl,f⟩
   have a:¬v.ok:=by
    rintro(h | h | h)
    ·exact g h.2.2
    ·omega
    omega
   have l:¬v.s.toList=[]:=fun h=>g (iX (by rw[<-Lib.toList_data,h]));have u:(v.s.toList=[])=False:=eq_false l;rw[eW a,c,d];rw[c,d] at f;clear a c d g;go_enter Tryz.func98,Tryz.ntmps98;go_wp2_with fail;go_ret;exact⟨by simp[l],f⟩
  have a:¬v.ok:=by
   rintro(h | h | h)
   ·exact d h.2.1
   ·omega
   omega
  have t:(v.n==0)=false:=beq_false_of_ne d;rw[eW a,c];rw[c] at f;clear a c;go_enter Tryz.func98,Tryz.ntmps98;go_wp2_with fail;go_ret;exact⟨by simp,f⟩
 have p:(v.k==0)=false:=beq_false_of_ne c;by_cases i:v.k=1
 ·by_cases g:v.s=⟨#[]⟩
  ·have j:v.ok:=.inr (.inl ⟨i,D,g⟩);rw[bT.2 j,i,g];rw[i,g] at f;clear j i g c p;go_enter Tryz.func98,Tryz.ntmps98;go_wp2_with fail;go_ret;exact⟨rfl,f⟩
  have a:¬v.ok:=by
   rintro(h | h | h)
   ·exact c h.1
   ·exact g h.2.2
   omega
  have l:¬v.s.toList=[]:=fun h=>g (iX (by rw[<-Lib.toList_data,h]));have u:(v.s.toList=[])=False:=eq_false l;rw[eW a,i];rw[i] at f;clear a i g c p;go_enter Tryz.func98,Tryz.ntmps98;go_wp2_with fail;go_ret;exact⟨by simp[l],f⟩
 have q:(v.k==1)=false:=beq_false_of_ne i;by_cases m:v.k=2
 ·by_cases d:v.n=0
  ·obtain⟨b,r⟩:∃b:Bool,(b=true↔∀x∈v.s.data.toList,32<=x.toNat/\x.toNat<=126):=⟨decide _,decide_eq_true_iff⟩;have z:Z (∀W,Calls Tryz.prog 128 #[.string v.s] W fun e w'=>e=.returned (.bool b)/\W=w'):=bZ (fun W=>vB W _ y b r);have A:Z (okB v=(b && decide ((v.s.size:Int)<=16))):=bZ (by
    by_cases h:v.ok
    ·rw[bT.2 h];rcases h with h | h | h
     ·exact absurd h.1 c
     ·exact absurd h.1 i
     rw[r.2 h.2.2.2,decide_eq_true (by have:=h.2.2.1;omega)];rfl
    rw[eW h];cases b with
    | false=>rfl
    | true=>
     rw[decide_eq_false];rfl;exact fun E=>h (.inr (.inr ⟨m,d,by omega,r.1 rfl⟩)))
   rw[A.o,m,d];rw[m,d] at f;clear r A m d q i p c;cases b with
   | false=>
    go_enter Tryz.func98,Tryz.ntmps98;go_wp2_with (go_at_call 128;refine(z.o _).mono ?_;rintro e w' ⟨rfl,rfl⟩);go_ret;exact⟨by simp,f⟩
   | true=>
    go_enter Tryz.func98,Tryz.ntmps98;go_wp2_with (go_at_call 128;refine(z.o _).mono ?_;rintro e w' ⟨rfl,rfl⟩);go_ret;exact⟨by simp,f⟩
  have a:¬v.ok:=by
   rintro(h | h | h)
   ·omega
   ·omega
   exact d h.2.1
  have t:(v.n==0)=false:=beq_false_of_ne d;rw[eW a,m];rw[m] at f;clear a m q i p c;go_enter Tryz.func98,Tryz.ntmps98;go_wp2_with fail;go_ret;exact⟨by simp,f⟩
 have a:¬v.ok:=by
  rintro(h | h | h)
  ·exact c h.1
  ·exact i h.1
  exact m h.1
 have B:(v.k==2)=false:=beq_false_of_ne m;rw[eW a];clear a;go_enter Tryz.func98,Tryz.ntmps98;go_wp2_with fail;go_ret;exact⟨rfl,f⟩
theorem qV {l:List Val} {j:Nat} {v:Val} (h:l[j]? =some v):dF (l.take (j+1))=(dF (l.take j) && okB v):=by
 unfold dF;rw[Dq,h];simp
theorem jA (w:World) (X:List Nat) (A:Option Addr) (l:List Val) (n c:Nat) (t:l.length=n) (u:ah w X A l) (H:n<=10000) (x:∀v∈l,v.fits):
 Calls Tryz.prog 100 #[.slice A n c] w fun e w'=>e=.returned (.bool (dF l))/\Z (aa [] w w'):=by
  obtain⟨r,p⟩:∃r,r=dF l:=⟨_,rfl⟩;rw[<-p];replace p:=bZ p;replace u:=bZ u;replace t:=bZ t;replace x:=bZ x;go_enter Tryz.func100,Tryz.ntmps100;go_wp2_with fail;go_loopw [3] (fun f wr=>∃j:Nat,j<=n/\f=I (j:Int)/\Z (dF (l.take j)=true)/\Z (aa [] w wr)) (fun f _=>n - (intOf f).toNat)
  case atStart=>exact⟨0,C3 _,rfl,bZ rfl,bZ (aa.refl _ _)⟩
  obtain⟨j,F,rfl,B,q⟩:=hrel;by_cases y:j<n
  ·have D:(j:Int)<(n:Int):=by omega
   obtain⟨v,a⟩:∃v,l[j]? =some v:=⟨_,CT (by rw[t.o];exact y)⟩;obtain⟨g,off,rfl,E,K,L,M⟩:=(u.o.keep q.o (by simp)) j v a;have J:IntKind.i64.wrap ((j:Int)+1)=(j:Int)+1:=C0 _ (by omega);obtain⟨b,i⟩:∃b,b=okB v:=⟨_,rfl⟩;have m:Z (∀W,Calls Tryz.prog 98 #[.agg #[I v.k,I v.n,.string v.s]] W fun e w'=>e=.returned (.bool b)/\Z (aa [] W w')):=bZ (fun W=>by rw[i];exact qS W v (x.o v (CW a)));have hcut:Z (dF (l.take (j+1))=b):=bZ (by rw[qV a,B.o,i];rfl);replace a:=bZ a;replace i:=bZ i;cases b with
   | true=>
    go_wp2_with (go_at_call 98;refine(m.o _).mono ?_;rintro e w2 ⟨rfl,d⟩);go_roundw
    case rel=>exact⟨j+1,by omega,by go_num,hcut,bZ (q.o.trans d.o)⟩
    case measure=>simp[intOf];omega
   | false=>
    obtain rfl:r=false:=by
     rw[p.o];cases h:dF l with
     | false=>rfl
     | true=>
      have C:=cE.1 h v (CW a.o);have z:=i.o;rw[bT.2 C] at z;cases z
    go_wp2_with (go_at_call 98;refine(m.o _).mono ?_;rintro e w2 ⟨rfl,d⟩);go_ret;exact⟨rfl,bZ (q.o.trans d.o)⟩
  obtain rfl:j=n:=by omega
  obtain rfl:r=true:=by
   rw[p.o,<-B.o,C6 (by rw[t.o];exact C9 _)]
  go_wp2_with fail;go_ret;exact⟨rfl,q⟩
theorem jB (w:World) (X:List Nat) (cols:Nat) (A:Option Addr) (l:List Val) (n c:Nat) (t:l.length=n) (y:ah w X A l) (M:n<=10000) (B:∀v∈l,v.fits):
 Calls Tryz.prog 65 #[I (cols:Int),.slice A n c] w fun e w'=>e=.returned (.bool (eq cols l))/\Z (aa [] w w'):=by
  obtain⟨r,u⟩:∃r,r=eq cols l:=⟨_,rfl⟩;rw[<-u];replace u:=bZ u;replace y:=bZ y;replace t:=bZ t;replace B:=bZ B;go_enter Tryz.func65,Tryz.ntmps65;go_wp2_with fail;go_loopw [5] (fun i wr=>∃j:Nat,j<=n/\i=I (j:Int)/\Z (dF (l.take j)=true)/\Z (aa [] w wr)) (fun i _=>n - (intOf i).toNat)
  case atStart=>exact⟨0,C3 _,rfl,bZ rfl,bZ (aa.refl _ _)⟩
  obtain⟨j,L,rfl,F,q⟩:=hrel;by_cases C:j<n
  ·have J:(j:Int)<(n:Int):=by omega
   obtain⟨v,a⟩:∃v,l[j]? =some v:=⟨_,CT (by rw[t.o];exact C)⟩;obtain⟨g,off,rfl,K,O,P,Q⟩:=(y.o.keep q.o (by simp)) j v a;have N:IntKind.i64.wrap ((j:Int)+1)=(j:Int)+1:=C0 _ (by omega);obtain⟨b,m⟩:∃b,b=okB v:=⟨_,rfl⟩;have p:Z (∀W,Calls Tryz.prog 98 #[.agg #[I v.k,I v.n,.string v.s]] W fun e w'=>e=.returned (.bool b)/\Z (aa [] W w')):=bZ (fun W=>by rw[m];exact qS W v (B.o v (CW a)));have hcut:Z (dF (l.take (j+1))=b):=bZ (by rw[qV a,F.o,m];rfl);replace a:=bZ a;replace m:=bZ m;cases b with
   | true=>
    go_wp2_with (go_at_call 98;refine(p.o _).mono ?_;rintro e w2 ⟨rfl,f⟩);go_roundw
    case rel=>exact⟨j+1,by omega,by go_num,hcut,bZ (q.o.trans f.o)⟩
    case measure=>simp[intOf];omega
   | false=>
    obtain rfl:r=false:=by
     rw[u.o];cases h:eq cols l with
     | false=>rfl
     | true=>
      have x:=(d8.1 h).2 v (CW a.o);have D:=m.o;rw[bT.2 x] at D;cases D
    go_wp2_with (go_at_call 98;refine(p.o _).mono ?_;rintro e w2 ⟨rfl,f⟩);go_ret;exact⟨rfl,bZ (q.o.trans f.o)⟩
  obtain rfl:j=n:=by omega
  have E:Z (r=decide (j=cols)):=bZ (by
   have x:=F.o;rw[C6 (by rw[t.o];exact C9 _)] at x;rw[u.o];unfold eq;rw[x,t.o,Bool.and_true])
  by_cases z:j=cols
  ·have d:r=true:=by rw[E.o,decide_eq_true z]
   subst d;subst z;go_wp2_with fail;go_ret;exact⟨by simp,q⟩
  have d:r=false:=by rw[E.o,decide_eq_false z]
  subst d;have H:((j:Int)==(cols:Int))=false:=beq_false_of_ne (by omega);go_wp2_with fail;go_ret;exact⟨by simp,q⟩
theorem Aa (w:World):Calls Tryz.prog 99 #[] w fun e w'=>e=.returned (I 4611686018427387904)/\w=w':=by
 go_enter Tryz.func99,Tryz.ntmps99;go_wp2_with fail;go_ret;exact⟨rfl,rfl⟩
def eD (w1 w:World) (c:List (Value×Value)) (b:List (List Nat)):Prop:=∃a,fK w c a/\a.flatten.Nodup/\(∀x∈a.flatten,x∈b.flatten\/w1.heap.size<=x)/\aa b.flatten w1 w
theorem eD.start {w:World} {b:List (Value×Value)} {a:List (List Nat)} (h:fK w b a) (c:a.flatten.Nodup):eD w w b a:=⟨a,h,c,fun x d=>.inl d,aa.refl _ _⟩
theorem eD.keep {w1 w w':World} {d:List (Value×Value)} {b:List (List Nat)} (h:eD w1 w d b) (c:aa [] w w'):eD w1 w' d b:=by
 obtain⟨a,e,f,g,i⟩:=h;exact⟨a,dh c e (by simp),f,g,i.trans c.nil⟩
theorem eD.at {w1 w:World} {A:List (Value×Value)} {B:List (List Nat)} (h:eD w1 w A B) {i:Nat} {p:Value×Value} (Q:A[i]? =some p):
 ∃(f:Option Addr) (m r:Nat) (cols:List Int) (l:Nat) (s:List Ent) (e:List Nat) (n:Int),p=(.slice f m r,ptr l)/\cols.length=m/\m<=10000/\aY w f cols/\aR tyS 250 w l s e n/\(∀x∈s,dP x.1/\dW x.2)/\
  ∀(w2 w':World) (c:List Ent) (o:List Nat) (n':Int),aa [] w w2->aa e w2 w'->aR tyS 250 w' l c o n'->(∀x∈o,x∈e\/w2.heap.size<=x)->(∀x∈c,dP x.1/\dW x.2)->eD w1 w' A B:=by
 obtain⟨T,J,Y,K,L⟩:=h
 obtain⟨S,N,f,m,r,cols,l,s,e,n,rfl,C,D,E,W,X,F,H,rfl⟩:=J.get i p Q
 refine⟨f,m,r,cols,l,s,e,n,rfl,C,D,E,W,X,fun w2 w' c o n' R k2 O M hE=>?_⟩
 have k:aa e w w':=R.nil.trans k2
 have hs:=R.size
 have q:∀g∈fb f,g∉e:=fun g v hm=>(Dp.1 H).2.2 g v g hm rfl
 obtain⟨t,i1,i2,i3⟩:=pj k J Y i _ _ (fb f++o) Q N (fun y z=>.inl (Dg _ z))
  ⟨f,m,r,cols,l,c,o,n',rfl,C,D,E.part k q,O,hE,fun g v=>Dr (F g v) k.size,Dp.2 ⟨(Dp.1 H).1,O.nd,fun a P b hb u=>by
   subst u;rcases M a hb with d | d
   ·exact q a P d
   have:=F a P;omega⟩,rfl⟩
  (fun x j=>by
   rcases CX.1 j with j | j
   ·exact .inl (Di _ j)
   rcases M x j with d | d
   ·exact .inl (Dg _ d)
   exact .inr (by omega))
 have a0:=L.size
 refine⟨t,i1,i2,fun x j=>?_,L.more k (fun y z=>?_)⟩
 ·rcases i3 x j with d | d
  ·exact K x d
  exact .inr (by omega)
 ·exact K y (Fm.2 ⟨_,CW N,Dg _ z⟩)
theorem nd4 {t:Nat} {A B C:List Nat}:(t::(A++(B++C))).Nodup↔((t∉A/\t∉B/\t∉C)/\A.Nodup/\B.Nodup/\C.Nodup/\(∀x∈A,x∉B)/\(∀x∈A,x∉C)/\∀x∈B,x∉C):=by
 rw[E7,Dp,Dp,CX,CX];constructor
 ·rintro⟨i,j,⟨k,l,m⟩,f⟩;exact⟨⟨fun h=>i (.inl h),fun h=>i (.inr (.inl h)),fun h=>i (.inr (.inr h))⟩,j,k,l,fun x e c=>f x e x (Di _ c) rfl,fun x e n=>f x e x (Dg _ n) rfl,fun x e n=>m x e x n rfl⟩
 rintro⟨⟨o,p,q⟩,j,k,l,m,f,r⟩;refine⟨fun h=>?_,j,⟨k,l,fun a g b c d=>?_⟩,fun a g b c d=>?_⟩
 ·rcases h with h | h | h
  ·exact o h
  ·exact p h
  exact q h
 ·subst d;exact r a g c
 subst d;rcases CX.1 c with c | c
 ·exact m a g c
 exact f a g c
theorem vb {id:Int} {l:Tab} (h:fN l):(bS id l).length=l.length - (if dm id l then 1 else 0):=by
 have:=nV (id:=id) h;omega
theorem qL {w w1 w2 w3:World} {t cols l k B:Nat} {e:Option Addr} {rs rs':List aD} {i c:List Nat} {z:List (Value×Value)} {g:List (List Nat)} {j:Tab} {s next':Int}
 (hB:Blk w t 175 #[I cols,ptr l,I s,.slice e k B]) (P:w.ownsRow 0 225 2 (.slice e k B) k (cZ z)) (h4:z.length=k) (h5:fK w z g) (h6:(t::(fb e++(i++g.flatten))).Nodup)
 (L:aa i w w1) (E:aR tyI 204 w1 l (rs'.map aD.ent) c (j.length:Nat)) (A:∀x∈c,x∈i\/w.heap.size<=x)
 (Q:aJ (ei w1 (t::(fb e++(c++g.flatten))) cols) rs' j) (K:∀x∈eL rs',x∈eL rs\/w.heap.size<=x) (hi:eD w1 w2 z g)
 (r:aa [t] w2 w3) (C:Blk w3 t 175 #[I cols,ptr l,I next',.slice e k B])
 (n:1<=cols/\cols<=1000) (ha:fN j) (o:∀x∈j,1<=x.1/\x.1<next') (J:1<=next'/\next'<=4611686018427387905):
 ∃N,ci w3 t cols j next' N/\aa ((t::(fb e++(i++g.flatten)))++eL rs) w w3/\∀x∈N,x∈(t::(fb e++(i++g.flatten)))++eL rs\/w.heap.size<=x:=by
  obtain⟨f,i1,i2,p,q⟩:=hi;obtain⟨⟨R,n2,n3⟩,n4,n5,n6,S,T,n9⟩:=nd4.1 h6;have a0:=L.size;have a1:=q.size;have tl:=hB.lt;have W:∀x∈fb e,x<w.heap.size:=fun x a=>(aw P a).2.1;have Y:=kK h5;have O:∀x∈c,x∉g.flatten:=fun x a b=>by
   rcases A x a with h | h
   ·exact n9 x h b
   have:=Y x b;omega
  have X:=E.lt;have v:t∉f.flatten:=fun b=>by
   rcases p t b with h | h
   ·exact n3 h
   omega
  have F:aR tyI 204 w2 l (rs'.map aD.ent) c (j.length:Nat):=E.keep q (fun y d b=>O y b d);have u:t∉c:=fun b=>by
   rcases A t b with h | h
   ·exact n2 h
   omega
  have hX:∀x∈t::(fb e++(c++f.flatten)),x∈t::(fb e++(c++g.flatten))\/w1.heap.size<=x:=fun x a=>by
   simp only[Db,CX] at a ⊢;rcases a with h | h | h | h
   ·exact .inl (.inl h)
   ·exact .inl (.inr (.inl h))
   ·exact .inl (.inr (.inr (.inl h)))
   exact(p x h).imp_left (fun h=>.inr (.inr (.inr h)))
  have m:=ft n.1 q Q (fun y d b=>(jO n.1 Q y b).2 (by simp[d])) hX;have D:=ft (X':=t::(fb e++(c++f.flatten))) n.1 r m (fun y d b=>(jO n.1 m y b).2 (by simp only[CZ] at d;simp[d])) (fun x a=>.inl a);have H:(t::(fb e++(c++f.flatten))).Nodup:=nd4.2 ⟨⟨R,u,v⟩,n4,E.nd,i2,fun x a b=>by
   rcases A x b with h | h
   ·exact S x a h
   ·have:=W x a;omega,fun x a b=>by
   rcases p x b with h | h
   ·exact T x a h
   ·have:=W x a;omega,fun x a b=>by
   rcases p x b with h | h
   ·exact O x a h
   have:=X x a;omega⟩
  refine⟨_,⟨⟨l,e,k,B,rs',c,z,f,C,F.keep r (fun y d b=>by simp only[CZ] at d;subst d;exact u b),
   aq (aq (aq P L (fun y d b=>S y b d)) q (fun y d b=>T y b d)) r (fun y d b=>by simp only[CZ] at d;subst d;exact R b),h4,
   dh r i1 (fun y d b=>by simp only[CZ] at d;subst d;exact v b),H,D,rfl⟩,n,ha,o,J⟩,?_,fun x a=>?_⟩
  ·have M:aa (i++g.flatten) w w2:=(L.mono (fun x a=>.inl (Di _ a))).trans (q.mono (fun x a=>.inl (Dg _ a)));exact(M.mono (fun x a=>.inl (by simp only[CX,Db] at a ⊢;rcases a with h | h;exact .inl (.inr (.inr (.inl h)));exact .inl (.inr (.inr (.inr h)))))).trans (r.mono (fun x a=>.inl (by simp only[CZ] at a;simp[a])))
  simp only[CX,Db] at a ⊢;rcases a with (h | h | h | h) | h
  ·exact .inl (.inl (.inl h))
  ·exact .inl (.inl (.inr (.inl h)))
  ·exact(A x h).imp_left (fun h=>.inl (.inr (.inr (.inl h))))
  ·rcases p x h with h | h
   ·exact .inl (.inl (.inr (.inr (.inr h))))
   exact .inr (by omega)
  exact(K x h).imp_left .inr
theorem km {w:World} {n c:Nat} {A:Option Addr} {a:List (Value×Value)} (h:w.ownsRow 0 225 2 (.slice A n c) n (cZ a)) (l:a.length=n) (j:0<n):
 ∃g,A=V g/\∀i p,a[i]? =some p->w.cell? (U g (i*2))=some p.1/\w.cell? (U g (i*2+1))=some p.2:=by
  obtain⟨g,c',k,_,_,_,_,b,_⟩:=ax h j;injection k with hA _ _;refine⟨g,hA,fun i p f=>?_⟩;obtain⟨d,e⟩:=pm a i p f;exact⟨b _ _ d,b _ _ e⟩
def ja (w:World) (t cols:Nat) (l:Tab) (a:Int) (F:List Nat) (id:Int) (e:Ending) (w':World):Prop:=
 ∃A n c b d,e=.returned (.tuple #[.slice A n c,.bool b])/\Z (ci w' t cols (bS id l) a d)/\Z (aa F w w')/\Z (∀x∈d,x∈F\/w.heap.size<=x)
theorem m8 (w:World) (t cols:Nat) (l:Tab) (d:Int) (F:List Nat) (h:ci w t cols l d F) (id:Int) (c0: -9223372036854775808<=id/\id<9223372036854775808) (c4:l.length<=1000000) (c3:True):
 Calls Tryz.prog 104 #[ptr t,I id] w (ja w t cols l d F id):=by
  obtain⟨bt,Y,O,xc,rs,M,xs,D,hB,hT,hX,X,hI,hN,hR,rfl⟩:=h.out_;have J:=h.asc;have hc:=h.hc;have a4:=h.ids;have ba:=h.nx;have ha:=mt hR J;have cl:O<=9223372036854775807:=by
   obtain⟨A9,c9,he,h8,h9⟩:=aH hX;injection he with _ _ he;subst he;unfold maxLen at h9;omega
  have H1:=bZ (tT.1 w bt _ M _ id hT p9);have a6:Z (∀W,Calls Tryz.prog 38 #[I id] W fun e w'=>e=.returned (.string ⟨(Cod.num id).toArray⟩)/\Z (aa [] W w')):=bZ (fun W=>dB W id c0);have x1:=hB.cell 1;have n4:=nd4.1 hN;have m:Z (∀(w1 w2:World) (C:List Nat) (a:List Ent) (B:Bool) (old:Value),aR tyI 204 w1 bt a C (if B then wrap64 ((l.length:Nat) - 1) else (l.length:Nat))->aa M w w1->(∀x∈C,x∈M\/w.heap.size<=x)->gT true (rs.map aD.ent) a (I id) B old->eD w1 w2 xs D->
   ∃F',ci w2 t cols (bS id l) d F'/\aa ((t::(fb Y++(M++D.flatten)))++eL rs) w w2/\∀x∈F',x∈(t::(fb Y++(M++D.flatten)))++eL rs\/w.heap.size<=x):=bZ (by
   intro w1 w2 C a B old f k1 hF hD u
   obtain⟨rs',r1,r2,r3⟩:=zQ (id:=id) hR
   obtain⟨d1,d2⟩:=hD.2.2 rfl ha
   rw[r1] at d1
   rw[j9 hR] at d2
   subst d1
   have a7:∀x∈eL rs',x∈eL rs:=fun x N=>by
    obtain⟨r,hr,L⟩:=Ea.1 N;exact Ea.2 ⟨r,r3 r hr,L⟩
   have b3:(if B then wrap64 ((l.length:Nat) - 1) else ((l.length:Nat):Int))=((bS id l).length:Nat):=by
    have hl:=nV (id:=id) J;rw[d2.1];cases hh:dm id l with
    | true=>
     rw[hh] at hl;simp only[if_true] at hl ⊢;have c5:1<=l.length:=by omega
     unfold wrap64;omega
    | false=>
     rw[hh] at hl;simp only[EW,if_false] at hl ⊢;omega
   rw[b3] at f
   have bk:Blk w1 t 175 #[I cols,ptr bt,I d,.slice Y O xc]:=hB.keep k1 n4.1.2.1
   have k2:=u
   obtain⟨_,_,_,_,k2⟩:=k2
   refine qL (rs':=rs') hB hX X hI hN k1 f hF (ft hc.1 k1 r2 (fun y hy L=>(jO hc.1 hR y (a7 y L)).2 (by simp[hy])) (fun x N=>?_)) (fun x N=>.inl (a7 x N)) u (aa.refl _ _) (bk.keep k2 n4.1.2.2) hc (kU J) (fun x N=>a4 x (eB.1 N).1) ba
   simp only[Db,CX] at N ⊢
   rcases N with h | h | h | h
   ·exact .inl (.inl h)
   ·exact .inl (.inr (.inl h))
   ·exact(hF x h).imp_left (fun h=>.inr (.inr (.inl h)))
   ·exact .inl (.inr (.inr (.inr h))))
  have b2:Z (∀(a:List Ent) (B:Bool) (old:Value),gT true (rs.map aD.ent) a (I id) B old->B=true->∃A n c row,old=.slice A n c/\row.length=n/\n<=1000/\(∀v∈row,v.ok)/\ah w (t::(fb Y++(M++D.flatten))) A row):=bZ (by
   intro a B old hD H;obtain⟨x,N,rfl⟩:=hD.2.1 H;obtain⟨r,hr,rfl⟩:=Dt.1 N;obtain⟨y,_,e1,e2,e3,e4,e5⟩:=hR.left r hr;exact⟨r.A,r.n,r.c,y.2,rfl,e2.symm,by rw[e2,e4];exact hc.2,e5,e3⟩)
  have Q:=bZ (show ∀w1,aa M w w1->eD w1 w1 xs D from fun w1 k1=>eD.start (dh k1 hI (fun y hy L=>n4.2.2.2.2.2.2 y hy L)) n4.2.2.2.1);have q:Z (∀w1 W,aa M w w1->eD w1 W xs D->W.ownsRow 0 225 2 (.slice Y O xc) O (cZ xs)/\W.cell? (U t 3)=G Y O xc):=bZ (fun w1 W k1 u=>by
   obtain⟨_,_,_,_,k2⟩:=u;exact⟨aq (aq hX k1 (fun y hy L=>n4.2.2.2.2.1 y L hy)) k2 (fun y hy L=>n4.2.2.2.2.2.1 y L hy),((hB.keep k1 n4.1.2.1).keep k2 n4.1.2.2).cell 3⟩)
  have hA:=bZ ha;have a3:=bZ (j9 (id:=id) hR);replace X:=bZ X;clear h hB hT hX hI hN hR J hc a4 ba ha n4 c3;have H:Z (∀(a:List Ent) (B:Bool) (old:Value),gT true (rs.map aD.ent) a (I id) B old->B=dm id l):=bZ (fun a B old hD=>by
   have:=(hD.2.2 rfl hA.o).2.1;rwa [a3.o] at this)
  clear hA a3;unfold ptr at H1 x1 ⊢;cases hh:dm id l with
  | false=>
   rw[hh] at H;go_enter Tryz.func104,Tryz.ntmps104;go_wp2_with (refine H1.o.mono ?_;rintro e w1 ⟨old,B,a,C,rfl,f,i,a0,E⟩;obtain rfl:B=false:=H.o _ _ _ E.o);obtain⟨F',q1,q2,q3⟩:=m.o w1 w1 C a false _ f.o i.o a0.o E.o (Q.o w1 i.o);have P:Z (ja w t cols l d ((t::(fb Y++(M++D.flatten)))++eL rs) id (.returned (.tuple #[.slice none 0 0,.bool false])) w1):=bZ ⟨none,0,0,false,F',rfl,bZ q1,bZ q2,bZ q3⟩;clear q1 q2 q3 m Q q a6;go_ret2;exact P.o
  | true=>
   rw[hh] at H;go_enter Tryz.func104,Tryz.ntmps104;go_wp2_with (refine H1.o.mono ?_;rintro e w1 ⟨old,B,a,C,rfl,f,i,a0,E⟩;obtain rfl:B=true:=H.o _ _ _ E.o;obtain⟨oA,on,oc,row,rfl,a8,ch,R,b⟩:=b2.o _ _ _ E.o rfl;have ck:=(q.o w1 w1 i.o (Q.o w1 i.o)).2;replace b:=bZ b;replace R:=bZ R;replace a8:=bZ a8);have b8:Z (∀w2,eD w1 w2 xs D->∃F',ci w2 t cols (bS id l) d F'/\aa ((t::(fb Y++(M++D.flatten)))++eL rs) w w2/\∀x∈F',x∈(t::(fb Y++(M++D.flatten)))++eL rs\/w.heap.size<=x):=bZ (fun w2 u=>m.o w1 w2 C a true _ f.o i.o a0.o E.o u);have b6:=bZ (Q.o w1 i.o);have bb:Z (∀W,eD w1 W xs D->W.ownsRow 0 225 2 (.slice Y O xc) O (cZ xs)):=bZ (fun W u=>(q.o w1 W i.o u).1);have bd:Z (∀W,eD w1 W xs D->ah W [] oA row):=bZ (fun W u=>by
    obtain⟨_,_,_,_,k2⟩:=u;by_cases h0:0<row.length
    ·have a1:=b.o.lt h0;exact((b.o.part i.o (fun g hg L=>(a1 g hg).2 (by simp[L]))).part k2 (fun g hg L=>(a1 g hg).2 (by simp[L]))).apart (by simp)
    obtain rfl:row=[]:=Dh (by omega);exact ah.nil _ _ _)
   clear Q q b m b2 H f i a0 E H1;go_loopw [26] (fun ac wr=>∃j:Nat,j<=O/\ac=I (j:Int)/\Z (eD w1 wr xs D)) (fun ac _=>O - (intOf ac).toNat)
   case atStart=>exact⟨0,C3 _,rfl,b6⟩
   obtain⟨j,hj,rfl,u⟩:=hrel;by_cases a1:j<O
   ·have cb:(j:Int)<(O:Int):=by omega
    have wj:IntKind.i64.wrap ((j:Int)+1)=(j:Int)+1:=C0 _ (by omega);obtain⟨p,hp⟩:∃p,xs[j]? =some p:=⟨_,CT (by rw[X.o];exact a1)⟩;obtain⟨gx,bp,b5⟩:=km (bb.o _ u.o) X.o (by omega);subst bp;have b4:=b5 j p hp;clear b5;obtain⟨cA,cn,cc,bh,bi,es,Fi,n1,rfl,g1,g2,g3,g4,g5,a2⟩:=u.o.at hp;unfold ptr at b4;obtain⟨bl,bn⟩:=b4;have T:=bd.o _ u.o;replace a2:=bZ a2;have an:=bZ g5;have f:=bZ g4;have a5:Z (∀W,aa [] wr W->Calls Tryz.prog 127 #[.slice oA on oc,.slice cA cn cc] W fun e w'=>(∃s:ByteArray,e=.returned (.string s)/\s.size<=1000000)/\Z (aa [] W w')):=bZ (fun W k=>uw W oA row on oc a8.o (T.keep k (by simp)) (by omega) R.o cA bh cn cc g1 (g3.keep k) g2);obtain⟨w3,a9⟩:∃x,x=wr:=⟨_,rfl⟩;have b7:Z (aa [] w3 (wr.alloc (.cells #[.slice cA cn cc,.pointer (V bi)] 225))):=bZ (by rw[a9];exact(aa.refl [] wr).alloc _);have B9:=bZ (Blk.new wr 225 #[.slice cA cn cc,.pointer (V bi)]);rw[<-a9] at f a2 a5;clear g1 g2 g3 g4 g5 T u hp;go_wp2_with fail;obtain⟨b9,b1⟩:∃x,x=wr.heap.size:=⟨_,rfl⟩;rw[<-b1] at B9 ⊢;generalize wr.alloc (.cells #[.slice cA cn cc,.pointer (V bi)] 225)=wr9 at*;clear b1 a9 bl bn;clear wr;obtain⟨wr,c2⟩:∃x,x=wr9:=⟨_,rfl⟩;subst c2;have z0:=B9.o.cell 0;have z1:=B9.o.cell 1;clear B9;refine ad (S:=(fun w':World=>w'.cell? (U b9 0)=G cA cn cc/\w'.cell? (U b9 1)=some (.pointer (V bi)))) (n:=9) (by kernel_rfl) ?_;have HS:wr.drew.cell? (U b9 0)=G cA cn cc/\wr.drew.cell? (U b9 1)=some (.pointer (V bi)):=⟨z0,z1⟩;have z:Z (aa [] w3 wr.drew):=bZ b7.o.drew;clear b7 z0 z1;generalize wr.drew=wd at*;refine ord [0,1,2,3,4,6] ?_
    iterate 6 (refine tq HS ?_;try simp only[PT,Y1,Y2,Y3])
    refine av ?_;refine J1 5 fun K hK=>?_;dsimp only[Y1,Y2,Y3];go_simp;refine(a5.o _ z.o).mono ?_;rintro e wz ⟨⟨sk,rfl,cj⟩,kz⟩;have cd:¬9223372036854775807<sk.size+(Cod.num id).length:=by rw[Cod.ag];omega
    have HS:wz.cell? (U b9 0)=G cA cn cc/\wz.cell? (U b9 1)=some (.pointer (V bi)):=⟨kz.o.cellEq HS.1 (by simp),kz.o.cellEq HS.2 (by simp)⟩;replace z:=bZ (z.o.trans kz.o);refine hK _ _ (.inr HS) ?_;clear hK K kz;obtain⟨wd,c1⟩:∃x,x=wz:=⟨_,rfl⟩;subst c1
    try simp only[PT,Y1,Y2,Y3]
    refine J1 7 fun K hK=>?_;dsimp only[Y1,Y2,Y3];go_simp;refine(a6.o _).mono ?_;rintro e wy ⟨rfl,kz⟩;have HS:wy.cell? (U b9 0)=G cA cn cc/\wy.cell? (U b9 1)=some (.pointer (V bi)):=⟨kz.o.cellEq HS.1 (by simp),kz.o.cellEq HS.2 (by simp)⟩;replace z:=bZ (z.o.trans kz.o);refine hK _ _ (.inr HS) ?_;clear hK K kz
    try simp only[PT,Y1,Y2,Y3]
    refine ord [8] ?_
    (refine tq HS ?_;try simp only[PT,Y1,Y2,Y3])
    refine av ?_;refine J1 9 fun K hK=>?_;dsimp only[Y1,Y2,Y3];go_simp;refine(tT.2 _ bi es Fi n1 _ (f.o.keep z.o (by simp)) an.o).mono ?_;rintro e wx ⟨c6,c8,c7,F4,rfl,b0,ar,ap,ak⟩;have bs:Z (eD w1 wx xs D):=bZ (a2.o _ _ _ _ _ z.o ar.o b0.o ap.o (fun x N=>an.o x (ak.o.1 x N)));refine hK _ _ (.inl (by omega)) ?_;clear hK K ar b0 ap ak z
    try simp only[PT,Y1,Y2,Y3]
    refine JD ?_;go_wp2_with fail;go_roundw
    case rel=>exact⟨j+1,by omega,by go_num,bs⟩
    case measure=>simp[intOf];omega
   obtain rfl:j=O:=by omega
   obtain⟨F',q1,q2,q3⟩:=b8.o wr u.o;have P:Z (ja w t cols l d ((t::(fb Y++(M++D.flatten)))++eL rs) id (.returned (.tuple #[.slice oA on oc,.bool true])) wr):=bZ ⟨oA,on,oc,true,F',rfl,bZ q1,bZ q2,bZ q3⟩;clear q1 q2 q3 b8 u;go_wp2_with fail;go_ret2;exact P.o
def fu (id:Int) (r:List Val) (l:Tab):Tab:=gG id r (bS id l)
theorem yQ {id:Int} {l:Tab}:dm id (bS id l)=false:=by
 unfold dm;rw[EP];intro x a;have:=(eB.1 a).2;simpa using this
theorem rd {id:Int} {r:List Val} {l:Tab} (h:fN l):fN (fu id r l):=rz (kU h)
def kZ (w:World) (t cols:Nat) (l:Tab) (a:Int) (F:List Nat) (id:Int) (r:List Val) (e:Ending) (w':World):Prop:=
 ∃b,e=.returned (I 0)/\Z (ci w' t cols (fu id r l) (max a (id+1)) b)/\Z (aa F w w')/\Z (∀x∈b,x∈F\/w.heap.size<=x)
theorem pQ (w:World) (t cols:Nat) (l:Tab) (b:Int) (F:List Nat) (h:ci w t cols l b F) (id:Int) (A:Option Addr) (r:List Val) (n c:Nat) (hl:r.length=n) (hO:ah w F A r) (m:l.length<=1000000)
 (d1:1<=id/\id<=4611686018427387904) (b6:eq cols r=true):Calls Tryz.prog 96 #[ptr t,I id,.slice A n c] w (kZ w t cols l b F id r):=by
  obtain⟨a7,u⟩:=d8.1 b6;have hc:=h.hc;have hn:n<=1000:=by omega
  have a6:0<r.length:=by omega
  have H1:=bZ (pO w t cols l b F h A r n c hl (hO.apart (by simp)) (by omega) (fun v hv=>dI (u v hv)));rw[b6] at H1;have c5:Z (∀W,Calls Tryz.prog 38 #[I id] W fun e w'=>e=.returned (.string ⟨(Cod.num id).toArray⟩)/\Z (aa [] W w')):=bZ (fun W=>dB W id (by omega));have H2:Z (∀w1,aa [] w w1->Calls Tryz.prog 104 #[ptr t,I id] w1 (ja w1 t cols l b F id)):=bZ (fun w1 k=>m8 w1 t cols l b F (h.keep k (by simp)) id (by omega) m trivial);have H3:Z (∀w1 w2,aa [] w w1->aa F w1 w2->Calls Tryz.prog 82 #[.slice A n c] w2 (mD w2 r n)):=bZ (fun w1 w2 k1 T=>pz w2 [] A r n c hl (((hO.keep k1 (by simp)).keep T (fun y hy=>.inl hy)).apart (by simp)) (by omega));have H:=bZ h.asc;have a9:=bZ h.ids;have cm:=bZ h.nx;have d4:¬id<1:=by omega
  have d5:¬(4611686018427387904:Int)<id:=by omega
  have dr:IntKind.i64.wrap (id+1)=id+1:=C0 _ (by omega);replace hl:=bZ hl;replace u:=bZ u;replace a6:=bZ a6;replace m:=bZ m;replace a7:=bZ a7;clear h hO b6;unfold ptr at H1 H2 ⊢;go_enter Tryz.func96,Tryz.ntmps96;go_wp2_with (first
   | (refine H1.o.mono ?_;rintro e w1 ⟨rfl,P⟩)
   | (refine(H2.o w1 P.o).mono ?_;rintro e w2 ⟨dA,dn,dc,db,F2,rfl,bl,a0,b0⟩)
   | (refine(H3.o w1 w2 P.o a0.o).mono ?_;rintro e w3 ⟨A3,c3,rfl,b3,c1,L⟩;obtain⟨bt,xA,xn,xc,rs,F1,xs,Y,hB,hT,hX,R,hI,hN,hR,E⟩:=bl.o.out_;have x1:=(hB.keep L.o (by simp)).cell 1;have H4:=bZ (tR.1 w3 bt _ F1 _ id A3 n c3 (hT.keep L.o (by simp)) p9);unfold ptr at x1 H4;replace hB:=bZ hB;replace hT:=bZ hT;replace hX:=bZ hX;replace R:=bZ R;replace hI:=bZ hI;replace hN:=bZ hN;replace hR:=bZ hR;replace E:=bZ E)
   | (refine H4.o.mono ?_;rintro e X ⟨old,fd,cs,ar,rfl,M,b2,C,cl,bh⟩;have z:Z (aa F1 w2 X):=bZ (L.o.nil.trans b2.o);have x3:=(hB.o.keep z.o (nd4.1 hN.o).1.2.1).cell 3))
  have dq:xn<=9223372036854775807:=by
   obtain⟨A9,c9,he,h8,h9⟩:=aH hX.o;injection he with _ _ he;subst he;unfold maxLen at h9;omega
  have b5:Z (∀g∈fb A3,w2.heap.size<=g/\g<w3.heap.size):=bZ (fun g O=>⟨by
   cases A3 with
   | none=>cases O
   | some a=>exact(by have:=c1.o a rfl;simp[fb] at O;omega),(b3.o.lt a6.o g O).1⟩)
  have D:Z (∀g∈fb A3,g∉F1/\g∉Y.flatten/\g∉ar/\g∉fb xA/\g≠t):=bZ (fun g O=>by
   have h1:=b5.o g O;refine⟨fun d=>?_,fun d=>?_,fun d=>?_,fun d=>?_,fun d=>?_⟩
   ·have:=hT.o.lt g d;omega
   ·have:=kK hI.o g d;omega
   ·rcases C.o g d with h | h
    ·have:=hT.o.lt g h;omega
    omega
   ·have:=(aw hX.o d).2.1;omega
   have:=hB.o.lt;omega)
  have b4:Z (ah X [] A3 r):=bZ (b3.o.part b2.o (fun g O=>(D.o g O).1));have c4:Z (∀w5 w6,eD X w5 xs Y->w6=w5.setCell (U t 2) (I (max b (id+1)))->∃F',ci w6 t cols (fu id r l) (max b (id+1)) F'/\aa F w w6/\∀x∈F',x∈F\/w.heap.size<=x):=bZ (by
   rintro w5 w6 f rfl;have n4:=nd4.1 hN.o;have b1:=kU (id:=id) H.o;have ha:=mt hR.o b1;obtain⟨s1,s2⟩:=bh.o trivial ha;rw[j9 hR.o,yQ] at s2;subst s2;have h0:ei X (t::(fb xA++(ar++Y.flatten))) cols ⟨id,A3,n,c3⟩ (id,r):=⟨rfl,hl.o.symm,b4.o.apart (fun g O d=>by
    obtain⟨a1,a2,a3,a4,a5⟩:=D.o g O;simp only[Db,CX] at d;rcases d with h | h | h | h
    ·exact a5 h
    ·exact a4 h
    ·exact a3 h
    exact a2 h),a7.o,u.o⟩
   have c8:=ft (X':=t::(fb xA++(ar++Y.flatten))) hc.1 z.o hR.o (fun y hy d=>(jO hc.1 hR.o y d).2 (by simp[hy])) (fun x B=>by
    simp only[Db,CX] at B ⊢;rcases B with h | h | h | h
    ·exact .inl (.inl h)
    ·exact .inl (.inr (.inl h))
    ·rcases C.o x h with h | h
     ·exact .inl (.inr (.inr (.inl h)))
     have:=L.o.size;exact .inr (by omega)
    exact .inl (.inr (.inr (.inr h))))
   obtain⟨rs',r1,r2,r3⟩:=ui h0 c8;rw[r1] at s1;subst s1;have bn:=M.o;have co:(fu id r l).length=(bS id l).length+1:=kG (fun x B=>(eB.1 B).2);have d0:=vb (id:=id) H.o;have d3:=m.o;rw[if_neg (by simp),show wrap64 (((bS id l).length:Nat)+1)=((fu id r l).length:Nat) by rw[co];unfold wrap64;omega] at bn;have T:=f;obtain⟨_,_,_,_,T⟩:=T;have c7:=((hB.o.keep z.o n4.1.2.1).keep T n4.1.2.2).set_ 2 (I (max b (id+1)));obtain⟨F',t1,t2,t3⟩:=qL (rs':=rs') (next':=max b (id+1)) hB.o hX.o R.o hI.o hN.o z.o bn (fun x B=>by
    rcases C.o x B with h | h
    ·exact .inl h
    ·have:=L.o.size;exact .inr (by omega)) r2 (fun x B=>by
    obtain⟨q,hq,d⟩:=Ea.1 B;rcases r3 q hq with h | h
    ·exact .inl (Ea.2 ⟨q,h,d⟩)
    ·subst h;exact .inr (b5.o x d).1) f ((aa.refl [t] w5).setCell (.inl (by simp)) _) c7 hc (rd H.o) (fun x B=>by
    rcases kF B with h | h
    ·have:=a9.o x (eB.1 h).1;omega
    subst h;dsimp only;omega) (by have:=cm.o;omega)
   rw[<-E.o] at t2 t3;have d7:=P.o.size;have da:=a0.o.size;refine⟨F',t1,(P.o.nil.trans a0.o).more t2 (fun x B=>?_),fun x B=>?_⟩
   ·rcases b0.o x B with h | h
    ·exact .inl h
    exact .inr (by omega)
   rcases t3 x B with h | h
   ·rcases b0.o x h with h | h
    ·exact .inl h
    exact .inr (by omega)
   exact .inr (by omega))
  have n4:=nd4.1 hN.o;have ac:Z (eD X X xs Y):=bZ (eD.start (dh z.o hI.o (fun y hy d=>n4.2.2.2.2.2.2 y hy d)) n4.2.2.2.1);have an:Z (∀W,eD X W xs Y->W.ownsRow 0 225 2 (.slice xA xn xc) xn (cZ xs)):=bZ (fun W f=>by
   obtain⟨_,_,_,_,T⟩:=f;exact aq (aq hX.o z.o (fun y hy d=>n4.2.2.2.2.1 y d hy)) T (fun y hy d=>n4.2.2.2.2.2.1 y d hy))
  have ap:Z (∀W,eD X W xs Y->ah W [] A3 r):=bZ (fun W f=>by
   obtain⟨_,_,_,_,T⟩:=f;exact b4.o.part T (fun g O=>(D.o g O).2.1))
  have N:Z (∀W,eD X W xs Y->Blk W t 175 #[I cols,ptr bt,I b,.slice xA xn xc]):=bZ (fun W f=>by
   obtain⟨_,_,_,_,T⟩:=f;exact(hB.o.keep z.o n4.1.2.1).keep T n4.1.2.2)
  clear n4 H1 H2 H3 H4 b3 c1 L hB hT hX hI hN hR E M b2 C cl bh z b5 D b4 bl a0 b0 P H a9 a6 m a7;go_loopw [38] (fun b8 wr=>∃j:Nat,j<=xn/\b8=I (j:Int)/\Z (eD X wr xs Y)) (fun b8 _=>xn - (intOf b8).toNat)
  case atStart=>exact⟨0,C3 _,rfl,ac⟩
  obtain⟨j,hj,rfl,f⟩:=hrel;by_cases ck:j<xn
  ·have d2:(j:Int)<(xn:Int):=by omega
   have wj:IntKind.i64.wrap ((j:Int)+1)=(j:Int)+1:=C0 _ (by omega);obtain⟨p,hp⟩:∃p,xs[j]? =some p:=⟨_,CT (by rw[R.o];exact ck)⟩;obtain⟨gx,ch,c0⟩:=km (an.o _ f.o) R.o (by omega);subst ch;have bs:=c0 j p hp;clear c0;obtain⟨cA,cn,cc,c6,bi,es,Fi,n1,rfl,g1,g2,g3,g4,g5,a8⟩:=f.o.at hp;unfold ptr at bs;obtain⟨cb,cd⟩:=bs;have Q:=ap.o _ f.o;replace a8:=bZ a8;have bb:=bZ g5;have bk:=bZ g4;have ak:Z (∀W,aa [] wr W->Calls Tryz.prog 127 #[.slice A3 n c3,.slice cA cn cc] W fun e w'=>(∃s:ByteArray,e=.returned (.string s)/\s.size<=1000000)/\Z (aa [] W w')):=bZ (fun W k=>uw W A3 r n c3 hl.o (Q.keep k (by simp)) (by omega) u.o cA c6 cn cc g1 (g3.keep k) g2);obtain⟨w3,b7⟩:∃x,x=wr:=⟨_,rfl⟩;have c2:Z (aa [] w3 (wr.alloc (.cells #[.slice cA cn cc,.pointer (V bi)] 225))):=bZ (by rw[b7];exact(aa.refl [] wr).alloc _);have B9:=bZ (Blk.new wr 225 #[.slice cA cn cc,.pointer (V bi)]);rw[<-b7] at bk a8 ak;clear g1 g2 g3 g4 g5 Q f hp;go_wp2_with fail;obtain⟨b9,bp⟩:∃x,x=wr.heap.size:=⟨_,rfl⟩;rw[<-bp] at B9 ⊢;generalize wr.alloc (.cells #[.slice cA cn cc,.pointer (V bi)] 225)=wr9 at*;clear bp b7 cb cd;clear wr;obtain⟨wr,cq⟩:∃x,x=wr9:=⟨_,rfl⟩;subst cq;have z0:=B9.o.cell 0;have z1:=B9.o.cell 1;clear B9;refine ad (S:=(fun w':World=>w'.cell? (U b9 0)=G cA cn cc/\w'.cell? (U b9 1)=some (.pointer (V bi)))) (n:=10) (by kernel_rfl) ?_;have HS:wr.drew.cell? (U b9 0)=G cA cn cc/\wr.drew.cell? (U b9 1)=some (.pointer (V bi)):=⟨z0,z1⟩;have i:Z (aa [] w3 wr.drew):=bZ c2.o.drew;clear c2 z0 z1;generalize wr.drew=wd at*;refine ord [0,1,2,3,4,6,9] ?_
   iterate 7 (refine tq HS ?_;try simp only[PT,Y1,Y2,Y3])
   refine av ?_;refine J1 5 fun K hK=>?_;dsimp only[Y1,Y2,Y3];go_simp;refine(ak.o _ i.o).mono ?_;rintro e wz ⟨⟨sk,rfl,dl⟩,kz⟩;have d6:¬9223372036854775807<sk.size+(Cod.num id).length:=by rw[Cod.ag];omega
   have HS:wz.cell? (U b9 0)=G cA cn cc/\wz.cell? (U b9 1)=some (.pointer (V bi)):=⟨kz.o.cellEq HS.1 (by simp),kz.o.cellEq HS.2 (by simp)⟩;replace i:=bZ (i.o.trans kz.o);refine hK _ _ (.inr HS) ?_;clear hK K kz;obtain⟨wd,cp⟩:∃x,x=wz:=⟨_,rfl⟩;subst cp
   try simp only[PT,Y1,Y2,Y3]
   refine J1 7 fun K hK=>?_;dsimp only[Y1,Y2,Y3];go_simp;refine(c5.o _).mono ?_;rintro e wy ⟨rfl,kz⟩;have HS:wy.cell? (U b9 0)=G cA cn cc/\wy.cell? (U b9 1)=some (.pointer (V bi)):=⟨kz.o.cellEq HS.1 (by simp),kz.o.cellEq HS.2 (by simp)⟩;replace i:=bZ (i.o.trans kz.o);refine hK _ _ (.inr HS) ?_;clear hK K kz
   try simp only[PT,Y1,Y2,Y3]
   refine ord [8] ?_
   (refine tq HS ?_;try simp only[PT,Y1,Y2,Y3])
   refine av ?_;refine J1 10 fun K hK=>?_;dsimp only[Y1,Y2,Y3];go_simp;refine(tR.2 _ bi es Fi n1 _ id (bk.o.keep i.o (by simp)) bb.o).mono ?_;rintro e wx ⟨cr,cv,ct,F4,rfl,M,bd,C,ba,_⟩;have cj:Z (eD X wx xs Y):=bZ (a8.o _ _ _ _ _ i.o bd.o M.o C.o (fun x B=>(ba.o x B).elim (bb.o x) (fun h=>by rw[h];exact⟨⟨_,rfl⟩,⟨_,rfl⟩⟩)));refine hK _ _ (.inl (by omega)) ?_;clear hK K bd M C ba i
   try simp only[PT,Y1,Y2,Y3]
   refine JD ?_;go_wp2_with fail;go_roundw
   case rel=>exact⟨j+1,by omega,by go_num,cj⟩
   case measure=>simp[intOf];omega
  obtain rfl:j=xn:=by omega
  obtain⟨F',q1,q2,q3⟩:=c4.o wr _ f.o rfl;have J:Z (kZ w t cols l b F id r (.returned (I 0)) (wr.setCell (U t 2) (I (max b (id+1))))):=bZ ⟨F',rfl,bZ q1,bZ q2,bZ q3⟩;have z2:=(N.o wr f.o).cell 2;have zf:=(N.o wr f.o).frozen 2;clear q1 q2 q3 c4 f N ap an ac;by_cases d:b<id+1
  ·rw[show max b (id+1)=id+1 by omega] at J;go_wp2_with fail;go_ret;exact J.o
  rw[show max b (id+1)=b by omega] at J;go_wp2_with fail;go_ret;exact J.o
end Go.Proofs.YtmlmfpikncogpaaGreat
