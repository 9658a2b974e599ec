import Derived.Test.YtldmkbhgdbafhaaGreatL01
namespace Go.Proofs.YtldmkbhgdbafhaaGreat
open Go.RowKit
set_option linter.unusedSimpArgs false
set_option linter.unusedVariables false
set_option maxRecDepth 100000
set_option maxHeartbeats 64000000
section
def T.B:T->Nat
 | .c k=>k.natAbs
 | .p n kd v b of r=>n.natAbs*(if kd=0 then 2147483648 else if kd=1 then 16 else T.B of/b.toNat+1)+T.B r
def Pt.B (p:Pt):Nat:=if p.kd=0 then 2147483648 else if p.kd=1 then 16 else p.of.B/p.b.toNat+1
def Bl:List Pt->Nat
 | []=>0
 | p::l=>p.n.natAbs*p.B+Bl l
theorem T.B_eq:∀t:T,t.B=t.con.natAbs+Bl t.pts
 | .c k=>by simp[T.B,T.con,T.pts,Bl]
 | .p n kd v b of r=>by
   have:=T.B_eq r;simp only[T.B,T.con,T.pts,Bl,Pt.B];omega
def Sm (t:T):Prop:=t.con.natAbs<=1099511627776/\(∀p∈t.pts,p.n.natAbs<=1048576)/\t.B<=1152921504606846976
instance (t:T):Decidable (Sm t):=by unfold Sm;infer_instance
def T.ok:T->Prop
 | .c _=>True
 | .p n kd v b of r=>n≠0/\((kd=0\/kd=1)/\0<=v/\b=0/\of=.c 0\/kd=2/\v=0/\2<=b/\b<=1000/\0<of.pts.length/\T.ok of/\Sm of/\Srt of.pts)/\T.ok r
def Pt.ok (p:Pt):Prop:=(p.kd=0\/p.kd=1)/\0<=p.v/\p.b=0/\p.of=.c 0\/p.kd=2/\p.v=0/\2<=p.b/\p.b<=1000/\0<p.of.pts.length/\p.of.ok/\Sm p.of/\Srt p.of.pts
theorem T.ok_iff:∀ {t:T},t.ok↔∀p∈t.pts,p.n≠0/\p.ok
 | .c k=>by simp[T.ok,T.pts]
 | .p n kd v b of r=>by
   simp only[T.ok,T.pts,List.forall_mem_cons,T.ok_iff (t:=r),Pt.ok,and_assoc]
def Nm (t:T):Prop:=t.ok/\Sm t/\Srt t.pts
theorem Nm.c {k:Int} (h:k.natAbs<=1099511627776):Nm (.c k):=⟨trivial,⟨h,by simp[T.pts],by simp only[T.B];omega⟩,List.Pairwise.nil⟩
def T.wd:T->Nat
 | .c _=>0
 | .p _ _ _ _ of r=>max (max (T.wd of) (T.wd r)) (r.pts.length+1)
def wdL (l:List Pt) (N:Nat):Prop:=l.length<=N/\∀p∈l,p.of.wd<=N
theorem T.wd_iff:∀ {t:T} {N:Nat},t.wd<=N↔wdL t.pts N
 | .c k,N=>by simp[T.wd,T.pts,wdL]
 | .p n kd v b of r,N=>by
   have:=T.wd_iff (t:=r) (N:=N);simp only[wdL,T.pts,T.wd,Dj,List.forall_mem_cons,Nat.max_le] at*;constructor
   ·rintro⟨⟨a,d⟩,e⟩;exact⟨e,a,(this.1 d).2⟩
   rintro⟨e,a,d⟩;exact⟨⟨a,this.2 ⟨by omega,d⟩⟩,e⟩
def aQ (a b:T):T:=.mk (aJ a.pts b.pts) (a.con+b.con)
def dM (k:Int):List Pt->List Pt
 | []=>[]
 | p::l=>p.wn (p.n*k)::dM k l
def az (t:T) (k:Int):T:=if k=0 then .c 0 else .mk (dM k t.pts) (t.con*k)
def aZ (t:T) (b:Int):T:=if b=1 then t else if t.pts=[] then .c (t.con/b) else .mk [⟨1,2,0,b,t⟩] 0
theorem iL {a b:T} (d:a.ok) (e:b.ok):(aQ a b).ok:=by
 rw[T.ok_iff] at*;rw[aQ,T.mk_pts];exact fun p c=>⟨ge (fun p c=>(d p c).1) (fun p c=>(e p c).1) p c,kI (Q:=Pt.ok) (fun p n h=>h) (fun p c=>(d p c).2) (fun p c=>(e p c).2) p c⟩
theorem iK {a b:T} (c:Srt a.pts) (d:Srt b.pts):Srt (aQ a b).pts:=by rw[aQ,T.mk_pts];exact eK c d
theorem eC {k:Int}:∀ {l:List Pt} {p:Pt},p∈dM k l->∃q∈l,p=q.wn (q.n*k)
 | [],p,h=>by cases h
 | x::l,p,h=>by
   rcases Db.1 h with rfl | h
   ·exact⟨x,by simp,rfl⟩
   obtain⟨q,a,b⟩:=eC h;exact⟨q,by simp[a],b⟩
theorem nE {k:Int}:∀ {l:List Pt},Srt l->Srt (dM k l)
 | [],_=>List.Pairwise.nil
 | x::l,h=>by
   unfold Srt at h;rw[DJ] at h;refine DJ.2 ⟨fun z b=>?_,nE h.2⟩;obtain⟨q,a,rfl⟩:=eC b;exact h.1 q a
theorem dJ {k:Int}:∀l:List Pt,(dM k l).length=l.length
 | []=>rfl
 | x::l=>by simp[dM,dJ l]
theorem ig {k:Int}:∀ {l:List Pt} {i:Nat} {p:Pt},l[i]? =some p->(dM k l)[i]? =some (p.wn (p.n*k))
 | [],i,p,h=>by simp at h
 | x::l,0,p,h=>by simp at h;subst h;rfl
 | x::l,i+1,p,h=>by simpa [dM] using ig (l:=l) (i:=i) (p:=p) (by simpa using h)
theorem cg {t:T} {k:Int} (h:t.ok):(az t k).ok:=by
 unfold az
 split
 ·trivial
 rename_i hk;rw[T.ok_iff] at*;rw[T.mk_pts];intro p b;obtain⟨q,a,rfl⟩:=eC b;exact⟨Int.mul_ne_zero (h q a).1 hk,(h q a).2⟩
theorem bM {t:T} {k:Int} (h:Srt t.pts):Srt (az t k).pts:=by
 unfold az
 split
 ·exact List.Pairwise.nil
 rw[T.mk_pts];exact nE h
theorem j1 (a b:Int) (n:0<b):(a/b).natAbs<=a.natAbs/b.toNat+1:=by
 have f:=Int.ediv_mul_le a (b:=b) (by omega);have g:=Int.lt_ediv_add_one_mul_self a n;have j:a.natAbs/b.toNat*b.toNat<=a.natAbs:=Nat.div_mul_le_self _ _;have c:a.natAbs<(a.natAbs/b.toNat+1)*b.toNat:=by
  have:=Nat.lt_div_mul_add (a:=a.natAbs) (b:=b.toNat) (by omega);rw[Nat.add_mul,Nat.one_mul];exact this
 generalize a/b=q at f g ⊢;generalize a.natAbs/b.toNat=s at j c ⊢;obtain⟨m,rfl⟩:∃m:Nat,b=(m:Int):=⟨b.toNat,by omega⟩;simp only[EH] at j c;rcases Int.le_total 0 q with d | d
 ·obtain⟨k,rfl⟩:=Int.eq_ofNat_of_zero_le d;have h:k*m<=a.natAbs:=by
   have:((k*m:Nat):Int)<=a:=by push_cast;exact f
   omega
  have i:k*m<(s+1)*m:=Nat.lt_of_le_of_lt h c;have:=Nat.lt_of_mul_lt_mul_right i;simp;omega
 obtain⟨k,rfl⟩:∃k:Nat,q= -(k:Int):=⟨q.natAbs,by omega⟩;rcases DR (s+1) k with o | o
 ·exfalso;have h:(s+1)*m<=(k - 1)*m:=Nat.mul_le_mul_right m (by omega);have i:a< -(((k - 1)*m:Nat):Int):=by
   have e:((k - 1:Nat):Int)=(k:Int) - 1:=by omega
   have l: -(((k - 1)*m:Nat):Int)=(-(k:Int)+1)*m:=by
    rw[Int.natCast_mul,e,<-Int.neg_mul];congr 1;omega
   rw[l];exact g
  omega
 simp;omega
theorem Nm.div {t:T} {b:Int} (h:Nm t) (d:1<=b) (c:b<=1000):(aZ t b).ok/\Srt (aZ t b).pts:=by
 unfold aZ
 split
 ·exact⟨h.1,h.2.2⟩
 split
 ·exact⟨trivial,List.Pairwise.nil⟩
 rename_i hb a;refine⟨T.ok_iff.2 (fun p a=>?_),List.pairwise_singleton _ _⟩;simp[T.mk,T.pts] at a;subst a;exact⟨by simp,.inr ⟨rfl,rfl,by show (2:Int)<=b;omega,c,E5.2 ‹_›,h.1,h.2.1,h.2.2⟩⟩
def T.val (fi ft:Int->Int):T->Int
 | .c k=>k
 | .p n kd v b of r=>n*(if kd=0 then fi v else if kd=1 then ft v else T.val fi ft of/b)+T.val fi ft r
def Pt.val (fi ft:Int->Int) (p:Pt):Int:=if p.kd=0 then fi p.v else if p.kd=1 then ft p.v else p.of.val fi ft/p.b
def vl (fi ft:Int->Int):List Pt->Int
 | []=>0
 | p::l=>p.n*p.val fi ft+vl fi ft l
section
variable {fi ft:Int->Int}
theorem T.val_eq:∀t:T,t.val fi ft=t.con+vl fi ft t.pts
 | .c k=>by simp[T.val,T.con,T.pts,vl]
 | .p n kd v b of r=>by
   have:=T.val_eq r;simp only[T.val,T.con,T.pts,vl,Pt.val];omega
theorem sq {p q:Pt} (h:kc p q=0):p.val fi ft=q.val fi ft:=by
 obtain⟨a,b,c,d⟩:=fb.1 h;unfold Pt.val;rw[a,b,c,d]
theorem gM:∀xs ys:List Pt,vl fi ft (aJ xs ys)=vl fi ft xs+vl fi ft ys
 | [],ys=>by simp[aJ,vl]
 | x::xs,[]=>by simp[aJ,vl]
 | x::xs,y::ys=>by
   rw[aJ]
   split
   ·simp only[vl,gM xs (y::ys)];omega
   split
   ·simp only[vl,gM (x::xs) ys];omega
   have c:kc x y=0:=by omega
   have b:x.val fi ft=y.val fi ft:=sq c;have a:=Int.add_mul x.n y.n (y.val fi ft)
   split
   ·rename_i hz;rw[gM xs ys];simp only[vl,b];rw[hz,Int.zero_mul] at a;omega
   show (x.n+y.n)*y.val fi ft+vl fi ft (aJ xs ys)=_;rw[gM xs ys,a];simp only[vl,b];omega
termination_by xs ys=>xs.length+ys.length
theorem fQ (a b:T):(aQ a b).val fi ft=a.val fi ft+b.val fi ft:=by
 rw[T.val_eq,T.val_eq a,T.val_eq b,aQ,T.mk_pts,T.mk_con,gM];omega
theorem pZ (k:Int):∀l:List Pt,vl fi ft (dM k l)=vl fi ft l*k
 | []=>by simp[dM,vl]
 | p::l=>by
   show p.n*k*p.val fi ft+vl fi ft (dM k l)=(p.n*p.val fi ft+vl fi ft l)*k;rw[pZ k l,Int.add_mul,Int.mul_right_comm]
theorem dH (t:T) (k:Int):(az t k).val fi ft=t.val fi ft*k:=by
 unfold az
 split
 ·rename_i h;subst h;simp[T.val]
 rw[T.val_eq,T.val_eq t,T.mk_pts,T.mk_con,pZ,Int.add_mul]
theorem t6 (t:T) (b:Int) (a:1<=b):(aZ t b).val fi ft=t.val fi ft/b:=by
 unfold aZ
 split
 ·rename_i h;subst h;simp
 split
 ·rename_i h;rw[T.val_eq t,h];simp[T.val,vl]
 simp[T.mk,T.val]
theorem T.val_bound (d:∀v,(fi v).natAbs<=2147483648) (e:∀v,(ft v).natAbs<=16):∀t:T,t.ok->(t.val fi ft).natAbs<=t.B
 | .c k,_=>C9 _
 | .p n kd v b of r,h=>by
   obtain⟨w,j,l⟩:=h;have u:=T.val_bound d e r l;have f:(if kd=0 then fi v else if kd=1 then ft v else T.val fi ft of/b).natAbs<=(if kd=0 then 2147483648 else if kd=1 then 16 else T.B of/b.toNat+1):=by
    rcases j with ⟨a,m,o,q⟩ | ⟨a,m,o,q,x,s,g,i⟩
    ·rcases a with rfl | rfl
     ·simpa using d v
     simpa using e v
    subst a;simp only[show (2:Int)≠0 by omega,show (2:Int)≠1 by omega,if_false];have:=T.val_bound d e of s;refine Dc (j1 _ b (by omega)) (Nat.add_le_add_right (Nat.div_le_div_right this) 1)
   simp only[T.val,T.B];refine Dc (Int.natAbs_add_le _ _) (Nat.add_le_add ?_ u);rw[Int.natAbs_mul];exact Nat.mul_le_mul_left _ f
end
end
structure Vl where
 k:Int
 n:Int
 s:ByteArray
deriving DecidableEq,Inhabited
inductive E where
 | z (op ix:Int) (v:Vl)
 | a (op ix:Int) (v:Vl) (x:E)
 | b (op ix:Int) (v:Vl) (x y:E)
 | many (op ix:Int) (v:Vl)
namespace E
def op:E->Int
 | .z o _ _=>o
 | .a o _ _ _=>o
 | .b o _ _ _ _=>o
 | .many o _ _=>o
def ix:E->Int
 | .z _ i _=>i
 | .a _ i _ _=>i
 | .b _ i _ _ _=>i
 | .many _ i _=>i
def lit:E->Vl
 | .z _ _ v=>v
 | .a _ _ v _=>v
 | .b _ _ v _ _=>v
 | .many _ _ v=>v
def args:E->List E
 | .z _ _ _=>[]
 | .a _ _ _ x=>[x]
 | .b _ _ _ x y=>[x,y]
 | .many _ _ _=>[]
def short:Nat->E->Bool
 | 0,_=>false
 | _+1,.z _ _ _=>true
 | d+1,.a _ _ _ x=>short d x
 | d+1,.b _ _ _ x y=>short d x && short d y
 | _+1,.many _ _ _=>false
def null:E->Bool
 | .z o _ v=>decide (o=1) && decide (v.k=0)
 | .a o _ v x=>decide (o=1) && decide (v.k=0) || null x
 | .b o _ v x y=>decide (o=1) && decide (v.k=0) || null x || null y
 | .many o _ v=>decide (o=1) && decide (v.k=0)
def size:E->Nat
 | .z _ _ _=>1
 | .a _ _ _ x=>size x+1
 | .b _ _ _ x y=>size x+size y+1
 | .many _ _ _=>1
theorem size_short:∀ {d:Nat} {e:E},short d e=true->size e<2^d
 | 0,e,h=>by cases e<;>cases h
 | d+1,.z ..,_=>by simp only[size,Nat.pow_succ];have:=Nat.one_le_two_pow (n:=d);omega
 | d+1,.a _ _ _ x,h=>by
   have:=size_short (d:=d) (e:=x) h;simp only[size,Nat.pow_succ];omega
 | d+1,.b _ _ _ x y,h=>by
   simp only[short,Bool.and_eq_true] at h;have c:=size_short h.1;have f:=size_short h.2;simp only[size,Nat.pow_succ];omega
 | d+1,.many ..,h=>by cases h
end E
structure Vb where
 ty:Int
 low:Int
 high:Int
 max:Int
 nl:Bool
deriving DecidableEq,Inhabited
def aK (l:List Vb) (v kd:Int):Bool:=decide (0<=v) && (match l[v.toNat]? with | some x=>decide (x.ty=kd) | none=>false)
def vOk (v:Vl):Bool:=if v.k=0 then decide (v.n=0) && decide (v.s.size=0) else if v.k=1 then decide (v.s.size=0) else if v.k=2 then decide (v.n=0) && (v.s.toList.all (fun b=>decide (32<=b.toNat) && decide (b.toNat<=126)) && decide (v.s.size<=16)) else false
def E.text (l:List Vb):E->Bool
 | .z o i v=>if o=2 then aK l i 2 else decide (o=1) && decide (v.k=2)
 | _=>false
def E.int (l:List Vb):E->Bool
 | .z o i v=>if o=1 then decide (v.k=1\/v.k=0) && vOk v else if o=2 then aK l i 1 else false
 | .a o _ _ x=>if o=9 then (match x with | .z p _ v=>x.text l && (decide (p=2) || vOk v) || decide (p=1) && decide (v.k=0/\v.n=0/\v.s.size=0) | _=>false) else if o=3 then E.int l x else false
 | .b o _ _ x y=>if 4<=o/\o<=8 then E.int l x && E.int l y else false
 | .many .. =>false
def al (t:T):T×Int:=if Sm t then (t,0) else (.c 0,3)
def eF (o:Int) (a b:T):T×Int:=
 if o=4 then al (aQ a b)
 else if o=5 then (if Sm (az b (-1)) then al (aQ a (az b (-1))) else (.c 0,3))
 else if o=6 then (if a.pts=[] then al (az b a.con) else if b.pts=[] then al (az a b.con) else (.c 0,7))
 else if b.pts=[]/\1<=b.con/\b.con<=1000 then
  (if Sm (aZ a b.con) then (if o=7 then (aZ a b.con,0) else if Sm (az (aZ a b.con) (-b.con)) then al (aQ a (az (aZ a b.con) (-b.con))) else (.c 0,3)) else (.c 0,3))
 else (.c 0,7)
def ofE:E->T×Int
 | .z o i v=>if o=1 then al (.c v.n) else (.p 1 0 i 0 (.c 0) (.c 0),0)
 | .a o _ _ x=>if o=9 then (if x.op=1 then (.c (x.lit.s.size:Int),0) else (.p 1 1 x.ix 0 (.c 0) (.c 0),0)) else (if (ofE x).2=0 then al (az (ofE x).1 (-1)) else (.c 0,(ofE x).2))
 | .b o _ _ x y=>if (ofE x).2=0 then (if (ofE y).2=0 then eF o (ofE x).1 (ofE y).1 else (.c 0,(ofE y).2)) else (.c 0,(ofE x).2)
 | .many .. =>(.c 0,6)
theorem bE {t u:T} (h:al t=(u,0)):u=t/\Sm t:=by
 unfold al at h
 split at h
 ·injection h with h1 h2;exact⟨h1.symm,‹_›⟩
 injection h with h1 h2;omega
theorem xM (i kd:Int) (h:kd=0\/kd=1):Sm (.p 1 kd i 0 (.c 0) (.c 0)):=by
 refine⟨by simp[T.con],by simp[T.pts],?_⟩;rcases h with rfl | rfl<;>simp[T.B]
theorem pw (i kd:Int) (h:kd=0\/kd=1) (a:0<=i):Nm (.p 1 kd i 0 (.c 0) (.c 0)):=
 ⟨⟨by omega,.inl ⟨h,a,rfl,rfl⟩,trivial⟩,xM i kd h,List.pairwise_singleton _ _⟩
theorem jm {t:T} {b:Int} (h:Nm t) (d:1<=b) (a:t.pts=[]):Sm (aZ t b):=by
 unfold aZ;rw[if_pos a]
 split
 ·exact h.2.1
 have e:=h.2.1.1;have f:=j1 t.con b (by omega);have g:t.con.natAbs/b.toNat<=t.con.natAbs/2:=Nat.div_le_div_left (by omega) (by omega);have:(t.con/b).natAbs<=1099511627776:=by omega
 exact(Nm.c this).2.1
theorem rh {o:Int} {a b t:T} (c:Nm a) (f:Nm b) (h:eF o a b=(t,0)):Nm t:=by
 have d:∀ {x y u:T},x.ok->Srt x.pts->y.ok->Srt y.pts->al (aQ x y)=(u,0)->Nm u:=fun l e q m g=>by
  obtain⟨rfl,i⟩:=bE g;exact⟨iL l q,i,iK e m⟩
 have j:∀ {x u:T} {k:Int},x.ok->Srt x.pts->al (az x k)=(u,0)->Nm u:=fun l e g=>by
  obtain⟨rfl,i⟩:=bE g;exact⟨cg l,i,bM e⟩
 unfold eF at h
 split at h
 ·exact d c.1 c.2.2 f.1 f.2.2 h
 split at h
 ·split at h
  ·exact d c.1 c.2.2 (cg f.1) (bM f.2.2) h
  simp at h
 split at h
 ·split at h
  ·exact j f.1 f.2.2 h
  split at h
  ·exact j c.1 c.2.2 h
  simp at h
 split at h
 ·rename_i g;obtain⟨n,p⟩:=c.div g.2.1 g.2.2
  split at h
  ·rename_i i
   split at h
   ·injection h with h _;subst h;exact⟨n,i,p⟩
   split at h
   ·exact d c.1 c.2.2 (cg n) (bM p) h
   simp at h
  simp at h
 simp at h
theorem eP (l:List Vb):∀ {e:E} {t:T},e.int l=true->e.null=false->ofE e=(t,0)->Nm t
 | .z o i v,t,d,hn,h=>by
   unfold ofE at h
   split at h
   ·obtain⟨rfl,m⟩:=bE h;exact Nm.c m.1
   injection h with h _;subst h;unfold E.int at d;rw[if_neg ‹_›] at d
   split at d
   ·unfold aK at d;simp only[Bool.and_eq_true,decide_eq_true_eq] at d;exact pw i 0 (.inl rfl) d.1
   cases d
 | .a o i v x,t,d,hn,h=>by
   unfold ofE at h;unfold E.int at d
   split at h
   ·rw[if_pos ‹_›] at d;cases x with
    | z p j u=>
     replace h:(if p=1 then ((T.c (u.s.size:Int),0):T×Int) else (T.p 1 1 j 0 (.c 0) (.c 0),0))=(t,0):=h;have n:(E.z p j u).text l=true/\(decide (p=2) || vOk u)=true:=by
      simp only[E.null,Bool.or_eq_false_iff] at hn;simp only[Bool.or_eq_true,Bool.and_eq_true,decide_eq_true_eq] at d ⊢;rcases d with d | ⟨r,w,_⟩
      ·exact d
      have:=hn.2;simp[r,w] at this
     by_cases g:p=1
     ·rw[if_pos g] at h;subst g;injection h with h _;subst h;refine Nm.c ?_;have:=n.2;have f:=n.1;simp[E.text] at f;simp[vOk,f] at this;show (u.s.size:Int).natAbs<=_;omega
     rw[if_neg g] at h;injection h with h _;subst h;have f:(if p=2 then aK l j 2 else decide (p=1) && decide (u.k=2))=true:=n.1
     split at f
     ·unfold aK at f;simp only[Bool.and_eq_true,decide_eq_true_eq] at f;exact pw j 1 (.inr rfl) f.1
     simp only[Bool.and_eq_true,decide_eq_true_eq] at f;exact absurd f.1 ‹_›
    | a _ _ _ _=>cases d
    | b _ _ _ _ _=>cases d
    | many _ _ _=>cases d
   rw[if_neg ‹_›] at d
   split at d
   ·split at h
    ·have q:=eP l (e:=x) (t:=(ofE x).1) d (by simp only[E.null,Bool.or_eq_false_iff] at hn;exact hn.2) (by rw[<- ‹(ofE x).2=0›]);obtain⟨rfl,m⟩:=bE h;exact⟨cg q.1,m,bM q.2.2⟩
    injection h with _ h;exact absurd h ‹_›
   cases d
 | .b o i v x y,t,d,hn,h=>by
   unfold ofE at h;unfold E.int at d;simp only[E.null,Bool.or_eq_false_iff] at hn
   split at d
   ·simp only[Bool.and_eq_true] at d
    split at h
    ·split at h
     ·exact rh (eP l d.1 hn.1.2 (by rw[<- ‹(ofE x).2=0›])) (eP l d.2 hn.2 (by rw[<- ‹(ofE y).2=0›])) h
     injection h with _ h;exact absurd h ‹_›
    injection h with _ h;exact absurd h ‹_›
   cases d
 | .many ..,t,d,hn,h=>by cases d
theorem eY {a b:T} {N:Nat} (e:a.wd<=N) (f:b.wd<=N) (h:a.pts.length+b.pts.length<=N):(aQ a b).wd<=N:=by
 rw[T.wd_iff] at*;rw[aQ,T.mk_pts];refine⟨Dc (fR _ _) h,fun p g=>?_⟩;rcases dj g with ⟨q,c,d⟩ | ⟨q,c,d⟩
 ·rw[<-(fb.1 d).2.2.2];exact e.2 q c
 rw[<-(fb.1 d).2.2.2];exact f.2 q c
theorem ce {t:T} {k:Int} {N:Nat} (h:t.wd<=N):(az t k).wd<=N:=by
 unfold az
 split
 ·simp[T.wd]
 rw[T.wd_iff] at*;rw[T.mk_pts];refine⟨by rw[dJ];exact h.1,fun p b=>?_⟩;obtain⟨q,a,rfl⟩:=eC b;exact h.2 q a
theorem ie (t:T) (k:Int):(az t k).pts.length<=t.pts.length:=by
 unfold az
 split
 ·simp[T.pts]
 rw[T.mk_pts,dJ];exact C9 _
theorem iB {t:T} {b:Int} {N:Nat} (h:t.wd<=N) (a:1<=N):(aZ t b).wd<=N:=by
 unfold aZ
 split
 ·exact h
 split
 ·simp[T.wd]
 simp only[T.mk,T.wd,T.pts,D6,Nat.max_le];omega
theorem nY (t:T) (b:Int):(aZ t b).pts.length<=t.pts.length:=by
 unfold aZ
 split
 ·exact C9 _
 split
 ·simp[T.pts]
 rename_i h;rw[T.mk_pts];have:=E5.2 h;show 1<=t.pts.length;omega
theorem aA {t:T} {N:Nat} (h:t.wd<=N):t.pts.length<=N:=(T.wd_iff.1 h).1
theorem jZ:∀ {d:Nat} {e:E},e.short d=true->(ofE e).1.wd<=2^d/\(ofE e).1.pts.length<=2^d
 | 0,e,h=>by cases e<;>cases h
 | d+1,.z o i v,_=>by
   have g:=Nat.one_le_two_pow (n:=d+1);unfold ofE al
   split
   ·split<;>simp[T.wd,T.pts]
   simp[T.wd,T.pts];exact g
 | d+1,.a o i v x,h=>by
   obtain⟨j,m⟩:=jZ (d:=d) (e:=x) h;have g:=Nat.one_le_two_pow (n:=d);have t:(az (ofE x).1 (-1)).wd<=2^d*2:=Dc (ce j) (by omega);have u:(az (ofE x).1 (-1)).pts.length<=2^d*2:=Dc (ie _ _) (by omega);unfold ofE al;rw[Nat.pow_succ]
   split
   ·split<;>simp[T.wd,T.pts]<;>omega
   split
   ·split
    ·exact⟨t,u⟩
    simp[T.wd,T.pts]
   simp[T.wd,T.pts]
 | d+1,.b o i v x y,h=>by
   simp only[E.short,Bool.and_eq_true] at h;obtain⟨j,m⟩:=jZ (d:=d) (e:=x) h.1;obtain⟨p,q⟩:=jZ (d:=d) (e:=y) h.2;have g:=Nat.one_le_two_pow (n:=d);unfold ofE;rw[Nat.pow_succ];generalize (ofE x).1=a at*;generalize (ofE y).1=b at*;have z:(T.c 0).wd<=2^d*2/\(T.c 0).pts.length<=2^d*2:=by simp[T.wd,T.pts]
   have f:∀c:T,c.wd<=2^d->c.pts.length<=2^d->(al (aQ a c)).1.wd<=2^d*2/\(al (aQ a c)).1.pts.length<=2^d*2:=fun c r s=>by
    unfold al
    split
    ·refine⟨eY (by omega) (by omega) (by omega),?_⟩;show (aQ a c).pts.length<=_;rw[aQ,T.mk_pts];have:=fR a.pts c.pts;omega
    exact z
   have l:∀(c:T) (k:Int),c.wd<=2^d->c.pts.length<=2^d->(al (az c k)).1.wd<=2^d*2/\(al (az c k)).1.pts.length<=2^d*2:=fun c k r s=>by
    unfold al
    split
    ·exact⟨Dc (ce r) (by omega),Dc (ie _ _) (by omega)⟩
    exact z
   split
   ·split
    ·unfold eF
     split
     ·exact f b p q
     split
     ·split
      ·exact f _ (ce p) (Dc (ie _ _) q)
      exact z
     split
     ·split
      ·exact l _ _ p q
      split
      ·exact l _ _ j m
      exact z
     split
     ·split
      ·split
       ·exact⟨Dc (iB j g) (by omega),Dc (nY _ _) (by omega)⟩
       split
       ·exact f _ (ce (iB j g)) (Dc (ie _ _) (Dc (nY _ _) m))
       exact z
      exact z
     exact z
    exact z
   exact z
 | d+1,.many ..,h=>by cases h
section
def w64 (n:Int):Int:=(n+9223372036854775808)%18446744073709551616 - 9223372036854775808
theorem iN {n:Int} (h: -9223372036854775808<=n/\n<9223372036854775808):w64 n=n:=by unfold w64;omega
def em:Vl:=⟨0,0,ByteArray.empty⟩
def fG (n:Int):Vl:=⟨1,n,ByteArray.empty⟩
def fj (v:Vl) (x:Vb):Bool:=vOk v && (if v.k=0 then x.nl else if v.k=1 then decide (x.ty=1) && decide (x.low<=v.n) && decide (v.n<=x.high) else decide (x.ty=2) && decide ((v.s.size:Int)<=x.max))
def bU:List Vl->List Vb->Bool
 | [],[]=>true
 | v::r,x::l=>fj v x && bU r l
 | _,_=>false
def mw (x:Vb):Bool:=!(decide (x.ty=1) && (decide (x.low< -2147483648) || decide (2147483647<x.high)) || decide (x.ty=2) && decide (16<x.max) || (!decide (x.ty=1) && !decide (x.ty=2)))
def kP (l:List Vb):Bool:=l.all mw && decide (l.length<=10)
theorem dZ:∀ {r:List Vl} {l:List Vb},bU r l=true->r.length=l.length
 | [],[],_=>rfl
 | v::r,x::l,h=>by simp only[bU,Bool.and_eq_true] at h;simp[dZ h.2]
 | [],x::l,h=>by cases h
 | v::r,[],h=>by cases h
theorem d7:∀ {r:List Vl} {l:List Vb} {i:Nat} {v:Vl},bU r l=true->r[i]? =some v->∃x,l[i]? =some x/\fj v x=true
 | [],[],i,v,_,h=>by simp at h
 | u::r,x::l,0,v,h,hv=>by
   simp only[bU,Bool.and_eq_true] at h;simp at hv;subst hv;exact⟨x,rfl,h.1⟩
 | u::r,x::l,i+1,v,h,hv=>by
   simp only[bU,Bool.and_eq_true] at h;obtain⟨y,a,b⟩:=d7 (i:=i) (v:=v) h.2 (by simpa using hv);exact⟨y,by simpa using a,b⟩
 | [],x::l,i,v,h,_=>by cases h
 | u::r,[],i,v,h,_=>by cases h
def evE (r:List Vl):E->Vl
 | .z o i v=>if o=1 then v else (r[i.toNat]?).getD em
 | .a o _ _ x=>if (evE r x).k=0 then em else if o=3 then fG (w64 (-(evE r x).n)) else fG ((evE r x).s.size:Int)
 | .b o _ _ x y=>if (evE r x).k=0 then em else if (evE r y).k=0 then em else
     if o=4 then fG (w64 ((evE r x).n+(evE r y).n)) else if o=5 then fG (w64 ((evE r x).n - (evE r y).n)) else if o=6 then fG (w64 ((evE r x).n*(evE r y).n))
     else if o=7 then fG ((evE r x).n/(evE r y).n) else fG (w64 ((evE r x).n - w64 ((evE r y).n*((evE r x).n/(evE r y).n))))
 | .many .. =>em
def dvE (r:List Vl):E->Prop
 | .z o i v=>o=1\/o=2/\0<=i/\i.toNat<r.length
 | .a o _ _ x=>(o=3\/o=9)/\dvE r x
 | .b o _ _ x y=>(4<=o/\o<=8)/\dvE r x/\dvE r y/\((o=7\/o=8)->(evE r y).k≠0->0<(evE r y).n)
 | .many .. =>False
def nnE (r:List Vl):E->Bool
 | .z o i v=>decide (o=1) || decide (((r[i.toNat]?).getD em).k≠0)
 | .a _ _ _ x=>nnE r x
 | .b _ _ _ x y=>nnE r x && nnE r y
 | .many .. =>true
def fiR (r:List Vl) (v:Int):Int:=((r[v.toNat]?).getD em).n
def ftR (r:List Vl) (v:Int):Int:=(((r[v.toNat]?).getD em).s.size:Int)
section
variable {r:List Vl} {l:List Vb}
theorem xX {v:Vl} {x:Vb} (h:fj v x=true) (d:mw x=true):v.n.natAbs<=2147483648/\v.s.size<=16:=by
 unfold fj vOk at h;unfold mw at d;simp only[Bool.and_eq_true] at h;obtain⟨a,b⟩:=h;by_cases c:v.k=0
 ·simp only[c,if_true,Bool.and_eq_true,decide_eq_true_eq] at a;omega
 by_cases e:v.k=1
 ·rw[if_neg c,if_pos e] at a b;simp only[Bool.and_eq_true,decide_eq_true_eq] at a b;simp[b.1.1] at d;omega
 rw[if_neg c,if_neg e] at a b;by_cases f:v.k=2
 ·rw[if_pos f] at a;simp only[Bool.and_eq_true,decide_eq_true_eq] at a;omega
 rw[if_neg f] at a;cases a
structure bD (r:List Vl) (l:List Vb):Prop where
 len:r.length=l.length
 at_:∀(i:Nat) (v:Vl) (x:Vb),r[i]? =some v->l[i]? =some x->vOk v=true/\(v.k=0\/v.k=x.ty)/\v.n.natAbs<=2147483648/\v.s.size<=16
theorem bD.of (e:kP l=true) (g:bU r l=true):bD r l:=by
 refine⟨dZ g,fun i v x m h=>?_⟩;obtain⟨y,c,a⟩:=d7 g m;rw[h] at c;injection c with c;subst c;have j:=xX a (by
  unfold kP at e;simp only[Bool.and_eq_true,List.all_eq_true] at e;exact e.1 x (CW h))
 unfold fj at a;simp only[Bool.and_eq_true] at a;refine⟨a.1,?_,j⟩;by_cases f:v.k=0
 ·exact .inl f
 right;obtain⟨b,d⟩:=a;rw[if_neg f] at d;unfold vOk at b;rw[if_neg f] at b
 split at d
 ·simp only[Bool.and_eq_true,decide_eq_true_eq] at d;omega
 rename_i k1;rw[if_neg k1] at b
 split at b
 ·simp only[Bool.and_eq_true,decide_eq_true_eq] at d;omega
 cases b
theorem gG (a:bD r l) (v:Int):(fiR r v).natAbs<=2147483648/\(ftR r v).natAbs<=16:=by
 unfold fiR ftR;cases h:r[v.toNat]? with
 | none=>exact⟨by decide,by decide⟩
 | some u=>
  have b:v.toNat<l.length:=by rw[<-a.len];exact(CV.1 h).1
  have:=(a.at_ _ u _ h (CT b)).2.2;simp only[Option.getD_some];omega
theorem cM {v kd:Int} (h:aK l v kd=true):0<=v/\∃x,l[v.toNat]? =some x/\x.ty=kd:=by
 unfold aK at h;simp only[Bool.and_eq_true,decide_eq_true_eq] at h;refine⟨h.1,?_⟩;cases a:l[v.toNat]? with
 | none=>rw[a] at h;simp at h
 | some x=>rw[a] at h;exact⟨x,rfl,by simpa using h.2⟩
theorem eh {v kd:Int} (c:bD r l) (h:aK l v kd=true):0<=v/\v.toNat<r.length/\∃u,r[v.toNat]? =some u/\vOk u=true/\(u.k=0\/u.k=kd):=by
 obtain⟨d,x,b,e⟩:=cM h;have a:v.toNat<r.length:=by rw[c.len];exact(CV.1 b).1
 have:=c.at_ _ _ _ (CT a) b;exact⟨d,a,r[v.toNat],CT a,this.1,by rw[<-e];exact this.2.1⟩
theorem iA (A:bD r l):∀ {e:E} {t:T},e.int l=true->e.null=false->ofE e=(t,0)->
 dvE r e/\(nnE r e=false->(evE r e).k=0)/\(nnE r e=true->(evE r e).k=1/\(evE r e).n=t.val (fiR r) (ftR r)/\(evE r e).s.size=0)
 | .z o i v,t,f,hn,h=>by
   unfold E.int at f;unfold ofE at h;unfold dvE nnE evE
   split at f
   ·rename_i w;rw[if_pos w] at h;obtain⟨rfl,_⟩:=bE h;simp only[Bool.and_eq_true,decide_eq_true_eq] at f;simp only[E.null,w,decide_true,Bool.true_and,decide_eq_false_iff_not] at hn;have O:v.k=1:=by omega
    have g:=f.2;simp[vOk,O] at g;simp[w,O,T.val,g]
   rename_i w
   split at f
   ·rename_i h2;rw[if_neg w] at h;injection h with h _;subst h;obtain⟨X,Y,u,D,a4,a5⟩:=eh A f;refine⟨.inr ⟨h2,X,Y⟩,?_,?_⟩
    ·simp[w,D]
    simp only[w,decide_false,Bool.false_or,D,Option.getD_some,decide_eq_true_eq,if_false];intro g;have O:u.k=1:=by omega
    simp[vOk,O] at a4;refine⟨O,by simp[T.val,fiR,D],by simp[a4]⟩
   cases f
 | .a o i v x,t,f,hn,h=>by
   unfold ofE at h;unfold E.int at f
   split at h
   ·rename_i ho;rw[if_pos ho] at f;cases x with
    | z p j u=>
     have S:(E.z p j u).text l=true/\(decide (p=2) || vOk u)=true:=by
      simp only[E.null,Bool.or_eq_false_iff] at hn;simp only[Bool.or_eq_true,Bool.and_eq_true,decide_eq_true_eq] at f ⊢;rcases f with f | ⟨w,h2,_⟩
      ·exact f
      have:=hn.2;simp[w,h2] at this
     replace h:(if p=1 then ((T.c (u.s.size:Int),0):T×Int) else (T.p 1 1 j 0 (.c 0) (.c 0),0))=(t,0):=h;have B:(if p=2 then aK l j 2 else decide (p=1) && decide (u.k=2))=true:=S.1;subst ho;simp only[dvE,nnE,evE,show (9:Int)≠3 by decide,if_false]
     split at B
     ·rename_i hp;have q:p≠1:=by omega
      rw[if_neg q] at h;injection h with h _;subst h;obtain⟨X,Y,u',D,a4,a5⟩:=eh A B;simp only[q,if_false,D,Option.getD_some,decide_false,Bool.false_or];refine⟨⟨by decide,.inr ⟨hp,X,Y⟩⟩,fun g=>?_,fun g=>?_⟩
      ·simp only[decide_eq_false_iff_not,Decidable.not_not] at g;simp[g,em]
      simp only[decide_eq_true_eq] at g;simp[g,fG,T.val,ftR,D]
     simp only[Bool.and_eq_true,decide_eq_true_eq] at B;have q:=B.1;rw[if_pos q] at h;injection h with h _;subst h;simp[q,B.2,fG,T.val]
    | a _ _ _ _=>cases f
    | b _ _ _ _ _=>cases f
    | many _ _ _=>cases f
   rename_i ho;rw[if_neg ho] at f
   split at f
   ·rename_i B
    split at h
    ·rename_i hx0;have M:x.null=false:=by simp only[E.null,Bool.or_eq_false_iff] at hn;exact hn.2
     have N:ofE x=((ofE x).1,0):=by rw[<-hx0]
     obtain⟨b1,b2,b3⟩:=iA A f M N;have L:=eP l f M N;obtain⟨rfl,hs⟩:=bE h;have hb:(az (ofE x).1 (-1)).val (fiR r) (ftR r)=(ofE x).1.val (fiR r) (ftR r)*(-1):=dH _ _;have hB:=T.val_bound (fi:=fiR r) (ft:=ftR r) (fun v=>(gG A v).1) (fun v=>(gG A v).2) (ofE x).1 L.1;have a9:=L.2.1.2.2;refine⟨⟨.inl B,b1⟩,fun g=>?_,fun g=>?_⟩
     ·simp only[evE,b2 g,if_true];rfl
     obtain⟨c1,c2,c3⟩:=b3 g;simp only[evE,c1,B,if_true,show (1:Int)≠0 by decide,if_false,fG,c2];refine⟨trivial,?_,rfl⟩;rw[iN (by omega),hb];omega
    injection h with _ h;exact absurd h ‹_›
   cases f
 | .b o i v x y,t,f,hn,h=>by
   unfold ofE at h;unfold E.int at f;simp only[E.null,Bool.or_eq_false_iff] at hn
   split at f
   ·rename_i ho;simp only[Bool.and_eq_true] at f
    split at h
    ·rename_i hx0
     split at h
     ·rename_i hy0;have N:ofE x=((ofE x).1,0):=by rw[<-hx0]
      have hy:ofE y=((ofE y).1,0):=by rw[<-hy0]
      obtain⟨b1,b2,b3⟩:=iA A f.1 hn.1.2 N;obtain⟨c1,c2,c3⟩:=iA A f.2 hn.2 hy;have nx:=eP l f.1 hn.1.2 N;have ny:=eP l f.2 hn.2 hy;have nt:=rh nx ny h;have R:∀u:T,Nm u->(u.val (fiR r) (ftR r)).natAbs<=1152921504606846976:=fun u S=>
       Dc (T.val_bound (fun v=>(gG A v).1) (fun v=>(gG A v).2) u S.1) S.2.1.2.2
      have d1:=R _ nx;have d2:=R _ ny;have d3:=R _ nt;generalize (ofE x).1=a at*;generalize (ofE y).1=b at*;have vb:b.pts=[]->b.val (fiR r) (ftR r)=b.con:=fun hb=>by rw[T.val_eq,hb];simp[vl]
      have a6:(o=7\/o=8->0<b.val (fiR r) (ftR r))/\(t.val (fiR r) (ftR r)=
       if o=4 then a.val (fiR r) (ftR r)+b.val (fiR r) (ftR r) else if o=5 then a.val (fiR r) (ftR r) - b.val (fiR r) (ftR r) else if o=6 then a.val (fiR r) (ftR r)*b.val (fiR r) (ftR r)
       else if o=7 then a.val (fiR r) (ftR r)/b.val (fiR r) (ftR r) else a.val (fiR r) (ftR r) - b.val (fiR r) (ftR r)*(a.val (fiR r) (ftR r)/b.val (fiR r) (ftR r)))/\
       (o=8->(b.val (fiR r) (ftR r)*(a.val (fiR r) (ftR r)/b.val (fiR r) (ftR r))).natAbs<=1152921504606846976):=by
       unfold eF at h
       by_cases F:o=4
       ·rw[if_pos F] at h ⊢;obtain⟨rfl,_⟩:=bE h;exact⟨by omega,by rw[fQ],by omega⟩
       rw[if_neg F] at h ⊢
       by_cases H:o=5
       ·rw[if_pos H] at h ⊢
        split at h
        ·obtain⟨rfl,_⟩:=bE h;exact⟨by omega,by rw[fQ,dH];omega,by omega⟩
        simp at h
       rw[if_neg H] at h ⊢
       by_cases J:o=6
       ·rw[if_pos J] at h ⊢
        split at h
        ·rename_i hp;obtain⟨rfl,_⟩:=bE h;refine⟨by omega,?_,by omega⟩;rw[dH,T.val_eq a,hp];simp only[vl,Int.add_zero];exact Int.mul_comm _ _
        split at h
        ·rename_i hp;obtain⟨rfl,_⟩:=bE h;exact⟨by omega,by rw[dH,vb hp],by omega⟩
        simp at h
       rw[if_neg J] at h ⊢
       split at h
       ·rename_i hc;obtain⟨e1,e2,e3⟩:=hc;have K:=vb e1;have dv:=t6 (fi:=fiR r) (ft:=ftR r) a b.con e2;obtain⟨q1,q2⟩:=nx.div e2 e3
        split at h
        ·rename_i hs;by_cases C:o=7
         ·rw[if_pos C] at h ⊢;injection h with h _;subst h;exact⟨fun _=>by omega,by rw[dv,K],by omega⟩
         rw[if_neg C] at h ⊢
         split at h
         ·rename_i hs2;obtain⟨rfl,_⟩:=bE h;have m:=R _ ⟨cg q1,hs2,bM q2⟩;rw[dH,dv] at m;rw[fQ,dH,dv,K];have e:a.val (fiR r) (ftR r)/b.con* -b.con= -(b.con*(a.val (fiR r) (ftR r)/b.con)):=by rw[Int.mul_neg,Int.mul_comm]
          rw[e] at m ⊢;exact⟨fun _=>by omega,by omega,fun _=>by omega⟩
         simp at h
        simp at h
       ·simp at h
      obtain⟨P,d,Q⟩:=a6;generalize a.val (fiR r) (ftR r)=av at*;generalize b.val (fiR r) (ftR r)=bv at*;generalize t.val (fiR r) (ftR r)=tv at*;refine⟨⟨ho,b1,c1,fun C g=>?_⟩,fun g=>?_,fun g=>?_⟩
      ·have a0:nnE r y=true:=by
        cases hh:nnE r y with
        | true=>rfl
        | false=>exact absurd (c2 hh) g
       rw[(c3 a0).2.1];exact P C
      ·simp only[evE];simp only[nnE,Bool.and_eq_false_iff] at g;rcases g with g | g
       ·rw[if_pos (b2 g)];rfl
       split
       ·rfl
       rw[if_pos (c2 g)];rfl
      simp only[nnE,Bool.and_eq_true] at g;obtain⟨f1,f2,f3⟩:=b3 g.1;obtain⟨g1,g2,g3⟩:=c3 g.2;simp only[evE,f1,g1,f2,g2,show (1:Int)≠0 by decide,if_false];have W: -9223372036854775808<=tv/\tv<9223372036854775808:=by omega
      split
      ·rename_i F;rw[if_pos F] at d;rw[<-d,iN W];exact⟨rfl,rfl,rfl⟩
      rename_i F;rw[if_neg F] at d
      split
      ·rename_i H;rw[if_pos H] at d;rw[<-d,iN W];exact⟨rfl,rfl,rfl⟩
      rename_i H;rw[if_neg H] at d
      split
      ·rename_i J;rw[if_pos J] at d;rw[<-d,iN W];exact⟨rfl,rfl,rfl⟩
      rename_i J;rw[if_neg J] at d
      split
      ·rename_i C;rw[if_pos C] at d;rw[<-d];exact⟨rfl,rfl,rfl⟩
      rename_i C;rw[if_neg C] at d;have:=Q (by omega);rw[iN (n:=bv*(av/bv)) (by omega),<-d,iN W];exact⟨rfl,rfl,rfl⟩
     injection h with _ h;exact absurd h ‹_›
    injection h with _ h;exact absurd h ‹_›
   cases f
 | .many ..,t,f,hn,h=>by cases f
end
end
end Go.Proofs.YtldmkbhgdbafhaaGreat
