import Derived.Test.YtldmkbhgdbafhaaGreatL04
namespace Go.Proofs.YtldmkbhgdbafhaaGreat
open Go.RowKit
set_option linter.unusedSimpArgs false
set_option linter.unusedVariables false
set_option maxRecDepth 100000
set_option maxHeartbeats 64000000
section
def nlb (l:List Vb) (v:Int):Bool:=match l[v.toNat]? with | some x=>x.nl | none=>true
mutual
def F.simp (l:List Vb):F->F
 | .at a=>if (a.kd=0\/a.kd=1)/\nlb l a.v=false then (if a.kd=0 then .nd 1 [] else .nd 0 []) else .at a
 | .nd kd fs=>.nd kd (F.simps l fs)
def F.simps (l:List Vb):List F->List F
 | []=>[]
 | f::fs=>F.simp l f::F.simps l fs
end
theorem F.simps_eq (l:List Vb):∀fs:List F,F.simps l fs=fs.map (F.simp l)
 | []=>by simp[F.simps]
 | f::fs=>by simp[F.simps,F.simps_eq l fs]
mutual
def F.sz:F->Nat
 | .at _=>1
 | .nd _ fs=>F.szs fs
def F.szs:List F->Nat
 | []=>0
 | f::fs=>F.sz f+F.szs fs
end
mutual
def F.wd:F->Nat
 | .at _=>0
 | .nd _ fs=>max fs.length (F.wds fs)
def F.wds:List F->Nat
 | []=>0
 | f::fs=>max (F.wd f) (F.wds fs)
end
theorem F.wds_mem {N:Nat}:∀ {fs:List F},F.wds fs<=N↔∀f∈fs,f.wd<=N
 | []=>by simp[F.wds]
 | f::fs=>by simp only[F.wds,Nat.max_le,F.wds_mem (fs:=fs),List.forall_mem_cons]
theorem qj (l:List Vb):∀f:F,(F.simp l f).sz<=f.sz/\(F.simp l f).wd<=f.wd:=by
 refine F.ind (fun a=>?_) (fun kd fs b=>?_)
 ·unfold F.simp
  split
  ·split<;>simp[F.sz,F.szs,F.wd,F.wds]
  exact⟨C9 _,C9 _⟩
 simp only[F.simp,F.simps_eq,F.sz,F.wd,Df];have:F.szs (fs.map (F.simp l))<=F.szs fs/\F.wds (fs.map (F.simp l))<=F.wds fs:=by
  induction fs with
  | nil=>simp
  | cons f fs ih2=>
   have d:=b f (by simp);have e:=ih2 (fun g c=>b g (by simp[c]));simp only[D1,F.szs,F.wds];omega
 omega
section
variable {r:List Vl} {l:List Vb}
theorem lZ:∀f:F,F.ok l f->F.ok l (F.simp l f):=by
 refine F.ind (fun a h=>?_) (fun kd fs d h=>?_)
 ·unfold F.simp
  split
  ·split<;>simp[F.ok,F.oks]
  exact h
 simp only[F.simp,F.simps_eq,F.ok,F.oks_iff] at h ⊢;refine⟨h.1,fun g c=>?_⟩;obtain⟨f,b,rfl⟩:=Dt.1 c;exact d f b (h.2 f b)
theorem oZ (m:∀(v:Nat) (x:Vb),l[v]? =some x->x.nl=false->((r[v]?).getD em).k≠0):∀f:F,F.holds r (F.simp l f)=F.holds r f:=by
 refine F.ind (fun a=>?_) (fun kd fs n=>?_)
 ·unfold F.simp
  split
  ·rename_i h;obtain⟨o,c⟩:=h;have j:(rv r a.v).k≠0:=by
    unfold nlb at c;cases i:l[a.v.toNat]? with
    | none=>rw[i] at c;cases c
    | some x=>rw[i] at c;exact m _ x i c
   split
   ·rename_i h0;simp[F.holds,F.any,Am.holds,h0,j]
   have d:a.kd=1:=by omega
   simp[F.holds,F.all,Am.holds,d,j]
  rfl
 simp only[F.simp,F.simps_eq,F.holds,F.all_eq,F.any_eq,List.all_map,List.any_map];have e:∀g∈fs,(F.holds r ∘F.simp l) g=F.holds r g:=fun g b=>n g b
 split
 ·rw[Bool.eq_iff_iff,Fo,Fo];exact⟨fun ⟨g,b,h⟩=>⟨g,b,by rw[<-e g b];exact h⟩,fun ⟨g,b,h⟩=>⟨g,b,by rw[e g b];exact h⟩⟩
 rw[Bool.eq_iff_iff,List.all_eq_true,List.all_eq_true];exact⟨fun h g b=>by rw[<-e g b];exact h g b,fun h g b=>by rw[e g b];exact h g b⟩
end
structure Lt where
 a:Am
 up:Bool
def cF (d c:List (List Lt)):List (List Lt):=d.flatMap (fun a=>c.map (fun b=>a++b))
mutual
def F.exp:F->List (List Lt)
 | .at a=>if a.kd=4 then [[⟨a,false⟩],[⟨a,true⟩]] else [[⟨a,false⟩]]
 | .nd kd fs=>if kd=1 then F.expS fs else F.expP fs [[]]
def F.expS:List F->List (List Lt)
 | []=>[]
 | f::fs=>F.exp f++F.expS fs
def F.expP:List F->List (List Lt)->List (List Lt)
 | [],out=>out
 | f::fs,out=>F.expP fs (cF out (F.exp f))
end
mutual
def F.cnt:F->Nat
 | .at a=>if a.kd=4 then 2 else 1
 | .nd kd fs=>if kd=1 then F.cntS fs 0 else F.cntP fs 1
def F.cntS:List F->Nat->Nat
 | [],s=>s
 | f::fs,s=>F.cntS fs (min (s+F.cnt f) 257)
def F.cntP:List F->Nat->Nat
 | [],p=>p
 | f::fs,p=>F.cntP fs (if 0<F.cnt f then min (p*F.cnt f) 257 else p*F.cnt f)
end
theorem ew (b c:List (List Lt)):(cF b c).length=b.length*c.length:=by
 unfold cF
 induction b with
 | nil=>simp
 | cons a b ih=>simp only[List.flatMap_cons,CU,Df,ih,Dj,Nat.add_mul];omega
theorem fJ:∀(fs:List F) (a:List (List Lt)),(F.expP fs a).length=a.length*(F.expP fs [[]]).length
 | [],a=>by simp[F.expP]
 | f::fs,a=>by
   simp only[F.expP];rw[fJ fs (cF a _),fJ fs (cF [[]] _),ew,ew];simp only[Dj,D6,Dl,Nat.one_mul,Nat.mul_assoc]
theorem vE (P N:Nat):(if 0<min N 257 then min (min P 257*min N 257) 257 else min P 257*min N 257)=min (P*N) 257:=by
 rcases DY N with h | h
 ·subst h;simp
 rw[if_pos (by omega)];rcases DR P 257 with e | e
 ·rcases DR N 257 with b | b
  ·rw[Es (by omega:P<=257),Es (by omega:N<=257)]
  rw[Es (by omega:P<=257),Nat.min_eq_right (by omega:257<=N)];rcases DY P with a | a
  ·subst a;simp
  have c:257<=P*257:=Nat.le_mul_of_pos_left _ a;have d:P*257<=P*N:=Nat.mul_le_mul_left _ b;omega
 rw[Nat.min_eq_right (by omega:257<=P)];have c:257<=257*min N 257:=Nat.le_mul_of_pos_right _ (by omega);have d:P<=P*N:=Nat.le_mul_of_pos_right _ h;omega
theorem kC:∀f:F,f.cnt=min f.exp.length 257:=by
 refine F.ind (fun a=>?_) (fun kd fs d=>?_)
 ·unfold F.cnt F.exp
  split<;>simp
 unfold F.cnt F.exp;have i:∀(b:List F),(∀g∈b,g.cnt=min g.exp.length 257)->∀s,F.cntS b (min s 257)=min (s+(F.expS b).length) 257:=by
  intro b
  induction b with
  | nil=>intro _ s;simp[F.cntS,F.expS]
  | cons g b ih2=>
   intro h s;simp only[F.cntS,F.expS,CU];rw[h g (by simp),show min (min s 257+min g.exp.length 257) 257=min (s+g.exp.length) 257 by omega,ih2 (fun x c=>h x (by simp[c]))];omega
 have e:∀(b:List F),(∀g∈b,g.cnt=min g.exp.length 257)->∀p,F.cntP b (min p 257)=min (p*(F.expP b [[]]).length) 257:=by
  intro b
  induction b with
  | nil=>intro _ p;simp[F.cntP,F.expP]
  | cons g b ih2=>
   intro h p;simp only[F.cntP,F.expP];rw[h g (by simp),vE,ih2 (fun x c=>h x (by simp[c])),fJ b (cF _ _),ew];simp[Nat.mul_assoc]
 split
 ·have:=i fs d 0;simpa using this
 have:=e fs d 1;simpa using this
def Lt.holds (r:List Vl) (x:Lt):Bool:=if x.a.kd=4 then x.a.t.nn r && (if x.up then decide (0<x.a.t.vr r) else decide (x.a.t.vr r<0)) else x.a.holds r
theorem rz (r:List Vl) (e d:List (List Lt)):(cF e d).any (fun c=>c.all (Lt.holds r))=(e.any (fun c=>c.all (Lt.holds r)) && d.any (fun c=>c.all (Lt.holds r))):=by
 rw[Bool.eq_iff_iff];unfold cF;simp only[Fo,Bool.and_eq_true,Ea,Dt];constructor
 ·rintro⟨c,⟨a,f,b,g,rfl⟩,h⟩;rw[List.all_append,Bool.and_eq_true] at h;exact⟨⟨a,f,h.1⟩,⟨b,g,h.2⟩⟩
 rintro⟨⟨a,f,i⟩,⟨b,g,j⟩⟩;exact⟨a++b,⟨a,f,b,g,rfl⟩,by rw[List.all_append,i,j];rfl⟩
theorem rR (r:List Vl):∀f:F,f.exp.any (fun c=>c.all (Lt.holds r))=F.holds r f:=by
 refine F.ind (fun a=>?_) (fun kd fs i=>?_)
 ·unfold F.exp F.holds
  split
  ·rename_i h4;simp[Lt.holds,Am.holds,h4];cases a.t.nn r
   ·simp
   simp only[Bool.true_and];rw[Bool.eq_iff_iff];simp;omega
  rename_i h4;simp[Lt.holds,h4]
 unfold F.exp F.holds;have k:∀(b:List F),(∀g∈b,g.exp.any (fun c=>c.all (Lt.holds r))=F.holds r g)->(F.expS b).any (fun c=>c.all (Lt.holds r))=F.any r b:=by
  intro b
  induction b with
  | nil=>intro _;simp[F.expS,F.any]
  | cons g b ih2=>intro h;simp only[F.expS,F.any,E8];rw[h g (by simp),ih2 (fun x e=>h x (by simp[e]))]
 have j:∀(b:List F),(∀g∈b,g.exp.any (fun c=>c.all (Lt.holds r))=F.holds r g)->∀d,(F.expP b d).any (fun c=>c.all (Lt.holds r))=(d.any (fun c=>c.all (Lt.holds r)) && F.all r b):=by
  intro b
  induction b with
  | nil=>intro _ d;simp[F.expP,F.all]
  | cons g b ih2=>intro h d;simp only[F.expP,F.all];rw[ih2 (fun x e=>h x (by simp[e])),rz,h g (by simp),Bool.and_assoc]
 split
 ·exact k fs i
 rw[j fs i];simp
mutual
def F.ats:F->List Am
 | .at a=>[a]
 | .nd _ fs=>F.atss fs
def F.atss:List F->List Am
 | []=>[]
 | f::fs=>F.ats f++F.atss fs
end
theorem iz:∀f:F,∀c∈f.exp,c.length<=f.sz/\∀x∈c,x.a∈f.ats:=by
 refine F.ind (fun a=>?_) (fun kd fs l=>?_)
 ·intro c d;unfold F.exp at d
  split at d
  ·simp at d;rcases d with rfl | rfl<;>simp[F.sz,F.ats]
  simp at d;subst d;simp[F.sz,F.ats]
 have p:∀(e:List F),(∀g∈e,∀c∈g.exp,c.length<=g.sz/\∀x∈c,x.a∈g.ats)->∀c∈F.expS e,c.length<=F.szs e/\∀x∈c,x.a∈F.atss e:=by
  intro e
  induction e with
  | nil=>intro _ c d;simp[F.expS] at d
  | cons g e ih2=>
   intro h c d;simp only[F.expS,CX] at d;simp only[F.szs,F.atss,CX];rcases d with d | d
   ·have:=h g (by simp) c d;exact⟨by omega,fun x i=>.inl (this.2 x i)⟩
   have:=ih2 (fun x i=>h x (by simp[i])) c d;exact⟨by omega,fun x i=>.inr (this.2 x i)⟩
 have o:∀(e:List F),(∀g∈e,∀c∈g.exp,c.length<=g.sz/\∀x∈c,x.a∈g.ats)->∀(j:List (List Lt)) (N:Nat) (A:List Am),(∀c∈j,c.length<=N/\∀x∈c,x.a∈A)->∀c∈F.expP e j,c.length<=N+F.szs e/\∀x∈c,x.a∈A++F.atss e:=by
  intro e
  induction e with
  | nil=>intro _ j N A k c d;simp only[F.expP] at d;simpa [F.szs,F.atss] using k c d
  | cons g e ih2=>
   intro h j N A k c d;simp only[F.expP] at d;have:=ih2 (fun x i=>h x (by simp[i])) (cF j g.exp) (N+g.sz) (A++g.ats) (fun c d=>by
    unfold cF at d;obtain⟨a,q,d⟩:=Ea.1 d;obtain⟨b,r,rfl⟩:=Dt.1 d;have m:=k a q;have n:=h g (by simp) b r;refine⟨by rw[CU];omega,fun x i=>?_⟩;rcases CX.1 i with i | i
    ·exact CX.2 (.inl (m.2 x i))
    exact CX.2 (.inr (n.2 x i))) c d
   simp only[F.szs,F.atss];refine⟨by omega,fun x i=>?_⟩;have:=this.2 x i;rwa [Dd] at this
 intro c d;unfold F.exp at d;simp only[F.sz,F.ats]
 split at d
 ·exact p fs l c d
 have:=o fs l [[]] 0 [] (by simp) c d;simpa using this
theorem pV {l:List Vb}:∀f:F,F.ok l f->∀a∈f.ats,a.ok l:=by
 refine F.ind (fun a h=>?_) (fun kd fs i h=>?_)
 ·intro b e;simp only[F.ats,CZ] at e;subst e;simpa [F.ok] using h
 simp only[F.ok,F.oks_iff] at h;simp only[F.ats];have:=h.2;clear h
 induction fs with
 | nil=>simp[F.atss]
 | cons g gs ih2=>
  intro a c;simp only[F.atss,CX] at c;rcases c with c | c
  ·exact i g (by simp) (this g (by simp)) a c
  exact ih2 (fun f d=>i f (by simp[d])) (fun f d=>this f (by simp[d])) a c
end
structure Lin where
 k:Int
 cs:List (Int×Int)
deriving DecidableEq,Inhabited
structure Ax where
 of:Lin
 b:Int
 x:Int
deriving DecidableEq,Inhabited
structure Cla where
 nul:List Int
 nn:List Int
 ax:List Ax
 is:List (Lin×Bool)
 ts:List Ts
 sm:List (Int×Int)
 df:List (Int×Int)
deriving Inhabited
def cl0:Cla:=⟨[],[],[],[],[],[],[]⟩
def bl:List (Int×Int)->Int->Int
 | [],_=>0
 | e::s,v=>(if e.1=v then e.2 else 0)+bl s v
def aO (s:List (Int×Int)):List (Int×Int):=((sc (s.map (·.1))).filter (fun v=>decide (bl s v≠0))).map (fun v=>(v,bl s v))
def cE (n:Nat) (xs:List Ax) (x:Ax):List Ax×Int:=(if x∈xs then xs else xs++[x],(n:Int)+(xs.idxOf x:Nat))
def frm (n:Nat):T->List Ax->List (Int×Int)->List Ax×List (Int×Int)
 | .c _,xs,s=>(xs,s)
 | .p m kd v b of r,xs,s=>
  if kd=1 then frm n r (cE n xs ⟨⟨0,[]⟩,0,v⟩).1 (s++[((cE n xs ⟨⟨0,[]⟩,0,v⟩).2,m)])
  else if kd=2 then frm n r (cE n (frm n of xs []).1 ⟨⟨of.con,aO (frm n of xs []).2⟩,b,0⟩).1 (s++[((cE n (frm n of xs []).1 ⟨⟨of.con,aO (frm n of xs []).2⟩,b,0⟩).2,m)])
  else frm n r xs (s++[(v,m)])
def bj (n:Nat) (t:T) (xs:List Ax):List Ax×Lin:=((frm n t xs []).1,⟨t.con,aO (frm n t xs []).2⟩)
def fh (f:Lin):Lin:=⟨-f.k,f.cs.map (fun c=>(c.1,-c.2))⟩
def eV (kd:Int) (up:Bool) (f:Lin):Lin×Bool:=if kd=3 then (f,true) else if kd=4 then (⟨(if up then fh f else f).k+1,(if up then fh f else f).cs⟩,false) else (f,false)
def aP (n:Nat) (c:Cla) (x:Lt):Cla:=
 if x.a.kd=0 then { c with nul:=c.nul++[x.a.v] }
 else if x.a.kd=2\/x.a.kd=3\/x.a.kd=4 then { c with nn:=c.nn++sc x.a.t.vars,ax:=(bj n x.a.t c.ax).1,is:=c.is++[eV x.a.kd x.up (bj n x.a.t c.ax).2] }
 else if x.a.kd=5 then { c with nn:=c.nn++[x.a.v],ts:=c.ts++[⟨x.a.v,x.a.te.kd,x.a.te.ng,x.a.te.s⟩] }
 else if x.a.kd=6 then { c with nn:=c.nn++[x.a.v]++[x.a.o],sm:=c.sm++[(x.a.v,x.a.o)] }
 else if x.a.kd=7 then { c with nn:=c.nn++[x.a.v]++[x.a.o],df:=c.df++[(x.a.v,x.a.o)] }
 else { c with nn:=c.nn++[x.a.v] }
def gh (n:Nat) (a:List Lt):Cla:=let c:=a.foldl (aP n) cl0;{ c with nul:=sc c.nul,nn:=sc c.nn }
def dot (g:Int->Int):List (Int×Int)->Int
 | []=>0
 | e::s=>e.2*g e.1+dot g s
def cI (g:Int->Nat):List (Int×Int)->Nat
 | []=>0
 | e::s=>e.2.natAbs*g e.1+cI g s
def gk (h:Int->Int):List Int->Int
 | []=>0
 | v::l=>h v+gk h l
theorem mR (h k:Int->Int):∀l:List Int,gk (fun v=>h v+k v) l=gk h l+gk k l
 | []=>rfl
 | v::l=>by simp only[gk,mR h k l];omega
theorem kX (u:Int) (h:Int->Int):∀l:List Int,Asc l->u∈l->gk (fun v=>if u=v then h v else 0) l=h u
 | v::l,ha,a=>by
   rw[Asc,DJ] at ha;have c:∀k:List Int,u∉k->gk (fun v=>if u=v then h v else 0) k=0:=by
    intro k
    induction k with
    | nil=>intro _;rfl
    | cons z k ih=>
     intro b;simp only[Db,not_or] at b;simp only[gk,if_neg b.1,ih b.2];rfl
   simp only[gk];rcases Db.1 a with rfl | a
   ·rw[if_pos rfl,c l (fun h=>by have:=ha.1 _ h;omega)];omega
   have:=ha.1 u a;rw[if_neg (by omega),kX u h l ha.2 a];omega
theorem qh (g:Int->Int) {vs:List Int} (b:Asc vs):∀s:List (Int×Int),(∀e∈s,e.1∈vs)->gk (fun v=>bl s v*g v) vs=dot g s
 | [],_=>by
   have:∀l:List Int,gk (fun v=>bl [] v*g v) l=0:=by
    intro l
    induction l with
    | nil=>rfl
    | cons v l a=>
     show bl [] v*g v+gk _ l=0;rw[a];simp[bl]
   exact this vs
 | e::s,hs=>by
   have a:=qh g b s (fun x d=>hs x (by simp[d]));have c:(fun v=>bl (e::s) v*g v)=fun v=>(if e.1=v then e.2*g v else 0)+bl s v*g v:=by
    funext v
    simp only[bl,Int.add_mul]
    congr 1
    split<;>simp
   rw[c,mR,a,kX e.1 (fun v=>e.2*g v) vs b (hs e (by simp))];rfl
theorem qV (g:Int->Int) (s:List (Int×Int)):∀vs:List Int,dot g ((vs.filter (fun v=>decide (bl s v≠0))).map (fun v=>(v,bl s v)))=gk (fun v=>bl s v*g v) vs
 | []=>rfl
 | v::vs=>by
   have a:=qV g s vs;by_cases h:bl s v=0
   ·rw[List.filter_cons_of_neg (by simpa using h),a];simp only[gk,h];omega
   rw[List.filter_cons_of_pos (by simpa using h),D1];simp only[dot,gk,a]
theorem rX (g:Int->Int) (s:List (Int×Int)):dot g (aO s)=dot g s:=by
 unfold aO;rw[qV,qh g (dn _) s (fun e a=>aG.2 (Dt.2 ⟨e,a,rfl⟩))]
def Dis (s:List (Int×Int)):Prop:=s.Pairwise (fun a b=>a.1≠b.1)
theorem lX:∀ {s:List (Int×Int)} {v m:Int},Dis s->(v,m)∈s->bl s v=m
 | e::s,v,m,hd,a=>by
   rw[Dis,DJ] at hd;have d:∀k:List (Int×Int),(∀x∈k,x.1≠v)->bl k v=0:=by
    intro k
    induction k with
    | nil=>intro _;rfl
    | cons z k ih=>intro c;simp only[bl];rw[if_neg (c z (by simp)),ih (fun x b=>c x (by simp[b]))];rfl
   simp only[bl];rcases Db.1 a with rfl | a
   ·rw[if_pos rfl,d s (fun x b h=>hd.1 x b h.symm)];omega
   rw[if_neg (fun h=>hd.1 _ a h),lX hd.2 a];omega
theorem gc {s:List (Int×Int)} (c:Dis s) (f:∀e∈s,e.2≠0) {e:Int×Int}:e∈aO s↔e∈s:=by
 unfold aO;simp only[Dt,List.mem_filter,aG,decide_eq_true_eq];constructor
 ·rintro⟨v,⟨⟨x,d,rfl⟩,g⟩,rfl⟩;rw[lX c (m:=x.2) (by simpa using d)];simpa using d
 intro a;have b:=lX c (v:=e.1) (m:=e.2) (by simpa using a);exact⟨e.1,⟨⟨e,a,rfl⟩,by rw[b];exact f e a⟩,by rw[b]⟩
def kR (cs:List (Int×Int)):Prop:=cs.Pairwise (fun a b=>a.1<b.1)
theorem ji (s:List (Int×Int)):kR (aO s):=by
 unfold aO kR;rw[List.pairwise_map];exact(dn _).filter _
theorem kR.dis {a:List (Int×Int)} (h:kR a):Dis a:=h.imp (fun h=>by omega)
theorem kr:∀ {a b:List (Int×Int)} {g:Int->Nat},Dis a->(∀e,e∈a↔e∈b)->Dis b->cI g a<=cI g b
 | [],b,g,_,_,_=>C3 _
 | e::a,b,g,ha,h,hb=>by
   rw[Dis,DJ] at ha;have r:∀(b:List (Int×Int)),Dis b->e∈b->∃d,Dis d/\cI g b=e.2.natAbs*g e.1+cI g d/\∀x,x∈d↔x∈b/\x≠e:=by
    intro b
    induction b with
    | nil=>intro _ p;cases p
    | cons y b s=>
     intro i p;rw[Dis,DJ] at i;by_cases q:e=y
     ·subst q;refine⟨b,i.2,rfl,fun x=>?_⟩;constructor
      ·intro c;exact⟨by simp[c],fun o=>by rw[o] at c;exact i.1 e c rfl⟩
      rintro⟨c,f⟩;exact(Db.1 c).resolve_left f
     obtain⟨d,k,l,j⟩:=s i.2 ((Db.1 p).resolve_left q);refine⟨y::d,DJ.2 ⟨fun x c=>i.1 x ((j x).1 c).1,k⟩,by simp only[cI,l];omega,fun x=>?_⟩;simp only[Db,j];constructor
     ·rintro(rfl | ⟨m,n⟩)
      ·exact⟨.inl rfl,fun h=>q h.symm⟩
      exact⟨.inr m,n⟩
     rintro⟨rfl | m,n⟩
     ·exact .inl rfl
     exact .inr ⟨m,n⟩
   obtain⟨d,k,l,j⟩:=r b hb ((h e).1 (by simp));have s:=kr (a:=a) (b:=d) (g:=g) ha.2 (fun x=>by
    rw[j,<-h x,Db];constructor
    ·intro c;exact⟨.inr c,fun o=>by rw[o] at c;exact ha.1 e c rfl⟩
    rintro⟨rfl | c,f⟩
    ·exact absurd rfl f
    exact c) k
   simp only[cI,l];omega
def idxK (ks:List Pt) (p:Pt):Nat:=ks.findIdx (fun q=>decide (kc q p=0))
def num (n:Nat) (ks:List Pt) (p:Pt):Int:=if p.kd=0 then p.v else (n:Int)+(idxK ks p:Nat)
def je (ks:List Pt) (p:Pt):Prop:=p.kd=0\/∃q∈ks,kc q p=0
def dS (ks:List Pt) (t:T):Prop:=∀p∈t.pts,je ks p
def eQ (n:Nat) (ks:List Pt) (t:T):List (Int×Int):=t.pts.map (fun p=>(num n ks p,p.n))
def eo (n:Nat) (ks:List Pt) (t:T):Lin:=⟨t.con,aO (eQ n ks t)⟩
def axK (n:Nat) (ks:List Pt) (p:Pt):Ax:=if p.kd=1 then ⟨⟨0,[]⟩,0,p.v⟩ else ⟨eo n ks p.of,p.b,0⟩
theorem je.app {ks:List Pt} {p:Pt} (h:je ks p) (c:List Pt):je (ks++c) p:=h.imp id (fun ⟨q,a,b⟩=>⟨q,CX.2 (.inl a),b⟩)
theorem tN {ks:List Pt} {p:Pt} (h:∃q∈ks,kc q p=0) (c:List Pt):idxK (ks++c) p=idxK ks p:=by
 unfold idxK;obtain⟨q,a,b⟩:=h;rw[List.findIdx_append,if_pos (List.findIdx_lt_length_of_exists ⟨q,a,by simpa using b⟩)]
theorem qE {n:Nat} {ks:List Pt} {p:Pt} (h:je ks p) (a:List Pt):num n (ks++a) p=num n ks p:=by
 unfold num
 split
 ·rfl
 rw[tN (h.resolve_left ‹_›)]
theorem tf {n:Nat} {ks:List Pt} {t:T} (h:dS ks t) (b:List Pt):eQ n (ks++b) t=eQ n ks t:=by
 unfold eQ;exact List.map_congr_left (fun p a=>by rw[qE (h p a)])
theorem nJ {n:Nat} {ks:List Pt} {t:T} (h:dS ks t) (a:List Pt):eo n (ks++a) t=eo n ks t:=by unfold eo;rw[tf h]
theorem wQ {n:Nat} {ks:List Pt} {p:Pt} (h:dS ks p.of) (a:List Pt):axK n (ks++a) p=axK n ks p:=by unfold axK;rw[nJ h]
theorem fZ {ks:List Pt} {p:Pt} (h:∃q∈ks,kc q p=0):∃q,ks[idxK ks p]? =some q/\kc q p=0/\q∈ks:=by
 obtain⟨q,b,c⟩:=h;have a:idxK ks p<ks.length:=List.findIdx_lt_length_of_exists ⟨q,b,by simpa using c⟩;refine⟨ks[idxK ks p],CT a,?_,List.getElem_mem a⟩;have:=List.findIdx_getElem (xs:=ks) (p:=fun q=>decide (kc q p=0)) (w:=a);exact of_decide_eq_true this
def fL (n:Nat) (p:Pt):Prop:=p.kd=0->0<=p.v/\p.v<(n:Int)
theorem qD {n:Nat} {ks:List Pt} {p q:Pt} (l:je ks p) (m:je ks q) (op:p.ok) (d:q.ok) (f:fL n p) (g:fL n q) (h:num n ks p=num n ks q):kc p q=0:=by
 unfold num at h;by_cases b:p.kd=0
 ·by_cases a:q.kd=0
  ·rw[if_pos b,if_pos a] at h;rcases op with op | op<;>rcases d with d | d<;>first | omega | skip
   exact fb.2 ⟨by omega,h,by omega,by rw[op.2.2.2,d.2.2.2]⟩
  rw[if_pos b,if_neg a] at h;have:=f b;omega
 by_cases a:q.kd=0
 ·rw[if_neg b,if_pos a] at h;have:=g a;omega
 rw[if_neg b,if_neg a] at h;obtain⟨x,c,i,_⟩:=fZ (l.resolve_left b);obtain⟨y,j,k,_⟩:=fZ (m.resolve_left a);have e:idxK ks p=idxK ks q:=by omega
 rw[e,j] at c;injection c with c;subst c;exact(mq (r:=q) i).symm.trans k
theorem qi:∀ {l k:List Pt},Srt l->Srt k->(∀x,x∈l↔x∈k)->l=k
 | [],[],_,_,_=>rfl
 | [],y::k,_,_,h=>by have:=(h y).2 (by simp);cases this
 | x::l,[],_,_,h=>by have:=(h x).1 (by simp);cases this
 | x::l,y::k,hl,hk,h=>by
   unfold Srt at hl hk;rw[DJ] at hl hk;have c:=(h x).1 (by simp);have d:=(h y).2 (by simp);have e:x=y:=by
    rcases Db.1 c with c | c
    ·exact c
    rcases Db.1 d with d | d
    ·exact d.symm
    have a:=hk.1 x c;have b:=hl.1 y d;have:=ij x y;omega
   subst e;rw[qi hl.2 hk.2 (fun z=>?_)];have:=h z;simp only[Db] at this;constructor
   ·intro f;rcases this.1 (.inr f) with rfl | h
    ·have:=hl.1 z f;rw[bi] at this;omega
    exact h
   intro f;rcases this.2 (.inr f) with rfl | h
   ·have:=hk.1 z f;rw[bi] at this;omega
   exact h
theorem ia {n:Nat} {ks:List Pt} {t:T} (j:Srt t.pts) (c:t.ok) (f:dS ks t) (g:∀p∈t.pts,fL n p):Dis (eQ n ks t):=by
 unfold Dis eQ;rw[List.pairwise_map];refine List.Pairwise.imp_of_mem (fun {a b} d e h i=>?_) j;rw[T.ok_iff] at c;have:=qD (f a d) (f b e) (c a d).2 (c b e).2 (g a d) (g b e) i;omega
theorem jB {n:Nat} {ks:List Pt} {t:T} (a:t.ok):∀e∈eQ n ks t,e.2≠0:=by
 intro e b;unfold eQ at b;obtain⟨p,c,rfl⟩:=Dt.1 b;exact(T.ok_iff.1 a p c).1
theorem tF {n:Nat} {ks:List Pt} {t u:T} (j:Srt t.pts) (k:Srt u.pts) (z:t.ok) (A:u.ok) (at_:dS ks t) (o:dS ks u) (s:∀p∈t.pts,fL n p) (v:∀p∈u.pts,fL n p) (h:eo n ks t=eo n ks u):t=u:=by
 unfold eo at h;injection h with h1 h2;have c:∀ {a b:T},a.ok->b.ok->dS ks a->dS ks b->Srt a.pts->Srt b.pts->(∀p∈a.pts,fL n p)->(∀p∈b.pts,fL n p)->aO (eQ n ks a)=aO (eQ n ks b)->∀x∈a.pts,x∈b.pts:=by
  intro a b g i l m D E q r h x d;have w:(num n ks x,x.n)∈aO (eQ n ks a):=(gc (ia D g l q) (jB g)).2 (Dt.2 ⟨x,d,rfl⟩);rw[h,gc (ia E i m r) (jB i)] at w;obtain⟨y,f,B⟩:=Dt.1 w;injection B with e1 e2;have C:=qD (l x d) (m y f) (T.ok_iff.1 g x d).2 (T.ok_iff.1 i y f).2 (q x d) (r y f) e1.symm;have:=fo C;rw[e2] at this;have e:y=x:=this;rw[<-e];exact f
 exact T.ext (qi j k (fun x=>⟨c z A at_ o j k s v h2 x,c A z o at_ k j v s h2.symm x⟩)) h1
structure js (n:Nat) (l:List Vb) (p:Pt):Prop where
 ok:p.ok
 nz:p.kd≠0
 ty:p.ty l=true
 len:n=l.length
theorem jQ {n:Nat} {l:List Vb} (b:n=l.length) {p:Pt} (h:p.ty l=true):fL n p:=fun a=>by
 unfold Pt.ty at h;rw[if_pos a] at h;have:=cn h;unfold inV at this;omega
theorem nv {l:List Vb} {p:Pt} (a:p.ok) (h:p.ty l=true):p.of.ty l=true:=by
 rcases a with a | a
 ·rw[a.2.2.2];rfl
 unfold Pt.ty at h;rw[if_neg (by omega),if_neg (by omega)] at h;exact h
theorem rk {n:Nat} {l:List Vb} {ks:List Pt} {p q:Pt} (c:js n l p) (a:js n l q) (e:dS ks p.of) (f:dS ks q.of) (h:axK n ks p=axK n ks q):kc p q=0:=by
 unfold axK at h;have i:=c.nz;have j:=a.nz;rcases c.ok with op | op
 ·rcases a.ok with b | b
  ·rw[if_pos (by omega),if_pos (by omega)] at h;injection h with _ _ h;exact fb.2 ⟨by omega,h,by omega,by rw[op.2.2.2,b.2.2.2]⟩
  rw[if_pos (by omega),if_neg (by omega)] at h;injection h with _ h _;omega
 rcases a.ok with b | b
 ·rw[if_neg (by omega),if_pos (by omega)] at h;injection h with _ h _;omega
 rw[if_neg (by omega),if_neg (by omega)] at h;injection h with h1 h2 _;refine fb.2 ⟨by omega,by omega,h2,?_⟩;have g:=T.ty_iff.1 (nv c.ok c.ty);have tq:=T.ty_iff.1 (nv a.ok a.ty);exact tF op.2.2.2.2.2.2.2 b.2.2.2.2.2.2.2 op.2.2.2.2.2.1 b.2.2.2.2.2.1 e f (fun x d=>jQ c.len (g x d)) (fun x d=>jQ a.len (tq x d)) h1
theorem mE {n:Nat} {ks:List Pt} {p:Pt} (h:p.kd=1):axK n ks p=⟨⟨0,[]⟩,0,p.v⟩:=by unfold axK;rw[if_pos h]
theorem mF {n:Nat} {ks:List Pt} {p:Pt} (h:p.kd=2):axK n ks p=⟨eo n ks p.of,p.b,0⟩:=by unfold axK;rw[if_neg (by omega)]
theorem yD {n:Nat} {ks:List Pt} {p q:Pt} (h:kc p q=0):axK n ks p=axK n ks q:=by
 obtain⟨a,b,c,d⟩:=fb.1 h;unfold axK;rw[a,b,c,d]
structure Inv (n:Nat) (l:List Vb) (ks:List Pt) (xs:List Ax):Prop where
 len:xs.length=ks.length
 key:∀i p,ks[i]? =some p->js n l p/\dS (ks.take i) p.of/\xs[i]? =some (axK n (ks.take i) p)
 dis:ks.Pairwise (fun p q=>kc p q≠0)
theorem Inv.nil {n:Nat} {l:List Vb}:Inv n l [] []:=⟨rfl,fun i p h=>by simp at h,List.Pairwise.nil⟩
theorem dS.app {ks:List Pt} {t:T} (h:dS ks t) (a:List Pt):dS (ks++a) t:=fun p b=>(h p b).app a
theorem Inv.ax {n:Nat} {l:List Vb} {ks:List Pt} {xs:List Ax} (h:Inv n l ks xs) {i:Nat} {p:Pt} (d:ks[i]? =some p):js n l p/\dS ks p.of/\xs[i]? =some (axK n ks p):=by
 obtain⟨b,a,c⟩:=h.key i p d;have e:ks.take i++ks.drop i=ks:=Du i ks;refine⟨b,?_,?_⟩
 ·have:=a.app (ks.drop i);rwa [e] at this
 rw[c];have:=wQ (n:=n) a (ks.drop i);rw[e] at this;rw[this]
theorem uC {n:Nat} {l:List Vb} {ks:List Pt} {xs:List Ax} (h:Inv n l ks xs) {p:Pt} (v:js n l p) (t:dS ks p.of):
 ∃z,Inv n l (ks++z) (cE n xs (axK n ks p)).1/\(cE n xs (axK n ks p)).2=num n (ks++z) p/\je (ks++z) p/\∀q∈z,q=p:=by
  have g:axK n ks p∈xs->∃i q,ks[i]? =some q/\kc q p=0/\xs[i]? =some (axK n ks p):=fun e=>by
   obtain⟨i,c,s⟩:=List.mem_iff_getElem.1 e;have f:i<ks.length:=by rw[<-h.len];exact c
   obtain⟨k,m,o⟩:=h.ax (CT f);rw[CT c,s] at o;injection o with o;exact⟨i,ks[i],CT f,rk k v m t o.symm,by rw[CT c,s]⟩
  by_cases u:∃q∈ks,kc q p=0
  ·obtain⟨q,k,m,o⟩:=fZ u;obtain⟨H,J,r⟩:=h.ax k;rw[yD m] at r;have e:axK n ks p∈xs:=CW r;refine⟨[],?_,?_,.inr (by simpa using u),by simp⟩
   ·rw[DA];unfold cE;rw[if_pos e];exact h
   rw[DA];unfold cE num;rw[if_neg v.nz];dsimp only
   congr 2
   have F:=(CV.1 r).1;rcases Nat.lt_trichotomy (xs.idxOf (axK n ks p)) (idxK ks p) with d | s | d
   ·exfalso;have c:xs.idxOf (axK n ks p)<xs.length:=List.idxOf_lt_length_of_mem e;have E:xs[xs.idxOf (axK n ks p)]=axK n ks p:=List.getElem_idxOf c;have f:xs.idxOf (axK n ks p)<ks.length:=by rw[<-h.len];exact c
    obtain⟨B,C,x⟩:=h.ax (CT f);rw[CT c,E] at x;injection x with x;have A:=rk B v C t x.symm;have:=List.not_of_lt_findIdx (p:=fun q=>decide (kc q p=0)) (xs:=ks) d;simp[A] at this
   ·exact s
   exfalso;have c:xs.idxOf (axK n ks p)<xs.length:=List.idxOf_lt_length_of_mem e;have:=List.not_of_lt_findIdx (p:=fun y=>y==axK n ks p) (xs:=xs) (i:=idxK ks p) (by simpa [List.idxOf] using d);rw[CT F] at r;injection r with r;rw[r] at this;simp at this
  have e:axK n ks p∉xs:=fun e=>by
   obtain⟨i,q,k,m,_⟩:=g e;exact u ⟨q,CW k,m⟩
  refine⟨[p],?_,?_,.inr ⟨p,by simp,bi p⟩,fun q j=>CZ.1 j⟩
  ·unfold cE;rw[if_neg e];refine⟨by simp[h.len],fun i q j=>?_,?_⟩
   ·rcases DR i ks.length with c | c
    ·rw[DC c] at j;obtain⟨k,m,o⟩:=h.key i q j;rw[DV (by omega)];refine⟨k,m,?_⟩;rw[DC (by rw[h.len];exact c)];exact o
    rw[Dv c] at j;have:i=ks.length:=by
     have:=(CV.1 j).1;simp at this;omega
    subst this;simp at j;subst j;rw[DV (C9 _),List.take_length];refine⟨v,t,?_⟩;rw[<-h.len];simp
   rw[EF];refine⟨h.dis,List.pairwise_singleton _ _,fun a t b D s=>?_⟩;rw[CZ.1 D] at s;exact u ⟨a,t,s⟩
  unfold cE num;rw[if_neg v.nz];dsimp only
  congr 2
  rw[List.idxOf_eq_length e,h.len];unfold idxK;rw[List.findIdx_append,if_neg]
  ·simp[bi]
  intro d;have:=List.findIdx_getElem (xs:=ks) (p:=fun q=>decide (kc q p=0)) (w:=d);exact u ⟨_,List.getElem_mem d,by simpa using this⟩
theorem pH {n:Nat} {l:List Vb} (D:n=l.length):∀(t:T) {xs:List Ax} {s:List (Int×Int)} {ks:List Pt},Inv n l ks xs->t.ok->t.ty l=true->
 ∃d,Inv n l (ks++d) (frm n t xs s).1/\(frm n t xs s).2=s++eQ n (ks++d) t/\dS (ks++d) t/\∀q∈d,∀v∈q.vars,v∈t.vars
 | .c k,xs,s,ks,h,ho,ht=>⟨[],by rw[DA];exact h,by simp[frm,eQ,T.pts],(fun p x=>by cases x),by simp⟩
 | .p m kd v b of r,xs,s,ks,h,ho,ht=>by
   obtain⟨o1,g,o3⟩:=ho;have tr:r.ty l=true:=by simp only[T.ty,Bool.and_eq_true] at ht;exact ht.2
   have J:Pt.ty l ⟨m,kd,v,b,of⟩=true:=by simp only[T.ty,Bool.and_eq_true] at ht;exact ht.1
   have H:Pt.ok ⟨m,kd,v,b,of⟩:=g;have j:∀(f:List Pt) (o:List Ax) (i:Int),Inv n l (ks++f) o->i=num n (ks++f) ⟨m,kd,v,b,of⟩->je (ks++f) ⟨m,kd,v,b,of⟩->(∀q∈f,∀u∈q.vars,u∈T.vars (.p m kd v b of r))->
    ∃d,Inv n l (ks++d) (frm n r o (s++[(i,m)])).1/\(frm n r o (s++[(i,m)])).2=s++eQ n (ks++d) (.p m kd v b of r)/\dS (ks++d) (.p m kd v b of r)/\∀q∈d,∀u∈q.vars,u∈T.vars (.p m kd v b of r):=fun f o i y X O Y=>by
    obtain⟨d,z,M,N,S⟩:=pH D r (xs:=o) (s:=s++[(i,m)]) (ks:=ks++f) y o3 tr
    rw[Dd] at z M N
    refine⟨f++d,z,?_,fun p x=>?_,fun q a u w=>?_⟩
    ·rw[M,X,Dd];have:=qE (n:=n) O d;rw[Dd] at this;rw[<-this];rfl
    ·rcases Db.1 x with rfl | x
     ·have:=O.app d;rwa [Dd] at this
     exact N p x
    ·rcases CX.1 a with a | a
     ·exact Y q a u w
     simp only[T.vars,CX];exact .inr (S q a u w)
   have own:∀u∈Pt.vars ⟨m,kd,v,b,of⟩,u∈T.vars (.p m kd v b of r):=fun u w=>by simp only[T.vars,CX];exact .inl w
   unfold frm;by_cases y:kd=1
   ·rw[if_pos y];have F:js n l ⟨m,kd,v,b,of⟩:=⟨H,by show kd≠0;omega,J,D⟩;have e:(⟨⟨0,[]⟩,0,v⟩:Ax)=axK n ks ⟨m,kd,v,b,of⟩:=by unfold axK;rw[if_pos y]
    have W:dS ks of:=by
     rcases g with g | g
     ·rw[g.2.2.2];intro p x;cases x
     omega
    rw[e];obtain⟨f,A,B,C,E⟩:=uC h F W;exact j f _ _ A B C (fun q a=>by rw[E q a];exact own)
   rw[if_neg y];by_cases z:kd=2
   ·rw[if_pos z];have F:js n l ⟨m,kd,v,b,of⟩:=⟨H,by show kd≠0;omega,J,D⟩;have oo:of.ok:=by
     rcases g with g | g
     ·omega
     exact g.2.2.2.2.2.1
    obtain⟨f,P,K,Q,R⟩:=pH D of (xs:=xs) (s:=[]) (ks:=ks) h oo (nv H J);rw[Dm] at K;have e:(⟨⟨of.con,aO (frm n of xs []).2⟩,b,0⟩:Ax)=axK n (ks++f) ⟨m,kd,v,b,of⟩:=by unfold axK eo;rw[if_neg y,K]
    rw[e];obtain⟨k3,A,B,C,E⟩:=uC P F Q;rw[Dd] at A B C;refine j (f++k3) _ _ A B C (fun q a u w=>?_);rcases CX.1 a with a | a
    ·exact own u (by unfold Pt.vars;rw[if_pos z];exact R q a u w)
    rw[E q a] at w;exact own u w
   rw[if_neg z];have L:kd=0:=by rcases g with g | g<;>omega
   have:=j [] xs v (by rw[DA];exact h) (by unfold num;rw[if_pos L]) (.inl L) (by simp);exact this
end Go.Proofs.YtldmkbhgdbafhaaGreat
