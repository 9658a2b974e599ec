import Derived.Test.YtldmkbhgdbafhaaGreatL02
namespace Go.Proofs.YtldmkbhgdbafhaaGreat
open Go.RowKit
set_option linter.unusedSimpArgs false
set_option linter.unusedVariables false
set_option maxRecDepth 100000
set_option maxHeartbeats 64000000
section
def T.tr:T->Tr
 | .c _=>.nil
 | .p n kd v b of r=>.v (I n) (.v (I kd) (.v (I v) (.v (I b) (.sl 2 (if kd=2 then .v (I of.con) (.sl 5 (T.tr of) .nil) else .nil) (T.tr r)))))
def Pt.tr (p:Pt):Tr:=.v (I p.n) (.v (I p.kd) (.v (I p.v) (.v (I p.b) (.sl 2 (if p.kd=2 then .v (I p.of.con) (.sl 5 p.of.tr .nil) else .nil) .nil))))
theorem T.tr_eq:∀t:T,t.tr=cat Pt.tr t.pts
 | .c _=>rfl
 | .p n kd v b of r=>by simp only[T.tr,T.pts,cat,Pt.tr,Tr.app,T.tr_eq r]
theorem Pt.tr_len (p:Pt):p.tr.len=5:=rfl
theorem T.tr_len (t:T):t.tr.len=t.pts.length*5:=by rw[T.tr_eq,bF Pt.tr_len]
theorem T.ind {P:T->Prop} (a:∀t,(∀p∈t.pts,P p.of)->P t):∀t,P t:=by
 have h:∀t:T,∀p∈t.pts,P p.of:=by
  intro t
  induction t with
  | c k=>intro p d;cases d
  | p n kd v b of r ih1 ih2=>
   intro p d;rcases Db.1 d with rfl | d
   ·exact a of ih1
   exact ih2 p d
 exact fun t=>a t (h t)
def TAt (w:World) (C:Nat->Prop) (A:Option Addr) (t:T):Prop:=∃a,eM w C A a/\Is w C t.tr a
def bP (w:World) (C:Nat->Prop) (p:Pt) (b:Option Addr) (c:Nat):Prop:=
 (p.kd≠2->c=0/\Pl b)/\(p.kd=2->c=1/\∃h o d a,b=some (U h o)/\C h/\w.cell? (U h o)=some (I p.of.con)/\w.cell? (U h (o+1))=G d p.of.pts.length a/\p.of.pts.length<=a/\a<=maxLen/\TAt w C d p.of)
def ptV (p:Pt) (a:Option Addr) (d c:Nat):List Value:=[I p.n,I p.kd,I p.v,I p.b,.slice a d c]
section
variable {w w':World} {C D:Nat->Prop} {A:Option Addr} {Y:List Nat}
theorem TAt.keep {t:T} (h:TAt w C A t) (b:ad Y w w') (a:∀y∈Y,¬C y):TAt w' C A t:=by obtain⟨e,c,d⟩:=h;exact⟨e,c.keep b a,d.keep b a⟩
theorem TAt.keep0 {t:T} (h:TAt w C A t) (a:ad [] w w'):TAt w' C A t:=h.keep a (by simp)
theorem TAt.mono {t:T} (h:TAt w C A t) (a:∀g,g<w.heap.size->C g->D g):TAt w D A t:=by obtain⟨d,b,c⟩:=h;exact⟨d,b.mono a,c.mono a⟩
theorem bP.keep {p:Pt} {e:Option Addr} {f:Nat} (h:bP w C p e f) (c:ad Y w w') (b:∀y∈Y,¬C y):bP w' C p e f:=
 ⟨h.1,fun r=>by
  obtain⟨i,g,o,s,t,j,a,k,l,m,n,q⟩:=h.2 r;exact⟨i,g,o,s,t,j,a,c.cellEq k (fun d=>b g d a),c.cellEq l (fun d=>b g d a),m,n,q.keep c b⟩⟩
theorem bP.mono {p:Pt} {c:Option Addr} {d:Nat} (h:bP w C p c d) (b:∀g,g<w.heap.size->C g->D g):bP w D p c d:=
 ⟨h.1,fun n=>by
  obtain⟨e,g,o,q,r,f,i,a,j,k,l,m⟩:=h.2 n;exact⟨e,g,o,q,r,f,b g (block_lt_of_cell a) i,a,j,k,l,m.mono b⟩⟩
theorem bL {p:Pt} {cs:List Value}:Is w C p.tr cs↔∃g d c,cs=ptV p g d c/\d<=c/\c<=maxLen/\bP w C p g d:=by
 constructor
 ·rintro⟨_,rfl,_,_,rfl,_,_,rfl,_,_,rfl,_,g,d,c,H,_,rfl,k,l,m,n,q,rfl⟩;refine⟨g,d,c,rfl,l,m,fun b=>?_,fun b=>?_⟩
  ·rw[if_neg b] at k;simp[Tr.len] at k;exact⟨by omega,n.1⟩
  rw[if_pos b] at k q;simp[Tr.len] at k;obtain rfl:d=1:=by omega
  obtain⟨_,rfl,_,r,F,s,f,_,rfl,v,x,y,z,t,rfl⟩:=q;obtain⟨h,o,rfl,A,_,D⟩:=n.2.at_ (by simp);have e:F=p.of.pts.length:=by rw[T.tr_len] at v;omega
  subst e;exact⟨rfl,h,o,r,s,rfl,A,D 0 _ rfl,D 1 _ rfl,x,y,f,z,t⟩
 rintro⟨g,d,c,rfl,l,m,n,q⟩;refine⟨_,rfl,rfl,_,rfl,rfl,_,rfl,rfl,_,rfl,rfl,?_⟩;by_cases b:p.kd=2
 ·obtain⟨rfl,h,o,r,s,rfl,A,c0,c1,v,x,f,y,z⟩:=q b;refine⟨_,1,c,[I p.of.con,.slice r p.of.pts.length s],_,rfl,by rw[if_pos b];rfl,l,m,⟨fun a E=>by cases E;rfl,dl.mk_ A (fun i u j=>?_)⟩,?_,rfl⟩
  ·rcases i with _ | _ | i
   ·simp at j;subst j;simpa using c0
   ·simp at j;subst j;simpa using c1
   simp at j
  rw[if_pos b];exact⟨_,rfl,rfl,r,_,s,f,_,rfl,T.tr_len _,v,x,y,z,rfl⟩
 obtain⟨rfl,B⟩:=n b;exact⟨g,0,c,[],_,rfl,by rw[if_neg b];rfl,l,m,⟨B,dl.nil⟩,by rw[if_neg b];rfl,rfl⟩
theorem TAt.get {t:T} {j:Nat} {p:Pt} (h:TAt w C A t) (o:t.pts[j]? =some p):∃g a i f e,A=some (U g a)/\C g/\g<w.heap.size/\
 w.cell? (U g (a+j*5))=some (I p.n)/\w.cell? (U g (a+j*5+1))=some (I p.kd)/\w.cell? (U g (a+j*5+2))=some (I p.v)/\
 w.cell? (U g (a+j*5+3))=some (I p.b)/\w.cell? (U g (a+j*5+4))=G i f e/\f<=e/\e<=maxLen/\bP w C p i f:=by
  obtain⟨B,q,l⟩:=h;rw[T.tr_eq] at l;obtain⟨z,r,d⟩:=l.cat_at Pt.tr_len o;obtain⟨i,f,e,rfl,s,u,x⟩:=bL.1 r;have m:=l.len;rw[bF Pt.tr_len] at m;obtain⟨g,a,rfl,y,k,c⟩:=q.2.at_ (by rw[m];have:=(CV.1 o).1;omega);refine⟨g,a,i,f,e,rfl,y,k,?_,?_,?_,?_,?_,s,u,x⟩
  ·exact c _ _ (d 0 _ rfl)
  ·rw[Ej];exact c _ _ (d 1 _ rfl)
  ·rw[Ej];exact c _ _ (d 2 _ rfl)
  ·rw[Ej];exact c _ _ (d 3 _ rfl)
  rw[Ej];exact c _ _ (d 4 _ rfl)
end
end
def cY:List UInt8->List UInt8->Int
 | [],[]=>0
 | [],_::_=> -1
 | _::_,[]=>1
 | a::l,b::k=>if a=b then cY l k else ai (a.toNat:Int) (b.toNat:Int)
theorem dU:∀ {l k:List UInt8},cY l k=0↔l=k
 | [],[]=>by simp[cY]
 | [],_::_=>by simp[cY]
 | _::_,[]=>by simp[cY]
 | a::l,b::k=>by
   unfold cY;by_cases h:a=b
   ·rw[if_pos h,dU,h];simp
   rw[if_neg h,aT];constructor
   ·intro c;exact absurd (E6.1 (by omega)) h
   intro c;injection c with h1 _;exact absurd h1 h
theorem om:∀l k:List UInt8,cY l k= -1\/cY l k=0\/cY l k=1
 | [],[]=>by simp[cY]
 | [],_::_=>by simp[cY]
 | _::_,[]=>by simp[cY]
 | a::l,b::k=>by
   unfold cY
   split
   ·exact om l k
   exact dh _ _
theorem lJ:∀l k:List UInt8,cY k l= -cY l k
 | [],[]=>by simp[cY]
 | [],_::_=>by simp[cY]
 | _::_,[]=>by simp[cY]
 | a::l,b::k=>by
   unfold cY;by_cases h:a=b
   ·rw[if_pos h,if_pos h.symm];exact lJ l k
   rw[if_neg h,if_neg (fun e=>h e.symm)];exact cO _ _
def cJ (a b:ByteArray):Int:=cY a.data.toList b.data.toList
theorem iS {a b:ByteArray}:cJ a b=0↔a=b:=by
 unfold cJ;rw[dU];constructor
 ·intro h;cases a;cases b;congr 1;exact Array.ext' h
 rintro rfl;rfl
def lk:List UInt8->List UInt8->Bool
 | [],s=>s.isEmpty
 | p::ps,s=>if p=37 then (List.range (s.length+1)).any (fun i=>lk ps (s.drop i)) else match s with | []=>false | c::cs=>(p==95 || p==c) && lk ps cs
def lkB (s p:ByteArray):Bool:=lk p.data.toList s.data.toList
def ju (n:Int):List Int->List Int
 | []=>[n]
 | x::l=>if n<x then n::x::l else if n=x then x::l else x::ju n l
def sc (l:List Int):List Int:=l.foldr ju []
theorem j8 {n x:Int}:∀ {l:List Int},x∈ju n l↔x=n\/x∈l
 | []=>by simp[ju]
 | y::l=>by
   unfold ju
   split
   ·simp
   split
   ·rename_i h;subst h;simp
   simp only[Db,j8 (l:=l)];constructor
   ·rintro(h | h | h)
    ·exact .inr (.inl h)
    ·exact .inl h
    exact .inr (.inr h)
   rintro(h | h | h)
   ·exact .inr (.inl h)
   ·exact .inl h
   exact .inr (.inr h)
abbrev Asc (l:List Int):Prop:=l.Pairwise (fun a b=>a<b)
theorem nN {n:Int}:∀ {l:List Int},Asc l->Asc (ju n l)
 | [],_=>List.pairwise_singleton _ _
 | y::l,h=>by
   have b:=h;rw[Asc,DJ] at h;unfold ju
   split
   ·refine DJ.2 ⟨fun z a=>?_,b⟩;rcases Db.1 a with rfl | a
    ·assumption
    have:=h.1 z a;omega
   split
   ·exact b
   refine DJ.2 ⟨fun z a=>?_,nN h.2⟩;rcases j8.1 a with rfl | a
   ·omega
   exact h.1 z a
theorem aG {x:Int}:∀ {l:List Int},x∈sc l↔x∈l
 | []=>by simp[sc]
 | y::l=>by
   show x∈ju y (sc l)↔_;rw[j8,aG (l:=l),Db]
theorem dn:∀l:List Int,Asc (sc l)
 | []=>List.Pairwise.nil
 | y::l=>nN (dn l)
theorem mG:∀ {l k:List Int},Asc l->Asc k->(∀x,x∈l↔x∈k)->l=k
 | [],[],_,_,_=>rfl
 | [],y::k,_,_,h=>by have:=(h y).2 (by simp);cases this
 | x::l,[],_,_,h=>by have:=(h x).1 (by simp);cases this
 | x::l,y::k,hl,hk,h=>by
   rw[Asc,DJ] at hl hk;have a:=(h x).1 (by simp);have b:=(h y).2 (by simp);have e:x=y:=by
    rcases Db.1 a with a | a
    ·exact a
    rcases Db.1 b with b | b
    ·exact b.symm
    have:=hk.1 x a;have:=hl.1 y b;omega
   subst e;rw[mG hl.2 hk.2 (fun z=>?_)];have:=h z;simp only[Db] at this;constructor
   ·intro c;rcases this.1 (.inr c) with rfl | h
    ·have:=hl.1 z c;omega
    exact h
   intro c;rcases this.2 (.inr c) with rfl | h
   ·have:=hk.1 z c;omega
   exact h
theorem mX {l k:List Int} (a:Asc k) (h:∀x,x∈k↔x∈l):k=sc l:=mG a (dn l) (fun x=>by rw[h,aG])
theorem gu:∀l:List Int,(sc l).length<=l.length
 | []=>C9 _
 | y::l=>by
   have a:∀(n:Int) (k:List Int),(ju n k).length<=k.length+1:=by
    intro n k
    induction k with
    | nil=>simp[ju]
    | cons z k ih=>
     unfold ju
     split
     ·simp
     split
     ·simp
     simp only[Dj];omega
   have b:=a y (sc l);have c:=gu l;show (ju y (sc l)).length<=_;simp only[Dj];omega
structure Ts where
 v:Int
 kd:Int
 ng:Bool
 s:ByteArray
deriving DecidableEq,Inhabited
def ts0:Ts:=⟨0,0,false,ByteArray.empty⟩
structure Am where
 kd:Int
 v:Int
 o:Int
 t:T
 te:Ts
deriving Inhabited
inductive F where
 | at (a:Am)
 | nd (kd:Int) (l:List F)
instance:Inhabited F:=⟨.nd 0 []⟩
theorem F.ind {P:F->Prop} (b:∀a,P (.at a)) (c:∀kd l,(∀f∈l,P f)->P (.nd kd l)):∀f,P f
 | .at a=>b a
 | .nd kd l=>c kd l (go l)
where go:∀(l:List F),∀f∈l,P f
 | [],f,h=>by cases h
 | x::l,f,h=>by
   by_cases e:f=x
   ·rw[e];exact F.ind b c x
   exact go l f ((Db.1 h).resolve_left e)
def T.vars:T->List Int
 | .c _=>[]
 | .p n kd v b of r=>(if kd=2 then T.vars of else [v])++T.vars r
def Am.vars (a:Am):List Int:=if a.kd=2\/a.kd=3\/a.kd=4 then a.t.vars else if a.kd=6\/a.kd=7 then [a.v,a.o] else [a.v]
def Ts.pass (t:Ts) (s:ByteArray):Bool:=(if t.kd=0 then decide (s=t.s) else if t.kd=1 then lkB s t.s else if t.kd=2 then decide (cJ s t.s<0) else decide (cJ s t.s<=0)) !=t.ng
def rv (r:List Vl) (v:Int):Vl:=(r[v.toNat]?).getD em
def T.nn (r:List Vl) (t:T):Bool:=t.vars.all (fun v=>decide ((rv r v).k≠0))
def T.vr (r:List Vl) (t:T):Int:=t.val (fiR r) (ftR r)
def Am.holds (r:List Vl) (a:Am):Bool:=
 if a.kd=0 then decide ((rv r a.v).k=0) else if a.kd=1 then decide ((rv r a.v).k≠0)
 else if a.kd=2 then a.t.nn r && decide (a.t.vr r<=0) else if a.kd=3 then a.t.nn r && decide (a.t.vr r=0) else if a.kd=4 then a.t.nn r && decide (a.t.vr r≠0)
 else if a.kd=5 then decide ((rv r a.v).k=2) && a.te.pass (rv r a.v).s
 else decide ((rv r a.v).k=2) && decide ((rv r a.o).k=2) && (decide ((rv r a.v).s=(rv r a.o).s)==decide (a.kd=6))
mutual
def F.holds (r:List Vl):F->Bool
 | .at a=>a.holds r
 | .nd kd l=>if kd=1 then F.any r l else F.all r l
def F.all (r:List Vl):List F->Bool
 | []=>true
 | f::l=>F.holds r f && F.all r l
def F.any (r:List Vl):List F->Bool
 | []=>false
 | f::l=>F.holds r f || F.any r l
end
theorem F.all_eq (r:List Vl):∀l:List F,F.all r l=l.all (F.holds r)
 | []=>by simp[F.all]
 | f::l=>by simp[F.all,F.all_eq r l]
theorem F.any_eq (r:List Vl):∀l:List F,F.any r l=l.any (F.holds r)
 | []=>by simp[F.any]
 | f::l=>by simp[F.any,F.any_eq r l]
def T.ty (l:List Vb):T->Bool
 | .c _=>true
 | .p n kd v b of r=>(if kd=0 then aK l v 1 else if kd=1 then aK l v 2 else T.ty l of) && T.ty l r
def iQ (s:ByteArray):Bool:=s.data.toList.all (fun b=>decide (32<=b.toNat) && decide (b.toNat<=126)) && decide (s.size<=16)
def inV (l:List Vb) (v:Int):Prop:=0<=v/\v<(l.length:Int)
def Am.ok (l:List Vb) (a:Am):Prop:=
 (a.kd=0\/a.kd=1)/\inV l a.v/\a.o=0/\a.t=.c 0/\a.te=ts0\/
 (a.kd=2\/a.kd=3\/a.kd=4)/\a.v=0/\a.o=0/\a.te=ts0/\Nm a.t/\a.t.ty l=true\/
 a.kd=5/\aK l a.v 2=true/\a.o=0/\a.t=.c 0/\a.te.v=0/\0<=a.te.kd/\a.te.kd<=3/\iQ a.te.s=true\/
 (a.kd=6\/a.kd=7)/\aK l a.v 2=true/\aK l a.o 2=true/\a.v<a.o/\a.t=.c 0/\a.te=ts0
mutual
def F.ok (l:List Vb):F->Prop
 | .at a=>a.ok l
 | .nd kd fs=>(kd=0\/kd=1)/\F.oks l fs
def F.oks (l:List Vb):List F->Prop
 | []=>True
 | f::fs=>F.ok l f/\F.oks l fs
end
theorem F.oks_iff {l:List Vb}:∀ {fs:List F},F.oks l fs↔∀f∈fs,F.ok l f
 | []=>by simp[F.oks]
 | f::fs=>by simp[F.oks,F.oks_iff (fs:=fs)]
def ofB (b:Bool):Int:=if b then 1 else 0
def gf (a b:Vl):Int:=if a.n<b.n\/cJ a.s b.s<0 then -1 else if b.n<a.n\/0<cJ a.s b.s then 1 else 0
def be (op c:Int):Bool:=if op=10 then decide (c=0) else if op=11 then decide (c≠0) else if op=12 then decide (c<0) else if op=13 then decide (c<=0) else if op=14 then decide (0<c) else decide (0<=c)
def cdE (r:List Vl):E->Int
 | .z _ _ _=>2
 | .a o _ _ x=>if o=17 then ofB (decide ((evE r x).k=0)) else if cdE r x=2 then 2 else 1 - cdE r x
 | .b o _ _ x y=>if o=18\/o=19 then (if cdE r x=o - 18\/cdE r y=o - 18 then o - 18 else if cdE r x=2\/cdE r y=2 then 2 else 1 - (o - 18))
     else if (evE r x).k=0\/(evE r y).k=0 then 2 else if o=16 then ofB (lkB (evE r x).s (evE r y).s) else ofB (be o (gf (evE r x) (evE r y)))
 | .many .. =>2
def bC:E->Bool
 | .z o i v=>(E.z o i v).null || decide ((ofE (.z o i v)).2=0)
 | .a o i v x=>if (E.a o i v x).null then !decide (o=6\/o=7\/o=8) && (decide (o=9) || bC x) else decide ((ofE (.a o i v x)).2=0)
 | .b o i v x y=>if (E.b o i v x y).null then !decide (o=6\/o=7\/o=8) && (decide (o=9) || bC x) && (decide (o=9) || bC y) else decide ((ofE (.b o i v x y)).2=0)
 | .many o i v=>(E.many o i v).null || decide ((ofE (.many o i v)).2=0)
def E.nl:E->Bool
 | .z o _ v=>decide (o=1) && decide (v.k=0)
 | _=>false
def bT (l:List Vb) (e:E):Bool:=if e.nl || e.text l then decide (e.op=2) || vOk e.lit else e.int l && bC e
def E.leaf:E->Bool
 | .z .. =>true
 | _=>false
def kD (l:List Vb) (o:Int) (x y:E):Bool:=
 (!x.text l && !y.text l) || (x.text l || x.nl) && (y.text l || y.nl) && (decide (x.op=1) || decide (y.op=1) || decide (o=10) || decide (o=11))
def cC (l:List Vb) (x y:E):Bool:=y.leaf && (x.text l || x.null) && bT l x && decide (y.op=1) && decide (y.lit.k=2) && vOk y.lit && decide (x.op=1\/x.op=2)
def ci (l:List Vb):Nat->E->Bool
 | 0,_=>false
 | d+1,.a o i v x=>(E.a o i v x).short 12 && (if o=20 then ci l d x else decide (o=17) && bT l x)
 | d+1,.b o i v x y=>(E.b o i v x y).short 12 && (if o=18\/o=19 then ci l d x && ci l d y else if o=16 then cC l x y else decide (10<=o/\o<=15) && bT l x && bT l y && kD l o x y)
 | _+1,_=>false
def ngM (m:Int):Int:=if m=0 then 1 else if m=1 then 0 else if m=2 then 3 else 2
def wkM (m:Int):Bool:=decide (m=2) || decide (m=3)
def psM (m:Int):Bool:=decide (m=0) || decide (m=2)
def aD (b:Bool):F:=.nd (if b then 0 else 1) []
def aN (kd:Int) (l:List F):F:=match l with | [f]=>f | _=>.nd kd l
def ay (kd:Int) (vs:List Int):List F:=vs.map (fun v=>.at ⟨kd,v,0,.c 0,ts0⟩)
def ah:E->List Int
 | .z o i _=>if o=2 then [i] else []
 | .a o i _ x=>(if o=2 then [i] else [])++ah x
 | .b o i _ x y=>(if o=2 then [i] else [])++(ah x++ah y)
 | .many .. =>[]
inductive Pa where
 | kn (b:Bool)
 | am (a:Am)
def jt (o:Int):Int:=if o=10 then 11 else if o=11 then 10 else if o=12 then 15 else if o=15 then 12 else if o=13 then 14 else 13
def gw (o:Int):Int:=if o=12 then 14 else if o=14 then 12 else if o=13 then 15 else if o=15 then 13 else o
def dP (o:Int) (t:T):Pa×Int:=
 if t.pts=[] then (.kn (be o (ai t.con 0)),0) else if o=10 then (.am ⟨3,0,0,t,ts0⟩,0) else if o=11 then (.am ⟨4,0,0,t,ts0⟩,0)
 else if Sm (if o=15\/o=14 then az t (-1) else t) then
  if Sm (if o=12\/o=14 then aQ (if o=15\/o=14 then az t (-1) else t) (.c 1) else (if o=15\/o=14 then az t (-1) else t)) then
   (.am ⟨2,0,0,if o=12\/o=14 then aQ (if o=15\/o=14 then az t (-1) else t) (.c 1) else (if o=15\/o=14 then az t (-1) else t),ts0⟩,0) else (.kn false,3)
 else (.kn false,3)
def fd (o:Int) (a b:T):Pa×Int:=if Sm (az b (-1)) then (if Sm (aQ a (az b (-1))) then dP o (aQ a (az b (-1))) else (.kn false,3)) else (.kn false,3)
def db (o:Int) (s:ByteArray):Ts:=⟨0,if o=10\/o=11 then 0 else if o=12\/o=15 then 2 else 3,decide (o=11\/o=14\/o=15),s⟩
def ej (o:Int) (x y:E):Pa:=
 if x.op=1/\y.op=1 then .kn (be o (cJ x.lit.s y.lit.s)) else if x.op=1 then .am ⟨5,y.ix,0,.c 0,db (gw o) x.lit.s⟩ else if y.op=1 then .am ⟨5,x.ix,0,.c 0,db o y.lit.s⟩
 else if x.ix=y.ix then .kn (decide (o=10)) else .am ⟨if o=11 then 7 else 6,min x.ix y.ix,max x.ix y.ix,.c 0,ts0⟩
def ii (x y:E) (ps:Bool):Pa:=if x.op=1 then .kn (lkB x.lit.s y.lit.s==ps) else .am ⟨5,x.ix,0,.c 0,⟨0,1,!ps,y.lit.s⟩⟩
def gg (l:List Vb) (e:E):Bool:=if e.op=2 then aK l e.ix 2 else decide (e.op=1) && decide (e.lit.k=2)
def cG (l:List Vb) (o:Int) (x y:E) (m:Int):Pa×Int:=
 if o=16 then (ii x y (psM m),0) else if gg l x || gg l y then (ej (if psM m then o else jt o) x y,0) else fd (if psM m then o else jt o) (ofE x).1 (ofE y).1
def kB (c:Bool) (p:Pa) (vs:List Int):F:=
 if c then (match p with | .kn b=>if b then aD true else aN 1 (ay 0 vs) | .am a=>aN 1 (ay 0 vs++[.at a]))
 else (match p with | .kn b=>if b then aN 0 (ay 1 vs) else aD false | .am a=>aN 0 (ay 1 (vs.filter (fun v=>!(sc a.vars).contains v))++[.at a]))
def lG (l:List Vb) (o:Int) (x y:E) (m:Int):F×Int:=
 if x.null || y.null then (aD (wkM m),0) else if (cG l o x y m).2=0 then (kB (wkM m) (cG l o x y m).1 (sc (ah x++ah y)),0) else (.nd 0 [],3)
def trE (l:List Vb):E->Int->F×Int
 | .z _ _ _,m=>(aD (wkM m),0)
 | .a o _ _ x,m=>if o=20 then trE l x (ngM m) else if x.null then (aD (psM m),0) else if psM m then (aN 1 (ay 0 (sc (ah x))),0) else (aN 0 (ay 1 (sc (ah x))),0)
 | .b o _ _ x y,m=>if o=18\/o=19 then
       (if (trE l x m).2=0 then (if (trE l y m).2=0 then (.nd (if decide (o=18)=psM m then 0 else 1) [(trE l x m).1,(trE l y m).1],0) else (.nd 0 [],(trE l y m).2)) else (.nd 0 [],(trE l x m).2))
       else lG l o x y m
 | .many ..,_=>(.nd 0 [],3)
def nG (m c:Int):Bool:=if m=0 then decide (c=1) else if m=1 then decide (c=0) else if m=2 then decide (c≠0) else decide (c≠1)
section
def Pt.vars (p:Pt):List Int:=if p.kd=2 then p.of.vars else [p.v]
def Pt.ty (l:List Vb) (p:Pt):Bool:=if p.kd=0 then aK l p.v 1 else if p.kd=1 then aK l p.v 2 else p.of.ty l
theorem T.vars_iff {v:Int}:∀ {t:T},v∈t.vars↔∃p∈t.pts,v∈p.vars
 | .c _=>by simp[T.vars,T.pts]
 | .p n kd x b of r=>by simp[T.vars,T.pts,T.vars_iff (t:=r),Pt.vars]
theorem T.ty_iff {l:List Vb}:∀ {t:T},t.ty l=true↔∀p∈t.pts,p.ty l=true
 | .c _=>by simp[T.ty,T.pts]
 | .p n kd x b of r=>by simp[T.ty,T.pts,T.ty_iff (t:=r),Pt.ty]
theorem jk {a b:T} {v:Int} (h:v∈(aQ a b).vars):v∈a.vars\/v∈b.vars:=by
 obtain⟨p,d,e⟩:=T.vars_iff.1 h;rw[aQ,T.mk_pts] at d;exact kI (Q:=fun p=>v∈p.vars->v∈a.vars\/v∈b.vars) (fun p n h=>h) (fun p c h=>.inl (T.vars_iff.2 ⟨p,c,h⟩)) (fun p c h=>.inr (T.vars_iff.2 ⟨p,c,h⟩)) p d e
theorem fY {a:T} {k v:Int} (h:v∈(az a k).vars):v∈a.vars:=by
 unfold az at h
 split at h
 ·cases h
 obtain⟨p,b,c⟩:=T.vars_iff.1 h;rw[T.mk_pts] at b;obtain⟨q,d,rfl⟩:=eC b;exact T.vars_iff.2 ⟨q,d,c⟩
theorem rV {a:T} {k v:Int} (h:v∈(aZ a k).vars):v∈a.vars:=by
 unfold aZ at h
 split at h
 ·exact h
 split at h
 ·cases h
 simpa [T.mk,T.vars] using h
theorem mH {l:List Vb} {a b:T} (c:a.ty l=true) (d:b.ty l=true):(aQ a b).ty l=true:=by
 rw[T.ty_iff] at*;rw[aQ,T.mk_pts];exact kI (Q:=fun p=>p.ty l=true) (fun p n h=>h) c d
theorem jC {l:List Vb} {a:T} {k:Int} (c:a.ty l=true):(az a k).ty l=true:=by
 unfold az
 split
 ·rfl
 rw[T.ty_iff] at*;rw[T.mk_pts];intro p d;obtain⟨q,b,rfl⟩:=eC d;exact c q b
theorem wG {l:List Vb} {a:T} {k:Int} (b:a.ty l=true):(aZ a k).ty l=true:=by
 unfold aZ
 split
 ·exact b
 split
 ·rfl
 simpa [T.mk,T.ty] using b
theorem oF {Q:T->Prop} (j:∀k,Q (.c k)) (d:∀a b,Q a->Q b->Q (aQ a b)) (f:∀a k,Q a->Q (az a k)) (i:∀a k,Q a->Q (aZ a k)) {o:Int} {a b t:T} (e:Q a) (g:Q b) (h:eF o a b=(t,0)):Q t:=by
 unfold eF at h
 split at h
 ·obtain⟨rfl,_⟩:=bE h;exact d _ _ e g
 split at h
 ·split at h
  ·obtain⟨rfl,_⟩:=bE h;exact d _ _ e (f _ _ g)
  simp at h
 split at h
 ·split at h
  ·obtain⟨rfl,_⟩:=bE h;exact f _ _ g
  split at h
  ·obtain⟨rfl,_⟩:=bE h;exact f _ _ e
  simp at h
 split at h
 ·split at h
  ·split at h
   ·injection h with h _;subst h;exact i _ _ e
   split at h
   ·obtain⟨rfl,_⟩:=bE h;exact d _ _ e (f _ _ (i _ _ e))
   simp at h
  simp at h
 simp at h
theorem fz {l:List Vb}:∀ {e:E} {t:T},e.int l=true->e.null=false->ofE e=(t,0)->(∀v∈t.vars,v∈ah e)/\t.ty l=true
 | .z o i u,t,d,hn,h=>by
   unfold ofE at h;unfold E.int at d
   split at h
   ·obtain⟨rfl,D⟩:=bE h;exact⟨(fun v d=>by cases d),rfl⟩
   rename_i m;injection h with h _;subst h;rw[if_neg m] at d
   split at d
   ·rename_i g;simp[T.vars,ah,g,T.ty,d]
   cases d
 | .a o i u x,t,d,hn,h=>by
   unfold ofE at h;unfold E.int at d
   split at h
   ·rw[if_pos ‹_›] at d;cases x with
    | z p j w=>
     replace h:(if p=1 then ((T.c (w.s.size:Int),0):T×Int) else (T.p 1 1 j 0 (.c 0) (.c 0),0))=(t,0):=h;have n:(E.z p j w).text l=true:=by
      simp only[E.null,Bool.or_eq_false_iff] at hn;simp only[Bool.or_eq_true,Bool.and_eq_true,decide_eq_true_eq] at d;rcases d with d | ⟨m,g,_⟩
      ·exact d.1
      have:=hn.2;simp[m,g] at this
     by_cases A:p=1
     ·rw[if_pos A] at h;injection h with h _;subst h;exact⟨(fun v d=>by cases d),rfl⟩
     rw[if_neg A] at h;injection h with h _;subst h;replace n:(if p=2 then aK l j 2 else decide (p=1) && decide (w.k=2))=true:=n
     split at n
     ·rename_i g;simp[T.vars,ah,g,T.ty,n]
     simp only[Bool.and_eq_true,decide_eq_true_eq] at n;exact absurd n.1 A
    | a _ _ _ _=>cases d
    | b _ _ _ _ _=>cases d
    | many _ _ _=>cases d
   rw[if_neg ‹_›] at d
   split at d
   ·split at h
    ·obtain⟨m,g⟩:=fz (l:=l) (e:=x) (t:=(ofE x).1) d (by simp only[E.null,Bool.or_eq_false_iff] at hn;exact hn.2) (by rw[<- ‹(ofE x).2=0›]);obtain⟨rfl,D⟩:=bE h;exact⟨fun v d=>by simp only[ah,CX];exact .inr (m v (fY d)),jC g⟩
    injection h with _ h;exact absurd h ‹_›
   cases d
 | .b o i u x y,t,d,hn,h=>by
   unfold ofE at h;unfold E.int at d;simp only[E.null,Bool.or_eq_false_iff] at hn
   split at d
   ·simp only[Bool.and_eq_true] at d
    split at h
    ·split at h
     ·obtain⟨m,g⟩:=fz (l:=l) (e:=x) (t:=(ofE x).1) d.1 hn.1.2 (by rw[<- ‹(ofE x).2=0›]);obtain⟨B,C⟩:=fz (l:=l) (e:=y) (t:=(ofE y).1) d.2 hn.2 (by rw[<- ‹(ofE y).2=0›]);constructor
      ·intro v d;have:=oF (Q:=fun t=>∀v∈t.vars,v∈ah x\/v∈ah y) (fun k v h=>by cases h) (fun a b f q v d=>by rcases jk d with d | d;exact f v d;exact q v d)
        (fun a k f v d=>f v (fY d)) (fun a k f v d=>f v (rV d)) (fun v d=>.inl (m v d)) (fun v d=>.inr (B v d)) h v d
       simp only[ah,CX];exact .inr this
      exact oF (Q:=fun t=>t.ty l=true) (fun k=>rfl) (fun a b f q=>mH f q) (fun a k f=>jC f) (fun a k f=>wG f) g C h
     injection h with _ h;exact absurd h ‹_›
    injection h with _ h;exact absurd h ‹_›
   cases d
 | .many ..,t,d,hn,h=>by cases d
section
variable {r:List Vl} {l:List Vb}
theorem eR:∀ {e:E},(e.int l=true\/e.text l=true)->e.null=false->nnE r e=(ah e).all (fun v=>decide ((rv r v).k≠0))
 | .z o i v,h,hn=>by
   unfold nnE ah;by_cases d:o=1
   ·subst d;simp
   have f:o=2:=by
    rcases h with h | h
    ·unfold E.int at h;rw[if_neg d] at h
     split at h
     ·assumption
     cases h
    replace h:(if o=2 then aK l i 2 else decide (o=1) && decide (v.k=2))=true:=h
    split at h
    ·assumption
    simp[d] at h
   subst f;by_cases m:((r[i.toNat]?).getD em).k=0<;>simp[rv,m]
 | .a o i v x,h,hn=>by
   have c:(E.a o i v x).int l=true:=by
    rcases h with h | h
    ·exact h
    cases h
   unfold E.int at c;simp only[E.null,Bool.or_eq_false_iff] at hn
   split at c
   ·rename_i ho;subst ho;cases x with
    | z p j w=>
     have n:(E.z p j w).text l=true:=by
      have f:=hn.2;simp only[Bool.or_eq_true,Bool.and_eq_true,decide_eq_true_eq] at c;rcases c with c | ⟨d,g,_⟩
      ·exact c.1
      simp[E.null,d,g] at f
     show nnE r (.z p j w)=_;rw[eR (.inr n) hn.2];simp[ah]
    | a _ _ _ _=>cases c
    | b _ _ _ _ _=>cases c
    | many _ _ _=>cases c
   split at c
   ·rename_i g;subst g;show nnE r x=_;rw[eR (.inl c) hn.2];simp[ah]
   cases c
 | .b o i v x y,h,hn=>by
   have c:(E.b o i v x y).int l=true:=by
    rcases h with h | h
    ·exact h
    cases h
   unfold E.int at c;simp only[E.null,Bool.or_eq_false_iff] at hn
   split at c
   ·rename_i ho;simp only[Bool.and_eq_true] at c;show (nnE r x && nnE r y)=_;rw[eR (.inl c.1) hn.1.2,eR (.inl c.2) hn.2];have:o≠2:=by omega
    simp[ah,this]
   cases c
 | .many ..,h,hn=>by rcases h with h | h<;>cases h
theorem jH (f:bD r l):∀ {e:E},e.int l=true->bC e=true->dvE r e/\(e.null=true->(evE r e).k=0)/\(e.null=false->(ofE e).2=0)
 | .z o i v,hv,hf=>by
   cases c:(E.z o i v).null with
   | false=>
    simp only[bC,c,Bool.false_or,decide_eq_true_eq] at hf;exact⟨(iA f hv c (t:=(ofE (.z o i v)).1) (by rw[<-hf])).1,(fun h=>by cases h),fun _=>hf⟩
   | true=>
    simp only[E.null,Bool.and_eq_true,decide_eq_true_eq] at c;refine⟨.inl c.1,fun _=>?_,(fun h=>by cases h)⟩;simp[evE,c.1,c.2]
 | .a o i v x,hv,hf=>by
   cases c:(E.a o i v x).null with
   | false=>
    simp only[bC,c,EW,if_false,decide_eq_true_eq] at hf;exact⟨(iA f hv c (t:=(ofE (.a o i v x)).1) (by rw[<-hf])).1,(fun h=>by cases h),fun _=>hf⟩
   | true=>
    simp only[bC,c,if_true,Bool.and_eq_true,Bool.or_eq_true,decide_eq_true_eq] at hf;unfold E.int at hv
    split at hv
    ·rename_i ho;subst ho;cases x with
     | z p j w=>
      simp only[E.null,show (9:Int)≠1 by decide,decide_false,Bool.false_and,Bool.false_or,Bool.and_eq_true,decide_eq_true_eq] at c;refine⟨⟨.inr rfl,.inl c.1⟩,fun _=>?_,(fun h=>by cases h)⟩;simp[evE,c.1,c.2,em]
     | a _ _ _ _=>cases hv
     | b _ _ _ _ _=>cases hv
     | many _ _ _=>cases hv
    split at hv
    ·rename_i h3;subst h3;have d:bC x=true:=by simpa using hf.2
     obtain⟨m,n,B⟩:=jH f hv d;have A:x.null=true:=by simpa [E.null] using c
     refine⟨⟨.inl rfl,m⟩,fun _=>?_,(fun h=>by cases h)⟩;simp[evE,n A,em]
    cases hv
 | .b o i v x y,hv,hf=>by
   cases c:(E.b o i v x y).null with
   | false=>
    simp only[bC,c,EW,if_false,decide_eq_true_eq] at hf;exact⟨(iA f hv c (t:=(ofE (.b o i v x y)).1) (by rw[<-hf])).1,(fun h=>by cases h),fun _=>hf⟩
   | true=>
    simp only[bC,c,if_true,Bool.and_eq_true,Bool.or_eq_true,decide_eq_true_eq] at hf;unfold E.int at hv
    split at hv
    ·rename_i ho;simp only[Bool.and_eq_true] at hv;have u:o≠9:=by omega
     have s:o≠1:=by omega
     obtain⟨⟨q,g⟩,d⟩:=hf;simp only[u,false_or] at g d;have C:¬(o=6\/o=7\/o=8):=by simpa using q
     obtain⟨m,n,B⟩:=jH f hv.1 g;obtain⟨D,F,H⟩:=jH f hv.2 d;simp only[E.null,s,decide_false,Bool.false_and,Bool.false_or,Bool.or_eq_true] at c;refine⟨⟨ho,m,D,fun h=>by omega⟩,fun _=>?_,(fun h=>by cases h)⟩;unfold evE
     split
     ·rfl
     rename_i A;rcases c with c | c
     ·exact absurd (n c) A
     rw[if_pos (F c)];rfl
    cases hv
 | .many ..,hv,hf=>by cases hv
structure Opd (r:List Vl) (l:List Vb) (e:E):Prop where
 dv:dvE r e
 nul:e.null=true->(evE r e).k=0
 one:e.null=false->e.text l=true->e.leaf=true/\(e.op=1/\evE r e=e.lit/\e.lit.k=2\/e.op=2/\aK l e.ix 2=true/\evE r e=rv r e.ix)
 int_:e.null=false->e.text l=false->e.int l=true/\(ofE e).2=0
 tx:e.text l=true->vOk (evE r e)=true/\((evE r e).k=0\/(evE r e).k=2)
 cols:e.null=false->((evE r e).k=0↔∃v∈ah e,(rv r v).k=0)
 ran:∀v∈ah e,inV l v
theorem cn {v kd:Int} (h:aK l v kd=true):inV l v:=by
 obtain⟨a,x,b,_⟩:=cM h;have:=(CV.1 b).1;exact⟨a,by omega⟩
theorem im:∀ {e:E},e.int l=true->∀v∈ah e,inV l v
 | .z o i v,c,u,d=>by
   unfold ah at d
   split at d
   ·rename_i h2;unfold E.int at c;rw[if_neg (by omega),if_pos h2] at c;obtain rfl:u=i:=by simpa using d
    exact cn c
   cases d
 | .a o i v x,c,u,d=>by
   unfold E.int at c
   split at c
   ·rename_i ho;subst ho;cases x with
    | z p j w=>
     simp only[ah,show (9:Int)≠2 by decide,if_false,Dm] at d
     split at d
     ·rename_i h2;subst h2;obtain rfl:u=j:=by simpa using d
      simp only[Bool.or_eq_true,Bool.and_eq_true,decide_eq_true_eq] at c;rcases c with c | c
      ·exact cn (kd:=2) (by simpa [E.text] using c.1)
      omega
     cases d
    | a _ _ _ _=>cases c
    | b _ _ _ _ _=>cases c
    | many _ _ _=>cases c
   split at c
   ·rename_i h3;subst h3;exact im c u (by simpa [ah] using d)
   cases c
 | .b o i v x y,c,u,d=>by
   unfold E.int at c
   split at c
   ·rename_i ho;have:o≠2:=by omega
    simp only[Bool.and_eq_true] at c;simp only[ah,this,if_false,Dm,CX] at d;rcases d with d | d
    ·exact im c.1 u d
    exact im c.2 u d
   cases c
 | .many ..,c,u,d=>by cases c
theorem dt (y:bD r l) {e:E} (h:bT l e=true):Opd r l e:=by
 unfold bT at h;by_cases p:e.text l=true
 ·rw[if_pos (by rw[p];simp)] at h;cases e with
  | z o i v=>
   have f:(if o=2 then aK l i 2 else decide (o=1) && decide (v.k=2))=true:=p;by_cases s:o=2
   ·subst s;rw[if_pos rfl] at f;obtain⟨F,H,u,A,J,K⟩:=eh y f;have c:evE r (.z 2 i v)=u:=by simp[evE,A]
    have q:rv r i=u:=by simp[rv,A]
    refine⟨.inr ⟨rfl,F,H⟩,(fun d=>by simp[E.null] at d),fun _ _=>⟨rfl,.inr ⟨rfl,f,(by rw[c];exact q.symm)⟩⟩,(fun _ h=>by rw[p] at h;cases h),(fun _=>by rw[c];exact⟨J,K⟩),fun _=>?_,fun v m=>?_⟩
    ·rw[c];simp[ah,q]
    simp[ah] at m;rw[m];exact cn f
   rw[if_neg s] at f;simp only[Bool.and_eq_true,decide_eq_true_eq] at f;obtain⟨rfl,j⟩:=f;have c:evE r (.z 1 i v)=v:=by simp[evE]
   have w:vOk v=true:=by simpa [E.op,E.lit] using h
   refine⟨.inl rfl,(fun d=>by simp[E.null,j] at d),fun _ _=>⟨rfl,.inl ⟨rfl,c,j⟩⟩,(fun _ h=>by rw[p] at h;cases h),(fun _=>by rw[c];exact⟨w,.inr j⟩),fun _=>?_,fun v m=>?_⟩
   ·rw[c];simp[ah,j]
   simp[ah] at m
  | a _ _ _ _=>cases p
  | b _ _ _ _ _=>cases p
  | many _ _ _=>cases p
 have n:e.text l=false:=by simpa using p
 by_cases g:e.nl=true
 ·cases e with
  | z o i v=>
   simp only[E.nl,Bool.and_eq_true,decide_eq_true_eq] at g;obtain⟨rfl,j⟩:=g;refine⟨.inl rfl,(fun _=>by simp[evE,j]),(fun d=>by simp[E.null,j] at d),(fun d=>by simp[E.null,j] at d),(fun h=>by rw[n] at h;cases h),(fun d=>by simp[E.null,j] at d),(fun v m=>by simp[ah] at m)⟩
  | a _ _ _ _=>cases g
  | b _ _ _ _ _=>cases g
  | many _ _ _=>cases g
 rw[if_neg (by simp[n,g])] at h;simp only[Bool.and_eq_true] at h;obtain⟨L,s,D⟩:=jH y h.1 h.2;refine⟨L,s,(fun _ h=>by rw[n] at h;cases h),fun d _=>⟨h.1,D d⟩,(fun h=>by rw[n] at h;cases h),fun d=>?_,im h.1⟩;obtain⟨_,B,C⟩:=iA y h.1 d (t:=(ofE e).1) (by rw[<-D d]);rw[eR (.inl h.1) d] at B C;constructor
 ·intro j;cases x:(ah e).all (fun v=>decide ((rv r v).k≠0)) with
  | true=>have:=(C x).1;omega
  | false=>
   rw[List.all_eq_false] at x;obtain⟨v,m,M⟩:=x;exact⟨v,m,by simpa using M⟩
 rintro⟨v,m,j⟩;refine B (List.all_eq_false.2 ⟨v,m,by simpa using j⟩)
end
end
end Go.Proofs.YtldmkbhgdbafhaaGreat
