import Derived.Test.YtldmkbhgdbafhaaGreatL05
namespace Go.Proofs.YtldmkbhgdbafhaaGreat
open Go.RowKit
set_option linter.unusedSimpArgs false
set_option linter.unusedVariables false
set_option maxRecDepth 100000
set_option maxHeartbeats 64000000
section
def gQ (fi:Int->Int) (n:Nat) (a:List Int) (v:Int):Int:=if v<(n:Int) then fi v else (a[(v - n).toNat]?).getD 0
def dN (fi:Int->Int) (n:Nat) (a:List Int) (f:Lin):Int:=f.k+dot (gQ fi n a) f.cs
def gH (fi ft:Int->Int) (n:Nat) (a:List Int) (x:Ax):List Int:=a++[if x.b=0 then ft x.x else dN fi n a x.of/x.b]
def axV (fi ft:Int->Int) (n:Nat) (xs:List Ax):List Int:=xs.foldl (gH fi ft n) []
def dR (n:Nat) (a:List Nat) (v:Int):Nat:=if v<(n:Int) then 2147483648 else (a[(v - n).toNat]?).getD 0
def lbd (n:Nat) (a:List Nat) (f:Lin):Nat:=f.k.natAbs+cI (dR n a) f.cs
def axB (n:Nat) (a:List Nat) (x:Ax):Nat:=if x.b=0 then 16 else lbd n a x.of/x.b.toNat+1
def bV (n:Nat) (xs:List Ax):List Nat:=xs.foldl (fun a x=>a++[axB n a x]) []
section
variable {n:Nat} {l:List Vb} {ks:List Pt} {xs:List Ax} {fi ft:Int->Int}
theorem sr {p:Pt} (d:je ks p) (a:fL n p):gQ fi n (ks.map (Pt.val fi ft)) (num n ks p)=p.val fi ft:=by
 unfold gQ num;by_cases h:p.kd=0
 ·rw[if_pos h,if_pos (a h).2];unfold Pt.val;rw[if_pos h]
 obtain⟨q,b,c,_⟩:=fZ (d.resolve_left h);rw[if_neg h,if_neg (by omega),show ((n:Int)+(idxK ks p:Nat) - n).toNat=idxK ks p by omega,De,b];exact sq c
theorem lA {t:T} (d:dS ks t) (e:∀p∈t.pts,fL n p):dN fi n (ks.map (Pt.val fi ft)) (eo n ks t)=t.val fi ft:=by
 unfold dN eo;rw[rX,T.val_eq]
 congr 1
 unfold eQ;have:∀l:List Pt,(∀p∈l,je ks p)->(∀p∈l,fL n p)->dot (gQ fi n (ks.map (Pt.val fi ft))) (l.map (fun p=>(num n ks p,p.n)))=vl fi ft l:=by
  intro l
  induction l with
  | nil=>intro _ _;rfl
  | cons p l ih=>
   intro b c;simp only[D1,dot,vl];rw[ih (fun q a=>b q (by simp[a])) (fun q a=>c q (by simp[a])),sr (b p (by simp)) (c p (by simp))]
 exact this t.pts d e
theorem sX {p:Pt} (h:js n l p):∀q∈p.of.pts,fL n q:=fun q a=>jQ h.len (T.ty_iff.1 (nv h.ok h.ty) q a)
theorem Inv.take (h:Inv n l ks xs) (i:Nat):Inv n l (ks.take i) (xs.take i):=by
 refine⟨by rw[CY,CY,h.len],fun j p a=>?_,h.dis.sublist (List.take_sublist i ks)⟩;rw[Dx] at a
 split at a
 ·rename_i hj;obtain⟨b,c,d⟩:=h.key j p a;rw[Eu,Es (by omega),Dx,if_pos hj];exact⟨b,c,d⟩
 cases a
theorem qT {β:Type} {g:List β->Ax->List β} {f:Pt->β} (d:∀(i:Nat) (p:Pt),ks[i]? =some p->g ((ks.take i).map f) (axK n (ks.take i) p)=(ks.take (i+1)).map f) (h:Inv n l ks xs):xs.foldl g []=ks.map f:=by
 have a:∀i,i<=ks.length->(xs.take i).foldl g []=(ks.take i).map f:=by
  intro i
  induction i with
  | zero=>intro _;rfl
  | succ i ih=>
   intro k;have b:ks[i]? =some ks[i]:=CT (by omega);obtain⟨e,j,c⟩:=h.key i _ b;rw[Dq,c,List.foldl_append,ih (by omega)];exact d i _ b
 have:=a ks.length (C9 _);rwa [List.take_length,<-h.len,List.take_length] at this
theorem kV {β:Type} {f:Pt->β} {i:Nat} {p:Pt} (a:ks[i]? =some p):(ks.take (i+1)).map f=(ks.take i).map f++[f p]:=by
 rw[Dq,a,DX];rfl
theorem yC (h:Inv n l ks xs):axV fi ft n xs=ks.map (Pt.val fi ft):=by
 unfold axV;refine qT (l:=l) (fun i p d=>?_) h;obtain⟨a,e,f⟩:=h.key i p d;rw[kV d];rcases a.ok with c | c
 ·have b:p.kd=1:=by have:=a.nz;omega
  rw[mE b];unfold gH;rw[if_pos rfl];unfold Pt.val;rw[if_neg a.nz,if_pos b]
 rw[mF c.1];unfold gH;dsimp only;rw[if_neg (by omega),lA e (sX a)];unfold Pt.val;rw[if_neg (by omega),if_neg (by omega)]
theorem uw {p:Pt} (g:je ks p) (a:fL n p):dR n (ks.map Pt.B) (num n ks p)=p.B:=by
 unfold dR num;by_cases h:p.kd=0
 ·rw[if_pos h,if_pos (a h).2];unfold Pt.B;rw[if_pos h]
 obtain⟨q,e,f,_⟩:=fZ (g.resolve_left h);rw[if_neg h,if_neg (by omega),show ((n:Int)+(idxK ks p:Nat) - n).toNat=idxK ks p by omega,De,e];obtain⟨b,i,c,d⟩:=fb.1 f;show q.B=p.B;unfold Pt.B;rw[b,c,d]
theorem nK {t:T} (f:dS ks t) (g:∀p∈t.pts,fL n p) (j:Srt t.pts) (i:t.ok):lbd n (ks.map Pt.B) (eo n ks t)=t.B:=by
 unfold lbd eo;rw[T.B_eq];have c:=ia j i f g;have h:∀e,e∈aO (eQ n ks t)↔e∈eQ n ks t:=fun e=>gc c (jB i);have a:cI (dR n (ks.map Pt.B)) (aO (eQ n ks t))=cI (dR n (ks.map Pt.B)) (eQ n ks t):=
  Nat.le_antisymm (kr (ji _).dis h c) (kr c (fun e=>(h e).symm) (ji _).dis)
 have:∀l:List Pt,(∀p∈l,je ks p)->(∀p∈l,fL n p)->cI (dR n (ks.map Pt.B)) (l.map (fun p=>(num n ks p,p.n)))=Bl l:=by
  intro l
  induction l with
  | nil=>intro _ _;rfl
  | cons p l ih=>
   intro a b;simp only[D1,cI,Bl];rw[ih (fun q d=>a q (by simp[d])) (fun q d=>b q (by simp[d])),uw (a p (by simp)) (b p (by simp))]
 have b:=this t.pts f g;dsimp only;rw[a];exact congrArg (fun x=>t.con.natAbs+x) b
theorem ri (h:Inv n l ks xs):bV n xs=ks.map Pt.B:=by
 unfold bV;refine qT (l:=l) (fun i p d=>?_) h;obtain⟨a,e,f⟩:=h.key i p d;rw[kV d];rcases a.ok with b | b
 ·have c:p.kd=1:=by have:=a.nz;omega
  rw[mE c];unfold axB;rw[if_pos rfl];unfold Pt.B;rw[if_neg a.nz,if_pos c]
 rw[mF b.1];unfold axB;dsimp only;rw[if_neg (by omega),nK e (sX a) b.2.2.2.2.2.2.2 b.2.2.2.2.2.1];unfold Pt.B;rw[if_neg (by omega),if_neg (by omega)]
structure dw (l:List Vb) (nn:List Int) (bs:List Nat) (f:Lin):Prop where
 k:f.k.natAbs<=1099511627777
 asc:kR f.cs
 co:∀e∈f.cs,e.2≠0/\e.2.natAbs<=1048576/\0<=e.1/\e.1<(l.length:Int)+(bs.length:Int)/\(e.1<(l.length:Int)->aK l e.1 1=true/\e.1∈nn)
 bd:lbd l.length bs f<=1152921504606846977
theorem tE {t:T} {nn:List Int} (j:n=l.length) (g:dS ks t) (a:Nm t) (d:t.ty l=true) (u:∀v∈t.vars,v∈nn):dw l nn (ks.map Pt.B) (eo n ks t)/\(eo n ks t).k=t.con/\lbd n (ks.map Pt.B) (eo n ks t)<=1152921504606846976:=by
 have i:∀p∈t.pts,fL n p:=fun p b=>jQ j (T.ty_iff.1 d p b);have o:=ia a.2.2 a.1 g i;have w:=nK g i a.2.2 a.1;have f:=a.2.1;subst j;refine⟨⟨by show t.con.natAbs<=_;have:=f.1;omega,ji _,fun e r=>?_,by have:=f.2.2;omega⟩,rfl,by have:=f.2.2;omega⟩;have s:=(gc o (jB a.1)).1 r;obtain⟨p,b,rfl⟩:=Dt.1 s;refine⟨(T.ok_iff.1 a.1 p b).1,f.2.1 p b,?_⟩;unfold num;by_cases c:p.kd=0
 ·rw[if_pos c];have:=i p b c;dsimp only;refine⟨this.1,by omega,fun _=>⟨?_,u _ (T.vars_iff.2 ⟨p,b,by unfold Pt.vars;rw[if_neg (by omega)];simp⟩)⟩⟩;have a:=T.ty_iff.1 d p b;unfold Pt.ty at a;rwa [if_pos c] at a
 rw[if_neg c];obtain⟨q,m,_⟩:=fZ ((g p b).resolve_left c);have:=(CV.1 m).1;dsimp only;rw[Df];exact⟨by omega,by omega,fun h=>by omega⟩
end
def txU (l:List Vb) (nn:List Int) (v:Int):Prop:=aK l v 2=true/\v∈nn
structure Cla.Ok (l:List Vb) (c:Cla):Prop where
 nul:Asc c.nul/\∀v∈c.nul,inV l v
 nn:Asc c.nn/\∀v∈c.nn,inV l v
 ax:∀i x,c.ax[i]? =some x->(x.b=0/\x.of=⟨0,[]⟩/\txU l c.nn x.x)\/(1<=x.b/\x.b<=1000/\x.x=0/\dw l c.nn (bV l.length (c.ax.take i)) x.of)
 is:∀e∈c.is,dw l c.nn (bV l.length c.ax) e.1
 ts:∀t∈c.ts,0<=t.kd/\t.kd<=3/\iQ t.s=true/\txU l c.nn t.v
 sm:∀e∈c.sm,e.1<e.2/\txU l c.nn e.1/\txU l c.nn e.2
 df:∀e∈c.df,e.1<e.2/\txU l c.nn e.1/\txU l c.nn e.2
def ep (v:Int) (a:Bool):Bool:=decide (v<=0) && (!a || decide (v=0))
def Cla.holds (r:List Vl) (n:Nat) (c:Cla):Bool:=
 c.nul.all (fun v=>decide ((rv r v).k=0)) && c.nn.all (fun v=>decide ((rv r v).k≠0)) &&
 c.is.all (fun e=>ep (dN (fiR r) n (axV (fiR r) (ftR r) n c.ax) e.1) e.2) &&
 c.ts.all (fun t=>decide ((rv r t.v).k=2) && t.pass (rv r t.v).s) &&
 c.sm.all (fun e=>decide ((rv r e.1).k=2) && decide (rv r e.1=rv r e.2)) &&
 c.df.all (fun e=>decide ((rv r e.1).k=2) && (decide ((rv r e.2).k=2) && decide ((rv r e.1).s≠(rv r e.2).s)))
def kN (x:Lt):List Int:=if x.a.kd=0 then [x.a.v] else []
def isT (x:Lt):Prop:=x.a.kd=2\/x.a.kd=3\/x.a.kd=4
instance (x:Lt):Decidable (isT x):=by unfold isT;infer_instance
def nnL (x:Lt):List Int:=if x.a.kd=0 then [] else if isT x then sc x.a.t.vars else if x.a.kd=6\/x.a.kd=7 then [x.a.v,x.a.o] else [x.a.v]
def isL (n:Nat) (ks:List Pt) (x:Lt):List (Lin×Bool):=if isT x then [eV x.a.kd x.up (eo n ks x.a.t)] else []
def tsL (x:Lt):List Ts:=if x.a.kd=5 then [⟨x.a.v,x.a.te.kd,x.a.te.ng,x.a.te.s⟩] else []
def smL (x:Lt):List (Int×Int):=if x.a.kd=6 then [(x.a.v,x.a.o)] else []
def dfL (x:Lt):List (Int×Int):=if x.a.kd=7 then [(x.a.v,x.a.o)] else []
structure uM (n:Nat) (l:List Vb) (as:List Lt) (ks:List Pt) (c:Cla):Prop where
 inv:Inv n l ks c.ax
 all:∀x∈as,isT x->dS ks x.a.t
 keys:∀p∈ks,∀v∈p.vars,∃x∈as,isT x/\v∈x.a.t.vars
 nul:c.nul=as.flatMap kN
 nn:c.nn=as.flatMap nnL
 is:c.is=as.flatMap (isL n ks)
 ts:c.ts=as.flatMap tsL
 sm:c.sm=as.flatMap smL
 df:c.df=as.flatMap dfL
section
variable {n:Nat} {l:List Vb} {r:List Vl}
theorem bJ {α β:Type} (f:α->List β) (a:List α) (x:α):(a++[x]).flatMap f=a.flatMap f++f x:=by simp
theorem yG (N:n=l.length) {j:List Lt} {ks:List Pt} {c:Cla} {x:Lt} (h:uM n l j ks c) (f:x.a.ok l):∃D,uM n l (j++[x]) D (aP n c x):=by
 by_cases g:isT x
 ·have q:Nm x.a.t/\x.a.t.ty l=true:=by
   unfold isT at g;rcases f with f | f | f | f
   ·omega
   ·exact⟨f.2.2.2.2.1,f.2.2.2.2.2⟩
   ·omega
   omega
  obtain⟨o,F,H,J,u⟩:=pH N x.a.t (xs:=c.ax) (s:=[]) h.inv q.1.1 q.2;have L:bj n x.a.t c.ax=((frm n x.a.t c.ax []).1,eo n (ks++o) x.a.t):=by unfold bj eo;rw[H];rfl
  have b:x.a.kd≠0/\x.a.kd≠5/\x.a.kd≠6/\x.a.kd≠7:=by unfold isT at g;omega
  have K:aP n c x= { c with nn:=c.nn++sc x.a.t.vars,ax:=(frm n x.a.t c.ax []).1,is:=c.is++[eV x.a.kd x.up (eo n (ks++o) x.a.t)] }:=by
   unfold aP;rw[if_neg b.1,if_pos (show x.a.kd=2\/x.a.kd=3\/x.a.kd=4 from g),L]
  rw[K];refine⟨ks++o,F,fun y d i=>?_,fun p m v r=>?_,?_,?_,?_,?_,?_,?_⟩
  ·rcases CX.1 d with d | d
   ·exact(h.all y d i).app o
   rw[CZ.1 d];exact J
  ·rcases CX.1 m with m | m
   ·obtain⟨y,w,z,A⟩:=h.keys p m v r;exact⟨y,CX.2 (.inl w),z,A⟩
   exact⟨x,by simp,g,u p m v r⟩
  ·rw[bJ,<-h.nul];simp[kN,b]
  ·rw[bJ,<-h.nn];simp[nnL,b,g]
  ·rw[bJ,h.is];have e:j.flatMap (isL n ks)=j.flatMap (isL n (ks++o)):=by
    rw[List.flatMap_def,List.flatMap_def]
    congr 1
    refine List.map_congr_left (fun y d=>?_);unfold isL
    split
    ·rw[nJ (h.all y d ‹_›)]
    rfl
   rw[e];have:isL n (ks++o) x=[eV x.a.kd x.up (eo n (ks++o) x.a.t)]:=by unfold isL;rw[if_pos g]
   rw[this]
  ·rw[bJ,<-h.ts];simp[tsL,b]
  ·rw[bJ,<-h.sm];simp[smL,b]
  rw[bJ,<-h.df];simp[dfL,b]
 have M:∀y∈j++[x],isT y->dS ks y.a.t:=fun y d i=>by
  rcases CX.1 d with d | d
  ·exact h.all y d i
  rw[CZ.1 d] at i;exact absurd i g
 have k:∀p∈ks,∀v∈p.vars,∃y∈j++[x],isT y/\v∈y.a.t.vars:=fun p m v r=>by
  obtain⟨y,w,z,A⟩:=h.keys p m v r;exact⟨y,CX.2 (.inl w),z,A⟩
 have E:c.is=(j++[x]).flatMap (isL n ks):=by rw[bJ,<-h.is];simp[isL,g]
 have C:x.a.kd=0\/x.a.kd=1\/x.a.kd=5\/x.a.kd=6\/x.a.kd=7:=by
  unfold isT at g;rcases f with f | f | f | f<;>omega
 have B:¬(x.a.kd=2\/x.a.kd=3\/x.a.kd=4):=g;refine⟨ks,?_⟩;unfold aP;rw[if_neg B];rcases C with b | b | b | b | b
 all_goals
  simp only[b,show (0:Int)≠1 by decide,show (1:Int)≠0 by decide,show (5:Int)≠0 by decide,show (6:Int)≠0 by decide,show (7:Int)≠0 by decide,show (1:Int)≠5 by decide,show (6:Int)≠5 by decide,show (7:Int)≠5 by decide,
   show (1:Int)≠6 by decide,show (7:Int)≠6 by decide,show (1:Int)≠7 by decide,if_true,if_false]
  refine⟨h.inv,M,k,?_,?_,E,?_,?_,?_⟩
  ·rw[bJ,<-h.nul];simp[kN,b]
  ·rw[bJ,<-h.nn];simp[nnL,b,g]
  ·rw[bJ,<-h.ts];simp[tsL,b]
  ·rw[bJ,<-h.sm];simp[smL,b]
  rw[bJ,<-h.df];simp[dfL,b]
theorem qS (e:n=l.length):∀(d b:List Lt) {ks:List Pt} {c:Cla},uM n l b ks c->(∀x∈d,x.a.ok l)->∃ks',uM n l (b++d) ks' (d.foldl (aP n) c)
 | [],b,ks,c,h,_=>⟨ks,by rw[DA];exact h⟩
 | x::d,b,ks,c,h,hx=>by
   obtain⟨k,f⟩:=yG e h (hx x (by simp));obtain⟨j,g⟩:=qS e d (b++[x]) f (fun y i=>hx y (by simp[i]));refine⟨j,?_⟩;rwa [Dd] at g
theorem rf (e:n=l.length) {b:List Lt} (h:∀x∈b,x.a.ok l):∃ks,uM n l b ks (b.foldl (aP n) cl0):=by
 have:=qS e b [] (ks:=[]) (c:=cl0) ⟨Inv.nil,(fun x d=>by cases d),(fun x d=>by cases d),rfl,rfl,rfl,rfl,rfl,rfl⟩ h;simpa using this
theorem wH {l:List Vb} {nn:List Int} {b:List Nat} {f:Lin} {kd:Int} {up:Bool} (h:dw l nn b f) (m:f.k.natAbs<=1099511627776) (d:lbd l.length b f<=1152921504606846976):dw l nn b (eV kd up f).1:=by
 have a:kR (fh f).cs/\(∀e∈(fh f).cs,e.2≠0/\e.2.natAbs<=1048576/\0<=e.1/\e.1<(l.length:Int)+(b.length:Int)/\(e.1<(l.length:Int)->aK l e.1 1=true/\e.1∈nn))/\∀g,cI g (fh f).cs=cI g f.cs:=by
  refine⟨?_,fun e i=>?_,fun g=>?_⟩
  ·unfold kR fh;rw[List.pairwise_map];exact h.asc
  ·unfold fh at i;obtain⟨c,j,rfl⟩:=Dt.1 i;have:=h.co c j;dsimp only;exact⟨by omega,by omega,this.2.2⟩
  unfold fh;dsimp only
  induction f.cs with
  | nil=>rfl
  | cons c cs ih=>simp only[D1,cI,ih,Int.natAbs_neg]
 unfold eV
 split
 ·exact h
 split
 ·cases up with
  | true=>
   simp only[if_true];refine⟨by show (-f.k+1).natAbs<=_;omega,a.1,a.2.1,?_⟩;show (-f.k+1).natAbs+cI _ (fh f).cs<=_;rw[a.2.2];unfold lbd at d;omega
  | false=>
   simp only[EW,if_false];refine⟨by show (f.k+1).natAbs<=_;omega,h.asc,h.co,?_⟩;show (f.k+1).natAbs+cI _ f.cs<=_;unfold lbd at d;omega
 exact h
theorem jc {x:Lt} (b:x.a.ok l) (c:isT x):Nm x.a.t/\x.a.t.ty l=true:=by
 unfold isT at c;rcases b with b | b | b | b
 ·omega
 ·exact⟨b.2.2.2.2.1,b.2.2.2.2.2⟩
 ·omega
 omega
theorem T.ty_vars {l:List Vb}:∀ {t:T},t.ok->t.ty l=true->∀v∈t.vars,inV l v
 | .c k,_,h,v,a=>by cases a
 | .p m kd u b of r,ho,h,v,a=>by
   simp only[T.ty,Bool.and_eq_true] at h;simp only[T.vars,CX] at a;obtain⟨n,d,i⟩:=ho;rcases a with a | a
   ·by_cases f:kd=2
    ·rw[if_pos f] at a;rw[if_neg (by omega),if_neg (by omega)] at h;have j:of.ok:=by
      rcases d with d | d
      ·omega
      exact d.2.2.2.2.2.1
     exact T.ty_vars j h.1 v a
    rw[if_neg f] at a;obtain rfl:v=u:=by simpa using a
    by_cases e:kd=0
    ·rw[if_pos e] at h;exact cn h.1
    rw[if_neg e] at h;have g:kd=1:=by rcases d with d | d<;>omega
    rw[if_pos g] at h;exact cn h.1
   exact T.ty_vars i h.2 v a
theorem yB (z:n=l.length) {A:List Lt} (h:∀x∈A,x.a.ok l):Cla.Ok l (gh n A):=by
 obtain⟨ks,m⟩:=rf z h;unfold gh;generalize A.foldl (aP n) cl0=c at m ⊢;have q:∀v,v∈sc c.nn↔∃x∈A,v∈nnL x:=fun v=>by rw[aG,m.nn,Ea]
 have s:∀x∈A,isT x->∀v∈x.a.t.vars,v∈sc c.nn:=fun x j g v d=>(q v).2 ⟨x,j,by
  unfold nnL;rw[if_neg (by unfold isT at g;omega),if_pos g,aG];exact d⟩
 have r:∀p∈ks,∀v∈p.vars,v∈sc c.nn:=fun p D v d=>by
  obtain⟨x,j,g,k⟩:=m.keys p D v d;exact s x j g v k
 have E:bV l.length c.ax=ks.map Pt.B:=by rw[<-z];exact ri m.inv
 refine⟨⟨dn _,fun v d=>?_⟩,⟨dn _,fun v d=>?_⟩,fun i x j=>?_,fun e f=>?_,fun t g=>?_,fun e f=>?_,fun e f=>?_⟩
 ·rw[aG,m.nul,Ea] at d;obtain⟨x,j,d⟩:=d;unfold kN at d
  split at d
  ·obtain rfl:v=x.a.v:=by simpa using d
   rcases h x j with h | h | h | h
   ·exact h.2.1
   ·omega
   ·omega
   omega
  cases d
 ·obtain⟨x,j,d⟩:=(q v).1 d;unfold nnL at d
  split at d
  ·cases d
  split at d
  ·rename_i g;obtain⟨k,C⟩:=jc (h x j) g;exact T.ty_vars k.1 C v (aG.1 d)
  rename_i h0 g;have J:x.a.kd≠0:=h0;unfold isT at g;rcases h x j with h | h | h | h
  ·rw[if_neg (by omega)] at d;obtain rfl:v=x.a.v:=by simpa using d
   exact h.2.1
  ·omega
  ·rw[if_neg (by omega)] at d;obtain rfl:v=x.a.v:=by simpa using d
   exact cn h.2.1
  rw[if_pos h.1] at d;simp only[Db,Dw,or_false] at d;rcases d with rfl | rfl
  ·exact cn h.2.1
  exact cn h.2.2.1
 ·dsimp only at j ⊢;have M:i<ks.length:=by rw[<-m.inv.len];exact(CV.1 j).1
  have D:=CT M;obtain⟨k,C,y⟩:=m.inv.key i _ D;have u:=CW D;generalize ks[i]=p at*;rw[j] at y;injection y with y;subst y;rcases k.ok with w | w
  ·have H:p.kd=1:=by have:=k.nz;omega
   rw[mE H];refine .inl ⟨rfl,rfl,?_,r p u p.v (by unfold Pt.vars;rw[if_neg (by omega)];simp)⟩;have g:=k.ty;unfold Pt.ty at g;rw[if_neg k.nz,if_pos H] at g;exact g
  rw[mF w.1];refine .inr ⟨by show 1<=p.b;omega,w.2.2.2.1,rfl,?_⟩;have L:bV l.length (c.ax.take i)=(ks.take i).map Pt.B:=by rw[<-z];exact ri (m.inv.take i)
  rw[L];exact(tE z C ⟨w.2.2.2.2.2.1,w.2.2.2.2.2.2.1,w.2.2.2.2.2.2.2⟩ (nv k.ok k.ty) (fun v d=>r p u v (by unfold Pt.vars;rw[if_pos w.1];exact d))).1
 ·dsimp only at f ⊢;rw[m.is,Ea] at f;obtain⟨x,j,f⟩:=f;unfold isL at f
  split at f
  ·rename_i g;rw[CZ.1 f,E];obtain⟨k,C⟩:=jc (h x j) g;obtain⟨y,K,F⟩:=tE z (m.all x j g) k C (s x j g);refine wH y (by rw[K];exact k.2.1.1) (by rw[<-z];exact F)
  cases f
 ·dsimp only at g ⊢;rw[m.ts,Ea] at g;obtain⟨x,j,g⟩:=g;unfold tsL at g
  split at g
  ·rename_i F;rw[CZ.1 g];rcases h x j with h | h | h | h
   ·omega
   ·omega
   ·exact⟨h.2.2.2.2.2.1,h.2.2.2.2.2.2.1,h.2.2.2.2.2.2.2,h.2.1,(q _).2 ⟨x,j,by unfold nnL;rw[if_neg (by omega),if_neg (show ¬isT x by unfold isT;omega),if_neg (by omega)];simp⟩⟩
   omega
  cases g
 ·dsimp only at f ⊢;rw[m.sm,Ea] at f;obtain⟨x,j,f⟩:=f;unfold smL at f
  split at f
  ·rename_i h6;rw[CZ.1 f];have u:∀v,(v=x.a.v\/v=x.a.o)->v∈sc c.nn:=fun v d=>(q _).2 ⟨x,j,by unfold nnL;rw[if_neg (by omega),if_neg (show ¬isT x by unfold isT;omega),if_pos (by omega)];simpa using d⟩;rcases h x j with h | h | h | h
   ·omega
   ·omega
   ·omega
   exact⟨h.2.2.2.1,⟨h.2.1,u _ (.inl rfl)⟩,⟨h.2.2.1,u _ (.inr rfl)⟩⟩
  cases f
 dsimp only at f ⊢;rw[m.df,Ea] at f;obtain⟨x,j,f⟩:=f;unfold dfL at f
 split at f
 ·rename_i h7;rw[CZ.1 f];have u:∀v,(v=x.a.v\/v=x.a.o)->v∈sc c.nn:=fun v d=>(q _).2 ⟨x,j,by unfold nnL;rw[if_neg (by omega),if_neg (show ¬isT x by unfold isT;omega),if_pos (by omega)];simpa using d⟩;rcases h x j with h | h | h | h
  ·omega
  ·omega
  ·omega
  exact⟨h.2.2.2.1,⟨h.2.1,u _ (.inl rfl)⟩,⟨h.2.2.1,u _ (.inr rfl)⟩⟩
 cases f
theorem uI {α β:Type} (f:α->List β) (p:β->Bool) (b:List α):(b.flatMap f).all p=b.all (fun x=>(f x).all p):=by
 induction b with
 | nil=>rfl
 | cons a b ih=>simp[List.flatMap_cons,List.all_append,ih]
theorem wU {α:Type} (p q:α->Bool) (b:List α):(b.all p && b.all q)=b.all (fun x=>p x && q x):=by
 induction b with
 | nil=>rfl
 | cons a b ih=>
  simp only[List.all_cons,<-ih];cases p a<;>cases q a<;>cases b.all p<;>cases b.all q<;>rfl
theorem pa (p:Int->Bool) (b:List Int):(sc b).all p=b.all p:=by
 rw[Bool.eq_iff_iff,List.all_eq_true,List.all_eq_true];exact⟨fun h x a=>h x (aG.2 a),fun h x a=>h x (aG.1 a)⟩
theorem yV {l:List Vb} (c:bD r l) {a b:Int} (g:aK l a 2=true) (i:aK l b 2=true) (h:(rv r a).k=2):decide (rv r a=rv r b)=(decide ((rv r b).k=2) && decide ((rv r a).s=(rv r b).s)):=by
 obtain⟨_,_,u,j,m,_⟩:=eh c g;obtain⟨_,_,v,n,o,_⟩:=eh c i;have d:rv r a=u:=by simp[rv,j]
 have e:rv r b=v:=by simp[rv,n]
 rw[d] at h ⊢;rw[e];rw[Bool.eq_iff_iff,Bool.and_eq_true,decide_eq_true_eq,decide_eq_true_eq,decide_eq_true_eq];constructor
 ·rintro rfl;exact⟨h,rfl⟩
 rintro⟨f,p⟩;have q:=(iO m h).1;have t:=(iO o f).1;cases u;cases v
 simp_all
theorem uc {fi:Int->Int} {a:List Int} {f:Lin} {kd b:Int} {up:Bool} (g:kd=2\/kd=3\/kd=4) (h:dN fi n a f=b):
 ep (dN fi n a (eV kd up f).1) (eV kd up f).2=if kd=2 then decide (b<=0) else if kd=3 then decide (b=0) else if up then decide (0<b) else decide (b<0):=by
  have d:dN fi n a ⟨(fh f).k+1,(fh f).cs⟩=1 - b:=by
   rw[<-h];unfold dN fh;dsimp only;have:∀cs:List (Int×Int),dot (gQ fi n a) (cs.map (fun c=>(c.1,-c.2)))= -dot (gQ fi n a) cs:=by
    intro cs
    induction cs with
    | nil=>rfl
    | cons c cs ih=>simp only[D1,dot,ih,Int.neg_mul];omega
   rw[this];omega
  have e:dN fi n a ⟨f.k+1,f.cs⟩=b+1:=by rw[<-h];unfold dN;dsimp only;omega
  unfold eV;rcases g with rfl | rfl | rfl
  ·simp[ep,h]
  ·simp only[show (3:Int)≠2 by decide,if_true,if_false,ep,h];rw[Bool.eq_iff_iff];simp;omega
  cases up with
  | true=>
   simp only[show (4:Int)≠2 by decide,show (4:Int)≠3 by decide,if_true,if_false,ep,d];rw[Bool.eq_iff_iff];simp;omega
  | false=>
   simp only[show (4:Int)≠2 by decide,show (4:Int)≠3 by decide,if_true,if_false,EW,ep,e];rw[Bool.eq_iff_iff];simp;omega
theorem lM (B:n=l.length) (H:bD r l) {u:List Lt} (h:∀x∈u,x.a.ok l):Cla.holds r n (gh n u)=u.all (Lt.holds r):=by
 obtain⟨ks,i⟩:=rf B h;unfold gh Cla.holds;generalize u.foldl (aP n) cl0=c at i ⊢;dsimp only;rw[yC i.inv,pa,pa,i.nul,i.nn,i.is,i.ts,i.sm,i.df];simp only[uI,wU];rw[Bool.eq_iff_iff,List.all_eq_true,List.all_eq_true];refine forall_congr' (fun x=>forall_congr' (fun b=>?_));rw[<-Bool.eq_iff_iff];have j:=h x b;by_cases g:isT x
 ·obtain⟨K,D⟩:=jc j g;have m:x.a.kd=2\/x.a.kd=3\/x.a.kd=4:=g;have F:∀p∈x.a.t.pts,fL n p:=fun p w=>jQ B (T.ty_iff.1 D p w);have J:=lA (fi:=fiR r) (ft:=ftR r) (i.all x b g) F;have E:=uc (n:=n) (up:=x.up) m J;have d:x.a.kd≠0/\x.a.kd≠1/\x.a.kd≠5/\x.a.kd≠6/\x.a.kd≠7:=by omega
  simp only[kN,nnL,isL,tsL,smL,dfL,g,d,if_true,if_false,List.all_nil,List.all_cons,Bool.and_true,Bool.true_and,pa,E];unfold Lt.holds Am.holds;rw[show (x.a.t.vars.all fun v=>decide ((rv r v).k≠0))=T.nn r x.a.t from rfl];generalize T.nn r x.a.t=N;have y:x.up=true\/x.up=false:=by cases x.up<;>simp
  rcases m with h | h | h<;>rcases y with C | C<;>rw[Bool.eq_iff_iff]<;>simp[h,T.vr,C]<;>(intro _;constructor<;>intro A<;>first | exact decide_eq_true A | exact of_decide_eq_true A)
 have m:¬(x.a.kd=2\/x.a.kd=3\/x.a.kd=4):=g;have z:x.a.kd=0\/x.a.kd=1\/x.a.kd=5\/x.a.kd=6\/x.a.kd=7:=by
  rcases j with b | b | b | b<;>omega
 rcases z with d | d | d | d | d
 ·simp[kN,nnL,isL,tsL,smL,dfL,g,d,Lt.holds,Am.holds]
 ·simp[kN,nnL,isL,tsL,smL,dfL,g,d,Lt.holds,Am.holds]
 ·simp only[kN,nnL,isL,tsL,smL,dfL,g,d,Lt.holds,Am.holds];simp only[show (5:Int)≠0 by decide,show (5:Int)≠1 by decide,show (5:Int)≠2 by decide,show (5:Int)≠3 by decide,show (5:Int)≠4 by decide,show (5:Int)≠6 by decide,show (5:Int)≠7 by decide,or_self,if_true,if_false,List.all_nil,List.all_cons,Bool.and_true,Bool.true_and];have w:(⟨x.a.v,x.a.te.kd,x.a.te.ng,x.a.te.s⟩:Ts).pass (rv r x.a.v).s=x.a.te.pass (rv r x.a.v).s:=rfl;rw[w];by_cases e:(rv r x.a.v).k=2
  ·simp[e]
  simp[e]
 ·have q:aK l x.a.v 2=true/\aK l x.a.o 2=true:=by
   rcases j with b | b | b | b
   ·omega
   ·omega
   ·omega
   exact⟨b.2.1,b.2.2.1⟩
  simp only[kN,nnL,isL,tsL,smL,dfL,g,d,Lt.holds,Am.holds];simp only[show (6:Int)≠0 by decide,show (6:Int)≠1 by decide,show (6:Int)≠2 by decide,show (6:Int)≠3 by decide,show (6:Int)≠4 by decide,show (6:Int)≠5 by decide,show (6:Int)≠7 by decide,or_false,true_or,if_true,if_false,List.all_nil,List.all_cons,Bool.and_true,Bool.true_and];by_cases e:(rv r x.a.v).k=2
  ·rw[yV H q.1 q.2 e];by_cases f:(rv r x.a.o).k=2
   ·simp[e,f]
   simp[e,f]
  simp[e]
 simp only[kN,nnL,isL,tsL,smL,dfL,g,d,Lt.holds,Am.holds];simp only[show (7:Int)≠0 by decide,show (7:Int)≠1 by decide,show (7:Int)≠2 by decide,show (7:Int)≠3 by decide,show (7:Int)≠4 by decide,show (7:Int)≠5 by decide,show (7:Int)≠6 by decide,or_true,if_true,if_false,List.all_nil,List.all_cons,Bool.and_true,Bool.true_and];by_cases e:(rv r x.a.v).k=2
 ·by_cases f:(rv r x.a.o).k=2
  ·simp[e,f]
  simp[e,f]
 simp[e]
def dQ (l:List Vb) (f:F):List Cla:=(F.simp l f).exp.map (gh l.length)
theorem pQ {f:F} (j:F.ok l f) (e:bD r l) (m:∀(v:Nat) (x:Vb),l[v]? =some x->x.nl=false->((r[v]?).getD em).k≠0):
 (∀c∈dQ l f,Cla.Ok l c)/\(dQ l f).any (Cla.holds r l.length)=F.holds r f:=by
  have n:=lZ f j;have d:∀c∈(F.simp l f).exp,∀x∈c,x.a.ok l:=fun c b x o=>pV _ n _ ((iz _ c b).2 x o);constructor
  ·intro c b;obtain⟨g,i,rfl⟩:=Dt.1 b;exact yB rfl (d g i)
  rw[<-oZ (r:=r) (l:=l) m f,<-rR r];unfold dQ;rw[List.any_map,Bool.eq_iff_iff,Fo,Fo];exact⟨fun ⟨c,b,h⟩=>⟨c,b,by rw[<-lM rfl e (d c b)];exact h⟩,fun ⟨c,b,h⟩=>⟨c,b,by show Cla.holds r _ _=true;rw[lM rfl e (d c b)];exact h⟩⟩
end
end
section
def fTr (k:Int) (a:Am) (args:Tr):Tr:=.v (I k) (.v (I a.kd) (.v (I a.v) (.v (I a.o) (.v (I a.t.con) (.sl 5 a.t.tr (.v (I a.te.v) (.v (I a.te.kd) (.v (.bool a.te.ng) (.v (.string a.te.s) (.sl 11 args .nil))))))))))
def am0:Am:=⟨0,0,0,.c 0,ts0⟩
mutual
def F.tr:F->Tr
 | .at a=>fTr 2 a .nil
 | .nd k l=>fTr k am0 (F.trs l)
def F.trs:List F->Tr
 | []=>.nil
 | f::l=>(F.tr f).app (F.trs l)
end
def F.kd:F->Int
 | .at _=>2
 | .nd k _=>k
def F.am:F->Am
 | .at a=>a
 | .nd _ _=>am0
def F.args:F->List F
 | .at _=>[]
 | .nd _ l=>l
theorem F.trs_eq:∀l:List F,F.trs l=cat F.tr l
 | []=>by simp[F.trs,cat]
 | f::l=>by simp[F.trs,cat,F.trs_eq l]
theorem F.tr_eq (f:F):f.tr=fTr f.kd f.am (cat F.tr f.args):=by
 cases f with
 | «at» a=>simp[F.tr,F.kd,F.am,F.args,cat]
 | nd k l=>simp[F.tr,F.kd,F.am,F.args,F.trs_eq]
theorem F.tr_len (f:F):f.tr.len=11:=by rw[F.tr_eq];rfl
def amL (a:Am) (tA:Option Addr) (tc:Nat):List Value:=[I a.kd,I a.v,I a.o,I a.t.con,.slice tA a.t.pts.length tc,I a.te.v,I a.te.kd,.bool a.te.ng,.string a.te.s]
def amV (a:Am) (tA:Option Addr) (tc:Nat):Value:=.agg (amL a tA tc).toArray
def fmL (f:F) (tA:Option Addr) (tc:Nat) (A:Option Addr) (c:Nat):List Value:=I f.kd::(amL f.am tA tc++[.slice A f.args.length c])
def fmV (f:F) (tA:Option Addr) (tc:Nat) (A:Option Addr) (c:Nat):Value:=.agg (fmL f tA tc A c).toArray
structure cP (w:World) (C:Nat->Prop) (a:Am) (tA:Option Addr) (tc:Nat):Prop where
 tm:a.t.pts.length<=tc/\tc<=maxLen
 tt:TAt w C tA a.t
structure bQ (w:World) (C:Nat->Prop) (f:F) (tA:Option Addr) (tc:Nat) (A:Option Addr) (c:Nat):Prop where
 at_:cP w C f.am tA tc
 am:f.args.length<=c/\c<=maxLen
 ar:ag F.tr w C A f.args
section
variable {w w':World} {C D:Nat->Prop} {f:F} {a:Am} {tA A:Option Addr} {tc c:Nat} {Y:List Nat}
theorem cP.keep (h:cP w C a tA tc) (c:ad Y w w') (b:∀y∈Y,¬C y):cP w' C a tA tc:=⟨h.tm,h.tt.keep c b⟩
theorem cP.keep0 (h:cP w C a tA tc) (b:ad [] w w'):cP w' C a tA tc:=h.keep b (by simp)
theorem cP.mono (h:cP w C a tA tc) (b:∀g,g<w.heap.size->C g->D g):cP w D a tA tc:=⟨h.tm,h.tt.mono b⟩
theorem bQ.keep (h:bQ w C f tA tc A c) (b:ad Y w w') (a:∀y∈Y,¬C y):bQ w' C f tA tc A c:=⟨h.at_.keep b a,h.am,h.ar.keep b a⟩
theorem bQ.keep0 (h:bQ w C f tA tc A c) (a:ad [] w w'):bQ w' C f tA tc A c:=h.keep a (by simp)
theorem bQ.mono (h:bQ w C f tA tc A c) (a:∀g,g<w.heap.size->C g->D g):bQ w D f tA tc A c:=⟨h.at_.mono a,h.am,h.ar.mono a⟩
theorem fI {cs:List Value}:Is w C f.tr cs↔∃tA tc A c,cs=fmL f tA tc A c/\bQ w C f tA tc A c:=by
 rw[F.tr_eq];constructor
 ·rintro⟨_,rfl,_,_,rfl,_,_,rfl,_,_,rfl,_,_,rfl,_,tA,p,tc,a,_,rfl,m,b,d,e,g,_,rfl,_,_,rfl,_,_,rfl,_,_,rfl,_,A,n,c,l,_,rfl,o,h,i,j,k,rfl⟩;obtain rfl:p=f.am.t.pts.length:=by rw[T.tr_len] at m;omega
  obtain rfl:n=f.args.length:=by rw[bF F.tr_len] at o;omega
  exact⟨tA,tc,A,c,rfl,⟨⟨b,d⟩,a,e,g⟩,⟨h,i⟩,l,j,k⟩
 rintro⟨tA,tc,A,c,rfl,⟨⟨b,d⟩,a,e,g⟩,⟨h,i⟩,l,j,k⟩;exact⟨_,rfl,rfl,_,rfl,rfl,_,rfl,rfl,_,rfl,rfl,_,rfl,rfl,tA,_,tc,a,_,rfl,by rw[T.tr_len],b,d,e,g,_,rfl,rfl,_,rfl,rfl,_,rfl,rfl,_,rfl,rfl,A,_,c,l,_,rfl,by rw[bF F.tr_len],h,i,j,k,rfl⟩
theorem yF (a:Pl A):cP w C am0 A tc↔tc<=maxLen:=⟨fun h=>h.tm.2,fun h=>⟨⟨C3 _,h⟩,[],⟨a,dl.nil⟩,rfl⟩⟩
theorem iI:cP w C am0 none 0:=(yF (fun a h=>by cases h)).2 (by simp[maxLen])
theorem rm {k v o:Int} {b:Ts}:cP w C ⟨k,v,o,.c 0,b⟩ none 0:=⟨⟨C3 _,by simp[maxLen]⟩,[],⟨fun a h=>(by cases h),dl.nil⟩,rfl⟩
theorem qH {kd:Int} {l:List F} (a:l.length<=c/\c<=maxLen) (h:ag F.tr w C A l):bQ w C (.nd kd l) none 0 A c:=⟨iI,a,h⟩
theorem pu {kd:Int}:bQ w C (.nd kd []) none 0 none 0:=qH ⟨C9 _,by simp[maxLen]⟩ (ag.nil (fun a h=>by cases h))
theorem uF (h:cP w C a tA tc):bQ w C (.at a) tA tc none 0:=⟨h,⟨C9 _,by simp[F.args,maxLen]⟩,ag.nil (fun a h=>by cases h)⟩
end
def FoP (w:World) (C:Nat->Prop) (f:F) (e:Ending) (w':World):Prop:=
 ∃tA tc A c,e=.returned (fmV f tA tc A c)/\Z (bQ w' C f tA tc A c)/\Z (ad [] w w')
def FmP (w:World) (C:Nat->Prop) (r:F×Int) (e:Ending) (w':World):Prop:=
 ∃tA tc A c,e=.returned (.tuple #[fmV r.1 tA tc A c,I r.2])/\Z (bQ w' C r.1 tA tc A c)/\Z (ad [] w w')
def RwP {α:Type} (f:α->Tr) (w:World) (C:Nat->Prop) (l:List α) (e:Ending) (w':World):Prop:=
 ∃A c,e=.returned (.slice A l.length c)/\Z (ag f w' C A l)/\Z (l.length<=c/\c<=maxLen)/\Z (ad [] w w')
def a8 (n:Int):Tr:=.v (I n) .nil
theorem bN (n:Int):(a8 n).len=1:=rfl
theorem cU {w:World} {C:Nat->Prop} {n:Int} {cs:List Value}:Is w C (a8 n) cs↔cs=[I n]:=by
 constructor
 ·rintro⟨_,rfl,_,rfl⟩;rfl
 rintro rfl;exact⟨[],rfl,rfl,rfl⟩
theorem du {w:World} {C:Nat->Prop}:∀ {l:List Int} {cs:List Value},Is w C (cat a8 l) cs↔cs=l.map (Value.int .i64)
 | [],cs=>Iff.rfl
 | n::l,cs=>by
   constructor
   ·intro h;obtain⟨d,e,rfl,b,c⟩:=Is.cut (a:=a8 n) h;rw[cU.1 b,du.1 c];rfl
   rintro rfl;exact(cU.2 rfl:Is w C (a8 n) [I n]).app (du.2 rfl)
end
end Go.Proofs.YtldmkbhgdbafhaaGreat
