import Derived.Deep.Slices
import Derived.Lib.SmallJoins
import Derived.OpenShut
import Derived.ProofKit
import Derived.Test.YtmlmfpikncogpaaGreatL46
namespace Go.Proofs.YtmlmfpikncogpaaGreat
open Go.RowKit
set_option linter.unusedSimpArgs false
set_option linter.unusedVariables false
set_option maxRecDepth 100000
set_option maxHeartbeats 16000000
section
open Go.RowKit Go.ChangeShapes Go.WideShapes Go.Deep
theorem nY:Tryz.prog.cellsOf 2=1:=by kernel_rfl
theorem iU:Tryz.prog.cellsOf 3=1:=by kernel_rfl
theorem BX:Tryz.prog.cellsOf 4=1:=by kernel_rfl
theorem tF:Tryz.prog.cellsOf 5=1:=by kernel_rfl
theorem tE:Tryz.prog.cellsOf 9=1:=by kernel_rfl
theorem AF:Tryz.prog.cellsOf 27=1:=by kernel_rfl
theorem AE:Tryz.prog.cellsOf 28=1:=by kernel_rfl
theorem AD:Tryz.prog.cellsOf 29=1:=by kernel_rfl
theorem AC:Tryz.prog.cellsOf 30=1:=by kernel_rfl
theorem AB:Tryz.prog.cellsOf 43=1:=by kernel_rfl
theorem uM:Tryz.prog.cellsOf 62=1:=by kernel_rfl
theorem uK:Tryz.prog.cellsOf 66=1:=by kernel_rfl
theorem uJ:Tryz.prog.cellsOf 68=3:=by kernel_rfl
theorem uN:Tryz.prog.cellsOf 60=3:=by kernel_rfl
theorem uL:Tryz.prog.cellsOf 64=4:=by kernel_rfl
theorem uP:Tryz.prog.cellsOf 45=6:=by kernel_rfl
theorem uQ:Tryz.prog.cellsOf 32=5:=by kernel_rfl
theorem uO:Tryz.prog.cellsOf 58=6:=by kernel_rfl
theorem rG {α:Type} {k:Nat}:∀ {a:List (List α)} {p:Nat} {v:α},(∀cs∈a,cs.length=k)->a.flatten[p]? =some v->∃i j cs,a[i]? =some cs/\cs[j]? =some v/\j<k/\p=i*k+j
 | [],p,v,_,h=>by simp at h
 | x::r,p,v,hk,h=>by
  have m:=hk x (by simp);rw[Ed] at h;by_cases g:p<k
  ·rw[DC (by omega)] at h;exact⟨0,p,x,rfl,h,g,by omega⟩
  rw[Dv (by omega)] at h;obtain⟨i,j,cs,b,d,e,l⟩:=rG (fun c f=>hk c (by simp[f])) h;exact⟨i+1,j,cs,by simpa using b,d,e,by rw[Nat.add_mul];omega⟩
theorem iJ {α β:Type} {R:α->β->Prop}:∀ {l:List α},(∀a∈l,∃b,R a b)->∃k,aJ R l k
 | [],_=>⟨[],trivial⟩
 | a::l,h=>by
  obtain⟨b,c⟩:=h a (by simp);obtain⟨k,d⟩:=iJ (l:=l) (fun x e=>h x (by simp[e]));exact⟨b::k,c,d⟩
theorem aJ.put {α β:Type} {R:α->β->Prop} {l:List α} {k:List β} (h:aJ R l k) {i:Nat} {b:β} (e:k[i]? =some b):∃a,l[i]? =some a/\R a b:=by
 obtain⟨a,d⟩:∃a,l[i]? =some a:=⟨_,CT (by rw[h.len];exact(CV.1 e).1)⟩;obtain⟨g,c,f⟩:=h.get i a d;rw[e] at c;injection c with c;subst c;exact⟨a,d,f⟩
theorem pc:∀ {a:List (List Value)} {k:List Int},aJ (fun cs n=>cs=[I n]) a k->a.flatten=nJ k
 | [],[],_=>rfl
 | c::a,n::k,h=>by
  rw[Ed,pc h.2,h.1];rfl
theorem ro {β:Type} {Q:Value->β->Prop}:∀ {a:List (List Value)} {k:List β},aJ (fun cs n=>∃v,cs=[v]/\Q v n) a k->aJ Q a.flatten k
 | [],[],_=>trivial
 | c::a,n::k,h=>by
  obtain⟨v,rfl,b⟩:=h.1;exact⟨b,ro h.2⟩
section
variable {H:Type} {enc:TypeId×Value->H} {w:World} {base:Nat} {spare:Nat->Bool} {held:Bool} {P:Program}
theorem fld {t:TypeId} {d:Array Field} {a:Nat} {cs:List Value} {x:DataW H×List MemPlace} (o:P.underlying t=some (.struct d)) (h:DataW.trod enc P w base spare held a t cs=some x) (i:Nat) {f:Field} (g:d[i]? =some f) (j:P.cellsOf f.type=1) {c:Value} (k:cs[f.offset]? =some c):
 ∃n y,DataW.trod enc P w base spare held n f.type [c]=some y:=by
  obtain⟨p,n,_,_,_,m,l⟩:=DataW.trod_struct o h;have e:=l i f g;have b:i<p.length:=by rw[m];exact(Dy.1 g).1
  rw[j,List.take_one,List.head?_drop,k,CT b] at e;exact⟨n,_,e⟩
theorem lH {t:TypeId} {b:Array Field} {a k:Nat} {cs:List Value} {x:DataW H×List MemPlace} (e:P.underlying t=some (.struct b)) (c:P.cellsOf t=k) (h:DataW.trod enc P w base spare held a t cs=some x):cs.length=k:=by
 obtain⟨f,n,_,_,d,_⟩:=DataW.trod_struct e h;rw[d,c]
theorem fX {M e:TypeId} {k s:Nat} {v:Value} {x:DataW H×List MemPlace} (hu:P.underlying M=some (.slice e)) (T:P.cellsOf e=k) (h:DataW.trod enc P w base spare held s M [v]=some x) (Q:List Value->Prop)
 (R:∀n cs y,DataW.trod enc P w base spare held n e cs=some y->Q cs):
 ∃A c l,v=.slice A (List.length l) c/\List.length l<=c/\c<=maxLen/\(∀cs∈l,cs.length=k/\Q cs)/\aL w (fun _=>True) A (List.flatten l):=by
  rcases open_slice hu h with ⟨b,_⟩ | ⟨a,len,z,m,n,D,Pl,b,_,W,Y,E,_,S⟩
  ·injection b with b _;subst b;exact⟨none,0,[],rfl,C9 _,by simp[maxLen],fun _ h=>(by cases h),fun i v h=>by simp at h⟩
  injection b with b _;subst b;have X:len<=m:=by rw[E];split<;>omega
  have F:∀i,i<len->∃cs:List Value,cs.length=k/\Q cs/\∀j,j<k->w.cell? ((a.add (i*k)).add j)=cs[j]?:=by
   intro i d;obtain⟨cs',r,ht⟩:=S i (by omega);rw[T] at r;obtain⟨K,B,C⟩:=World.cells?_some r;exact⟨cs',B,R _ _ _ ht,C⟩
  obtain⟨f,u⟩:=choose_lt F;have L:∀i cs,((List.range len).map f)[i]? =some cs->i<len/\cs=f i:=fun i cs q=>by
   have d:i<len:=by
    have:=(CV.1 q).1;simpa using this
   rw[De,List.getElem?_range d] at q;exact⟨d,by simpa using q.symm⟩
  have o:∀cs∈(List.range len).map f,cs.length=k/\Q cs:=fun cs b=>by
   obtain⟨i,q⟩:=DQ b;obtain⟨d,rfl⟩:=L i cs q;exact⟨(u i d).1,(u i d).2.1⟩
  refine⟨some a,z,(List.range len).map f,by simp,by simpa using W,Y,o,fun p v q=>?_⟩;obtain⟨i,j,cs,K,B,O,rfl⟩:=rG (fun cs b=>(o cs b).1) q;obtain⟨d,rfl⟩:=L i cs K;have r:=(u i d).2.2 j O;rw[B] at r;have t:a.spot=none:=by
   obtain⟨e0,_,N⟩:=u 0 (by omega);have J:=N 0 (by omega);rw[CT (by omega)] at J;have:=World.cell?_spot J;simpa [Addr.add] using this
  obtain⟨g,off,sp⟩:=a;dsimp only at t;subst t;simp only[add_plain] at r;exact⟨g,off,rfl,trivial,by rw[<-Ej];exact r⟩
theorem gC {t:TypeId} {a:Nat} {c:Value} {x:DataW H×List MemPlace} (e:P.underlying t=some (.int .i64)) (h:DataW.trod enc P w base spare held a t [c]=some x):∃n:Int,c=I n/\ -9223372036854775808<=n/\n<9223372036854775808:=by
 obtain⟨n,b,_,d⟩:=DataW.trod_int e h;injection b with b _;simp[Lit.wf,IntKind.min,IntKind.max,IntKind.signed,IntKind.bits] at d;exact⟨n,b,by omega,by omega⟩
theorem pZ {t:TypeId} {a:Nat} {c:Value} {x:DataW H×List MemPlace} (e:P.underlying t=some (.int .u8)) (h:DataW.trod enc P w base spare held a t [c]=some x):∃n:Nat,c=.int .u8 (n:Int)/\n<256:=by
 obtain⟨n,b,_,d⟩:=DataW.trod_int e h;injection b with b _;simp[Lit.wf,IntKind.min,IntKind.max,IntKind.signed,IntKind.bits] at d;exact⟨n.toNat,by rw[b];congr 1;omega,by omega⟩
theorem qU {α:Type} {k:Nat} {a:List (List α)} (h:∀cs∈a,cs.length=k):a.flatten.length=a.length*k:=by
 induction a with
 | nil=>simp
 | cons x r ih=>rw[Ed,CU,h x (by simp),ih (fun c b=>h c (by simp[b])),Dj,Nat.add_mul];omega
end
section
variable {H:Type} {enc:TypeId×Value->H} {w:World} {base:Nat} {spare:Nat->Bool} {held:Bool}
theorem rj {a:Nat} {v:Value} {x:DataW H×List MemPlace} (h:DataW.trod enc Tryz.prog w base spare held a 66 [v]=some x):∃n,mj w (fun _=>True) v n:=by
 obtain⟨A,c,d,rfl,i,j,e,f⟩:=fX Tryz.underlying66 iU h (fun cs=>∃n:Int,cs=[I n]) (fun n cs y hy=>by obtain⟨k,b,_⟩:=DataW.trod_int Tryz.underlying3 hy;exact⟨k,b⟩);obtain⟨k,b⟩:=iJ (R:=fun cs n=>cs=[I n]) (fun cs g=>(e cs g).2);exact⟨d.length,A,c,k,rfl,b.len.symm,by omega,by rw[<-pc b];exact f⟩
theorem xR {s:Nat} {cs:List Value} {x:DataW H×List MemPlace} (h:DataW.trod enc Tryz.prog w base spare held s 32 cs=some x):∃d,wS w (fun _=>True) cs d:=by
 have j:=lH Tryz.underlying32 uQ h
 match cs,j with
 | [c0,c1,c2,c3,c4],_=>
  obtain⟨_,_,f0⟩:=fld Tryz.underlying32 h 0 rfl tE (c:=c0) rfl;obtain⟨_,_,f1⟩:=fld Tryz.underlying32 h 1 rfl AF (c:=c1) rfl;obtain⟨_,_,f2⟩:=fld Tryz.underlying32 h 2 rfl AE (c:=c2) rfl;obtain⟨_,_,f3⟩:=fld Tryz.underlying32 h 3 rfl AD (c:=c3) rfl;obtain⟨_,_,f4⟩:=fld Tryz.underlying32 h 4 rfl AC (c:=c4) rfl;obtain⟨nm,B,_⟩:=DataW.trod_string Tryz.underlying9 f0;injection B with B _;subst B;obtain⟨cA,cc,g,rfl,S,T,W,n4⟩:=fX Tryz.underlying27 uO f1 (fun cs=>∀u∈cs,u.oneCell'=true) (fun n cs y f=>by
   have j:=lH Tryz.underlying58 uO f
   match cs,j with
   | [b0,p,b2,b3,b4,b5],_=>
    obtain⟨_,_,C⟩:=fld Tryz.underlying58 f 0 rfl tE (c:=b0) rfl;obtain⟨_,_,D⟩:=fld Tryz.underlying58 f 1 rfl iU (c:=p) rfl;obtain⟨_,_,E⟩:=fld Tryz.underlying58 f 2 rfl nY (c:=b2) rfl;obtain⟨_,_,g3⟩:=fld Tryz.underlying58 f 3 rfl nY (c:=b3) rfl;obtain⟨_,_,g4⟩:=fld Tryz.underlying58 f 4 rfl iU (c:=b4) rfl;obtain⟨_,_,g5⟩:=fld Tryz.underlying58 f 5 rfl BX (c:=b5) rfl;obtain⟨_,M,_⟩:=DataW.trod_string Tryz.underlying9 C;obtain⟨_,m,_⟩:=DataW.trod_int Tryz.underlying3 D;obtain⟨_,o,_⟩:=DataW.trod_int Tryz.underlying2 E;obtain⟨_,N,_⟩:=DataW.trod_int Tryz.underlying2 g3;obtain⟨_,O,_⟩:=DataW.trod_int Tryz.underlying3 g4;obtain⟨_,P,_⟩:=DataW.trod_bool Tryz.underlying4 g5;injection M with M _;injection m with m _;injection o with o _;injection N with N _;injection O with O _;injection P with P _;subst M m o N O P;intro u q;simp only[Db,Dw,or_false] at q;rcases q with rfl | rfl | rfl | rfl | rfl | rfl<;>rfl)
  obtain⟨kA,kc,ks,rfl,k1,k2,k3,k4⟩:=fX Tryz.underlying28 uK f2 (fun cs=>∃v,cs=[v]/\∃n,mj w (fun _=>True) v n) (fun n cs y f=>by
   have j:cs.length=1:=by
    rcases DataW.trod_slice Tryz.underlying66 f with ⟨e,_⟩ | ⟨_,_,_,_,_,_,_,e,_⟩<;>rw[e]<;>rfl
   match cs,j with
   | [v],_=>exact⟨v,rfl,rj f⟩)
  obtain⟨fA,fc,Q,rfl,m1,m2,L,m4⟩:=fX Tryz.underlying29 uJ f3 (fun cs=>∃x y z,cs=[x,y,z]/\(∃n,mj w (fun _=>True) x n)/\(∃n,y=I n)/\∃n,z=I n) (fun n cs y f=>by
   have j:=lH Tryz.underlying68 uJ f
   match cs,j with
   | [b0,p,b2],_=>
    obtain⟨_,_,C⟩:=fld Tryz.underlying68 f 0 rfl uK (c:=b0) rfl;obtain⟨_,_,D⟩:=fld Tryz.underlying68 f 1 rfl iU (c:=p) rfl;obtain⟨_,_,E⟩:=fld Tryz.underlying68 f 2 rfl iU (c:=b2) rfl;obtain⟨S,m,_⟩:=DataW.trod_int Tryz.underlying3 D;obtain⟨T,o,_⟩:=DataW.trod_int Tryz.underlying3 E;injection m with m _;injection o with o _;subst m o;exact⟨b0,_,_,rfl,rj C,⟨S,rfl⟩,T,rfl⟩)
  have hh:∃F l b,c4=.slice F l b:=by
   rcases DataW.trod_slice Tryz.underlying30 f4 with ⟨e,_⟩ | ⟨a,n,c,_,_,_,_,e,_⟩<;>injection e with e _
   ·exact⟨_,_,_,e⟩
   exact⟨_,_,_,e⟩
  obtain⟨F,l,b,rfl⟩:=hh;obtain⟨kl,A⟩:=iJ (R:=fun cs n=>∃v,cs=[v]/\mj w (fun _=>True) v n) (fun cs b=>by obtain⟨_,v,e,n,l⟩:=k3 cs b;exact⟨n,v,e,l⟩);obtain⟨fl,t⟩:=iJ (R:=fun cs n=>∃x y z,cs=[x,y,z]/\mj w (fun _=>True) x n/\(∃n,y=I n)/\∃n,z=I n) (fun cs b=>by obtain⟨_,x,y,z,e,⟨n,l⟩,h2,h3⟩:=L cs b;exact⟨n,x,y,z,e,l,h2,h3⟩);have X:=ro A;have Y:=A.len.symm;have p:=t.len.symm;refine⟨⟨g.length,kl,fl⟩,⟨⟨nm,cA,cc,kA,kc,fA,fc,F,l,b,g.flatten,ks.flatten,Q.flatten,by dsimp only;rw[Y,p],qU (fun c b=>(W c b).1),fun u q=>?_,n4,X,k4,by dsimp only;rw[p];exact qU (fun c b=>(L c b).1),m4,fun i n hi=>?_⟩,by dsimp only;omega,by dsimp only;omega,by dsimp only;omega⟩⟩
  ·obtain⟨c,b,q⟩:=Fm.1 q;exact(W c b).2 u q
  obtain⟨cs,J,x,y,z,rfl,r⟩:=t.put hi;have e:=J;have K:=fun k hk=>cy Q 3 (fun c b=>(L c b).1) i _ e k hk;exact⟨x,y,z,by have:=K 0 (by decide);rwa [Fg] at this,K 1 (by decide),K 2 (by decide),r⟩
theorem xS {e:Nat} {v:Value} {x:DataW H×List MemPlace} (h:DataW.trod enc Tryz.prog w base spare held e 23 [v]=some x):
 ∃A c g a,v=.slice A (List.length a) c/\List.length a<=c/\c<=maxLen/\ou w (fun _=>True) A g a:=by
  obtain⟨A,c,b,rfl,i,j,k,l⟩:=fX Tryz.underlying23 uQ h (fun cs=>∃d,wS w (fun _=>True) cs d) (fun n cs y p=>xR p);have o:∃a:List TD,aJ (wS w (fun _=>True)) b a:=iJ (fun cs m=>(k cs m).2);obtain⟨a,f⟩:=o;exact⟨A,c,b,a,by rw[<-f.len],by rw[<-f.len];exact i,j,l,f⟩
theorem ri {f:Nat} {v:Value} {x:DataW H×List MemPlace} (h:DataW.trod enc Tryz.prog w base spare held f 62 [v]=some x):∃A c l,v=.slice A (List.length l) c/\List.length l<=maxLen/\ah w [] A l/\∀u∈l,-9223372036854775808<=u.n/\u.n<9223372036854775808:=by
 obtain⟨A,c,d,rfl,S,T,B,p⟩:=fX Tryz.underlying62 uN h (fun cs=>∃u:Val,cs=[I u.k,I u.n,.string u.s]/\ -9223372036854775808<=u.n/\u.n<9223372036854775808) (fun n cs y hy=>by
  have P:=lH Tryz.underlying60 uN hy
  match cs,P with
  | [b0,b1,b2],_=>
   obtain⟨_,_,L⟩:=fld Tryz.underlying60 hy 0 rfl iU (c:=b0) rfl;obtain⟨_,_,t⟩:=fld Tryz.underlying60 hy 1 rfl nY (c:=b1) rfl;obtain⟨_,_,z⟩:=fld Tryz.underlying60 hy 2 rfl tE (c:=b2) rfl;obtain⟨k,rfl,_⟩:=gC Tryz.underlying3 L;obtain⟨n,rfl,Q⟩:=gC Tryz.underlying2 t;obtain⟨s,e,_⟩:=DataW.trod_string Tryz.underlying9 z;injection e with e _;subst e;exact⟨⟨k,n,s⟩,rfl,Q⟩)
 have N:∃l:List Val,aJ (fun cs (u:Val)=>cs=[I u.k,I u.n,.string u.s]/\ -9223372036854775808<=u.n/\u.n<9223372036854775808) d l:=iJ (fun cs q=>(B cs q).2);obtain⟨l,m⟩:=N;refine⟨A,c,l,by rw[<-m.len],by rw[<-m.len];omega,fun i u D=>?_,fun u R=>?_⟩
 ·obtain⟨cs,j⟩:∃cs,d[i]? =some cs:=⟨_,CT (by rw[m.len];exact(CV.1 D).1)⟩;obtain⟨W,o,rfl,_⟩:=m.get i cs j;rw[D] at o;cases o;have r:=fun k O=>cy d 3 (fun c q=>(B c q).1) i _ j k O;obtain⟨g,off,C,_,J⟩:=p _ _ (r 0 (by decide));obtain⟨t,E,a,_,c1⟩:=p _ _ (r 1 (by decide));obtain⟨z,F,b,_,K⟩:=p _ _ (r 2 (by decide));rw[C] at a b;injection a with a;injection a with q1 e _;subst q1 e;injection b with b;injection b with q1 e _;subst q1 e;exact⟨g,off,C,by simp,J,c1,K⟩
 obtain⟨cs,_,_,M⟩:=m.right u R;exact M
def Chg.wf (c:Chg):Prop:=(-9223372036854775808<=c.t/\c.t<9223372036854775808)/\(-9223372036854775808<=c.id/\c.id<9223372036854775808)/\(c.old.length<=maxLen/\c.new.length<=maxLen)/\(∀u∈c.old,-9223372036854775808<=u.n/\u.n<9223372036854775808)/\∀u∈c.new,-9223372036854775808<=u.n/\u.n<9223372036854775808
theorem vI {o:Nat} {v:Value} {x:DataW H×List MemPlace} (h:DataW.trod enc Tryz.prog w base spare held o 43 [v]=some x):∃A c l,v=.slice A (List.length l) c/\List.length l<=maxLen/\iC w [] A l/\∀c∈l,c.wf:=by
 obtain⟨A,c,m,rfl,h1,h2,J,s⟩:=fX Tryz.underlying43 uL h (fun cs=>∃(u:Chg) (b:Option Addr) (co:Nat) (a:Option Addr) (j:Nat),cs=[I u.t,I u.id,.slice b u.old.length co,.slice a u.new.length j]/\ah w [] b u.old/\ah w [] a u.new/\u.wf) (fun n cs y hy=>by
  have X:=lH Tryz.underlying64 uL hy
  match cs,X with
  | [b0,b1,b2,b3],_=>
   obtain⟨_,_,S⟩:=fld Tryz.underlying64 hy 0 rfl iU (c:=b0) rfl;obtain⟨_,_,D⟩:=fld Tryz.underlying64 hy 1 rfl nY (c:=b1) rfl;obtain⟨_,_,E⟩:=fld Tryz.underlying64 hy 2 rfl uM (c:=b2) rfl;obtain⟨_,_,F⟩:=fld Tryz.underlying64 hy 3 rfl uM (c:=b3) rfl;obtain⟨k,rfl,C⟩:=gC Tryz.underlying3 S;obtain⟨n,rfl,Y⟩:=gC Tryz.underlying2 D;obtain⟨b,co,lo,rfl,o1,o2,o3⟩:=ri E;obtain⟨a,j,ln,rfl,p1,p2,p3⟩:=ri F;exact⟨⟨k,n,lo,ln⟩,b,co,a,j,rfl,o2,p2,C,Y,⟨o1,p1⟩,o3,p3⟩)
 have W:∃l:List Chg,aJ (fun cs (u:Chg)=>∃(b:Option Addr) (co:Nat) (a:Option Addr) (j:Nat),cs=[I u.t,I u.id,.slice b u.old.length co,.slice a u.new.length j]/\ah w [] b u.old/\ah w [] a u.new/\u.wf) m l:=iJ (fun cs B=>(J cs B).2);obtain⟨l,q⟩:=W;refine⟨A,c,l,by rw[<-q.len],by rw[<-q.len];omega,fun i u L=>?_,fun u hu=>?_⟩
 ·obtain⟨cs,p⟩:∃cs,m[i]? =some cs:=⟨_,CT (by rw[q.len];exact(CV.1 L).1)⟩;obtain⟨u',r,b,co,a,j,rfl,r1,r2,_⟩:=q.get i cs p;rw[L] at r;cases r;have z:=fun k C=>cy m 4 (fun c B=>(J c B).1) i _ p k C;obtain⟨g,off,K,_,P⟩:=s _ _ (z 0 (by decide));obtain⟨D,M,d,_,c1⟩:=s _ _ (z 1 (by decide));obtain⟨E,N,e,_,Q⟩:=s _ _ (z 2 (by decide));obtain⟨F,O,f,_,R⟩:=s _ _ (z 3 (by decide));rw[K] at d e f;injection d with d;injection d with q1 q2 _;subst q1 q2;injection e with e;injection e with q1 q2 _;subst q1 q2;injection f with f;injection f with q1 q2 _;subst q1 q2;exact⟨g,off,b,co,a,j,K,by simp,P,c1,Q,R,r1,r2⟩
 obtain⟨cs,_,b,co,a,j,_,_,_,T⟩:=q.right u hu;exact T
structure Ev where
 kind:Nat
 ses:Int
 more:Int
 l:List Chg
 wr:Nat
 by_:Nat
def Ev.wf (v:Ev):Prop:=v.kind<256/\(-9223372036854775808<=v.ses/\v.ses<9223372036854775808)/\(-9223372036854775808<=v.more/\v.more<9223372036854775808)/\v.l.length<=maxLen/\(∀c∈v.l,c.wf)/\v.wr<256/\v.by_<256
def evV (v:Ev) (A:Option Addr) (c:Nat):List Value:=[.int .u8 (v.kind:Int),I v.ses,I v.more,.slice A v.l.length c,.int .u8 (v.wr:Int),.int .u8 (v.by_:Int)]
def zE (w:World) (A:Option Addr) (l:List Ev):Prop:=∀i v,l[i]? =some v->∃g off lA lc,A=some (U g off)/\iC w [] lA v.l/\∀j u,(evV v lA lc)[j]? =some u->w.cell? (U g (off+(i*6+j)))=some u
theorem xV {d:Nat} {v:Value} {x:DataW H×List MemPlace} (h:DataW.trod enc Tryz.prog w base spare held d 24 [v]=some x):∃A c l,v=.slice A (List.length l) c/\List.length l<=maxLen/\zE w A l/\∀v∈l,v.wf:=by
 obtain⟨A,c,b,rfl,h1,h2,C,D⟩:=fX Tryz.underlying24 uP h (fun cs=>∃(u:Ev) (A:Option Addr) (c:Nat),cs=evV u A c/\iC w [] A u.l/\u.wf) (fun n cs y hy=>by
  have W:=lH Tryz.underlying45 uP hy
  match cs,W with
  | [b0,b1,b2,b3,b4,b5],_=>
   obtain⟨_,_,M⟩:=fld Tryz.underlying45 hy 0 rfl tF (c:=b0) rfl;obtain⟨_,_,B⟩:=fld Tryz.underlying45 hy 1 rfl iU (c:=b1) rfl;obtain⟨_,_,N⟩:=fld Tryz.underlying45 hy 2 rfl nY (c:=b2) rfl;obtain⟨_,_,O⟩:=fld Tryz.underlying45 hy 3 rfl AB (c:=b3) rfl;obtain⟨_,_,P⟩:=fld Tryz.underlying45 hy 4 rfl tF (c:=b4) rfl;obtain⟨_,_,Q⟩:=fld Tryz.underlying45 hy 5 rfl tF (c:=b5) rfl;obtain⟨Y,rfl,q0⟩:=pZ Tryz.underlying5 M;obtain⟨k1,rfl,s⟩:=gC Tryz.underlying3 B;obtain⟨k2,rfl,t⟩:=gC Tryz.underlying2 N;obtain⟨A,c,l,rfl,l1,l2,l3⟩:=vI O;obtain⟨k4,rfl,q4⟩:=pZ Tryz.underlying5 P;obtain⟨k5,rfl,q5⟩:=pZ Tryz.underlying5 Q;exact⟨⟨Y,k1,k2,l,k4,k5⟩,A,c,rfl,l2,q0,s,t,l1,l3,q4,q5⟩)
 have S:∃l:List Ev,aJ (fun cs (u:Ev)=>∃(A:Option Addr) (c:Nat),cs=evV u A c/\iC w [] A u.l/\u.wf) b l:=iJ (fun cs o=>(C cs o).2);obtain⟨l,f⟩:=S;refine⟨A,c,l,by rw[<-f.len],by rw[<-f.len];omega,fun i u J=>?_,fun u X=>?_⟩
 ·obtain⟨cs,e⟩:∃cs,b[i]? =some cs:=⟨_,CT (by rw[f.len];exact(CV.1 J).1)⟩;obtain⟨u',m,q,r,rfl,r1,_⟩:=f.get i cs e;rw[J] at m;cases m;have F:=fun k T=>cy b 6 (fun c o=>(C c o).1) i _ e k T;obtain⟨g,off,E,_,c0⟩:=D _ _ ((F 0 (by decide)).trans (show (evV u q r)[0]? =some (.int .u8 (u.kind:Int)) from rfl));refine⟨g,off,q,r,E,r1,fun j z K=>?_⟩;have p:j<6:=by have:=(CV.1 K).1;simpa [evV] using this
  obtain⟨B,L,a,_,c1⟩:=D _ _ ((F j p).trans K);rw[E] at a;injection a with a;injection a with s t _;subst s t;exact c1
 obtain⟨cs,_,q,r,_,_,R⟩:=f.right u X;exact R
end
end
def zB (w:World) (cols:List Nat) (e:Ending) (w':World):Prop:=∃a c x b s ep,e=.returned (.tuple #[.pointer (V a),.pointer (V x)])/\Z (aa [] w w')/\Z (cx (fun y=>w.heap.size<=y) w' x a c b s (cols.map emp) (fun _=>0) ep [] 0)/\
 Z (Lv 100 s (cols.map emp) (fun _=>0) ep []/\s.left=0/\0<=s.writes/\s.writes<=3000)/\Z (w.heap.size<=x/\w.heap.size<=a/\w.heap.size<=c/\w.heap.size<=b)
theorem nP (w:World) (P:Nat->Prop) (A:Option Addr) (n c:Nat) (l:List (List Value)) (cols:List Nat) (R:dU w P A l cols) (H:cols.length=n) (D:n<=4) (g:∀c∈cols,1<=c/\c<=10):Calls Tryz.prog 7 #[.slice A n c] w (zB w cols):=by
 have O:Z (Calls Tryz.prog 21 #[I 60] w fun e w'=>∃b m,e=.returned (.tuple #[.pointer (V b),I 0])/\Dk.aZ w' b m (Dk.st0 60)/\w.heap.size<=b/\w.heap.size<=m/\aa [] w w'):=bZ (Dk.BB w 60 (by decide) (by decide));have Q:Z (∀W Y,aa Y w W->(∀y∈Y,w.heap.size<=y)->dU W (fun _=>True) A l cols):=bZ (fun W Y k hY=>R.move k (fun x M _=>⟨fun hm=>by have:=hY x hm;omega,trivial⟩));have p:(cols.map emp).map (·.cols)=cols:=by rw[List.map_map];exact List.map_id'' (fun x=>rfl) cols
 replace H:=bZ H;replace g:=bZ g;replace p:=bZ p;clear R;go_enter Tryz.func7,Tryz.ntmps7;go_wp2_with (first
  | (go_at_call 21;refine O.o.mono ?_;rintro e w1 ⟨b,m,rfl,s,d,f,i⟩;replace d:=bZ d;replace f:=bZ f;have N:=bZ (sS w1 b m s (fun _=>True) A n c l cols (Q.o w1 [] i (by simp)) H.o D g.o);replace i:=bZ i;clear s O)
  | (go_at_call 22;refine N.o.mono ?_;rintro e w2 ⟨s2,rfl,K,J,q,j⟩;have a:Z (aa [b,m] w w2):=bZ (i.o.nil.trans K.o);have S:=bZ (iM w2 b m 40 s2 J.o j.o.1 (cols.map emp) (fun _=>0) j.o.2.2 (by decide) q.o.1 (by have:=q.o.2;omega) (fun _=>True) A n c l cols (Q.o w2 [b,m] a.o (fun y r=>by simp at r;rcases r with rfl | rfl;exact d.o;exact f.o)) H.o D p.o);clear N)
  | (go_at_call 11;refine S.o.mono ?_;rintro e w3 ⟨v3,er,s3,rfl,L,X,F,E⟩;obtain⟨rfl,x,T,ep,rfl,_,B,u,C,M,t⟩:=E.o.resolve_left (fun h=>h.2.2.2.2.1 j.o.2.1);have z:Z (zB w cols (.returned (.tuple #[.pointer (V b),.pointer (V x)])) w3):=bZ ⟨b,m,x,T,s3,ep,rfl,bZ ((a.o.trans L.o).mono (fun y r=>by simp at r;rcases r with rfl | rfl;exact .inr d.o;exact .inr f.o)),bZ (u.low (fun _ r=>Dc a.o.size r)),bZ ⟨C.mono (by decide),B j.o.2.1,F.o.1,by have:=F.o.2;have:=q.o.2;omega⟩,bZ ⟨Dc a.o.size M,d.o,f.o,Dc a.o.size t⟩⟩;clear E u C M t B))
 refine bodyPost_ret (v:=.tuple #[.pointer (V b),.pointer (V x)]) (by simp[results,Tryz.results7,go_sem]) rfl ?_;exact z.o
def qu (w:World) (b d E:Nat) (s:Dk.St) (ts:List TS) (f:Nat->Int) (e:Ending) (w':World):Prop:=∃x c a ep,e=.returned (.pointer (V x))/\Z (aa [b,d] w w')/\Z (cx (fun y=>w.heap.size<=y) w' x b d c a ts f ep [] 0)/\Z (Lv (E+60) a ts f ep []/\0<=a.writes/\a.writes<=s.writes+2000)/\Z (w.heap.size<=x/\w.heap.size<=c)
theorem jp (W:World) (c d:Nat) (s:Dk.St) (k b:Int) (i:Dk.aZ W c d s) (j:k<=9223372036854775807):Calls Tryz.prog 9 #[.pointer (V c),I k,I b] W fun e w'=>∃a,e=.returned (.tuple #[])/\Z (Dk.aZ w' c d a)/\Z (aa [c] W w')/\Z (a.n=s.n/\a.mem=s.mem/\a.down=s.down/\a.writes=s.writes/\(s.down=true->a.left=s.left)):=by
 refine(Dk.AM W c d s k b i j).mono ?_;rintro e w' ⟨rfl,g,f⟩;refine⟨_,rfl,bZ g,bZ f,bZ ?_⟩;unfold Dk.arm
 split
 ·exact⟨rfl,rfl,rfl,rfl,fun _=>rfl⟩
 rename_i h;exact⟨rfl,rfl,rfl,rfl,fun f=>absurd f h⟩
theorem oX (w:World) (a b E:Nat) (s:Dk.St) (hD:Dk.aZ w a b s) (ts:List TS) (f:Nat->Int) (hO:On E s ts f) (hE:E+60<=1000000) (bi:0<=s.writes) (hw:s.writes<=800000)
 (P:Nat->Prop) (A:Option Addr) (n c:Nat) (R:List (List Value)) (cols:List Nat) (hS:dU w P A R cols) (hP:∀x,P x->x≠a/\x≠b) (hn:cols.length=n) (b7:n<=4) (i:ts.map (·.cols)=cols) (B wn Y:Nat) (Q C:Int) (lA:Option Addr) (ln lc:Nat) (c0:wn<256) (bp:Y<256):
 Calls Tryz.prog 16 #[.pointer (V a),.slice A n c,.agg #[.int .u8 (B:Int),I Q,I C,.slice lA ln lc,.int .u8 (wn:Int),.int .u8 (Y:Int)]] w (qu w a b E s ts f):=by
  have ka:aa [] w (w.alloc (.cells #[.int .u8 (B:Int),I Q,I C,.slice lA ln lc,.int .u8 (wn:Int),.int .u8 (Y:Int)] 45)):=(aa.refl [] w).alloc _;have B0:=Blk.new w 45 #[.int .u8 (B:Int),I Q,I C,.slice lA ln lc,.int .u8 (wn:Int),.int .u8 (Y:Int)];generalize bt:w.alloc (.cells #[.int .u8 (B:Int),I Q,I C,.slice lA ln lc,.int .u8 (wn:Int),.int .u8 (Y:Int)] 45)=w1 at*;have J:=bZ (Dk.iH w1 a b s (hD.keep ka (by simp) (by simp)));have HS:Z (∀W,aa [a,b] w W->dU W (fun _=>True) A R cols):=bZ (fun W k=>hS.move k (fun x hx hp=>⟨fun hm=>by have:=hP x hp;simp at hm;omega,trivial⟩));have z4:∀W,aa [a] w1 W->W.cell? (U w.heap.size 4)=some (.int .u8 (wn:Int))/\W.cell? (U w.heap.size 5)=some (.int .u8 (Y:Int)):=fun W k=>by
   have:=B0.keep k (by simp;have:=hD.d.lt;omega);exact⟨this.cell 4,this.cell 5⟩
  have O:Z (On E (Dk.bB s) ts f):=bZ (hO.same rfl rfl);have an:(Dk.bB s).down=false:=rfl;have m:(Dk.bB s).writes=s.writes:=rfl;generalize Dk.bB s=s1 at*;replace ka:=bZ ka;replace z4:=bZ z4;replace O:=bZ O.o;replace hn:=bZ hn;replace i:=bZ i;replace an:=bZ an;replace m:=bZ m;clear hD hS hO B0;go_enter Tryz.func16,Tryz.ntmps16;go_upto_region 2 with (go_at_call 17;refine J.o.mono ?_;rintro e w2 ⟨rfl,N,K⟩;obtain⟨y4,y5⟩:=z4.o w2 K;replace K:=bZ K;replace N:=bZ N;clear J);have HA:=bZ (jp w2 a b s1 ((wn:Int)%8) (Y:Int) N.o (by omega));clear z4;go_upto_region 3 with (go_at_call 9;refine HA.o.mono ?_;rintro e w3 ⟨s3,rfl,b9,b5,F⟩;clear HA);have j:Z (aa [a,b] w w3):=bZ (ka.o.nil.trans ((K.o.trans b5.o).mono (by simp)));have HO:=bZ (iM w3 a b E s3 b9.o (F.o.2.2.1.trans an.o) ts f (O.o.same F.o.1 F.o.2.1) (by omega) (by rw[F.o.2.2.2.1,m.o];exact bi) (by rw[F.o.2.2.2.1,m.o];omega) (fun _=>True) A n c R cols (HS.o w3 j.o) hn.o b7 i.o);clear N K b5 y4 y5;go_upto_if 27 with (go_at_call 11;refine HO.o.mono ?_;rintro e w4 ⟨v4,er,q,rfl,bh,a0,bk,D⟩;clear HO);have X:Z (aa [a,b] w w4):=bZ (j.o.trans bh.o);have l:Z (0<=q.writes/\q.writes<=s.writes+1000):=bZ (by have h1:=bk.o;rw[F.o.2.2.2.1,m.o] at h1;exact h1);have v:Z (∀S H x T ep W r,aa [a,b] w4 S->w4.heap.size<=S.heap.size->H.writes<=s.writes+2000->0<=H.writes->cx (fun y=>w.heap.size<=y) S x a b T H ts f ep [] 0->Lv (E+60) H ts f ep []->w.heap.size<=x->w.heap.size<=T->aa [a] S W->Dk.aZ W a b r->(r.n=H.n/\r.mem=H.mem/\r.down=H.down/\r.writes=H.writes/\(H.down=true->r.left=H.left))->qu w a b E s ts f (.returned (.pointer (V x))) W):=bZ (fun S H x T ep W r a1 a2 a3 a4 a5 a6 a7 a8 a9 b1 M=>⟨x,T,r,ep,rfl,bZ ((X.o.trans a1).trans (a9.mono (by simp))),bZ (a5.disk a9 b1),bZ ⟨a6.same M.1 M.2.1 (M.2.2.1.trans a6.1),by rw[M.2.2.2.1];exact a4,by rw[M.2.2.2.1];exact a3⟩,bZ ⟨a7,a8⟩⟩);rcases D.o with ⟨rfl,rfl,h1,h2,_,h4⟩ | ⟨rfl,x,T,ep,rfl,h1,h2,h3,h4,h5,h6⟩
  ·have J:=bZ (Dk.iH w4 a b q a0.o);have bb:Z (On (E+30) (Dk.bB q) ts f):=bZ (h4.same rfl rfl);have b0:(Dk.bB q).left=0:=h2;have ap:(Dk.bB q).down=false:=rfl;have p:(Dk.bB q).writes=q.writes:=rfl;generalize Dk.bB q=H at*;replace b0:=bZ b0;replace ap:=bZ ap;replace p:=bZ p;clear D h1 h2 h4 a0 O;go_upto_region 6 with (go_at_call 17;refine J.o.mono ?_;rintro e S ⟨rfl,ac,L⟩;replace L:=bZ L;replace ac:=bZ ac;clear J);have z:Z (aa [a,b] w S):=bZ (X.o.trans (L.o.mono (by simp)));have HO:=bZ (iM S a b (E+30) H ac.o ap.o ts f bb.o (by omega) (by rw[p.o];exact l.o.1) (by rw[p.o];have:=l.o.2;omega) (fun _=>True) A n c R cols (HS.o S z.o) hn.o b7 i.o);go_upto_region 7 with (go_at_call 11;refine HO.o.mono ?_;rintro e w6 ⟨v6,er,r,rfl,b6,ba,b8,D⟩;obtain⟨rfl,x,T,ep,rfl,g1,g2,g3,g4,g5,g6⟩:=D.o.resolve_left (fun h=>h.2.2.2.2.1 b0.o);clear HO D);have HA:=bZ (jp w6 a b r 0 0 ba.o (by decide));have t:Z (∀W g,Dk.aZ W a b g->aa [a] w6 W->(g.n=r.n/\g.mem=r.mem/\g.down=r.down/\g.writes=r.writes/\(r.down=true->g.left=r.left))->qu w a b E s ts f (.returned (.pointer (V x))) W):=bZ (fun W g b1 M b3=>v.o w6 r x T ep W g ((L.o.mono (by simp)).trans b6.o) (Dc L.o.size b6.o.size) (by have:=b8.o.2;rw[p.o] at this;have:=l.o.2;omega) b8.o.1 (g3.low (fun _ hy=>Dc z.o.size hy)) g4 (Dc z.o.size g5) (Dc z.o.size g6) M b1 b3);clear v g1 g2 g3 g4 g5 g6;go_wp2_with (go_at_call 9;refine HA.o.mono ?_;rintro e w7 ⟨g,rfl,ak,ar,b4⟩;have u:=bZ (t.o w7 g ak.o ar.o b4.o));go_ret;exact u.o
  have HA:=bZ (jp w4 a b q 0 0 a0.o (by decide));have t:Z (∀W g,Dk.aZ W a b g->aa [a] w4 W->(g.n=q.n/\g.mem=q.mem/\g.down=q.down/\g.writes=q.writes/\(q.down=true->g.left=q.left))->qu w a b E s ts f (.returned (.pointer (V x))) W):=bZ (fun W g b1 M b3=>v.o w4 q x T ep W g (aa.refl _ _) (C9 _) (by have:=l.o.2;omega) l.o.1 (h3.low (fun _ hy=>Dc j.o.size hy)) (h4.mono (by omega)) (Dc j.o.size h5) (Dc j.o.size h6) M b1 b3);clear v D h1 h2 h3 h4 h5 h6;go_wp2_with (go_at_call 9;refine HA.o.mono ?_;rintro e w7 ⟨g,rfl,ak,ar,b4⟩;have u:=bZ (t.o w7 g ak.o ar.o b4.o));go_ret;exact u.o
end Go.Proofs.YtmlmfpikncogpaaGreat
