import Derived.Maps.AppendAt
import Derived.RowKit
import Derived.Test.YtmlmfpikncogpaaGreatL00
namespace Go.Proofs.YtmlmfpikncogpaaGreat
open Go.RowKit
set_option linter.unusedSimpArgs false
set_option linter.unusedVariables false
set_option maxRecDepth 100000
set_option maxHeartbeats 16000000
def bm (w:World) (A:Option Addr) (m:Nat) (a:List Value):Prop:=m=0\/∃g off,A=some (U g off)/\∀j u,a[j]? =some u->w.cell? (U g (off+j))=some u
theorem fo {P:Program} {w:World} (t N base:Nat) (e:TypeId) (i:TypeInfo) (z:Value) (size bytes:Nat) (M:P.underlying t=some (.slice e)) (K:P.info? e=some i) (hz:i.zero=some z)
 (d:i.size=size) (y:i.bytes=bytes) (E:z.cells.size=size) (D:0<size)
 (v:Value) (n:Nat) (H:List Value) (b:w.ownsRow base e size v n H) (A:Option Addr) (m c:Nat) (a:List Value) (L:a.length=m*size) (T:bm w A m a) (q:∀u∈a,u.oneCell'=true)
 (s:n+m<=maxLen) (f:(n+m)*bytes<=140737488355328) (k:base<=w.heap.size):
 ∃l w',(Builtin.append_ #[t,t] N #[v,.slice A m c]).run P w=.ok l w'/\w'.ownsRow base e size l (n+m) (H++a)/\w.grownBy w' v.ownBlock/\(l=.slice none 0 0↔v=.slice none 0 0/\m=0)/\(l.ownBlock=v.ownBlock\/l.ownBlock=some w.heap.size):=by
  by_cases J:m=0
  ·subst J;obtain rfl:a=[]:=Dh (by simpa using L);have F:∃o c',v=.slice o n c'/\n<=c':=by
    rcases b.2 with ⟨q,r⟩ | ⟨g,p,O,hv,hb,hg,B,_⟩
    ·exact⟨none,0,by rw[q,r],by omega⟩
    exact⟨_,p,hv,B⟩
   obtain⟨o,c',rfl,C⟩:=F;refine⟨_,w,?_,by simpa using b,⟨rfl,rfl,rfl,C9 _,fun _ _ _=>rfl⟩,⟨fun h=>⟨h,rfl⟩,fun h=>h.1⟩,.inl rfl⟩;have W:∀(x:Option Addr) (c:Nat),(Builtin.firstCells size 0 (.slice x 0 c)).run P w=.ok #[] w:=by
    intro x c;cases x<;>simp[Builtin.firstCells,loadCells,loadCellsFrom]
   cases o<;>simp[Builtin.append_,run_underlying M,sizeOf,typeInfo,K,d,Builtin.lenOf,C,W,storeCells]
  rcases T with h | ⟨g,off,rfl,B⟩
  ·exact absurd h J
  obtain⟨l,w',X,r,Q,R,S⟩:=run_append_own_at (P:=P) w base t N e i z size bytes M K hz d y E D v n H b (U g off) m c a L
   (fun j u Y=>by rw[Go.WideShapes.add_plain];exact B j u Y) q s f k
  exact⟨l,w',X,r,Q,R,S⟩
theorem ae {P:Program} {w:World} {j:Array Oper} {rest:List Oper} {o:Oper} {a:Act} {Q:Exit->Act->World->Prop} (r:Region.wanted o (yielded j a.tmps)=true) (s x:Operand) (t:TypeId)
 (R:o.op=.call { callee:=.builtin .append,args:=#[s,x],argTypes:=#[t,t] }) (base:Nat) (e:TypeId) (i:TypeInfo) (z:Value) (size bytes:Nat)
 (W:P.underlying t=some (.slice e)) (N:P.info? e=some i) (Y:i.zero=some z) (g:i.size=size) (q:i.bytes=bytes) (B:z.cells.size=size) (y:0<size)
 (v:Value) (n:Nat) (C:List Value) (T:a.eval s=v) (l:w.ownsRow base e size v n C) (A:Option Addr) (m c:Nat) (b:List Value) (X:a.eval x=.slice A m c) (O:b.length=m*size) (L:bm w A m b) (D:∀u∈b,u.oneCell'=true)
 (p:n+m<=maxLen) (d:(n+m)*bytes<=140737488355328) (f:base<=w.heap.size)
 (h:∀k w',Z (w'.ownsRow base e size k (n+m) (C++b))->Z (w.grownBy w' v.ownBlock)->Z (k=.slice none 0 0↔v=.slice none 0 0/\m=0)->Z (k.ownBlock=v.ownBlock\/k.ownBlock=some w.heap.size)->
  wpList P j Q rest (a.put o.dst k) w'):wpList P j Q (o::rest) a w:=by
 refine aO r fun K M=>?_
 obtain⟨k,w',S,E,F,H,J⟩:=fo (P:=P) (w:=w) t o.type base e i z size bytes W N Y g q B y v n C l A m c b O L D p d f
 unfold Oper.wp execOp
 simp only[R,resolve,invoke,builtin,DM,DZ,DH,Eb,D1,Er,T,X,S]
 exact M _ _ (h k w' (bZ E) (bZ F) (bZ H) (bZ J))
theorem am {P:Program} {w:World} {o:Oper} {a:Act} {K:Act->World->Prop} {Q:Exit->Act->World->Prop} (s x:Operand) (t:TypeId)
 (M:o.op=.call { callee:=.builtin .append,args:=#[s,x],argTypes:=#[t,t] }) (base:Nat) (e:TypeId) (i:TypeInfo) (z:Value) (size bytes:Nat)
 (R:P.underlying t=some (.slice e)) (J:P.info? e=some i) (T:i.zero=some z) (g:i.size=size) (p:i.bytes=bytes) (r:z.cells.size=size) (q:0<size)
 (v:Value) (n:Nat) (y:List Value) (O:a.eval s=v) (k:w.ownsRow base e size v n y) (A:Option Addr) (m c:Nat) (b:List Value) (S:a.eval x=.slice A m c) (L:b.length=m*size) (H:bm w A m b) (B:∀u∈b,u.oneCell'=true)
 (l:n+m<=maxLen) (d:(n+m)*bytes<=140737488355328) (f:base<=w.heap.size)
 (h:∀j w',Z (w'.ownsRow base e size j (n+m) (y++b))->Z (w.grownBy w' v.ownBlock)->Z (j=.slice none 0 0↔v=.slice none 0 0/\m=0)->Z (j.ownBlock=v.ownBlock\/j.ownBlock=some w.heap.size)->
  K (a.put o.dst j) w'):Oper.wp P o a w K Q:=by
 obtain⟨j,w',N,C,D,E,F⟩:=fo (P:=P) (w:=w) t o.type base e i z size bytes R J T g p r q v n y k A m c b L H B l d f
 unfold Oper.wp execOp
 simp only[M,resolve,invoke,builtin,DM,DZ,DH,Eb,D1,Er,O,S,N]
 exact h j w' (bZ C) (bZ D) (bZ E) (bZ F)
def iv:Value->Int | .int _ q=>q | _=>0
abbrev Ent:=Value×Value
abbrev Kid:=Nat×Nat×List Ent×List Nat
def pre:List Kid->List Ent->List Ent
 | c::A,e::E=>c.2.2.1++e::pre A E
 | _,_=>[]
def suf:List Ent->List Kid->List Ent
 | e::E,c::B=>e::(c.2.2.1++suf E B)
 | _,_=>[]
def ao:List Kid->List Ent->List Ent
 | c::A,e::E=>c.2.2.1++e::ao A E
 | c::_,[]=>c.2.2.1
 | [],_=>[]
theorem au:∀(A:List Kid) (EA:List Ent) (c:Kid) (B:List Kid) (EB:List Ent),EA.length=A.length->EB.length=B.length->ao (A++c::B) (EA++EB)=pre A EA++(c.2.2.1++suf EB B)
 | [],[],c,[],[],_,_=>by simp[ao,pre,suf]
 | [],[],c,b::B,e::EB,_,h=>by
  have d:=au [] [] b B EB rfl (by simpa using h);simp only[Dm,pre] at d ⊢;simp only[ao,suf,Dm] at d ⊢;rw[d]
 | a::A,e::EA,c,B,EB,h1,h2=>by
  have d:=au A EA c B EB (by simpa using h1) h2;simp only[D3,ao,pre,d,Dd]
 | [],e::EA,_,_,_,h,_=>by simp at h
 | a::A,[],_,_,_,h,_=>by simp at h
 | [],[],_,[],e::EB,_,h=>by simp at h
 | [],[],_,b::B,[],_,h=>by simp at h
theorem nl:∀(A B:List Kid) (EA EB:List Ent),EA.length=A.length->pre (A++B) (EA++EB)=pre A EA++pre B EB
 | [],B,[],EB,_=>by simp[pre]
 | a::A,B,e::EA,EB,h=>by simp[pre,nl A B EA EB (by simpa using h)]
 | [],_,e::EA,_,h=>by simp at h
 | a::A,_,[],_,h=>by simp at h
theorem xL (A:List Kid) (EA:List Ent) (c:Kid) (e:Ent) (h:EA.length=A.length):pre (A++[c]) (EA++[e])=pre A EA++(c.2.2.1++[e]):=by
 rw[nl A [c] EA [e] h];simp[pre]
theorem cD (e:Ent) (c:Kid) (EB:List Ent) (B:List Kid):suf (e::EB) (c::B)=e::(c.2.2.1++suf EB B):=rfl
theorem lk (A:List Kid) (EA:List Ent) (c:Kid) (h:EA.length=A.length):ao (A++[c]) EA=pre A EA++c.2.2.1:=by
 have:=au A EA c [] [] h rfl;simpa [suf] using this
theorem gV (C D:List Kid) (f g:List Ent) (e:Ent) (i:C.length=f.length+1) (l:D.length=g.length+1):ao (C++D) (f++e::g)=ao C f++e::ao D g:=by
 obtain⟨b,c,rfl⟩:∃b c,C=b++[c]:=⟨C.dropLast,C.getLast (by intro h;rw[h] at i;simp at i),(List.dropLast_concat_getLast _).symm⟩;obtain⟨d,a,rfl⟩:∃d a,D=d::a:=by
  cases D with
  | nil=>simp at l
  | cons d a=>exact⟨d,a,rfl⟩
 have j:f.length=b.length:=by simp at i;omega
 have k:g.length=a.length:=by simp at l;omega
 rw[lk b f c j,show b++[c]++d::a=b++c::(d::a) by simp,au b f c (d::a) (e::g) j (by simp[k]),cD];have:=au [] [] d a g rfl k;simp only[Dm,pre] at this;rw[this,Dd]
def kI (e:Ent):Int:=iv e.1
def Srt (S:Bool) (c:List Ent):Prop:=S=true/\c.Pairwise (fun a b=>kI a<kI b)
theorem Srt.sub {S:Bool} {a b:List Ent} (h:Srt S b) (c:a.Sublist b):Srt S a:=⟨h.1,h.2.sublist c⟩
def eu (k v:Value):List Ent->List Ent
 | []=>[(k,v)]
 | e::r=>if kI e<iv k then e::eu k v r else if iv k<kI e then (k,v)::e::r else (k,v)::r
def dw (k:Value) (a:List Ent):Bool:=a.any (fun e=>decide (kI e=iv k))
def jT (k:Value) (a:List Ent):List Ent:=a.filter (fun e=>!decide (kI e=iv k))
def gj (k:Value) (a:List Ent):Option Value:=(a.find? (fun e=>decide (kI e=iv k))).map (·.2)
theorem ji (k v:Value):∀(P M:List Ent),(∀e∈P,kI e<iv k)->eu k v (P++M)=P++eu k v M
 | [],M,_=>rfl
 | e::P,M,h=>by
  rw[D3,eu,if_pos (h e (by simp)),ji k v P M (fun x a=>h x (by simp[a]))];rfl
theorem nK (k v:Value):∀(M T:List Ent),(∀e∈T,iv k<kI e)->eu k v (M++T)=eu k v M++T
 | [],[],_=>rfl
 | [],e::T,h=>by
  have:=h e (by simp);show (if kI e<iv k then e::eu k v T else if iv k<kI e then (k,v)::e::T else (k,v)::T)=(k,v)::e::T;rw[if_neg (by omega),if_pos this]
 | e::M,T,h=>by
  rw[D3,eu,eu]
  split
  ·rw[nK k v M T h];rfl
  split<;>rfl
theorem yl (k v:Value) (P M T:List Ent) (a:∀e∈P,kI e<iv k) (b:∀e∈T,iv k<kI e):eu k v (P++(M++T))=P++(eu k v M++T):=by
 rw[ji k v P _ a,nK k v M T b]
theorem yy (k:Value) (P M T:List Ent) (d:∀e∈P,kI e<iv k) (f:∀e∈T,iv k<kI e):dw k (P++(M++T))=dw k M:=by
 have b:dw k P=false:=by
  unfold dw;rw[EP];intro e a;have:=d e a;simp;omega
 have c:dw k T=false:=by
  unfold dw;rw[EP];intro e a;have:=f e a;simp;omega
 unfold dw at*;rw[E8,E8,b,c];simp
theorem yS (k:Value) (P M T:List Ent) (d:∀e∈P,kI e<iv k) (f:∀e∈T,iv k<kI e):jT k (P++(M++T))=P++(jT k M++T):=by
 unfold jT;have b:P.filter (fun e=>!decide (kI e=iv k))=P:=Ek.2 (fun e a=>by have:=d e a;simp;omega);have c:T.filter (fun e=>!decide (kI e=iv k))=T:=Ek.2 (fun e a=>by have:=f e a;simp;omega);rw[Eh,Eh,b,c]
theorem yD (k:Value) (P M T:List Ent) (d:∀e∈P,kI e<iv k) (f:∀e∈T,iv k<kI e):gj k (P++(M++T))=gj k M:=by
 unfold gj;have b:P.find? (fun e=>decide (kI e=iv k))=none:=by
  rw[Fe];intro e a;have:=d e a;simp;omega
 have c:T.find? (fun e=>decide (kI e=iv k))=none:=by
  rw[Fe];intro e a;have:=f e a;simp;omega
 rw[List.find?_append,List.find?_append,b,c];simp
def Cut (a:List Ent) (i:Nat) (k:Value):Prop:=(∀j e,j<i->a[j]? =some e->kI e<iv k)/\(∀j e,i<=j->a[j]? =some e->iv k<=kI e)
theorem Cut.before {b:List Ent} {i:Nat} {k:Value} (h:Cut b i k):∀e∈b.take i,kI e<iv k:=fun e c=>by
 obtain⟨j,a⟩:=DQ c;rw[Dx] at a
 split at a
 ·exact h.1 j e (by omega) a
 cases a
theorem Cut.behind {a:List Ent} {i:Nat} {k:Value} (h:Cut a i k):∀e∈a.drop i,iv k<=kI e:=fun e c=>by
 obtain⟨j,b⟩:=DQ c;rw[DK] at b;exact h.2 (i+j) e (by omega) b
abbrev Asc (c:List Ent):Prop:=c.Pairwise (fun a b=>kI a<kI b)
theorem nk (k:Value):∀(A:List Kid) (E:List Ent),Asc (pre A E)->E.length=A.length->(∀e∈E,kI e<iv k)->∀x∈pre A E,kI x<iv k
 | [],[],_,_,_,x,a=>by simp[pre] at a
 | c::A,e::E,h,hl,hk,x,a=>by
  simp only[pre] at h a;have b:=EF.1 h;rcases CX.1 a with a | a
  ·have:=b.2.2 x a e (by simp);have:=hk e (by simp);omega
  rcases Db.1 a with rfl | a
  ·exact hk _ (by simp)
  exact nk k A E (DJ.1 b.2.1).2 (by simpa using hl) (fun y d=>hk y (by simp[d])) x a
 | [],e::E,_,hl,_,_,_=>by simp at hl
 | c::A,[],_,hl,_,_,_=>by simp at hl
theorem pL (k:Value):∀(E:List Ent) (B:List Kid),Asc (suf E B)->E.length=B.length->(∀e∈E,iv k<kI e)->∀x∈suf E B,iv k<kI x
 | [],[],_,_,_,x,a=>by simp[suf] at a
 | e::E,c::B,h,hl,hk,x,a=>by
  simp only[suf] at h a;have d:=DJ.1 h;have b:=hk e (by simp);rcases Db.1 a with rfl | a
  ·exact b
  have:=d.1 x a;omega
 | [],c::B,_,hl,_,_,_=>by simp at hl
 | e::E,[],_,hl,_,_,_=>by simp at hl
theorem gR {P M T:List Ent} (h:Asc (P++(M++T))):Asc P/\Asc M/\Asc T/\(∀a∈P,∀b∈M,kI a<kI b)/\(∀a∈P,∀b∈T,kI a<kI b)/\(∀a∈M,∀b∈T,kI a<kI b):=by
 have c:=EF.1 h;have d:=EF.1 c.2.1;exact⟨c.1,d.1,d.2.1,fun a e b f=>c.2.2 a e b (by simp[f]),fun a e b f=>c.2.2 a e b (by simp[f]),d.2.2⟩
theorem jQ {k:Value} {a:List Ent} (h:∀e∈a,kI e≠iv k):dw k a=false:=by
 unfold dw;rw[EP];intro e b;simpa using h e b
theorem ax {w:World} {base:Nat} {e:TypeId} {size n:Nat} {v:Value} {i:List Value} (h:w.ownsRow base e size v n i) (r:0<n):
 ∃g c,v=.slice (V g) n c/\n<=c/\c<=maxLen/\base<=g/\g<w.heap.size/\(∀j u,i[j]? =some u->w.cell? (U g j)=some u)/\∃a,Blk w g e a:=by
  rcases h.2 with ⟨_,q⟩ | ⟨g,d,a,p,k,f,l,m,s,o⟩
  ·omega
  refine⟨g,d,p,l,m,k,Blk.lt (cs:=a) (t:=e) f,fun j u b=>?_,a,f⟩;rw[Blk.cell (cs:=a) (t:=e) f];rw[<-o,Dx] at b
  split at b
  ·simpa using b
  cases b
theorem aH {w:World} {base:Nat} {e:TypeId} {size n:Nat} {v:Value} {j:List Value} (h:w.ownsRow base e size v n j):∃A c,v=.slice A n c/\n<=c/\c<=maxLen:=by
 rcases h.2 with ⟨rfl,rfl⟩ | ⟨g,a,b,i,k,l,d,f,m,o⟩
 ·exact⟨none,0,rfl,C9 _,by simp[maxLen]⟩
 exact⟨_,a,i,d,f⟩
theorem ab {w w':World} {base:Nat} {e:TypeId} {size n:Nat} {v:Value} {a:List Value} (h:w.ownsRow base e size v n a) (b:aa [] w w'):w'.ownsRow base e size v n a:=
 cV h b (fun _ _=>by simp)
theorem bQ (w:World) (base:Nat) (e:TypeId) (size:Nat):w.ownsRow base e size (.slice none 0 0) 0 []:=⟨by simp,.inl ⟨rfl,rfl⟩⟩
theorem bD (w:World) (e:TypeId) (size:Nat):(w.alloc (.cells #[] e)).ownsRow w.heap.size e size (.slice (V w.heap.size) 0 0) 0 []:=
 ⟨by simp,.inr ⟨w.heap.size,0,#[],rfl,C9 _,Blk.new w e #[],C9 _,by simp[maxLen],by simp,by simp⟩⟩
theorem aF {w wr w1:World} {e:TypeId} {size n:Nat} {v:Value} {j:List Value} (f:aa [] w wr) {wo:World} (i:aa [] wr wo) (a:wr.ownsRow w.heap.size e size v n j)
 (d:wo.grownBy w1 v.ownBlock):aa [] w w1:=by
  have c:aa v.ownBlock.toList wo w1:=aa.grown d (by intro g h;rw[h];simp);refine((f.trans i).nil.trans c).mono ?_;intro y b;right;simp only[D8] at b;exact(eN a b).1
def fb (A:Option Addr):List Nat:=(A.map (·.block)).toList
theorem iR (A:Option Addr) (n c:Nat):(Value.slice A n c).ownBlock.toList=fb A:=by cases A<;>rfl
theorem cW {A:Option Addr} {n c g:Nat} (h:(Value.slice A n c).ownBlock=some g):g∈fb A:=by rw[<-iR A n c,h];simp
theorem aw {w:World} {b e size n:Nat} {A:Option Addr} {c:Nat} {j:List Value} (h:w.ownsRow b e size (.slice A n c) n j) {g:Nat} (i:g∈fb A):b<=g/\g<w.heap.size/\∃a,Blk w g e a:=by
 have:(Value.slice A n c).ownBlock=some g:=by rw[<-D8,iR];exact i
 obtain⟨f,a,d⟩:=eN h this;exact⟨f,d.lt,a,d⟩
theorem aq {w w':World} {Y:List Nat} {b e size n:Nat} {A:Option Addr} {c:Nat} {a:List Value} (h:w.ownsRow b e size (.slice A n c) n a) (i:aa Y w w') (d:∀y∈Y,y∉fb A):w'.ownsRow b e size (.slice A n c) n a:=
 cV h i (fun g f j=>d g j (cW f))
abbrev wT (w:World) (e:TypeId) (A:Option Addr) (c:Nat) (a:List Value):Prop:=w.ownsRow 0 e 1 (.slice A a.length c) a.length a
structure BTy where
 tn:TypeId
 tk:TypeId
 tv:TypeId
 tp:TypeId
def ptr (p:Nat):Value:=.pointer (V p)
def aX (T:BTy) (w:World) (p:Nat) (f h:List Value) (cs:List Nat) (F:List Nat):Prop:=
 ∃b e c g a d,Blk w p T.tn #[.slice b f.length e,.slice c h.length g,.slice a cs.length d]/\wT w T.tk b e f/\wT w T.tv c g h/\w.ownsRow 0 T.tp 1 (.slice a cs.length d) cs.length (cs.map ptr)/\F=p::(fb b++(fb c++fb a))
theorem aX.keep {T:BTy} {w w':World} {p:Nat} {e f:List Value} {cs F Y:List Nat} (h:aX T w p e f cs F) (d:aa Y w w') (c:∀y∈Y,y∉F):aX T w' p e f cs F:=by
 obtain⟨n,o,q,r,g,i,m,j,k,l,rfl⟩:=h;exact⟨n,o,q,r,g,i,m.keep d (fun a=>c p a (by simp)),aq j d (fun y b a=>c y b (by simp[a])),aq k d (fun y b a=>c y b (by simp[a])),aq l d (fun y b a=>c y b (by simp[a])),rfl⟩
theorem aX.lt {T:BTy} {w:World} {p:Nat} {f g:List Value} {cs F:List Nat} (h:aX T w p f g cs F):∀x∈F,x<w.heap.size:=by
 obtain⟨k,l,m,n,i,j,e,b,c,d,rfl⟩:=h;intro x a;simp only[Db,CX] at a;rcases a with rfl | a | a | a
 ·exact e.lt
 ·exact(aw b a).2.1
 ·exact(aw c a).2.1
 exact(aw d a).2.1
theorem aX.mem {T:BTy} {w:World} {p:Nat} {a b:List Value} {cs F:List Nat} (h:aX T w p a b cs F):p∈F:=by
 obtain⟨j,k,l,m,c,d,i,e,f,g,rfl⟩:=h;simp
def af (kids:List Kid):List Nat:=kids.flatMap (fun c=>c.2.2.2)
theorem aT {kids:List Kid} {x:Nat}:x∈af kids↔∃c∈kids,x∈c.2.2.2:=by unfold af;simp[Ea]
theorem aB (A B:List Kid):af (A++B)=af A++af B:=by unfold af;simp
theorem aG (c:Kid) (B:List Kid):af (c::B)=c.2.2.2++af B:=by unfold af;simp
def Rep (T:BTy) (w:World):Nat->Nat->Nat->List Ent->List Nat->Prop
 | 0,p,m,es,F=>m=es.length/\aX T w p (es.map (·.1)) (es.map (·.2)) [] F
 | h+1,p,m,es,F=>∃(en:List Ent) (kids:List Kid) (a:List Nat),m=en.length/\1<=m/\kids.length=en.length+1/\es=ao kids en/\aX T w p (en.map (·.1)) (en.map (·.2)) (kids.map (·.1)) a/\
  (∀c∈kids,Rep T w h c.1 c.2.1 c.2.2.1 c.2.2.2/\7<=c.2.1/\c.2.1<=15)/\F=a++af kids
structure cR (T:BTy) (w:World) (h p:Nat) (en:List Ent) (kids:List Kid) (F0:List Nat):Prop where
 len:kids.length=en.length+1
 node:aX T w p (en.map (·.1)) (en.map (·.2)) (kids.map (·.1)) F0
 kid:∀c∈kids,Rep T w h c.1 c.2.1 c.2.2.1 c.2.2.2
 nd:(F0++af kids).Nodup
theorem Rep.keep {T:BTy} {w w':World} {Y:List Nat} (d:aa Y w w'):∀(h p m:Nat) (a:List Ent) (F:List Nat),Rep T w h p m a F->(∀y∈Y,y∉F)->Rep T w' h p m a F
 | 0,p,m,a,F,hr,hY=>⟨hr.1,hr.2.keep d hY⟩
 | h+1,p,m,a,F,hr,hY=>by
  obtain⟨en,kids,i,j,k,l,n,o,g,rfl⟩:=hr;exact⟨en,kids,i,j,k,l,n,o.keep d (fun y f e=>hY y f (by simp[e])),fun c b=>⟨Rep.keep d h _ _ _ _ (g c b).1 (fun y f e=>hY y f (Dg _ (aT.2 ⟨c,b,e⟩))),(g c b).2⟩,rfl⟩
theorem Rep.lt {T:BTy} {w:World}:∀(h p m:Nat) (b:List Ent) (F:List Nat),Rep T w h p m b F->∀x∈F,x<w.heap.size
 | 0,p,m,b,F,hr=>hr.2.lt
 | h+1,p,m,b,F,hr=>by
  obtain⟨en,kids,i,j,k,l,n,d,e,rfl⟩:=hr;intro x a;rcases CX.1 a with a | a
  ·exact d.lt x a
  obtain⟨c,f,g⟩:=aT.1 a;exact Rep.lt h _ _ _ _ (e c f).1 x g
theorem Rep.mem {T:BTy} {w:World}:∀ {h p m:Nat} {a:List Ent} {F:List Nat},Rep T w h p m a F->p∈F
 | 0,p,m,a,F,hr=>hr.2.mem
 | h+1,p,m,a,F,hr=>by
  obtain⟨en,kids,c,d,e,f,g,b,i,rfl⟩:=hr;exact Di _ b.mem
section
variable {P:Program} {ops:Array Oper} {Q:Exit->Act->World->Prop} {md:Region.Mode} {S:World->Prop} {n:Nat}
def dZ (P:Program) (md:Region.Mode) (ops:Array Oper) (Q:Exit->Act->World->Prop) (S:World->Prop) (n:Nat):Nat->Array Bool->Act->World->Prop
 | 0,listed,a,w=>Region.ready md ops listed=[]/\Q .normal a w
 | fuel+1,listed,a,w=>
  (Region.ready md ops listed=[]->Q .normal a w)/\
  ∀i∈Region.ready md ops listed,wpOp P ops Q i (fun a' w'=>(i=n\/S w')/\dZ P md ops Q S n fuel (listed.setIfInBounds i true) a' w') a w
theorem mK:∀(b:Nat) (c:Array Bool) (a:Act) (w:World),dZ P md ops Q S n b c a w->wpAny P md ops Q b c a w
 | 0,_,_,_,h=>h
 | b+1,_,_,_,h=>⟨h.1,fun i f=>wpOp_mono (fun d w' e=>mK b _ d w' e.2) (h.2 i f)⟩
theorem aM {i:Nat} {o:Oper} {c:Nat} {b:Array Bool} {a:Act} {w:World} (p:ops[i]? =some o) (f:Region.ready md ops b=[i])
 (h:∀d:Act->World->Prop,(∀a w,(i=n\/S w)->dZ P md ops Q S n c (b.setIfInBounds i true) a w->d a w)->if Region.wanted o (yielded ops a.tmps)=true then Oper.wp P o a w d Q else d (a.put o.dst undef) w):
 dZ P md ops Q S n (c+1) b a w:=
 ⟨fun g=>absurd (f▸g) (by simp),fun j e=>by
  rw[f] at e;obtain rfl:j=i:=by simpa using e
  exact wpOp_step p (fun d m=>h d (fun a w k l=>m a w ⟨k,l⟩))⟩
theorem cS {b:Array Bool} {a:Act} {w:World} (d:Region.ready md ops b=[]) (h:Q .normal a w):
 ∀c,dZ P md ops Q S n c b a w
 | 0=>⟨d,h⟩
 | _+1=>⟨fun _=>h,by rw[d];simp⟩
theorem eo {id:Nat} {a:Act} {w:World} (b:P.follows .mixedOrders=true)
 (h:dZ P .any ops Q S n ops.size (Array.replicate ops.size false) a w.drew):(Code.region id ops true).wp P Q a w:=
 wp_region_any b (mK _ _ _ _ h)
end
section
variable {P:Program} {ops:Array Oper} {Q:Exit->Act->World->Prop} {md:Region.Mode} {S:World->Prop} {n:Nat}
def bU (P:Program) (md:Region.Mode) (ops:Array Oper) (Q:Exit->Act->World->Prop) (S:World->Prop) (n:Nat):Nat->Array Bool->Act->World->Prop
 | 0,listed,a,w=>Region.ready md ops listed=[]/\Q .normal a w
 | fuel+1,listed,a,w=>
  (Region.ready md ops listed=[]->Q .normal a w)/\
  ∀i∈Region.ready md ops listed,wpOp P ops Q i (fun a' w'=>(n<=i\/S w')/\bU P md ops Q S n fuel (listed.setIfInBounds i true) a' w') a w
theorem bu:∀(b:Nat) (c:Array Bool) (a:Act) (w:World),bU P md ops Q S n b c a w->wpAny P md ops Q b c a w
 | 0,_,_,_,h=>h
 | b+1,_,_,_,h=>⟨h.1,fun i f=>wpOp_mono (fun d w' e=>bu b _ d w' e.2) (h.2 i f)⟩
theorem mL {i:Nat} {o:Oper} {c:Nat} {b:Array Bool} {a:Act} {w:World} (p:ops[i]? =some o) (f:Region.ready md ops b=[i])
 (h:∀d:Act->World->Prop,(∀a w,(n<=i\/S w)->bU P md ops Q S n c (b.setIfInBounds i true) a w->d a w)->if Region.wanted o (yielded ops a.tmps)=true then Oper.wp P o a w d Q else d (a.put o.dst undef) w):
 bU P md ops Q S n (c+1) b a w:=
 ⟨fun g=>absurd (f▸g) (by simp),fun j e=>by
  rw[f] at e;obtain rfl:j=i:=by simpa using e
  exact wpOp_step p (fun d m=>h d (fun a w k l=>m a w ⟨k,l⟩))⟩
theorem qF {b:Array Bool} {a:Act} {w:World} (d:Region.ready md ops b=[]) (h:Q .normal a w):
 ∀c,bU P md ops Q S n c b a w
 | 0=>⟨d,h⟩
 | _+1=>⟨fun _=>h,by rw[d];simp⟩
theorem ad {id:Nat} {a:Act} {w:World} (b:P.follows .mixedOrders=true)
 (h:bU P .any ops Q S n ops.size (Array.replicate ops.size false) a w.drew):(Code.region id ops true).wp P Q a w:=
 wp_region_any b (bu _ _ _ _ h)
theorem cK {i j:Nat} {h l:Oper} {d:Nat} {b:Array Bool} {a:Act} {w:World} (q:ops[i]? =some h) (r:ops[j]? =some l) (o:Region.ready md ops b=[i,j])
 (e:∀c:Act->World->Prop,(∀a w,(n<=i\/S w)->bU P md ops Q S n d (b.setIfInBounds i true) a w->c a w)->if Region.wanted h (yielded ops a.tmps)=true then Oper.wp P h a w c Q else c (a.put h.dst undef) w)
 (f:∀c:Act->World->Prop,(∀a w,(n<=j\/S w)->bU P md ops Q S n d (b.setIfInBounds j true) a w->c a w)->if Region.wanted l (yielded ops a.tmps)=true then Oper.wp P l a w c Q else c (a.put l.dst undef) w):
 bU P md ops Q S n (d+1) b a w:=
 ⟨fun p=>absurd (o▸p) (by simp),fun k g=>by
  rw[o] at g;rcases Db.1 g with rfl | g
  ·exact wpOp_step q (fun c m=>e c (fun a w e f=>m a w ⟨e,f⟩))
  obtain rfl:k=j:=by simpa using g
  exact wpOp_step r (fun c m=>f c (fun a w e f=>m a w ⟨e,f⟩))⟩
end
section
variable {P:Program} {ops:Array Oper} {Q:Exit->Act->World->Prop} {md:Region.Mode} {S:World->Prop} {n:Nat}
def lF (md:Region.Mode) (ops:Array Oper) (i:Nat) (m:List Nat) (k:Nat):List Nat:=
 match ops[k]? with
 | some o=>bif o.after.any (fun e=>Region.binds md e && (e.on==i || m.contains e.on)) then k::m else m
 | none=>m
def marks (md:Region.Mode) (ops:Array Oper) (i:Nat):List Nat:=(List.range ops.size).foldl (lF md ops i) []
def mA (md:Region.Mode) (ops:Array Oper) (n i:Nat):Bool:=(List.range ops.size).all fun j=>decide (j<n) || (marks md ops i).contains j
def Cl (md:Region.Mode) (ops:Array Oper) (a:Array Bool):Prop:=
 ∀k o,ops[k]? =some o->a.getD k false=true->∀e∈o.after,Region.binds md e=true->a.getD e.on false=true
def tw (md:Region.Mode) (ops:Array Oper) (a:Array Bool):Bool:=
 (List.range ops.size).all fun k=>match ops[k]? with
  | some o=>bif a.getD k false then o.after.all (fun e=>!Region.binds md e || a.getD e.on false) else true
  | none=>true
theorem rX {a:Array Bool} (h:tw md ops a=true):Cl md ops a:=by
 intro k o c i e g f;have b:=List.all_eq_true.1 h k (List.mem_range.2 (Dy.1 c).1);simp only[c,i,cond_true] at b;have d:=Array.all_eq_true'.1 b e g;simpa [f] using d
theorem unl {a:Array Bool} {i:Nat} (h:a.getD i true=false):a.getD i false=false:=by
 rcases DR i a.size with b | b
 ·simp[b] at h ⊢;exact h
 simp[Fk b]
theorem rD {a:Array Bool} {j k:Nat} (h:a.getD k false=true):(a.setIfInBounds j true).getD k false=true:=by
 by_cases b:j=k
 ·subst b;rcases DR j a.size with c | c
  ·simp[c]
  simp[Fk c] at h
 rw[getD_set_ne false b];exact h
theorem Cl.set {a:Array Bool} (h:Cl md ops a) {j:Nat} (m:j∈Region.ready md ops a):Cl md ops (a.setIfInBounds j true):=by
 intro k o d l e i g;refine rD ?_;obtain⟨_,n,f,b⟩:=mem_ready.1 m;by_cases c:j=k
 ·subst c;rw[f] at d;cases d;exact b e i g
 rw[getD_set_ne false c] at l;exact h k o d l e i g
theorem pb {a:Array Bool} {i:Nat} (j:Cl md ops a) (p:a.getD i true=false):
 ∀(l:List Nat) (m:List Nat),(∀k∈m,a.getD k false=false/\k∉Region.ready md ops a)->∀k∈l.foldl (lF md ops i) m,a.getD k false=false/\k∉Region.ready md ops a
 | [],m,hm=>hm
 | x::l,m,hm=>by
  refine pb j p l _ ?_;unfold lF
  split
  ·rename_i o ho;cases q:o.after.any (fun e=>Region.binds md e && (e.on==i || m.contains e.on)) with
   | false=>simpa using hm
   | true=>
    simp only[cond_true];obtain⟨e,n,d⟩:=Array.any_eq_true'.1 q;simp only[Bool.and_eq_true,Bool.or_eq_true,beq_iff_eq,List.contains_iff_mem] at d;have f:a.getD e.on false=false:=by
     rcases d.2 with h | h
     ·rw[h];exact unl p
     exact(hm _ h).1
    intro k g;rcases Db.1 g with rfl | g
    ·constructor
     ·cases r:a.getD k false with
      | false=>rfl
      | true=>rw[j k o ho r e n d.1] at f;cases f
     intro s;obtain⟨_,t,c,b⟩:=mem_ready.1 s;rw[ho] at c;cases c;rw[b e n d.1] at f;cases f
    exact hm k g
  exact hm
theorem qd {i j:Nat} {a:Array Bool} (h:mA md ops n i=true) (d:j<ops.size) (e:n<=j) (b:Cl md ops a) (c:a.getD i true=false):j∉Region.ready md ops a:=by
 have:=List.all_eq_true.1 h j (List.mem_range.2 d);rw[decide_eq_false (by omega)] at this;exact(pb b c _ [] (by simp) j (by have h:=this;simp at h;exact h)).2
theorem oI {i:Nat} (hl:mA md ops n i=true) {t:Oper} {v:Value} (M:ops[i]? =some t) (s:∀(j:Nat) (o:Oper) cs b,ops[j]? =some o->o.op≠.select cs b)
 (X:∀c a w,Q (.panic c) (a.put t.dst v) w->Q (.panic c) a w):
 ∀(f:Nat) (d:Array Bool) (a:Act) (w:World),
  (∀j u,ops[j]? =some u->j≠i->d.getD j true=false->(∀e∈u.after,Region.binds md e=true->e.on≠i)->t.apart ops u=true)->Cl md ops d->
  i∈Region.ready md ops d->YieldsIf P ops S t v a->S w->
  bU P md ops Q S n f (d.setIfInBounds i true) (a.put t.dst v) w->bU P md ops Q S n (f+1) d a w:=by
 intro f
 induction f with
 | zero=>
  intro d a w _ _ r J x H;refine⟨fun h=>(by rw[h] at r;cases r),fun j hj=>?_⟩;by_cases g:j=i
  ·subst g;exact J.wpOp M x ⟨.inr x,H⟩
  have:=ready_mono hj g;rw[H.1] at this;cases this
 | succ f ih=>
  intro d a w l A r J x H;refine⟨fun h=>(by rw[h] at r;cases r),fun j hj=>?_⟩;by_cases g:j=i
  ·subst g;exact J.wpOp M x ⟨.inr x,H⟩
  have F:=H.2 j (ready_mono hj g);obtain⟨q,u,p,z⟩:=mem_ready.1 hj;have N:¬n<=j:=fun h=>qd hl (Dy.1 p).1 h A (mem_ready.1 r).1 hj;have C:∀e∈u.after,Region.binds md e=true->e.on≠i:=fun e he Y L=>by
   have F:=z e he Y;rw[L,unl (mem_ready.1 r).1] at F;cases F
  have W:=wpOp_putIf p (l j u p g q C) (fun cs b=>s i t cs b M) (fun cs b=>s j u cs b p) X J F;have m:∀k E,ops[k]? =some E->k≠i->(d.setIfInBounds j true).getD k true=false->
   (∀e∈E.after,Region.binds md e=true->e.on≠i)->t.apart ops E=true:=fun k E hk O D R=>by
   refine l k E hk O ?_ R
   by_cases B:j=k
   ·subst B;exact q
   ·rw[getD_set_ne true B] at D;exact D
  refine wpOp_mono (fun T w' K=>?_) W;have y:S w':=K.2.1.resolve_left N;refine⟨.inr y,ih (d.setIfInBounds j true) T w' m (A.set hj) (ready_mono r (Ne.symm g)) K.1 y ?_⟩;rw[Array.setIfInBounds_comm _ _ g];exact K.2.2
theorem pI {i:Nat} {e:Oper} {v:Value} {d:Nat} {b:Array Bool} {a:Act} {w:World} (g:(tw md ops b && mA md ops n i)=true) (f:ops[i]? =some e)
 (o:Region.noSelect ops=true) (l:Region.free md ops b i=true) (m:(Region.ready md ops b).contains i=true)
 (j:∀c a w,Q (.panic c) (a.put e.dst v) w->Q (.panic c) a w) (k:S w) (p:YieldsIf P ops S e v a) 
 (h:bU P md ops Q S n d (b.setIfInBounds i true) (a.put e.dst v) w):bU P md ops Q S n (d+1) b a w:=
 oI (Bool.and_eq_true_iff.1 g).2 f (Region.noSelect_spec o) j d b a w (Region.free_spec f l) (rX (Bool.and_eq_true_iff.1 g).1) (by simpa using m) p k h
theorem bj {id:Nat} {a:Act} {w:World} (b:P.follows .mixedOrders=true) (h:wpAny P .any ops Q ops.size (Array.replicate ops.size false) a w.drew):(Code.region id ops true).wp P Q a w:=
 wp_region_any b h
end
section
variable {P:Program} {ops:Array Oper} {Q:Exit->Act->World->Prop} {md:Region.Mode} {S:World->Prop} {n:Nat}
def Ord (_:List Nat) (p:Prop):Prop:=p
theorem ord (l:List Nat) {p:Prop} (h:Ord l p):p:=h
theorem av {p:Prop} (h:p):Ord [] p:=h
def Az (md:Region.Mode) (ops:Array Oper) (n:Nat) (a:Array Bool) (i:Nat):Bool:=
 tw md ops a && mA md ops n i && Region.noSelect ops && Region.free md ops a i && (Region.ready md ops a).contains i
theorem tk {i:Nat} {l:List Nat} {f:Oper} {v:Value} {d:Nat} {b:Array Bool} {a:Act} {w:World} (e:Az md ops n b i=true) (k:ops[i]? =some f)
 (g:∀c a w,Q (.panic c) (a.put f.dst v) w->Q (.panic c) a w) (j:S w) (m:YieldsIf P ops S f v a)
 (h:Ord l (bU P md ops Q S n d (b.setIfInBounds i true) (a.put f.dst v) w)):Ord (i::l) (bU P md ops Q S n (d+1) b a w):=by
  unfold Az at e;simp only[Bool.and_eq_true] at e;exact pI (by rw[Bool.and_eq_true];exact e.1.1.1) k e.1.1.2 e.1.2 e.2 g j m h
end
end Go.Proofs.YtmlmfpikncogpaaGreat
