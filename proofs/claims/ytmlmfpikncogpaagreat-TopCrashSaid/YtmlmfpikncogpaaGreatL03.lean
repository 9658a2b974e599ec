import Derived.Laws.IdiomCopy
import Derived.Lib.AppendZerosOnto
import Derived.Lib.Overlaps
import Derived.OwnWalkIn
import Derived.Shelf.RegionOpenPlain
import Derived.Test.YtmlmfpikncogpaaGreatProg
import Derived.Test.YtmlmfpikncogpaaGreatL01
namespace Go.Proofs.YtmlmfpikncogpaaGreat
open Go.RowKit
set_option linter.unusedSimpArgs false
set_option linter.unusedVariables false
set_option maxRecDepth 100000
set_option maxHeartbeats 16000000
theorem dv {α:Type} {L a:List α} {off:Nat} (h:off+a.length<=L.length):(splice L off a).length=L.length:=by
 unfold splice;rw[CU,CU,CY,Da];omega
theorem cf {P:Program} {w:World} (o s u b:TypeId) (y:P.underlying o=some (.slice b)) (n:(P.info? b).map (·.size)=some 1)
 (g off a f:Nat) (A:Option Addr) (l:List Value) (e i:Nat) (D:l.length=e) (B:bm w A e l)
 (k:List Value) (t:TypeId) (r:Blk w g t k.toArray) (x:off+a<=k.length) (z:∀v∈l.take a,v.oneCell'=true):
 ∃w',(Builtin.copy_ #[o,s] u #[.slice (some (U g off)) a f,.slice A e i]).run P w=.ok (goInt ((min e a:Nat):Int)) w'/\
  Blk w' g t (splice k off (l.take a)).toArray/\aa [g] w w':=by
 subst D
 have c:(l.take a).length=min l.length a:=by rw[CY];omega
 by_cases p:min l.length a=0
 ·have d:=run_copy_none (P:=P) w o s u b (some (U g off)) A a f l.length i y n p;have m:l.take a=[]:=Dh (by omega);refine⟨w,by rw[d,p];rfl,?_,aa.refl _ _⟩;rw[m];simpa [splice] using r
 ·rcases B with h | ⟨E,F,rfl,C⟩
  ·rw[h] at p;simp at p
  have d:=run_copy_row (P:=P) w o s u b g off a f (U E F) l.length i k.toArray t (l.take a) y n r c
   (by
    intro j v q;rw[Go.WideShapes.add_plain];refine C j v ?_;rw[Dx] at q
    split at q
    ·exact q
    simp at q)
   (by rw[c];simp;omega)
   z
  rw[c] at d;refine⟨_,d,?_,(aa.refl [g] w).setRow (g:=g) (.inl (CZ.2 rfl)) _⟩;refine Eq.trans (setRow_heap w g _ _ t _ r) ?_;simp only[splice,c,Dd]
theorem cC {P:Program} {w:World} {k:Array Oper} {rest:List Oper} {o:Oper} {a:Act} {Q:Exit->Act->World->Prop} (q:Region.wanted o (yielded k a.tmps)=true) (d s:Operand) (n u:TypeId)
 (E:o.op=.call { callee:=.builtin .copy,args:=#[d,s],argTypes:=#[n,u] }) (e:TypeId) (J:P.underlying n=some (.slice e)) (r:(P.info? e).map (·.size)=some 1)
 (g off b i:Nat) (A:Option Addr) (l:List Value) (c j:Nat) (B:a.eval d=.slice (some (U g off)) b i) (H:a.eval s=.slice A c j) (D:l.length=c) (y:bm w A c l)
 (f:List Value) (t:TypeId) (C:Blk w g t f.toArray) (m:off+b<=f.length) (p:∀v∈l.take b,v.oneCell'=true)
 (h:∀w',Z (Blk w' g t (splice f off (l.take b)).toArray)->Z (aa [g] w w')->wpList P k Q rest (a.put o.dst (goInt ((min c b:Nat):Int))) w'):
 wpList P k Q (o::rest) a w:=by
  refine aO q fun K z=>?_;obtain⟨w',F,p,x⟩:=cf (P:=P) (w:=w) n u o.type e J r g off b i A l c j D y f t C m p;unfold Oper.wp execOp;simp only[E,resolve,invoke,builtin,DM,DZ,DH,Eb,D1,Er,B,H,F];exact z _ _ (h w' (bZ p) (bZ x))
theorem oG {P:Program} {w:World} {o:Oper} {a:Act} {K:Act->World->Prop} {Q:Exit->Act->World->Prop} (d s:Operand) (m q:TypeId)
 (B:o.op=.call { callee:=.builtin .copy,args:=#[d,s],argTypes:=#[m,q] }) (e:TypeId) (E:P.underlying m=some (.slice e)) (p:(P.info? e).map (·.size)=some 1)
 (g off b i:Nat) (A:Option Addr) (l:List Value) (c j:Nat) (x:a.eval d=.slice (some (U g off)) b i) (D:a.eval s=.slice A c j) (z:l.length=c) (u:bm w A c l)
 (f:List Value) (t:TypeId) (y:Blk w g t f.toArray) (k:off+b<=f.length) (n:∀v∈l.take b,v.oneCell'=true)
 (h:∀w',Z (Blk w' g t (splice f off (l.take b)).toArray)->Z (aa [g] w w')->K (a.put o.dst (goInt ((min c b:Nat):Int))) w'):Oper.wp P o a w K Q:=by
  obtain⟨w',C,n,r⟩:=cf (P:=P) (w:=w) m q o.type e E p g off b i A l c j z u f t y k n;unfold Oper.wp execOp;simp only[B,resolve,invoke,builtin,DM,DZ,DH,Eb,D1,Er,x,D,C];exact h w' (bZ n) (bZ r)
theorem bc {P:Program} {w:World} {m:Array Oper} {o:Oper} {a:Act} {K:Act->World->Prop} {Q:Exit->Act->World->Prop} {E:Prop} (p:Region.wanted o (yielded m a.tmps)=true) (d s:Operand) (n r:TypeId)
 (C:o.op=.call { callee:=.builtin .copy,args:=#[d,s],argTypes:=#[n,r] }) (e:TypeId) (F:P.underlying n=some (.slice e)) (q:(P.info? e).map (·.size)=some 1)
 (g off b i:Nat) (A:Option Addr) (l:List Value) (c j:Nat) (y:a.eval d=.slice (some (U g off)) b i) (D:a.eval s=.slice A c j) (B:l.length=c) (x:bm w A c l)
 (f:List Value) (t:TypeId) (z:Blk w g t f.toArray) (k:off+b<=f.length) (u:∀v∈l.take b,v.oneCell'=true)
 (h:∀w',Z (Blk w' g t (splice f off (l.take b)).toArray)->Z (aa [g] w w')->K (a.put o.dst (goInt ((min c b:Nat):Int))) w'):
 if Region.wanted o (yielded m a.tmps)=true then Oper.wp P o a w K Q else E:=by
  rw[if_pos p];exact oG d s n r C e F q g off b i A l c j y D B x f t z k u h
theorem gh (z:Value) (b:z.cells=#[z]) (m:Nat):Builtin.zeroCells z.cells m=(List.replicate m z).toArray:=by
 rw[b];apply Array.ext';apply Ee;intro j;by_cases a:j<m
 ·simp[Builtin.zeroCells,a,Nat.mod_one]
 simp[Builtin.zeroCells,a]
theorem mg {P:Program} {w:World} (t v B e:TypeId) (d:TypeInfo) (z:Value) (bytes:Nat) (L:P.underlying t=some (.slice e)) (s:P.underlying v=some (.int .i64)) (F:P.info? e=some d) (M:d.zero=some z) (o:d.size=1) (i:d.bytes=bytes) (p:z.cells=#[z])
 (A:Option Addr) (n c:Nat) (a:List Value) (J:a.length=n) (E:bm w A n a) (k:Nat) (C:0<k) (y:c<n+k) (f:bytes<=1000) (r:n+k<=1000000) (N:c<=1000000):
 ∃c' tl w',(Builtin.append_ #[t,v] B #[.slice A n c,I k]).run P w=.ok (.slice (V w.heap.size) (n+k) c') w'/\n+k<=c'/\c'<=maxLen/\Blk w' w.heap.size e ((a++List.replicate k z)++tl).toArray/\n+k+tl.length=c'/\aa [] w w':=by
  subst J;have l:Builtin.nextslicecap (a.length+k) c*d.bytes<=281474976710656:=by
   have x:=growslice_fits (bytes:=bytes) (need:=a.length+k) (old:=c) y (Dc (Nat.mul_le_mul r f) (by decide));rw[i];omega
  have m:(Builtin.firstCells d.size a.length (.slice A a.length c)).run P w.drew=.ok a.toArray w.drew:=by
   rw[o];rcases E with h | ⟨g,off,rfl,b⟩
   ·have:a=[]:=Dh h;subst this;cases A<;>simp[Builtin.firstCells,loadCells,loadCellsFrom]
   exact run_firstCells_some (P:=P) w.drew 1 a.length (U g off) a.length c a (by simp) (fun j u H=>by rw[Go.WideShapes.add_plain];exact b j u H)
  have K:=Lib.run_append_grow_zeros (P:=P) w t v B e d z .i64 .i64 L s F M A a.length c a m k C (by rw[o];decide) y (by omega) (by rw[i];exact Dc (Nat.mul_le_mul (show k<=1000000 by omega) f) (by decide)) l;have q:=grownCap_ge w (a.length+k) c e;refine⟨_,List.replicate (grownCap w (a.length+k) c e - (a.length+k)) z,_,K,q,grownCap_le_maxLen w (a.length+k) c e (by unfold maxLen;omega),?_,by rw[DG];omega,(aa.refl [] w).drew.alloc _⟩;rw[gh z p,gh z p];have x:=Blk.new w.drew e ((a++List.replicate k z)++List.replicate (grownCap w (a.length+k) c e - (a.length+k)) z).toArray;have D:a.toArray++(List.replicate k z).toArray++(List.replicate (grownCap w (a.length+k) c e - (a.length+k)) z).toArray=((a++List.replicate k z)++List.replicate (grownCap w (a.length+k) c e - (a.length+k)) z).toArray:=by
   apply Array.ext';simp only[Array.toList_append]
  rw[D];exact x
theorem ce {P:Program} {w:World} {b:Array Oper} {rest:List Oper} {o:Oper} {a:Act} {Q:Exit->Act->World->Prop} (j:Region.wanted o (yielded b a.tmps)=true) (s x:Operand) (t r:TypeId)
 (N:o.op=.call { callee:=.builtin .append,args:=#[s,x],argTypes:=#[t,r] }) (e:TypeId) (d:TypeInfo) (z:Value) (bytes:Nat) (S:P.underlying t=some (.slice e)) (p:P.underlying r=some (.int .i64)) (L:P.info? e=some d) (W:d.zero=some z) (m:d.size=1) (i:d.bytes=bytes) (q:z.cells=#[z])
 (A:Option Addr) (n c:Nat) (f:List Value) (R:a.eval s=.slice A n c) (M:f.length=n) (E:bm w A n f) (k:Nat) (T:a.eval x=I k) (u:0<k) (J:c<n+k) (g:bytes<=1000) (l:n+k<=1000000) (H:c<=1000000)
 (h:∀c' tl w',n+k<=c'->c'<=maxLen->Z (Blk w' w.heap.size e ((f++List.replicate k z)++tl).toArray)->Z (n+k+tl.length=c')->Z (aa [] w w')->wpList P b Q rest (a.put o.dst (.slice (V w.heap.size) (n+k) c')) w'):
 wpList P b Q (o::rest) a w:=by
  refine aO j fun K F=>?_;obtain⟨c',tl,w',O,v,y,B,C,D⟩:=mg (P:=P) (w:=w) t r o.type e d z bytes S p L W m i q A n c f M E k u J g l H;unfold Oper.wp execOp;simp only[N,resolve,invoke,builtin,DM,DZ,DH,Eb,D1,Er,R,T,O];exact F _ _ (h c' tl w' v y (bZ B) (bZ C) (bZ D))
theorem oZ {w:World} {b e n c:Nat} {A:Option Addr} {d:List Value} (h:w.ownsRow b e 1 (.slice A n c) n d) (u:0<c):∃g tl,A=V g/\b<=g/\n<=c/\c<=maxLen/\Blk w g e (d++tl).toArray/\n+tl.length=c/\d.length=n:=by
 have s:d.length=n:=by have:=h.1;simpa using this
 rcases h.2 with ⟨j,t⟩ | ⟨g,k,a,r,l,m,i,o,p,q⟩
 ·injection j with _ _ j;omega
 injection r with hA _ hcap;subst hcap;have f:a.toList.length=c:=by rw[DO,p];omega
 refine⟨g,a.toList.drop n,hA,l,i,o,?_,by rw[Da,f];omega,s⟩;have:d++a.toList.drop n=a.toList:=by
  rw[<-q,EU];exact Du n _
 rw[this];exact m
theorem ko {w:World} {b e n c g:Nat} {a tl:List Value} (h:Blk w g e (a++tl).toArray) (f:b<=g) (d:a.length=n) (j:n+tl.length=c) (i:c<=maxLen):w.ownsRow b e 1 (.slice (V g) n c) n a:=
 ⟨by simp[d],.inr ⟨g,c,(a++tl).toArray,rfl,f,h,by omega,i,by simp;omega,by simp[d]⟩⟩
theorem aI {w:World} {g t:Nat} {cs l:List Value} {off:Nat} (h:Blk w g t cs.toArray) (b:∀j v,l[j]? =some v->cs[off+j]? =some v) (n:Nat):bm w (some (U g off)) n l:=
 .inr ⟨g,off,rfl,fun j u a=>by rw[h.cell];simpa using b j u a⟩
theorem rg {w:World} {b e k n c:Nat} {A:Option Addr} {j:List Value} (h:w.ownsRow b e 1 (.slice A n c) n j) (p:k<=n) (t:A=none->c=0):w.ownsRow b e 1 (.slice A k c) k (j.take k):=by
 have q:=h.1;refine⟨by rw[CY,q];omega,?_⟩;rcases h.2 with ⟨i,u⟩ | ⟨g,l,a,i,m,o,r,d,f,s⟩
 ·injection i with h1 h2 h3;subst h1 h3 h2;obtain rfl:k=0:=by omega
  exact .inl ⟨rfl,rfl⟩
 injection i with h1 h2 h3;subst h1 h3;exact .inr ⟨g,c,a,rfl,m,o,by omega,d,f,by rw[<-s,Eu,EU,EU,Es p]⟩
theorem iF {P:Program} (w:World) (t n e:TypeId) (z:Value) (l:P.underlying t=some (.slice e)) (m:∀w',(zeroValue e).run P w'=.ok z w') (h:z.cells=#[z]) (k:z.oneCell'=true) (g off c:Nat) (a:List Value) (j:Blk w g e a.toArray) (d:off+1<=a.length):
 ∃(w':World) (b:List Value),(Builtin.clear_ #[t] n #[.slice (some (U g off)) 1 c]).run P w=.ok (.tuple #[]) w'/\Blk w' g e b.toArray/\b.length=a.length/\b.take off=a.take off/\aa [g] w w':=by
  have f:(storeCells (U g off) [z] 0).run P w=.ok () (w.setRow g (a.take off++[z]++a.drop (off+[z].length)).toArray):=run_storeCells_at P g off e [z] 0 a.toArray w j (by simpa using d) (by simp[k]);refine⟨w.setRow g (a.take off++[z]++a.drop (off+[z].length)).toArray,a.take off++[z]++a.drop (off+[z].length),?_,setRow_heap w g _ _ e _ j,?_,?_,(aa.refl [g] w).setRow (g:=g) (.inl (CZ.2 rfl)) _⟩
  ·have i:Builtin.zeroCells z.cells 1=#[z]:=by rw[gh z h];rfl
   simp[Builtin.clear_,run_underlying l,m,i,f]
  ·rw[CU,CU,CY,Da,DE];omega
  rw[Dd,DV (by rw[CY];omega),Eu,Nat.min_self]
theorem rI (a:List Value) (i:Nat):a.take i++a.drop (i+1)=a.eraseIdx i:=(DU a i).symm
theorem rh {w:World} {b e g n c:Nat} {d:List Value} (h:w.ownsRow b e 1 (.slice (V g) n c) n d):∃a:Array Value,b<=g/\Blk w g e a/\n<=c/\c<=maxLen/\a.size=c/\a.toList.take n=d:=by
 rcases h.2 with ⟨h,_⟩ | ⟨p,f,a,o,i,j,k,l,q,m⟩
 ·simp at h
 cases o;exact⟨a,i,j,k,l,by omega,by simpa using m⟩
theorem iE {P:Program} (w:World) (t e:TypeId) (R:TypeInfo) (z:Value) (Y:P.underlying t=some (.slice e)) (hi:P.info? e=some R) (M:R.size=1) (hz:∀w',(zeroValue e).run P w'=.ok z w') (Q:z.cells=#[z]) (s:z.oneCell'=true)
 (b g i m d:Nat) (S:List Value) (hS:S.length=i+1+m) (W:w.ownsRow b e 1 (.slice (V g) (i+1+m) d) (i+1+m) S) (h1:∀v∈S,v.oneCell'=true) (a:Addr) (c:Nat) (ha:m≠0->a=(U g (i+1))) (q r T:Nat):
 ∃w1 w2,(Builtin.append_ #[t,t] q #[.slice (V g) i d,.slice (some a) m c]).run P w=.ok (.slice (V g) (i+m) d) w1/\(Builtin.clear_ #[t] r #[.slice (some (U g (i+m))) 1 T]).run P w1=.ok (.tuple #[]) w2/\
  w2.ownsRow b e 1 (.slice (V g) (i+m) d) (i+m) (S.eraseIdx i)/\aa [g] w w2:=by
 have x:=rg W (k:=i) (by omega) (by simp)
 obtain⟨g',c',O,a0,B,hb,hg,f,_⟩:=ax W (by omega)
 cases O
 have J:(S.drop (i+1)).length=m*1:=by rw[Da];omega
 obtain⟨w1,K,h,D⟩:=run_append_fits (P:=P) w b t q e R 1 Y hi M g i d _ x a m c (S.drop (i+1)) J (fun j u hu=>by
  have hm:m≠0:=by
   rintro rfl;have:=(CV.1 hu).1;omega
  rw[ha hm,Go.WideShapes.add_plain];refine f _ _ ?_;rwa [DK] at hu) (fun v O=>h1 v (Ef O)) (by omega)
 rw[rI] at h
 obtain⟨l,A,o,H,_,n,C⟩:=rh h
 obtain⟨w2,p,L,y,F,N,E⟩:=iF (P:=P) w1 t r e z Y hz Q s g (i+m) T l.toList o (by have:l.toList.length=d:=n;omega)
 refine⟨w1,w2,K,L,⟨h.1,.inr ⟨g,d,p.toArray,rfl,A,y,H,B,?_,?_⟩⟩,(aa.grown (X:=[g]) D (fun k hk=>by simpa using hk.symm)).trans E⟩
 ·rw[Ew,F];simpa using n
 ·show p.take ((i+m)*1)=_;rw[EU,N,C]
theorem fH {P:Program} (w:World) (t e:TypeId) (z:Value) (D:P.underlying t=some (.slice e)) (E:∀w',(zeroValue e).run P w'=.ok z w') (x:z.cells=#[z]) (l:z.oneCell'=true)
 (b g i j:Nat) (S:List Value) (F:S.length=i+1) (A:w.ownsRow b e 1 (.slice (V g) (i+1) j) (i+1) S) (h y:Nat):
 ∃w2,(Builtin.clear_ #[t] h #[.slice (some (U g i)) 1 y]).run P w=.ok (.tuple #[]) w2/\w2.ownsRow b e 1 (.slice (V g) i j) i (S.eraseIdx i)/\aa [g] w w2:=by
  have m:=rg A (k:=i) (by omega) (by simp);have B:S.eraseIdx i=S.take i:=by rw[<-rI,D0 (by omega),DA]
  obtain⟨a,o,d,C,p,c,q⟩:=rh A;obtain⟨w2,f,u,n,s,v,r⟩:=iF (P:=P) w t h e z D E x l g i y a.toList d (by have:a.toList.length=j:=c;omega);refine⟨w2,u,⟨by rw[B];exact m.1,.inr ⟨g,j,f.toArray,rfl,o,n,by omega,p,?_,?_⟩⟩,r⟩
  ·rw[Ew,s];simpa using c
  show f.take (i*1)=_;rw[EU,v,B,<-q,Eu,Es (by omega)]
theorem cz {P:Program} {w w':World} {b:Array Oper} {rest:List Oper} {o:Oper} {a:Act} {Q:Exit->Act->World->Prop} (c:Region.wanted o (yielded b a.tmps)=true) (s x:Operand) (t:TypeId)
 (i:o.op=.call { callee:=.builtin .append,args:=#[s,x],argTypes:=#[t,t] }) (e f d:Value) (k:a.eval s=e) (l:a.eval x=f) (j:(Builtin.append_ #[t,t] o.type #[e,f]).run P w=.ok d w')
 (h:wpList P b Q rest (a.put o.dst d) w'):wpList P b Q (o::rest) a w:=by
  refine aO c fun K g=>?_;unfold Oper.wp execOp;simp only[i,resolve,invoke,builtin,DM,DZ,DH,Eb,D1,Er,k,l,j];exact g _ _ h
section
open Go.RowKit Go.Shelf
def dj (e:TypeId) (w:World) (A:Option Addr) (b:List Value) (n:Nat) (en:Ending) (w':World):Prop:=
 ∃a c',en=.returned (.slice a (n+1) c')/\Z (w'.ownsRow 0 e 1 (.slice a (n+1) c') (n+1) b)/\Z (aa (fb A) w w')/\Z (∀g∈fb a,g∈fb A\/w.heap.size<=g)
theorem dj.of_grown {e:TypeId} {w w':World} {A:Option Addr} {f:List Value} {n c:Nat} {v:Value} (h:w'.ownsRow 0 e 1 v (n+1) f) (j:w.grownBy w' (Value.slice A n c).ownBlock) (a:v.ownBlock=(Value.slice A n c).ownBlock\/v.ownBlock=some w.heap.size):dj e w A f n (.returned v) w':=by
 obtain⟨d,c',rfl,_⟩:=aH h;refine⟨d,c',rfl,bZ h,bZ (aa.grown j (fun k l=>cW l)),bZ (fun g b=>?_)⟩;have i:(Value.slice d (n+1) c').ownBlock=some g:=by rw[<-D8,iR];exact b
 rw[i] at a;rcases a with a | a
 ·exact .inl (cW a.symm)
 injection a with a;exact .inr (by omega)
theorem vv {a tl:List Value} {x y:Value} {i n:Nat} (f:a.length=n) (e:i<n):splice (splice (a++y::tl) (i+1) (a.drop i)) i [x]=(a.take i++x::a.drop i)++tl:=by
 have b:a.drop (i+1+(a.drop i).length)=[]:=D0 (by rw[Da];omega);have c:(a.take (i+1)).drop (i+1)=[]:=D0 (by rw[CY];omega);have d:splice (a++y::tl) (i+1) (a.drop i)=a.take (i+1)++(a.drop i++tl):=by
  unfold splice;rw[DV (by omega),List.drop_append,b,Da,show i+1+(a.length - i) - a.length=1 by omega];simp
 rw[d];unfold splice;rw[DV (by rw[CY];omega),Eu,show min i (i+1)=i by omega,DE,DI (by rw[CY];omega),c];simp
theorem sH {a tl:List Value} {x z:Value} {i n:Nat} (e:a.length=n) (d:i<n):splice (splice ((a.take i++List.replicate (n+1 - i) z)++tl) i [x]) (i+1) (a.drop i)=(a.take i++x::a.drop i)++tl:=by
 have b:(a.take i).length=i:=by rw[CY];omega
 have c:splice ((a.take i++List.replicate (n+1 - i) z)++tl) i [x]=(a.take i++[x])++(List.replicate (n - i) z++tl):=by
  unfold splice;rw[Dd,DS b,DE,show i+1=(a.take i).length+1 by rw[b],List.drop_length_add_append,show n+1 - i=(n - i)+1 by omega,List.replicate_succ];simp
 rw[c];unfold splice;rw[DS (by simp[b]),Da,show i+1+(a.length - i)=(a.take i++[x]).length+(n - i) by simp[b];omega,List.drop_length_add_append,Ei (by simp)];simp
theorem cO {w:World} {g e:Nat} {cs:Array Value} (h:Blk w g e cs):w.shape? g=some (e,cs.size):=by
 unfold Blk at h;simp[World.shape?,h]
theorem kH:(Tryz.prog.info? 2).map (fun i=>(i.zero,i.size,i.bytes))=some (some (I 0),1,8):=by kernel_rfl
theorem pg:(Tryz.prog.info? 62).map (fun i=>(i.zero,i.size,i.bytes))=some (some (Value.slice none 0 0),1,24):=by kernel_rfl
theorem pi:(Tryz.prog.info? 202).map (fun i=>(i.zero,i.size,i.bytes))=some (some (Value.pointer none),1,8):=by kernel_rfl
theorem infoS:(Tryz.prog.info? 9).map (fun i=>(i.zero,i.size,i.bytes))=some (some (Value.string ⟨#[]⟩),1,16):=by kernel_rfl
theorem ph:(Tryz.prog.info? 248).map (fun i=>(i.zero,i.size,i.bytes))=some (some (Value.pointer none),1,8):=by kernel_rfl
def fw:=fun c f=>∀(w:World) (b g off lb d:Nat) (cs a:Array Value) (h:Blk w b c cs) (j:Blk w g c a) (e:b≠g) (i:0<a.size),(callFunc f #[.slice (V b) 1 1,.slice (some (U g off)) lb d]).run Tryz.prog w=.ok (.value (.bool false)) w
theorem kt:fw 2 191/\fw 62 193/\fw 202 195/\fw 9 199/\fw 248 201:=by
 refine⟨?_,?_,?_,?_,?_⟩;have i:=trivial;rotate_left;have j:=trivial;rotate_left;have k:=trivial;rotate_left;have l:=trivial;rotate_left;rotate_left
 all_goals
  intro w b g off lb d cs f a h c m
  first | (have:=i;rw[run_callFunc_extern Tryz.func191 (by kernel_rfl) (by kernel_rfl) (by kernel_rfl) (e:=Extern.SlicesOverlaps.overlaps #[207,207] #[4]) (by kernel_rfl),Lib.run_overlaps_apart (P:=Tryz.prog) w 207 4 2 Tryz.underlying207 1 (fun w=>by kernel_rfl) (U b 0) (U g off) 1 1 lb d c 2 2 cs.size f.size (cO a) (cO h) (by omega) (a.frozen 0) (a.frozen cs.size)]) | (have:=j;rw[run_callFunc_extern Tryz.func193 (by kernel_rfl) (by kernel_rfl) (by kernel_rfl) (e:=Extern.SlicesOverlaps.overlaps #[198,198] #[4]) (by kernel_rfl),Lib.run_overlaps_apart (P:=Tryz.prog) w 198 4 62 Tryz.underlying198 1 (fun w=>by kernel_rfl) (U b 0) (U g off) 1 1 lb d c 62 62 cs.size f.size (cO a) (cO h) (by omega) (a.frozen 0) (a.frozen cs.size)]) | (have:=k;rw[run_callFunc_extern Tryz.func195 (by kernel_rfl) (by kernel_rfl) (by kernel_rfl) (e:=Extern.SlicesOverlaps.overlaps #[208,208] #[4]) (by kernel_rfl),Lib.run_overlaps_apart (P:=Tryz.prog) w 208 4 202 Tryz.underlying208 1 (fun w=>by kernel_rfl) (U b 0) (U g off) 1 1 lb d c 202 202 cs.size f.size (cO a) (cO h) (by omega) (a.frozen 0) (a.frozen cs.size)]) | (have:=l;rw[run_callFunc_extern Tryz.func199 (by kernel_rfl) (by kernel_rfl) (by kernel_rfl) (e:=Extern.SlicesOverlaps.overlaps #[251,251] #[4]) (by kernel_rfl),Lib.run_overlaps_apart (P:=Tryz.prog) w 251 4 9 Tryz.underlying251 1 (fun w=>by kernel_rfl) (U b 0) (U g off) 1 1 lb d c 9 9 cs.size f.size (cO a) (cO h) (by omega) (a.frozen 0) (a.frozen cs.size)]) | rw[run_callFunc_extern Tryz.func201 (by kernel_rfl) (by kernel_rfl) (by kernel_rfl) (e:=Extern.SlicesOverlaps.overlaps #[252,252] #[4]) (by kernel_rfl),Lib.run_overlaps_apart (P:=Tryz.prog) w 252 4 248 Tryz.underlying252 1 (fun w=>by kernel_rfl) (U b 0) (U g off) 1 1 lb d c 248 248 cs.size f.size (cO a) (cO h) (by omega) (a.frozen 0) (a.frozen cs.size)]
  rfl
def gH:=fun d g=>∀(w:World) (A:Option Addr) (n c i b:Nat) (a:List Value) (x:Value) (j:w.ownsRow 0 d 1 (.slice A n c) n a) (l:i<=n) (k:Blk w b d #[x]) (e:b∉fb A) (m:n<=100000) (h:∀v∈a,v.oneCell'=true) (f:x.oneCell'=true),Calls Tryz.prog g #[.slice A n c,I i,.slice (V b) 1 1] w (dj d w A (a.take i++x::a.drop i) n)
theorem aP:gH 2 166/\gH 62 167/\gH 202 171/\gH 9 173/\gH 248 176:=by
 refine⟨?_,?_,?_,?_,?_⟩;have l:=trivial;rotate_left;have m:=trivial;rotate_left;have u:=trivial;rotate_left;have p:=trivial;rotate_left;rotate_left
 all_goals
  intro w A n c i b a x hO hi hb bs hn h1 E
  first | (have:=l;obtain⟨i0,r,C,s,D⟩:=info_parts kH) | (have:=m;obtain⟨i0,r,C,s,D⟩:=info_parts pg) | (have:=u;obtain⟨i0,r,C,s,D⟩:=info_parts pi) | (have:=p;obtain⟨i0,r,C,s,D⟩:=info_parts infoS) | obtain⟨i0,r,C,s,D⟩:=info_parts ph
  have a3:a.length=n:=by have:=hO.1;simpa using this
  have K:bm w (V b) 1 [x]:=aI (cs:=[x]) hb (fun j v Q=>by simpa using Q) 1;replace r:=bZ r;replace C:=bZ C;replace s:=bZ s;replace D:=bZ D;replace K:=bZ K;by_cases bp:i=n
  ·subst bp;have e1:a.take i++x::a.drop i=a++[x]:=by rw[C6 (by omega),D0 (by omega)]
   rw[e1];replace hO:=bZ hO;clear e1 a3;by_cases bk:c=i
   ·first | (have:=l;go_enter Tryz.func166,Tryz.ntmps166) | (have:=m;go_enter Tryz.func167,Tryz.ntmps167) | (have:=u;go_enter Tryz.func171,Tryz.ntmps171) | (have:=p;go_enter Tryz.func173,Tryz.ntmps173) | go_enter Tryz.func176,Tryz.ntmps176
    first | (have:=l;go_wp2_with (at_builtin;refine ae (by rfl) (.tmp 23) (.tmp 24) 207 rfl 0 2 i0 (I 0) 1 8 Tryz.underlying207 r.o C.o s.o D.o rfl (by decide) _ i a rfl hO.o (V b) 1 1 [x] rfl rfl K.o (by simp[E]) (by unfold maxLen;omega) (by omega) (C3 _) ?_;intro v6 w1 q N H B;have M:=bZ (dj.of_grown q.o N.o B.o);obtain⟨A6,f,rfl,_⟩:=aH q.o;clear q N H B)) | (have:=m;go_wp2_with (at_builtin;refine ae (by rfl) (.tmp 23) (.tmp 24) 198 rfl 0 62 i0 (Value.slice none 0 0) 1 24 Tryz.underlying198 r.o C.o s.o D.o rfl (by decide) _ i a rfl hO.o (V b) 1 1 [x] rfl rfl K.o (by simp[E]) (by unfold maxLen;omega) (by omega) (C3 _) ?_;intro v6 w1 q N H B;have M:=bZ (dj.of_grown q.o N.o B.o);obtain⟨A6,f,rfl,_⟩:=aH q.o;clear q N H B)) | (have:=u;go_wp2_with (at_builtin;refine ae (by rfl) (.tmp 23) (.tmp 24) 208 rfl 0 202 i0 (Value.pointer none) 1 8 Tryz.underlying208 r.o C.o s.o D.o rfl (by decide) _ i a rfl hO.o (V b) 1 1 [x] rfl rfl K.o (by simp[E]) (by unfold maxLen;omega) (by omega) (C3 _) ?_;intro v6 w1 q N H B;have M:=bZ (dj.of_grown q.o N.o B.o);obtain⟨A6,f,rfl,_⟩:=aH q.o;clear q N H B)) | (have:=p;go_wp2_with (at_builtin;refine ae (by rfl) (.tmp 23) (.tmp 24) 251 rfl 0 9 i0 (Value.string ⟨#[]⟩) 1 16 Tryz.underlying251 r.o C.o s.o D.o rfl (by decide) _ i a rfl hO.o (V b) 1 1 [x] rfl rfl K.o (by simp[E]) (by unfold maxLen;omega) (by omega) (C3 _) ?_;intro v6 w1 q N H B;have M:=bZ (dj.of_grown q.o N.o B.o);obtain⟨A6,f,rfl,_⟩:=aH q.o;clear q N H B)) | (go_wp2_with (at_builtin;refine ae (by rfl) (.tmp 23) (.tmp 24) 252 rfl 0 248 i0 (Value.pointer none) 1 8 Tryz.underlying252 r.o C.o s.o D.o rfl (by decide) _ i a rfl hO.o (V b) 1 1 [x] rfl rfl K.o (by simp[E]) (by unfold maxLen;omega) (by omega) (C3 _) ?_;intro v6 w1 q N H B;have M:=bZ (dj.of_grown q.o N.o B.o);obtain⟨A6,f,rfl,_⟩:=aH q.o;clear q N H B))
    go_ret;exact M.o
   first | (have:=l;go_enter Tryz.func166,Tryz.ntmps166) | (have:=m;go_enter Tryz.func167,Tryz.ntmps167) | (have:=u;go_enter Tryz.func171,Tryz.ntmps171) | (have:=p;go_enter Tryz.func173,Tryz.ntmps173) | go_enter Tryz.func176,Tryz.ntmps176
   first | (have:=l;go_wp2_with (at_builtin;refine ae (by rfl) (.tmp 23) (.tmp 24) 207 rfl 0 2 i0 (I 0) 1 8 Tryz.underlying207 r.o C.o s.o D.o rfl (by decide) _ i a rfl hO.o (V b) 1 1 [x] rfl rfl K.o (by simp[E]) (by unfold maxLen;omega) (by omega) (C3 _) ?_;intro v6 w1 q N H B;have M:=bZ (dj.of_grown q.o N.o B.o);obtain⟨A6,f,rfl,_⟩:=aH q.o;clear q N H B)) | (have:=m;go_wp2_with (at_builtin;refine ae (by rfl) (.tmp 23) (.tmp 24) 198 rfl 0 62 i0 (Value.slice none 0 0) 1 24 Tryz.underlying198 r.o C.o s.o D.o rfl (by decide) _ i a rfl hO.o (V b) 1 1 [x] rfl rfl K.o (by simp[E]) (by unfold maxLen;omega) (by omega) (C3 _) ?_;intro v6 w1 q N H B;have M:=bZ (dj.of_grown q.o N.o B.o);obtain⟨A6,f,rfl,_⟩:=aH q.o;clear q N H B)) | (have:=u;go_wp2_with (at_builtin;refine ae (by rfl) (.tmp 23) (.tmp 24) 208 rfl 0 202 i0 (Value.pointer none) 1 8 Tryz.underlying208 r.o C.o s.o D.o rfl (by decide) _ i a rfl hO.o (V b) 1 1 [x] rfl rfl K.o (by simp[E]) (by unfold maxLen;omega) (by omega) (C3 _) ?_;intro v6 w1 q N H B;have M:=bZ (dj.of_grown q.o N.o B.o);obtain⟨A6,f,rfl,_⟩:=aH q.o;clear q N H B)) | (have:=p;go_wp2_with (at_builtin;refine ae (by rfl) (.tmp 23) (.tmp 24) 251 rfl 0 9 i0 (Value.string ⟨#[]⟩) 1 16 Tryz.underlying251 r.o C.o s.o D.o rfl (by decide) _ i a rfl hO.o (V b) 1 1 [x] rfl rfl K.o (by simp[E]) (by unfold maxLen;omega) (by omega) (C3 _) ?_;intro v6 w1 q N H B;have M:=bZ (dj.of_grown q.o N.o B.o);obtain⟨A6,f,rfl,_⟩:=aH q.o;clear q N H B)) | (go_wp2_with (at_builtin;refine ae (by rfl) (.tmp 23) (.tmp 24) 252 rfl 0 248 i0 (Value.pointer none) 1 8 Tryz.underlying252 r.o C.o s.o D.o rfl (by decide) _ i a rfl hO.o (V b) 1 1 [x] rfl rfl K.o (by simp[E]) (by unfold maxLen;omega) (by omega) (C3 _) ?_;intro v6 w1 q N H B;have M:=bZ (dj.of_grown q.o N.o B.o);obtain⟨A6,f,rfl,_⟩:=aH q.o;clear q N H B))
   go_ret;exact M.o
  have ba:i<n:=by omega
  have c3:¬((i:Int)=(n:Int)):=by omega
  have bi:0<c:=by obtain⟨_,_,_,h,_⟩:=aH hO;simp_all;omega
  obtain⟨g,tl,rfl,_,c2,bl,Y,b1,_⟩:=oZ hO bi;have a7:b≠g:=fun e=>bs (by simp[fb,e]);have bk:¬c=i:=by omega
  first | (have:=l;have d:(Tryz.prog.info? 2).map (·.size)=some 1:=by rw[r.o];simp[s.o]) | (have:=m;have d:(Tryz.prog.info? 62).map (·.size)=some 1:=by rw[r.o];simp[s.o]) | (have:=u;have d:(Tryz.prog.info? 202).map (·.size)=some 1:=by rw[r.o];simp[s.o]) | (have:=p;have d:(Tryz.prog.info? 9).map (·.size)=some 1:=by rw[r.o];simp[s.o]) | (have d:(Tryz.prog.info? 248).map (·.size)=some 1:=by rw[r.o];simp[s.o])
  by_cases bt:n+1<=c
  ·first | (have:=l;have a8:=fun lb cb=>kt.1 w b g (i+1) lb cb _ _ hb Y a7 (by simp;omega)) | (have:=m;have a8:=fun lb cb=>kt.2.1 w b g (i+1) lb cb _ _ hb Y a7 (by simp;omega)) | (have:=u;have a8:=fun lb cb=>kt.2.2.1 w b g (i+1) lb cb _ _ hb Y a7 (by simp;omega)) | (have:=p;have a8:=fun lb cb=>kt.2.2.2.1 w b g (i+1) lb cb _ _ hb Y a7 (by simp;omega)) | (have a8:=fun lb cb=>kt.2.2.2.2 w b g (i+1) lb cb _ _ hb Y a7 (by simp;omega))
   have c1:¬c=i+1:=by omega
   obtain⟨y,tl,rfl⟩:∃y t,tl=y::t:=by
    cases tl with
    | nil=>simp at b1;omega
    | cons y t=>exact⟨y,t,rfl⟩
   have b2:bm w (some (U g i)) (n+1 - i) ((a++y::tl).drop i |>.take (n+1 - i)):=aI Y (fun j v Q=>by
    rw[Dx] at Q
    split at Q
    ·rwa [DK] at Q
    cases Q) _
   have bn:¬(c:Int)<((n:Int)+1):=by omega
   have b3:Tryz.prog.follows .mixedOrders=true:=by kernel_rfl
   have bd:IntKind.i64.wrap ((i:Int)+1)=(i:Int)+1:=by rw[IntKind.wrap_i64];omega
   have b4:(0:Int)<=(i:Int)+1:=by omega
   have bb:((i:Int)+1).toNat=i+1:=by omega
   have b5:(i:Int)<=(n:Int):=by omega
   have bh:(i:Int)<=(n:Int)+1:=by omega
   have b6:(i:Int)+1<=(n:Int)+1:=by omega
   replace hO:=bZ hO;replace Y:=bZ Y;replace b1:=bZ b1;replace b2:=bZ b2
   first | (have:=l;go_enter Tryz.func166,Tryz.ntmps166) | (have:=m;go_enter Tryz.func167,Tryz.ntmps167) | (have:=u;go_enter Tryz.func171,Tryz.ntmps171) | (have:=p;go_enter Tryz.func173,Tryz.ntmps173) | go_enter Tryz.func176,Tryz.ntmps176
   go_wp2_with (simp only[a8])
   first | (have:=l;have T:Z (Blk w.drew g 2 (a++y::tl).toArray):=bZ Y.o.drew) | (have:=m;have T:Z (Blk w.drew g 62 (a++y::tl).toArray):=bZ Y.o.drew) | (have:=u;have T:Z (Blk w.drew g 202 (a++y::tl).toArray):=bZ Y.o.drew) | (have:=p;have T:Z (Blk w.drew g 9 (a++y::tl).toArray):=bZ Y.o.drew) | have T:Z (Blk w.drew g 248 (a++y::tl).toArray):=bZ Y.o.drew
   have a0:Z (bm w.drew (some (U g i)) (n+1 - i) (((a++y::tl).drop i).take (n+1 - i))):=b2;have X:Z (i+1+(n+1 - (i+1))<=(a++y::tl).length):=bZ (by rw[CU,Dj,a3];omega);have O:Z ((((a++y::tl).drop i).take (n+1 - i)).length=n+1 - i):=bZ (by rw[CY,Da,CU,Dj,a3];omega);have hL:(((a++y::tl).drop i).take (n+1 - i)).take (n+1 - (i+1))=a.drop i:=by
    rw[Eu,show min (n+1 - (i+1)) (n+1 - i)=n - i by omega,DI (by omega),DS (by rw[Da];omega)]
   have J:Z (∀v∈(((a++y::tl).drop i).take (n+1 - i)).take (n+1 - (i+1)),v.oneCell'=true):=bZ (fun v R=>by
    rw[hL] at R;exact h1 v (Ef R))
   first | (have:=l;go_region_law_o (refine bc (by rfl) (.tmp 73) (.tmp 76) 207 207 rfl 2 Tryz.underlying207 d g (i+1) (n+1 - (i+1)) (c - (i+1)) (some (U g i)) (((a++y::tl).drop i).take (n+1 - i)) (n+1 - i) (c - i) (by simp[Act.eval,Act.put]) (by simp[Act.eval,Act.put]) O.o a0.o (a++y::tl) 2 T.o X.o J.o ?_;intro w7 b7 k7)) | (have:=m;go_region_law_o (refine bc (by rfl) (.tmp 73) (.tmp 76) 198 198 rfl 62 Tryz.underlying198 d g (i+1) (n+1 - (i+1)) (c - (i+1)) (some (U g i)) (((a++y::tl).drop i).take (n+1 - i)) (n+1 - i) (c - i) (by simp[Act.eval,Act.put]) (by simp[Act.eval,Act.put]) O.o a0.o (a++y::tl) 62 T.o X.o J.o ?_;intro w7 b7 k7)) | (have:=u;go_region_law_o (refine bc (by rfl) (.tmp 73) (.tmp 76) 208 208 rfl 202 Tryz.underlying208 d g (i+1) (n+1 - (i+1)) (c - (i+1)) (some (U g i)) (((a++y::tl).drop i).take (n+1 - i)) (n+1 - i) (c - i) (by simp[Act.eval,Act.put]) (by simp[Act.eval,Act.put]) O.o a0.o (a++y::tl) 202 T.o X.o J.o ?_;intro w7 b7 k7)) | (have:=p;go_region_law_o (refine bc (by rfl) (.tmp 73) (.tmp 76) 251 251 rfl 9 Tryz.underlying251 d g (i+1) (n+1 - (i+1)) (c - (i+1)) (some (U g i)) (((a++y::tl).drop i).take (n+1 - i)) (n+1 - i) (c - i) (by simp[Act.eval,Act.put]) (by simp[Act.eval,Act.put]) O.o a0.o (a++y::tl) 9 T.o X.o J.o ?_;intro w7 b7 k7)) | (go_region_law_o (refine bc (by rfl) (.tmp 73) (.tmp 76) 252 252 rfl 248 Tryz.underlying252 d g (i+1) (n+1 - (i+1)) (c - (i+1)) (some (U g i)) (((a++y::tl).drop i).take (n+1 - i)) (n+1 - i) (c - i) (by simp[Act.eval,Act.put]) (by simp[Act.eval,Act.put]) O.o a0.o (a++y::tl) 248 T.o X.o J.o ?_;intro w7 b7 k7))
   rw[hL] at b7;have ap:Z (bm w7 (V b) 1 [x]):=bZ (aI (cs:=[x]) ((hb.drew).keep k7.o (by simpa using a7)) (fun j v Q=>by simpa using Q) 1);have ac:Z (i+(n+1 - i)<=(splice (a++y::tl) (i+1) (a.drop i)).length):=bZ (by rw[dv (by rw[Da,CU,Dj,a3];omega),CU,Dj,a3];omega);clear T a0 X O J hL a8 bd b4 bb b6 b5
   first | (have:=l;go_wp2_with (refine cC (by rfl) (.tmp 80) (.tmp 81) 207 207 rfl 2 Tryz.underlying207 d g i (n+1 - i) (c - i) (V b) [x] 1 1 rfl rfl rfl ap.o (splice (a++y::tl) (i+1) (a.drop i)) 2 b7.o ac.o (fun v R=>by rw[CZ.1 (DD R)];exact E) ?_;intro F S k8)) | (have:=m;go_wp2_with (refine cC (by rfl) (.tmp 80) (.tmp 81) 198 198 rfl 62 Tryz.underlying198 d g i (n+1 - i) (c - i) (V b) [x] 1 1 rfl rfl rfl ap.o (splice (a++y::tl) (i+1) (a.drop i)) 62 b7.o ac.o (fun v R=>by rw[CZ.1 (DD R)];exact E) ?_;intro F S k8)) | (have:=u;go_wp2_with (refine cC (by rfl) (.tmp 80) (.tmp 81) 208 208 rfl 202 Tryz.underlying208 d g i (n+1 - i) (c - i) (V b) [x] 1 1 rfl rfl rfl ap.o (splice (a++y::tl) (i+1) (a.drop i)) 202 b7.o ac.o (fun v R=>by rw[CZ.1 (DD R)];exact E) ?_;intro F S k8)) | (have:=p;go_wp2_with (refine cC (by rfl) (.tmp 80) (.tmp 81) 251 251 rfl 9 Tryz.underlying251 d g i (n+1 - i) (c - i) (V b) [x] 1 1 rfl rfl rfl ap.o (splice (a++y::tl) (i+1) (a.drop i)) 9 b7.o ac.o (fun v R=>by rw[CZ.1 (DD R)];exact E) ?_;intro F S k8)) | (go_wp2_with (refine cC (by rfl) (.tmp 80) (.tmp 81) 252 252 rfl 248 Tryz.underlying252 d g i (n+1 - i) (c - i) (V b) [x] 1 1 rfl rfl rfl ap.o (splice (a++y::tl) (i+1) (a.drop i)) 248 b7.o ac.o (fun v R=>by rw[CZ.1 (DD R)];exact E) ?_;intro F S k8))
   go_ret;rw[C6 (by simp;omega),vv a3 ba] at S;refine⟨_,_,rfl,bZ (ko S.o (C3 _) ?_ ?_ bl),bZ ?_,bZ (fun g Y=>.inl Y)⟩
   ·rw[CU,CY,Dj,Da,a3];omega
   ·have:=b1.o;rw[Dj] at this;omega
   exact((aa.refl _ w).drew.trans k7.o).trans k8.o
  obtain rfl:n=c:=by omega
  obtain rfl:tl=[]:=Dh (by omega);have bn:(n:Int)<(n:Int)+1:=by omega
  have b3:Tryz.prog.follows .mixedOrders=true:=by kernel_rfl
  have bd:IntKind.i64.wrap ((i:Int)+1)=(i:Int)+1:=by rw[IntKind.wrap_i64];omega
  have c4:IntKind.i64.wrap ((n:Int)+1 - (i:Int))=(n:Int)+1 - (i:Int):=by rw[IntKind.wrap_i64];omega
  have b4:(0:Int)<=(i:Int)+1:=by omega
  have bb:((i:Int)+1).toNat=i+1:=by omega
  have b5:(i:Int)<=(n:Int):=by omega
  have bh:(i:Int)<=(n:Int)+1:=by omega
  have b6:(i:Int)+1<=(n:Int)+1:=by omega
  have a9:Z ((a.take i).length=i):=bZ (by rw[CY];omega);have ar:Z (bm w (V g) i (a.take i)):=bZ (aI Y (fun j v Q=>by
   rw[Dl,DA];rw[Dx] at Q
   split at Q
   ·exact Q
   cases Q) _)
  have c7:w.heap.size≠b:=by have:=hb.lt;omega
  have c5:w.heap.size≠g:=by have:=Y.lt;omega
  replace hO:=bZ hO;replace Y:=bZ Y
  first | (have:=l;go_enter Tryz.func166,Tryz.ntmps166) | (have:=m;go_enter Tryz.func167,Tryz.ntmps167) | (have:=u;go_enter Tryz.func171,Tryz.ntmps171) | (have:=p;go_enter Tryz.func173,Tryz.ntmps173) | go_enter Tryz.func176,Tryz.ntmps176
  first | (have:=l;have a2:Z (∀(z:World) (f:Nat) (k:List Value),i+(n+1 - i)<=f->Z (Blk z w.heap.size 2 ((a.take i++List.replicate (n+1 - i) (I 0))++k).toArray)->Z (i+(n+1 - i)+k.length=f)->Z (aa [] w z)->(¬f=i/\¬f=i+1)/\Z (Blk z g 2 (a++[]).toArray)/\Z (i+(n+1 - i)<=((a.take i++List.replicate (n+1 - i) (I 0))++k).length)/\Z (n+1+k.length=f)/\∃F,(Builtin.copy_ #[207,207] 3 #[.slice (some (U w.heap.size i)) (n+1 - i) (f - i),.slice (V b) 1 1]).run Tryz.prog z=.ok (goInt 1) F/\Z (Blk F w.heap.size 2 (splice ((a.take i++List.replicate (n+1 - i) (I 0))++k) i [x]).toArray)/\Z (aa [w.heap.size] z F)):=bZ (fun z f k q H B W=>?_)) | (have:=m;have a2:Z (∀(z:World) (f:Nat) (k:List Value),i+(n+1 - i)<=f->Z (Blk z w.heap.size 62 ((a.take i++List.replicate (n+1 - i) (Value.slice none 0 0))++k).toArray)->Z (i+(n+1 - i)+k.length=f)->Z (aa [] w z)->(¬f=i/\¬f=i+1)/\Z (Blk z g 62 (a++[]).toArray)/\Z (i+(n+1 - i)<=((a.take i++List.replicate (n+1 - i) (Value.slice none 0 0))++k).length)/\Z (n+1+k.length=f)/\∃F,(Builtin.copy_ #[198,198] 3 #[.slice (some (U w.heap.size i)) (n+1 - i) (f - i),.slice (V b) 1 1]).run Tryz.prog z=.ok (goInt 1) F/\Z (Blk F w.heap.size 62 (splice ((a.take i++List.replicate (n+1 - i) (Value.slice none 0 0))++k) i [x]).toArray)/\Z (aa [w.heap.size] z F)):=bZ (fun z f k q H B W=>?_)) | (have:=u;have a2:Z (∀(z:World) (f:Nat) (k:List Value),i+(n+1 - i)<=f->Z (Blk z w.heap.size 202 ((a.take i++List.replicate (n+1 - i) (Value.pointer none))++k).toArray)->Z (i+(n+1 - i)+k.length=f)->Z (aa [] w z)->(¬f=i/\¬f=i+1)/\Z (Blk z g 202 (a++[]).toArray)/\Z (i+(n+1 - i)<=((a.take i++List.replicate (n+1 - i) (Value.pointer none))++k).length)/\Z (n+1+k.length=f)/\∃F,(Builtin.copy_ #[208,208] 3 #[.slice (some (U w.heap.size i)) (n+1 - i) (f - i),.slice (V b) 1 1]).run Tryz.prog z=.ok (goInt 1) F/\Z (Blk F w.heap.size 202 (splice ((a.take i++List.replicate (n+1 - i) (Value.pointer none))++k) i [x]).toArray)/\Z (aa [w.heap.size] z F)):=bZ (fun z f k q H B W=>?_)) | (have:=p;have a2:Z (∀(z:World) (f:Nat) (k:List Value),i+(n+1 - i)<=f->Z (Blk z w.heap.size 9 ((a.take i++List.replicate (n+1 - i) (Value.string ⟨#[]⟩))++k).toArray)->Z (i+(n+1 - i)+k.length=f)->Z (aa [] w z)->(¬f=i/\¬f=i+1)/\Z (Blk z g 9 (a++[]).toArray)/\Z (i+(n+1 - i)<=((a.take i++List.replicate (n+1 - i) (Value.string ⟨#[]⟩))++k).length)/\Z (n+1+k.length=f)/\∃F,(Builtin.copy_ #[251,251] 3 #[.slice (some (U w.heap.size i)) (n+1 - i) (f - i),.slice (V b) 1 1]).run Tryz.prog z=.ok (goInt 1) F/\Z (Blk F w.heap.size 9 (splice ((a.take i++List.replicate (n+1 - i) (Value.string ⟨#[]⟩))++k) i [x]).toArray)/\Z (aa [w.heap.size] z F)):=bZ (fun z f k q H B W=>?_)) | have a2:Z (∀(z:World) (f:Nat) (k:List Value),i+(n+1 - i)<=f->Z (Blk z w.heap.size 248 ((a.take i++List.replicate (n+1 - i) (Value.pointer none))++k).toArray)->Z (i+(n+1 - i)+k.length=f)->Z (aa [] w z)->(¬f=i/\¬f=i+1)/\Z (Blk z g 248 (a++[]).toArray)/\Z (i+(n+1 - i)<=((a.take i++List.replicate (n+1 - i) (Value.pointer none))++k).length)/\Z (n+1+k.length=f)/\∃F,(Builtin.copy_ #[252,252] 3 #[.slice (some (U w.heap.size i)) (n+1 - i) (f - i),.slice (V b) 1 1]).run Tryz.prog z=.ok (goInt 1) F/\Z (Blk F w.heap.size 248 (splice ((a.take i++List.replicate (n+1 - i) (Value.pointer none))++k) i [x]).toArray)/\Z (aa [w.heap.size] z F)):=bZ (fun z f k q H B W=>?_)
  rotate_left
  ·have B:=B.o
   first | (have:=l;have L:i+(n+1 - i)<=((a.take i++List.replicate (n+1 - i) (I 0))++k).length:=?_) | (have:=m;have L:i+(n+1 - i)<=((a.take i++List.replicate (n+1 - i) (Value.slice none 0 0))++k).length:=?_) | (have:=p;have L:i+(n+1 - i)<=((a.take i++List.replicate (n+1 - i) (Value.string ⟨#[]⟩))++k).length:=?_) | have L:i+(n+1 - i)<=((a.take i++List.replicate (n+1 - i) (Value.pointer none))++k).length:=?_
   rotate_left
   ·simp only[CU,DG,a9.o];omega
   first | (have:=l;obtain⟨F,h8,S,k8⟩:=cf (P:=Tryz.prog) (w:=z) 207 207 3 2 Tryz.underlying207 d w.heap.size i (n+1 - i) (f - i) (V b) [x] 1 1 rfl (aI (cs:=[x]) (hb.keep W.o (by simp)) (fun j v Q=>by simpa using Q) 1) ((a.take i++List.replicate (n+1 - i) (I 0))++k) 2 H.o L (fun v R=>by rw[CZ.1 (DD R)];exact E)) | (have:=m;obtain⟨F,h8,S,k8⟩:=cf (P:=Tryz.prog) (w:=z) 198 198 3 62 Tryz.underlying198 d w.heap.size i (n+1 - i) (f - i) (V b) [x] 1 1 rfl (aI (cs:=[x]) (hb.keep W.o (by simp)) (fun j v Q=>by simpa using Q) 1) ((a.take i++List.replicate (n+1 - i) (Value.slice none 0 0))++k) 62 H.o L (fun v R=>by rw[CZ.1 (DD R)];exact E)) | (have:=u;obtain⟨F,h8,S,k8⟩:=cf (P:=Tryz.prog) (w:=z) 208 208 3 202 Tryz.underlying208 d w.heap.size i (n+1 - i) (f - i) (V b) [x] 1 1 rfl (aI (cs:=[x]) (hb.keep W.o (by simp)) (fun j v Q=>by simpa using Q) 1) ((a.take i++List.replicate (n+1 - i) (Value.pointer none))++k) 202 H.o L (fun v R=>by rw[CZ.1 (DD R)];exact E)) | (have:=p;obtain⟨F,h8,S,k8⟩:=cf (P:=Tryz.prog) (w:=z) 251 251 3 9 Tryz.underlying251 d w.heap.size i (n+1 - i) (f - i) (V b) [x] 1 1 rfl (aI (cs:=[x]) (hb.keep W.o (by simp)) (fun j v Q=>by simpa using Q) 1) ((a.take i++List.replicate (n+1 - i) (Value.string ⟨#[]⟩))++k) 9 H.o L (fun v R=>by rw[CZ.1 (DD R)];exact E)) | (obtain⟨F,h8,S,k8⟩:=cf (P:=Tryz.prog) (w:=z) 252 252 3 248 Tryz.underlying252 d w.heap.size i (n+1 - i) (f - i) (V b) [x] 1 1 rfl (aI (cs:=[x]) (hb.keep W.o (by simp)) (fun j v Q=>by simpa using Q) 1) ((a.take i++List.replicate (n+1 - i) (Value.pointer none))++k) 248 H.o L (fun v R=>by rw[CZ.1 (DD R)];exact E))
   rw[show min 1 (n+1 - i)=1 by omega] at h8;rw[show [x].take (n+1 - i)=[x] from C6 (by rw[DE];omega)] at S;exact⟨by omega,bZ (Y.o.keep W.o (by simp)),bZ L,bZ (by omega),F,h8,bZ S,bZ k8⟩
  first | (have:=l;go_wp2_with (at_builtin;refine ce (by rfl) (.tmp 34) (.tmp 39) 207 3 rfl 2 i0 (I 0) 8 Tryz.underlying207 Tryz.underlying3 r.o C.o s.o D.o rfl (V g) i n (a.take i) rfl a9.o ar.o (n+1 - i) (by simp[Act.eval,Act.put];omega) (by omega) (by omega) (by decide) (by omega) (by omega) ?_;intro f k z q N H B W;rw[show i+(n+1 - i)=n+1 from by omega];obtain⟨⟨a6,a5⟩,ak,L,q7,F,b0,S,k8⟩:=a2.o z f k q H B W)) | (have:=m;go_wp2_with (at_builtin;refine ce (by rfl) (.tmp 34) (.tmp 39) 198 3 rfl 62 i0 (Value.slice none 0 0) 24 Tryz.underlying198 Tryz.underlying3 r.o C.o s.o D.o rfl (V g) i n (a.take i) rfl a9.o ar.o (n+1 - i) (by simp[Act.eval,Act.put];omega) (by omega) (by omega) (by decide) (by omega) (by omega) ?_;intro f k z q N H B W;rw[show i+(n+1 - i)=n+1 from by omega];obtain⟨⟨a6,a5⟩,ak,L,q7,F,b0,S,k8⟩:=a2.o z f k q H B W)) | (have:=u;go_wp2_with (at_builtin;refine ce (by rfl) (.tmp 34) (.tmp 39) 208 3 rfl 202 i0 (Value.pointer none) 8 Tryz.underlying208 Tryz.underlying3 r.o C.o s.o D.o rfl (V g) i n (a.take i) rfl a9.o ar.o (n+1 - i) (by simp[Act.eval,Act.put];omega) (by omega) (by omega) (by decide) (by omega) (by omega) ?_;intro f k z q N H B W;rw[show i+(n+1 - i)=n+1 from by omega];obtain⟨⟨a6,a5⟩,ak,L,q7,F,b0,S,k8⟩:=a2.o z f k q H B W)) | (have:=p;go_wp2_with (at_builtin;refine ce (by rfl) (.tmp 34) (.tmp 39) 251 3 rfl 9 i0 (Value.string ⟨#[]⟩) 16 Tryz.underlying251 Tryz.underlying3 r.o C.o s.o D.o rfl (V g) i n (a.take i) rfl a9.o ar.o (n+1 - i) (by simp[Act.eval,Act.put];omega) (by omega) (by omega) (by decide) (by omega) (by omega) ?_;intro f k z q N H B W;rw[show i+(n+1 - i)=n+1 from by omega];obtain⟨⟨a6,a5⟩,ak,L,q7,F,b0,S,k8⟩:=a2.o z f k q H B W)) | (go_wp2_with (at_builtin;refine ce (by rfl) (.tmp 34) (.tmp 39) 252 3 rfl 248 i0 (Value.pointer none) 8 Tryz.underlying252 Tryz.underlying3 r.o C.o s.o D.o rfl (V g) i n (a.take i) rfl a9.o ar.o (n+1 - i) (by simp[Act.eval,Act.put];omega) (by omega) (by omega) (by decide) (by omega) (by omega) ?_;intro f k z q N H B W;rw[show i+(n+1 - i)=n+1 from by omega];obtain⟨⟨a6,a5⟩,ak,L,q7,F,b0,S,k8⟩:=a2.o z f k q H B W))
  have an:Z (bm F.drew (some (U g i)) (n - i) (a.drop i)):=bZ (aI ((ak.o.keep k8.o (by simp;omega)).drew) (fun j v Q=>by rw[DA];rwa [DK] at Q) _)
  first | (have:=l;have a1:Z (Blk F.drew w.heap.size 2 (splice ((a.take i++List.replicate (n+1 - i) (I 0))++k) i [x]).toArray):=bZ S.o.drew) | (have:=m;have a1:Z (Blk F.drew w.heap.size 62 (splice ((a.take i++List.replicate (n+1 - i) (Value.slice none 0 0))++k) i [x]).toArray):=bZ S.o.drew) | (have:=u;have a1:Z (Blk F.drew w.heap.size 202 (splice ((a.take i++List.replicate (n+1 - i) (Value.pointer none))++k) i [x]).toArray):=bZ S.o.drew) | (have:=p;have a1:Z (Blk F.drew w.heap.size 9 (splice ((a.take i++List.replicate (n+1 - i) (Value.string ⟨#[]⟩))++k) i [x]).toArray):=bZ S.o.drew) | have a1:Z (Blk F.drew w.heap.size 248 (splice ((a.take i++List.replicate (n+1 - i) (Value.pointer none))++k) i [x]).toArray):=bZ S.o.drew
  first | (have:=l;have a4:Z (i+1+(n+1 - (i+1))<=(splice ((a.take i++List.replicate (n+1 - i) (I 0))++k) i [x]).length):=bZ (by have:=L.o;rw[dv (by rw[DE];omega)];omega)) | (have:=m;have a4:Z (i+1+(n+1 - (i+1))<=(splice ((a.take i++List.replicate (n+1 - i) (Value.slice none 0 0))++k) i [x]).length):=bZ (by have:=L.o;rw[dv (by rw[DE];omega)];omega)) | (have:=p;have a4:Z (i+1+(n+1 - (i+1))<=(splice ((a.take i++List.replicate (n+1 - i) (Value.string ⟨#[]⟩))++k) i [x]).length):=bZ (by have:=L.o;rw[dv (by rw[DE];omega)];omega)) | (have a4:Z (i+1+(n+1 - (i+1))<=(splice ((a.take i++List.replicate (n+1 - i) (Value.pointer none))++k) i [x]).length):=bZ (by have:=L.o;rw[dv (by rw[DE];omega)];omega))
  have O:Z ((a.drop i).length=n - i):=bZ (by rw[Da];omega);have J:Z (∀v∈(a.drop i).take (n+1 - (i+1)),v.oneCell'=true):=bZ (fun v R=>h1 v (Ef (DD R)));have c0:(a.drop i).take (n+1 - (i+1))=a.drop i:=C6 (by rw[O.o];omega)
  first | (have:=l;go_region_law_o (refine bc (by rfl) (.tmp 50) (.tmp 53) 207 207 rfl 2 Tryz.underlying207 d w.heap.size (i+1) (n+1 - (i+1)) (f - (i+1)) (some (U g i)) (a.drop i) (n - i) (n - i) (by simp[Act.eval,Act.put]) (by simp[Act.eval,Act.put]) O.o an.o (splice ((a.take i++List.replicate (n+1 - i) (I 0))++k) i [x]) 2 a1.o a4.o J.o ?_;intro w9 b9 k9)) | (have:=m;go_region_law_o (refine bc (by rfl) (.tmp 50) (.tmp 53) 198 198 rfl 62 Tryz.underlying198 d w.heap.size (i+1) (n+1 - (i+1)) (f - (i+1)) (some (U g i)) (a.drop i) (n - i) (n - i) (by simp[Act.eval,Act.put]) (by simp[Act.eval,Act.put]) O.o an.o (splice ((a.take i++List.replicate (n+1 - i) (Value.slice none 0 0))++k) i [x]) 62 a1.o a4.o J.o ?_;intro w9 b9 k9)) | (have:=u;go_region_law_o (refine bc (by rfl) (.tmp 50) (.tmp 53) 208 208 rfl 202 Tryz.underlying208 d w.heap.size (i+1) (n+1 - (i+1)) (f - (i+1)) (some (U g i)) (a.drop i) (n - i) (n - i) (by simp[Act.eval,Act.put]) (by simp[Act.eval,Act.put]) O.o an.o (splice ((a.take i++List.replicate (n+1 - i) (Value.pointer none))++k) i [x]) 202 a1.o a4.o J.o ?_;intro w9 b9 k9)) | (have:=p;go_region_law_o (refine bc (by rfl) (.tmp 50) (.tmp 53) 251 251 rfl 9 Tryz.underlying251 d w.heap.size (i+1) (n+1 - (i+1)) (f - (i+1)) (some (U g i)) (a.drop i) (n - i) (n - i) (by simp[Act.eval,Act.put]) (by simp[Act.eval,Act.put]) O.o an.o (splice ((a.take i++List.replicate (n+1 - i) (Value.string ⟨#[]⟩))++k) i [x]) 9 a1.o a4.o J.o ?_;intro w9 b9 k9)) | (go_region_law_o (refine bc (by rfl) (.tmp 50) (.tmp 53) 252 252 rfl 248 Tryz.underlying252 d w.heap.size (i+1) (n+1 - (i+1)) (f - (i+1)) (some (U g i)) (a.drop i) (n - i) (n - i) (by simp[Act.eval,Act.put]) (by simp[Act.eval,Act.put]) O.o an.o (splice ((a.take i++List.replicate (n+1 - i) (Value.pointer none))++k) i [x]) 248 a1.o a4.o J.o ?_;intro w9 b9 k9))
  rw[c0,sH a3 ba] at b9;go_wp2_with fail;go_ret;refine⟨_,_,rfl,bZ (ko b9.o (C3 _) ?_ q7.o N),bZ ?_,bZ (fun y hy=>.inr ?_)⟩
  ·rw[CU,CY,Dj,Da,a3];omega
  ·exact(((W.o.nil.trans k8.o).trans ((aa.refl _ _).drew)).trans k9.o).mono (fun y hy=>.inr (by rw[CZ.1 hy];exact C9 _))
  simp[fb] at hy;omega
end
end Go.Proofs.YtmlmfpikncogpaaGreat
