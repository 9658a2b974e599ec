import Derived.Test.YtmlmfpikncogpaaGreatL23
namespace Go.Proofs.YtmlmfpikncogpaaGreat
open Go.RowKit
set_option linter.unusedSimpArgs false
set_option linter.unusedVariables false
set_option maxRecDepth 100000
set_option maxHeartbeats 16000000
def oC (w:World) (A:Option Addr) (l:List (List Int)):Prop:=∀i k,l[i]? =some k->∃g off kA kc,A=some (U g off)/\w.cell? (U g (off+i))=G kA k.length kc/\aY w kA k
def oE (w:World) (A:Option Addr) (l:List (List Int)):Prop:=∀i k,l[i]? =some k->∃g off kA kc x y,A=some (U g off)/\w.cell? (U g (off+i*3))=G kA k.length kc/\w.cell? (U g (off+i*3+1))=some (I x)/\w.cell? (U g (off+i*3+2))=some (I y)/\aY w kA k
theorem oC.keep {w w':World} {A:Option Addr} {l:List (List Int)} (h:oC w A l) (a:aa [] w w'):oC w' A l:=fun i k e=>by
 obtain⟨g,off,f,j,b,c,d⟩:=h i k e;exact⟨g,off,f,j,b,a.cellEq c (by simp),d.keep a⟩
theorem oE.keep {w w':World} {A:Option Addr} {l:List (List Int)} (h:oE w A l) (a:aa [] w w'):oE w' A l:=fun i k j=>by
 obtain⟨g,off,m,n,x,y,b,c,d,e,f⟩:=h i k j;exact⟨g,off,m,n,x,y,b,a.cellEq c (by simp),a.cellEq d (by simp),a.cellEq e (by simp),f.keep a⟩
def oo (a w:World) (t cols q:Nat):Prop:=∃F c b d,ci w t cols [] 1 F/\(∀x∈F,a.heap.size<=x)/\aa [] a w/\w.cell? (U t 3)=G c b d/\b<=q
theorem oo.keep {b w w':World} {t cols q:Nat} (h:oo b w t cols q) (a:aa [] w w'):oo b w' t cols q:=by
 obtain⟨F,i,k,j,c,d,e,f,g⟩:=h;exact⟨F,i,k,j,c.keep a (by simp),d,e.trans a,a.cellEq f (by simp),g⟩
theorem oo.kp {a w:World} {t cols q:Nat} (h:oo a w t cols q):aa [] a w:=by
 obtain⟨F,g,j,i,c,d,b,e,f⟩:=h;exact b
theorem oo.add {i w:World} {t cols q:Nat} (h:oo i w t cols q) (E:q<=1000) (A:Option Addr) (k:List Int) (m c:Nat) (C:k.length=m) (B:aY w A k) (D:m<=10000):
 Calls Tryz.prog 118 #[ptr t,.slice A m c] w fun e w'=>e=.returned (.tuple #[])/\Z (oo i w' t cols (q+1)):=by
  obtain⟨F,L,N,M,u,f,g,v,z⟩:=h;refine(xz w t cols [] 1 F u A k m c C B D L N M q v z E).mono ?_;rintro e w' ⟨j,a,d,b,rfl,l,n,p,r,s⟩;have H:=g.size;exact⟨rfl,bZ ⟨j,a,d,b,l.o,fun x J=>(p.o x J).elim (f x) (fun h=>Dc H h),g.more n.o (fun y K=>.inr (f y K)),r.o,s⟩⟩
def oq (w:World) (cols:Nat) (e:Ending) (w':World):Prop:=∃t F,e=.returned (.pointer (V t))/\Z (ci w' t cols [] 1 F)/\Z (aa [] w w')/\Z (∀x∈F,w.heap.size<=x)
theorem xt (w:World) (nm:ByteArray) (p T E hA:Option Addr) (cols q kc X hn hc c b:Nat) (ks fs:List (List Int)) (a0:1<=cols/\cols<=1000) (hk:ks.length=c) (hf:fs.length=b) (a7:c<=100) (a6:b<=100) (u:oC w T ks) (hF:oE w E fs)
 (Q:∀k∈ks,k.length<=10000) (N:∀k∈fs,k.length<=10000):
 Calls Tryz.prog 85 #[.agg #[.string nm,.slice p cols q,.slice T c kc,.slice E b X,.slice hA hn hc]] w (oq w cols):=by
  have B0:=Blk.new w 32 #[.string nm,.slice p cols q,.slice T c kc,.slice E b X,.slice hA hn hc];have k0:aa [] w (w.alloc (.cells #[.string nm,.slice p cols q,.slice T c kc,.slice E b X,.slice hA hn hc] 32)):=(aa.refl [] w).alloc _;have M:Z (∀W,aa [] (w.alloc (.cells #[.string nm,.slice p cols q,.slice T c kc,.slice E b X,.slice hA hn hc] 32)) W->W.cell? (U w.heap.size 1)=G p cols q/\W.cell? (U w.heap.size 2)=G T c kc/\W.cell? (U w.heap.size 3)=G E b X):=bZ (fun W k=>⟨k.cellEq (B0.cell 1) (by simp),k.cellEq (B0.cell 2) (by simp),k.cellEq (B0.cell 3) (by simp)⟩);replace k0:=bZ k0;replace u:=bZ u;replace hF:=bZ hF;replace Q:=bZ Q;replace N:=bZ N;replace hk:=bZ hk;replace hf:=bZ hf;clear B0;go_enter Tryz.func85,Tryz.ntmps85;go_wp2_with fail;generalize w.alloc (.cells #[.string nm,.slice p cols q,.slice T c kc,.slice E b X,.slice hA hn hc] 32)=w1 at*;obtain⟨z1,z2,z3⟩:=M.o w1 (aa.refl _ _);refine ad (S:=(fun w':World=>w'.cell? (U w.heap.size 1)=G p cols q)) (n:=7) (by kernel_rfl) ?_;have r:w1.drew.cell? (U w.heap.size 1)=G p cols q:=z1;have O:Z (aa [] w1 w1.drew):=bZ (aa.refl [] w1).drew;generalize w1.drew=wd at*;refine ord [0,1,2] ?_
  iterate 3 (refine tq r ?_;try simp only[PT,Y1,Y2,Y3])
  refine av ?_;refine J1 3 fun K u=>?_;dsimp only[Y1,Y2,Y3];go_simp;refine(tS.1 wd).mono ?_;rintro e w2 ⟨D,F1,rfl,z,k2,s⟩;unfold ptr;have r:w2.cell? (U w.heap.size 1)=G p cols q:=k2.o.cellEq r (by simp);have C:Z (aa [] w1 w2):=bZ (O.o.trans k2.o);have s:Z (∀x∈F1,w1.heap.size<=x):=bZ (fun x Y=>Dc O.o.size (s.o x Y));refine u _ _ (.inr r) ?_;clear u K k2 O
  try simp only[PT,Y1,Y2,Y3]
  refine ord [4] ?_
  (refine tq r ?_;try simp only[PT,Y1,Y2,Y3])
  refine av ?_;refine J1 5 fun K u=>?_;dsimp only[Y1,Y2,Y3];go_simp;have r:(w2.alloc (.cells #[I cols,.pointer (V D),I 1,.slice none 0 0] 175)).cell? (U w.heap.size 1)=G p cols q:=((aa.refl [] w2).alloc _).cellEq r (by simp);refine u _ _ (.inr r) ?_;clear u K
  try simp only[PT,Y1,Y2,Y3]
  refine ord [6] ?_
  (refine tq r ?_;try simp only[PT,Y1,Y2,Y3])
  refine av ?_;refine JD ?_;have H:Z (oo w1 (w2.alloc (.cells #[I cols,.pointer (V D),I 1,.slice none 0 0] 175)) w2.heap.size cols 0):=bZ (by
   have B:=Blk.new w2 175 #[I cols,.pointer (V D),I 1,.slice none 0 0];have k3:aa [] w2 (w2.alloc (.cells #[I cols,.pointer (V D),I 1,.slice none 0 0] 175)):=(aa.refl [] w2).alloc _;have hs:=C.o.size;refine⟨_,none,0,0,⟨⟨D,none,0,0,[],F1,[],[],B,z.o.keep k3 (by simp),bQ _ _ _ _,rfl,trivial,nd4.2 ⟨⟨by simp[fb],fun A=>?_,by simp⟩,by simp[fb],z.o.nd,by simp,by simp[fb],by simp[fb],by simp⟩,trivial,rfl⟩,a0,List.Pairwise.nil,by simp,by omega⟩,fun x Y=>?_,C.o.trans k3,B.cell 3,by omega⟩
   ·exact absurd (z.o.lt _ A) (Nat.lt_irrefl _)
   simp only[fb,eL,List.flatMap_nil,DA,List.flatten_nil,Db,CX,Option.map_none,Option.toList_none,Dw,or_false,false_or] at Y;rcases Y with rfl | h
   ·exact hs
   exact s.o x h)
  have a2:Z (aa [] w1 (w2.alloc (.cells #[I cols,.pointer (V D),I 1,.slice none 0 0] 175))):=bZ (C.o.alloc _);obtain⟨t,ht⟩:∃x,x=w2.heap.size:=⟨_,rfl⟩;rw[<-ht] at H ⊢;generalize w2.alloc (.cells #[I cols,.pointer (V D),I 1,.slice none 0 0] 175)=w3 at*;clear ht z s C z1 z2 z3;obtain⟨_,z2,z3⟩:=M.o w3 a2.o;go_wp2_with fail;go_loopw [17] (fun a wr=>∃j:Nat,j<=c/\a=I (j:Int)/\Z (oo w1 wr t cols j)) (fun a _=>c - (intOf a).toNat)
  case atStart=>exact⟨0,C3 _,rfl,H⟩
  obtain⟨j,hj,rfl,v⟩:=hrel;clear H a2;by_cases R:j<c
  ·have a4:(j:Int)<(c:Int):=by omega
   have wj:IntKind.i64.wrap ((j:Int)+1)=(j:Int)+1:=C0 _ (by omega);obtain⟨k,f⟩:∃k,ks[j]? =some k:=⟨_,CT (by rw[hk.o];exact R)⟩;obtain⟨g,off,qA,qc,rfl,a3,hI⟩:=(u.o.keep (k0.o.trans v.o.kp)) j k f;have l:=Q.o k (CW f);obtain⟨m,A⟩:∃m,m=k.length:=⟨_,rfl⟩;rw[<-A] at a3 l;have d:=bZ (v.o.add (by omega) qA k m qc A.symm hI l);unfold ptr at d;clear f A hI;go_wp2_with (refine d.o.mono ?_;rintro e w4 ⟨rfl,J⟩);go_roundw
   case rel=>exact⟨j+1,by omega,by go_num,J⟩
   case measure=>simp[intOf];omega
  obtain rfl:j=c:=by omega
  obtain⟨_,_,y3⟩:=M.o wr v.o.kp;go_wp2_with fail;clear z2 z3 y3;obtain⟨wo,a5⟩:∃x,x=wr:=⟨_,rfl⟩;subst a5;go_loopw [28] (fun a wq=>∃i:Nat,i<=b/\a=I (i:Int)/\Z (oo w1 wq t cols (j+i))) (fun a _=>b - (intOf a).toNat)
  case atStart=>exact⟨0,C3 _,rfl,v⟩
  obtain⟨i,hi,rfl,L⟩:=hrel;by_cases R:i<b
  ·have a4:(i:Int)<(b:Int):=by omega
   have wj:IntKind.i64.wrap ((i:Int)+1)=(i:Int)+1:=C0 _ (by omega);obtain⟨k,P⟩:∃k,fs[i]? =some k:=⟨_,CT (by rw[hf.o];exact R)⟩;obtain⟨g,off,qA,qc,x,y,rfl,c0,c1,c2,hI⟩:=(hF.o.keep (k0.o.trans L.o.kp)) i k P;have l:=N.o k (CW P);obtain⟨m,A⟩:∃m,m=k.length:=⟨_,rfl⟩;rw[<-A] at c0 l;have ka:aa [] wr (wr.alloc (.cells #[.slice qA m qc,I x,I y] 68)):=(aa.refl [] wr).alloc _;have d:=bZ ((L.o.keep ka).add (by omega) qA k m qc A.symm (hI.keep ka) l);unfold ptr at d;clear P A hI ka;go_wp2_with (refine d.o.mono ?_;rintro e w4 ⟨rfl,J⟩);go_roundw
   case rel=>exact⟨i+1,by omega,by go_num,J⟩
   case measure=>simp[intOf];omega
  obtain rfl:i=b:=by omega
  have a1:Z (oq w cols (.returned (.pointer (V t))) wr):=bZ (by
   obtain⟨F,xA,xn,xc,h1,h2,h3,h4,h5⟩:=L.o;exact⟨t,F,rfl,bZ h1,bZ (k0.o.trans h3),bZ (fun x Y=>Dc k0.o.size (h2 x Y))⟩)
  go_wp2_with fail;go_ret;exact a1.o
def aL (w:World) (P:Nat->Prop) (A:Option Addr) (a:List Value):Prop:=∀i v,a[i]? =some v->∃g off,A=some (U g off)/\P g/\w.cell? (U g (off+i))=some v
theorem aL.move {w w':World} {P Q:Nat->Prop} {Y:List Nat} {A:Option Addr} {b:List Value} (h:aL w P A b) (j:aa Y w w') (e:∀x,x<w.heap.size->P x->x∉Y/\Q x):aL w' Q A b:=fun i v f=>by
 obtain⟨g,off,c,d,a⟩:=h i v f;have:=e g (block_lt_of_cell a) d;exact⟨g,off,c,this.2,j.cellEq a this.1⟩
theorem aL.src {w:World} {P:Nat->Prop} {A:Option Addr} {a:List Value} {n s:Nat} (h:aL w P A a) (i:a.length=n*s) (k:0<s):bm w A n a:=by
 cases a with
 | nil=>
  refine .inl ?_;rcases DY n with b | b
  ·exact b
  have:=Nat.mul_pos b k;simp at i;omega
 | cons x r=>
  obtain⟨g,off,rfl,_⟩:=h 0 x rfl;refine .inr ⟨g,off,rfl,fun j u f=>?_⟩;obtain⟨l,d,c,_,e⟩:=h j u f;simp only[Option.some.injEq,Addr.mk.injEq] at c;obtain⟨rfl,rfl,_⟩:=c;exact e
theorem aL.own {w:World} {b e s n c:Nat} {A:Option Addr} {j:List Value} (h:w.ownsRow b e s (.slice A n c) n j) (p:0<s):aL w (fun x=>x∈fb A) A j:=fun i v a=>by
 have f:=h.1;have l:=(CV.1 a).1;have m:0<n:=by
  rcases DY n with d | d
  ·subst d;simp at f;rw[f] at a;cases a
  exact d
 obtain⟨g,c',o,_,_,_,_,k,_⟩:=ax h m;injection o with hA _ _;subst hA;exact⟨g,0,rfl,by simp[fb],by rw[Dl];exact k _ _ a⟩
def nJ (k:List Int):List Value:=k.map (Value.int .i64)
theorem ig {w:World} {P:Nat->Prop} {A:Option Addr} {k:List Int} (h:aL w P A (nJ k)):aY w A k:=fun i x c=>by
 obtain⟨g,off,a,_,b⟩:=h i _ (by unfold nJ;rw[De,c];rfl);exact⟨g,off,a,b⟩
theorem tD {w:World} {A:Option Addr} {k:List Int} (h:aY w A k):aL w (fun x=>x∈fb A) A (nJ k):=fun i v a=>by
 unfold nJ at a;rw[De] at a;cases b:k[i]? with
 | none=>rw[b] at a;cases a
 | some x=>
  rw[b] at a;obtain rfl:I x=v:=by simpa using a
  obtain⟨g,off,rfl,c⟩:=h i x b;exact⟨g,off,rfl,by simp[fb],c⟩
def iB (w:World) (P:Nat->Prop) (v:Value):Prop:=∃A n c k,v=.slice A n c/\k.length=n/\n<=10000/\aL w P A (nJ k)
theorem iB.move {w w':World} {P Q:Nat->Prop} {Y:List Nat} {v:Value} (h:iB w P v) (g:aa Y w w') (f:∀x,x<w.heap.size->P x->x∉Y/\Q x):iB w' Q v:=by
 obtain⟨A,n,c,k,a,b,d,e⟩:=h;exact⟨A,n,c,k,a,b,d,e.move g f⟩
def tM (w:World) (P:Nat->Prop) (x y z:Value):Prop:=iB w P x/\(∃n,y=I n)/\∃n,z=I n
structure oO (w:World) (P:Nat->Prop) (vs:List Value) (cols:Nat):Prop where
 out_:∃nm cA cc kA kn kc fA fn fc hA hn hc news ks fs,vs=[.string nm,.slice cA cols cc,.slice kA kn kc,.slice fA fn fc,.slice hA hn hc]/\news.length=cols*6/\(∀u∈news,u.oneCell'=true)/\aL w P cA news/\
  ks.length=kn/\kn<=100/\aL w P kA ks/\(∀v∈ks,iB w P v)/\fs.length=fn*3/\fn<=100/\aL w P fA fs/\(∀i,i<fn->∃x y z,fs[i*3]? =some x/\fs[i*3+1]? =some y/\fs[i*3+2]? =some z/\tM w P x y z)
 hc:1<=cols/\cols<=1000
theorem oO.move {w w':World} {P Q:Nat->Prop} {Y:List Nat} {g:List Value} {cols:Nat} (h:oO w P g cols) (b:aa Y w w') (a:∀x,x<w.heap.size->P x->x∉Y/\Q x):oO w' Q g cols:=by
 obtain⟨nm,j,k,S,W,T,l,n,m,L,O,M,c,X,o,A,B,C,D,E,F,H,J,K,d,e,f⟩:=h.out_;refine⟨⟨nm,j,k,S,W,T,l,n,m,L,O,M,c,X,o,A,B,C,D.move b a,E,F,H.move b a,fun v R=>(J v R).move b a,K,d,e.move b a,fun i N=>?_⟩,h.hc⟩;obtain⟨x,y,z,p,q,r,s,t,u⟩:=f i N;exact⟨x,y,z,p,q,r,s.move b a,t,u⟩
def dU (w:World) (P:Nat->Prop) (A:Option Addr) (a:List (List Value)) (cols:List Nat):Prop:=aL w P A a.flatten/\aJ (oO w P) a cols
theorem dU.move {w w':World} {P Q:Nat->Prop} {Y:List Nat} {A:Option Addr} {a:List (List Value)} {cols:List Nat} (h:dU w P A a cols) (d:aa Y w w') (b:∀x,x<w.heap.size->P x->x∉Y/\Q x):dU w' Q A a cols:=
 ⟨h.1.move d b,h.2.mono (fun f _ c _ e=>e.move d b)⟩
theorem cy:∀(b:List (List Value)) (s:Nat),(∀a∈b,a.length=s)->∀(i:Nat) (a:List Value),b[i]? =some a->∀k,k<s->b.flatten[i*s+k]? =a[k]?
 | [],s,h,i,a,hi,k,hk=>by simp at hi
 | x::r,s,h,0,a,hi,k,hk=>by
  obtain rfl:x=a:=by simpa using hi
  rw[Ed,DC (by rw[h x (by simp)];omega),Nat.zero_mul,Dl]
 | x::r,s,h,i+1,a,hi,k,hk=>by
  have c:=h x (by simp);have e:=cy r s (fun v d=>h v (by simp[d])) i a (by simpa using hi) k hk;rw[Ed,Dv (by rw[c];simp[Nat.add_mul];omega),c,<-e]
  congr 1
  rw[Nat.add_mul];omega
theorem oO.len {w:World} {P:Nat->Prop} {b:List Value} {cols:Nat} (h:oO w P b cols):b.length=5:=by
 obtain⟨q,c,d,m,o,n,e,g,f,j,l,k,a,p,i,rfl,_⟩:=h.out_;rfl
theorem dU.len {w:World} {P:Nat->Prop} {A:Option Addr} {a:List (List Value)} {cols:List Nat} (h:dU w P A a cols):∀b∈a,b.length=5:=fun b e=>by
 obtain⟨c,_,d⟩:=h.2.left b e;exact d.len
def dV (w:World) (e s n:Nat) (a:List Value) (en:Ending) (w':World):Prop:=∃A c,en=.returned (.slice A n c)/\Z (w'.ownsRow w.heap.size e s (.slice A n c) n a)/\Z (aa [] w w')
theorem BJ:(Tryz.prog.info? 58).map (fun i=>(i.zero,i.size,i.bytes))=some (some (.agg #[.string ⟨#[]⟩,I 0,I 0,I 0,I 0,.bool false]),6,56):=by kernel_rfl
theorem za (w:World) (A:Option Addr) (d:List Value) (n c:Nat) (k:d.length=n*6) (P:Nat->Prop) (m:aL w P A d) (M:n<=1000000) (l:∀u∈d,u.oneCell'=true):
 Calls Tryz.prog 113 #[.slice A n c] w (dV w 58 6 n d):=by
  cases A with
  | none=>
   have q:d=[]:=by
    cases d with
    | nil=>rfl
    | cons x r=>obtain⟨g,off,D,_⟩:=m 0 x rfl;cases D
   subst q;obtain rfl:n=0:=by simp at k;omega
   have F:∀w':World,(binOp .eql 27 (.slice none 0 c) (.slice none 0 0)).run Tryz.prog w'=.ok (.bool true) w':=fun w'=>Dz w' 27 58 none 0 c 0 0 Tryz.underlying27;have b:dV w 58 6 0 [] (.returned (.slice none 0 0)) w:=⟨none,0,rfl,bZ ⟨by simp,.inl ⟨rfl,rfl⟩⟩,bZ (aa.refl _ _)⟩;replace b:=bZ b;clear m l;go_enter Tryz.func113,Tryz.ntmps113;go_wp2_with fail;go_ret;exact b.o
  | some a=>
   obtain⟨H,p,f,h,i⟩:=info_parts BJ;have F:∀w':World,(binOp .eql 27 (.slice (some a) n c) (.slice none 0 0)).run Tryz.prog w'=.ok (.bool false) w':=fun w'=>Dz w' 27 58 (some a) n c 0 0 Tryz.underlying27;have e:=bZ ((m.move ((aa.refl [] w).alloc (.cells #[] 58)) (fun x _ E=>⟨by simp,E⟩)).src k (by decide));replace l:=bZ l;replace k:=bZ k;have s:=bZ (bD w 58 6);have j:w.heap.size<=(w.alloc (.cells #[] 58)).heap.size:=(aa.alloc (aa.refl [] w) _).size;replace p:=bZ p;replace f:=bZ f;replace h:=bZ h;replace i:=bZ i;clear m;go_enter Tryz.func113,Tryz.ntmps113;go_wp2_with (at_builtin;refine ae (by rfl) (.tmp 5) (.tmp 6) 27 rfl w.heap.size 58 H (.agg #[.string ⟨#[]⟩,I 0,I 0,I 0,I 0,.bool false]) 6 56 Tryz.underlying27 p.o f.o h.o i.o rfl (by decide) _ 0 [] rfl s.o (some a) n c d rfl k.o e.o l.o (by unfold maxLen;omega) (by omega) j ?_;intro L w1 B C J K);have y:=bZ (aF ((aa.refl [] w).alloc _) (aa.refl [] _) s.o C.o);have t:Z (w1.ownsRow w.heap.size 58 6 L n d):=bZ (by have:=B.o;rw[Dm,Dl] at this;exact this);clear B C J K e s j;obtain⟨v,z,rfl,_⟩:=aH t.o;have b:Z (dV w 58 6 n d (.returned (.slice v n z)) w1):=bZ ⟨v,z,rfl,t,y⟩;clear t y;go_ret;exact b.o
theorem BG:(Tryz.prog.info? 66).map (fun i=>(i.zero,i.size,i.bytes))=some (G none 0 0,1,24):=by kernel_rfl
theorem y8 (w:World) (A:Option Addr) (d:List Value) (n c:Nat) (k:d.length=n*1) (P:Nat->Prop) (m:aL w P A d) (M:n<=1000000) (l:∀u∈d,u.oneCell'=true):
 Calls Tryz.prog 114 #[.slice A n c] w (dV w 66 1 n d):=by
  cases A with
  | none=>
   have q:d=[]:=by
    cases d with
    | nil=>rfl
    | cons x r=>obtain⟨g,off,D,_⟩:=m 0 x rfl;cases D
   subst q;obtain rfl:n=0:=by simp at k;omega
   have F:∀w':World,(binOp .eql 28 (.slice none 0 c) (.slice none 0 0)).run Tryz.prog w'=.ok (.bool true) w':=fun w'=>Dz w' 28 66 none 0 c 0 0 Tryz.underlying28;have b:dV w 66 1 0 [] (.returned (.slice none 0 0)) w:=⟨none,0,rfl,bZ ⟨by simp,.inl ⟨rfl,rfl⟩⟩,bZ (aa.refl _ _)⟩;replace b:=bZ b;clear m l;go_enter Tryz.func114,Tryz.ntmps114;go_wp2_with fail;go_ret;exact b.o
  | some a=>
   obtain⟨H,p,f,h,i⟩:=info_parts BG;have F:∀w':World,(binOp .eql 28 (.slice (some a) n c) (.slice none 0 0)).run Tryz.prog w'=.ok (.bool false) w':=fun w'=>Dz w' 28 66 (some a) n c 0 0 Tryz.underlying28;have e:=bZ ((m.move ((aa.refl [] w).alloc (.cells #[] 66)) (fun x _ E=>⟨by simp,E⟩)).src k (by decide));replace l:=bZ l;replace k:=bZ k;have s:=bZ (bD w 66 1);have j:w.heap.size<=(w.alloc (.cells #[] 66)).heap.size:=(aa.alloc (aa.refl [] w) _).size;replace p:=bZ p;replace f:=bZ f;replace h:=bZ h;replace i:=bZ i;clear m;go_enter Tryz.func114,Tryz.ntmps114;go_wp2_with (at_builtin;refine ae (by rfl) (.tmp 5) (.tmp 6) 28 rfl w.heap.size 66 H (.slice none 0 0) 1 24 Tryz.underlying28 p.o f.o h.o i.o rfl (by decide) _ 0 [] rfl s.o (some a) n c d rfl k.o e.o l.o (by unfold maxLen;omega) (by omega) j ?_;intro L w1 B C J K);have y:=bZ (aF ((aa.refl [] w).alloc _) (aa.refl [] _) s.o C.o);have t:Z (w1.ownsRow w.heap.size 66 1 L n d):=bZ (by have:=B.o;rw[Dm,Dl] at this;exact this);clear B C J K e s j;obtain⟨v,z,rfl,_⟩:=aH t.o;have b:Z (dV w 66 1 n d (.returned (.slice v n z)) w1):=bZ ⟨v,z,rfl,t,y⟩;clear t y;go_ret;exact b.o
theorem BF:(Tryz.prog.info? 68).map (fun i=>(i.zero,i.size,i.bytes))=some (some (.agg #[.slice none 0 0,I 0,I 0]),3,40):=by kernel_rfl
theorem yZ (w:World) (A:Option Addr) (d:List Value) (n c:Nat) (k:d.length=n*3) (P:Nat->Prop) (m:aL w P A d) (M:n<=1000000) (l:∀u∈d,u.oneCell'=true):
 Calls Tryz.prog 116 #[.slice A n c] w (dV w 68 3 n d):=by
  cases A with
  | none=>
   have q:d=[]:=by
    cases d with
    | nil=>rfl
    | cons x r=>obtain⟨g,off,D,_⟩:=m 0 x rfl;cases D
   subst q;obtain rfl:n=0:=by simp at k;omega
   have F:∀w':World,(binOp .eql 29 (.slice none 0 c) (.slice none 0 0)).run Tryz.prog w'=.ok (.bool true) w':=fun w'=>Dz w' 29 68 none 0 c 0 0 Tryz.underlying29;have b:dV w 68 3 0 [] (.returned (.slice none 0 0)) w:=⟨none,0,rfl,bZ ⟨by simp,.inl ⟨rfl,rfl⟩⟩,bZ (aa.refl _ _)⟩;replace b:=bZ b;clear m l;go_enter Tryz.func116,Tryz.ntmps116;go_wp2_with fail;go_ret;exact b.o
  | some a=>
   obtain⟨H,p,f,h,i⟩:=info_parts BF;have F:∀w':World,(binOp .eql 29 (.slice (some a) n c) (.slice none 0 0)).run Tryz.prog w'=.ok (.bool false) w':=fun w'=>Dz w' 29 68 (some a) n c 0 0 Tryz.underlying29;have e:=bZ ((m.move ((aa.refl [] w).alloc (.cells #[] 68)) (fun x _ E=>⟨by simp,E⟩)).src k (by decide));replace l:=bZ l;replace k:=bZ k;have s:=bZ (bD w 68 3);have j:w.heap.size<=(w.alloc (.cells #[] 68)).heap.size:=(aa.alloc (aa.refl [] w) _).size;replace p:=bZ p;replace f:=bZ f;replace h:=bZ h;replace i:=bZ i;clear m;go_enter Tryz.func116,Tryz.ntmps116;go_wp2_with (at_builtin;refine ae (by rfl) (.tmp 5) (.tmp 6) 29 rfl w.heap.size 68 H (.agg #[.slice none 0 0,I 0,I 0]) 3 40 Tryz.underlying29 p.o f.o h.o i.o rfl (by decide) _ 0 [] rfl s.o (some a) n c d rfl k.o e.o l.o (by unfold maxLen;omega) (by omega) j ?_;intro L w1 B C J K);have y:=bZ (aF ((aa.refl [] w).alloc _) (aa.refl [] _) s.o C.o);have t:Z (w1.ownsRow w.heap.size 68 3 L n d):=bZ (by have:=B.o;rw[Dm,Dl] at this;exact this);clear B C J K e s j;obtain⟨v,z,rfl,_⟩:=aH t.o;have b:Z (dV w 68 3 n d (.returned (.slice v n z)) w1):=bZ ⟨v,z,rfl,t,y⟩;clear t y;go_ret;exact b.o
def gg (w:World) (X:List Nat) (A:Option Addr) (cols:Nat) (l:Tab):Prop:=∃rs:List aD,aJ (ei w X cols) rs l/\aL w (fun g=>g∉X) A (bE (rs.map aD.ent))
theorem ah.shift {w w':World} {X Y X':List Nat} {A:Option Addr} {l:List Val} (h:ah w X A l) (b:aa Y w w') (n:∀y∈Y,y∈X\/w.heap.size<=y) (m:∀x∈X',x∈X\/w.heap.size<=x):ah w' X' A l:=by
 intro i v o;obtain⟨g,off,rfl,f,e,j,k⟩:=h i v o;have p:=block_lt_of_cell e;dsimp only at p;have d:g∉Y:=fun c=>by
  rcases n g c with a | a
  ·exact f a
  omega
 exact⟨g,off,rfl,fun c=>by
  rcases m g c with a | a
  ·exact f a
  omega,b.cellEq e d,b.cellEq j d,b.cellEq k d⟩
theorem aL.shift {w w':World} {X Y X':List Nat} {A:Option Addr} {d:List Value} (h:aL w (fun g=>g∉X) A d) (i:aa Y w w') (f:∀y∈Y,y∈X\/w.heap.size<=y) (e:∀x∈X',x∈X\/w.heap.size<=x):aL w' (fun g=>g∉X') A d:=
 h.move i (fun x j c=>⟨fun b=>by
  rcases f x b with a | a
  ·exact c a
  ·omega,fun b=>by
  rcases e x b with a | a
  ·exact c a
  omega⟩)
theorem ei.shift {w w':World} {X Y X':List Nat} {cols:Nat} {r:aD} {x:Int×List Val} (h:ei w X cols r x) (c:aa Y w w') (b:∀y∈Y,y∈X\/w.heap.size<=y) (a:∀x∈X',x∈X\/w.heap.size<=x):ei w' X' cols r x:=
 ⟨h.1,h.2.1,h.2.2.1.shift c b a,h.2.2.2⟩
theorem gg.shift {w w':World} {X Y X':List Nat} {A:Option Addr} {cols:Nat} {l:Tab} (h:gg w X A cols l) (c:aa Y w w') (b:∀y∈Y,y∈X\/w.heap.size<=y) (a:∀x∈X',x∈X\/w.heap.size<=x):gg w' X' A cols l:=by
 obtain⟨rs,d,e⟩:=h;exact⟨rs,aJ.mono d (fun r _ x _ f=>f.shift c b a),e.shift c b a⟩
theorem gg.nil (w:World) (X:List Nat) (A:Option Addr) (cols:Nat):gg w X A cols []:=⟨[],trivial,fun i v h=>by simp[bE] at h⟩
theorem aJ.at {α β:Type} {R:α->β->Prop} {l:List α} {k:List β} (h:aJ R l k) {i:Nat} {b:β} (e:k[i]? =some b):∃a,l[i]? =some a/\R a b:=by
 have j:=h.len;obtain⟨a,d⟩:∃a,l[i]? =some a:=⟨_,CT (by have:=(CV.1 e).1;omega)⟩;obtain⟨g,c,f⟩:=h.get i a d;rw[e] at c;injection c with c;subst c;exact⟨a,d,f⟩
theorem gF {w:World} {P:Nat->Prop} {A:Option Addr} {rs:List aD} (h:aL w P A (bE (rs.map aD.ent))) {i:Nat} {r:aD} (m:rs[i]? =some r):∃g off,A=some (U g off)/\P g/\w.cell? (U g (off+i*2))=some (I r.k)/\w.cell? (U g (off+i*2+1))=G r.A r.n r.c:=by
 obtain⟨e,f⟩:=jm (rs.map aD.ent) i r.ent (by rw[De,m];rfl);obtain⟨g,off,j,l,c1⟩:=h _ _ e;obtain⟨o,b,a,_,d⟩:=h _ _ f;subst j;cases a;exact⟨g,off,rfl,l,c1,by rw[Ej];exact d⟩
theorem rH {l:Tab} {id:Int} {j:Nat} {x:Int×List Val} (h:∀y∈l.take j,y.1≠id) (b:l[j]? =some x) (a:x.1=id):dm id l=true/\cJ id l=some x.2:=by
 have c:l=l.take j++x::l.drop (j+1):=by rw[<-dS b,Du]
 have d:(l.take j).find? (fun e=>decide (e.1=id))=none:=Fe.2 (fun y f=>by simpa using h y f);refine⟨Fo.2 ⟨x,CW b,by simpa using a⟩,?_⟩;unfold cJ;rw[c,List.find?_append,d,List.find?_cons,decide_eq_true a];rfl
theorem vV {l:Tab} {id:Int} (h:∀y∈l,y.1≠id):dm id l=false/\cJ id l=none:=by
 refine⟨EP.2 (fun y a=>by simpa using h y a),?_⟩;unfold cJ;rw[Fe.2 (fun y a=>by simpa using h y a)];rfl
def le (w:World) (X:List Nat) (id:Int) (l:Tab) (e:Ending) (w':World):Prop:=∃A n c b,e=.returned (.tuple #[.slice A n c,.bool b])/\Z (b=dm id l)/\Z (∀row,cJ id l=some row->row.length=n/\ah w' X A row)/\Z (aa [] w w')/\Z (b=false->n=0)
theorem Bq (w:World) (X:List Nat) (cols:Nat) (A:Option Addr) (n c:Nat) (a id:Int) (l:Tab) (z:l.length=n) (L:gg w X A cols l) (Q:n<=1000000):
 Calls Tryz.prog 66 #[.agg #[I (cols:Int),.slice A n c,I a],I id] w (le w X id l):=by
  obtain⟨rs,H,F⟩:=L;have s:aa [] w (w.alloc (.cells #[I (cols:Int),.slice A n c,I a] 115)):=(aa.refl [] w).alloc _;have E:=Blk.new w 115 #[I (cols:Int),.slice A n c,I a];have W:=E.cell 1;have p:aJ (ei (w.alloc (.cells #[I (cols:Int),.slice A n c,I a] 115)) X cols) rs l:=aJ.mono H (fun r _ x _ h=>h.shift s (by simp) (fun x i=>.inl i));have m:=F.shift (X':=X) s (by simp) (fun x i=>.inl i);clear E H F;generalize N:w.alloc (.cells #[I (cols:Int),.slice A n c,I a] 115)=w1 at*;replace p:=bZ p;replace m:=bZ m;replace z:=bZ z;replace s:=bZ s;go_enter Tryz.func66,Tryz.ntmps66;go_wp2_with fail;go_loopw [6] (fun q wr=>∃j:Nat,j<=n/\q=I (j:Int)/\Z (∀y∈l.take j,y.1≠id)/\wr=w1) (fun q _=>n - (intOf q).toNat)
  case atStart=>exact⟨0,C3 _,rfl,bZ (by simp),rfl⟩
  obtain⟨j,P,rfl,t,rfl⟩:=hrel;by_cases B:j<n
  ·have M:(j:Int)<(n:Int):=by omega
   obtain⟨x,i⟩:∃x,l[j]? =some x:=⟨_,CT (by rw[z.o];exact B)⟩;obtain⟨r,D,b⟩:=p.o.at i;obtain⟨g,off,rfl,O,S,T⟩:=gF m.o D;have R:IntKind.i64.wrap ((j:Int)+1)=(j:Int)+1:=C0 _ (by omega);have f:=b.1;by_cases e:r.k=id
   ·obtain⟨u,v⟩:=rH t.o i (f.symm.trans e);have d:Z (le w X id l (.returned (.tuple #[.slice r.A r.n r.c,.bool true])) wr):=bZ ⟨r.A,r.n,r.c,true,rfl,bZ u.symm,bZ (fun row h=>by rw[v] at h;injection h with h;subst h;exact⟨b.2.1.symm,b.2.2.1⟩),s,bZ (fun h=>by cases h)⟩;subst e;clear b f u v t i D;go_wp2_with fail;go_ret2;exact d.o
   have J:(r.k==id)=false:=beq_false_of_ne e;have C:Z (∀y∈l.take (j+1),y.1≠id):=bZ (fun y K=>by
    rw[Dq,i] at K;rcases CX.1 K with h | h
    ·exact t.o y h
    obtain rfl:y=x:=by simpa using h
    rw[<-f];exact e)
   clear b f t i D;go_wp2_with fail;go_roundw
   case rel=>exact⟨j+1,by omega,by go_num,C,by first | trivial | rfl⟩
   case measure=>simp[intOf];omega
  obtain rfl:j=n:=by omega
  obtain⟨u,v⟩:=vV (l:=l) (id:=id) (by have:=t.o;rwa [C6 (by rw[z.o];exact C9 _)] at this);have d:Z (le w X id l (.returned (.tuple #[.slice none 0 0,.bool false])) wr):=bZ ⟨none,0,0,false,rfl,bZ u.symm,bZ (fun row h=>by rw[v] at h;cases h),s,bZ (fun _=>rfl)⟩;go_wp2_with fail;go_ret2;exact d.o
structure WrS (w0:World) (p:Nat) (A0:Option Addr) (w:World) (A:Option Addr) (n c:Nat) (L:List UInt8):Prop where
 blk:Blk w p 162 #[.slice A n c]
 own:w.ownsRow 0 5 1 (.slice A n c) n (L.map bv)
 kp:aa (p::fb A0) w0 w
 nw:∀g∈fb A,g∈fb A0\/w0.heap.size<=g
 np:p∉fb A
theorem WrS.len {b w:World} {p n c:Nat} {a A:Option Addr} {L:List UInt8} (h:WrS b p a w A n c L):L.length=n:=by have:=h.own.1;simpa using this
theorem WrS.start {w:World} {p n c:Nat} {A:Option Addr} {L:List UInt8} (a:Blk w p 162 #[.slice A n c]) (b:w.ownsRow 0 5 1 (.slice A n c) n (L.map bv)):WrS w p A w A n c L:=
 ⟨a,b,aa.refl _ _,fun g f=>.inl f,fun h=>by
  obtain⟨_,_,d,e⟩:=aw b h;exact(a.ne_ e (by decide)) rfl⟩
theorem WrS.then_ {j w w1:World} {p n c i c1:Nat} {b A d:Option Addr} {L e:List UInt8} (h:WrS j p b w A n c L) (k:WrS w p A w1 d i c1 e):WrS j p b w1 d i c1 e:=by
 have m:=h.kp.size;refine⟨k.blk,k.own,h.kp.more k.kp (fun y a=>?_),fun g l=>?_,k.np⟩
 ·rcases Db.1 a with rfl | a
  ·exact .inl (by simp)
  exact(h.nw y a).imp_left (DL _)
 rcases k.nw g l with f | f
 ·exact h.nw g f
 exact .inr (by omega)
theorem WrS.keep {d w w':World} {p n c:Nat} {b A:Option Addr} {L:List UInt8} (h:WrS d p b w A n c L) (a:aa [] w w'):WrS d p b w' A n c L:=
 ⟨h.blk.keep a (by simp),ab h.own a,h.kp.trans a.nil,h.nw,h.np⟩
theorem WrS.put {w s w1:World} {p n c m c1:Nat} {A a:Option Addr} {l k:List UInt8} (q:Blk w p 162 #[.slice A n c]) (d:w.ownsRow 0 5 1 (.slice A n c) n (l.map bv)) (o:aa [] w s)
 (h:bC s A w1 a m c1 k):WrS w p A (w1.setCell (U p 0) (.slice a m c1)) a m c1 k:=by
  have j:=(WrS.start q d).np;have b:Blk w1 p 162 #[.slice A n c]:=(q.keep o (by simp)).keep h.kp j;have e:p∉fb a:=fun i=>by
   obtain⟨_,_,t,u⟩:=aw h.own i;exact(b.ne_ u (by decide)) rfl
  have z:=o.size;have r:aa [p] w1 (w1.setCell (U p 0) (.slice a m c1)):=(aa.refl [p] w1).setCell (.inl (by simp)) _;refine⟨b.set_ 0 _,aq h.own r (fun y B i=>?_),?_,fun g v=>(h.nw g v).imp_right (fun h=>Dc z h),e⟩
  ·obtain rfl:y=p:=by simpa using B
   exact e i
  have C:aa (p::fb A) w w1:=(o.nil.trans (h.kp.mono (fun x f=>.inl (DL _ f))));exact C.trans (r.mono (fun x f=>.inl (by simp at f;simp[f])))
def qt (w:World) (p:Nat) (A:Option Addr) (L:List UInt8) (e:Ending) (w':World):Prop:=∃a n' c',e=.returned (.tuple #[])/\Z (WrS w p A w' a n' c' L)
theorem fj (w:World) (p:Nat) (A:Option Addr) (n c:Nat) (L:List UInt8) (x:Int) (B: -9223372036854775808<=x/\x<9223372036854775808) (f:Blk w p 162 #[.slice A n c]) (a:w.ownsRow 0 5 1 (.slice A n c) n (L.map bv)) (C:n<=10000000):
 Calls Tryz.prog 72 #[ptr p,I x] w (qt w p A (L++Cod.num x)):=by
  have j:=bZ (WrS.start f a).np;have m:Z (∀W,Calls Tryz.prog 38 #[I x] W fun e w'=>e=.returned (.string ⟨(Cod.num x).toArray⟩)/\Z (aa [] W w')):=bZ (fun W=>dB W x B);have l:Z ((⟨(Cod.num x).toArray⟩:ByteArray).size=8):=bZ (by simp[ByteArray.size,Cod.ag]);replace f:=bZ f;replace a:=bZ a;unfold ptr;go_enter Tryz.func72,Tryz.ntmps72;go_wp2_with fail;refine ad (S:=(fun w':World=>w'.cell? (U p 0)=G A n c)) (n:=10) (by kernel_rfl) ?_;have d:=f.o.cell 0;have d:w.drew.cell? (U p 0)=G A n c:=d;have b:Z (aa [] w w.drew):=bZ (aa.refl [] w).drew;generalize w.drew=wd at*;refine ord [0,1,2,3,4,5] ?_
  iterate 6 (refine tq d ?_;try simp only[PT,Y1,Y2,Y3])
  refine av ?_;refine J1 6 fun K g=>?_;dsimp only[Y1,Y2,Y3];go_simp;refine(m.o _).mono ?_;rintro e w2 ⟨rfl,q⟩;have d:=q.o.cellEq d (by simp);replace b:=bZ (b.o.trans q.o);refine g _ _ (.inr d) ?_;clear g K q
  try simp only[PT,Y1,Y2,Y3]
  refine J1 7 fun K g=>?_;dsimp only[Y1,Y2,Y3];refine fg (.tmp 8) (.tmp 10) 79 9 (by rfl) 0 5 Tryz.underlying79 Tryz.underlying9 cY A n c L (by rfl) (ab a.o b.o) _ (by rfl) (by rw[l.o];omega) (C3 _) ?_;rw[l.o];intro t u w3 v s y;have h:=bZ ((bC.start (ab a.o b.o)).app (aa.refl [] _) v s y);have r:=bZ (aa.grown (X:=fb A) s.o (fun k z=>cW z));have d:=r.o.cellEq d j.o;have D:w3.frozen? (U p 0)=false:=((f.o.keep b.o (by simp)).keep r.o j.o).frozen 0;refine g _ _ (.inr d) ?_;clear g K v s y r
  try simp only[PT,Y1,Y2,Y3]
  refine ord [8,9] ?_
  iterate 2 (refine tq d ?_;try simp only[PT,Y1,Y2,Y3])
  refine av ?_;refine JQ 10 ?_
  try simp only[PT,Y1,Y2,Y3]
  refine JD ?_;have i:Z (qt w p A (L++Cod.num x) (.returned (.tuple #[])) (w3.setCell (U p 0) (.slice t (n+8) u))):=bZ ⟨t,_,u,rfl,bZ (WrS.put f.o a.o b.o h.o)⟩;clear h b;go_wp2_with fail;go_end0;exact i.o
def dX (r:List Val):List UInt8:=Cod.num ((ca r).length:Nat)++ca r
theorem Bts.kp {w w':World} {X:List Nat} {A:Option Addr} {l:List UInt8} (h:Bts w A l) (c:aa X w w') (e:∀y∈X,y∉fb A):Bts w' A l:=by
 refine h.keep c (fun a b d=>e _ d ?_);subst b;simp[fb]
theorem mI (w:World) (p:Nat) (A:Option Addr) (n c:Nat) (L:List UInt8) (B:Option Addr) (l:List Val) (m d:Nat) (u:Blk w p 162 #[.slice A n c]) (b:w.ownsRow 0 5 1 (.slice A n c) n (L.map bv)) (hb:n<=10000000)
 (M:l.length=m) (W:ah w [] B l) (O:m<=10000) (P:∀v∈l,v.ok):
 Calls Tryz.prog 77 #[ptr p,.slice B m d] w (qt w p A (L++dX l)):=by
  have H1:=bZ (s9 w B l m d M W O P);have x:=(fF l P).2;rw[M] at x;obtain⟨q,t⟩:∃q,q=(ca l).length:=⟨_,rfl⟩;rw[<-t] at x;replace t:=bZ t;have C:=bZ (WrS.start u b);have N:=bZ (u.lt);clear W M P;replace u:=bZ u;replace b:=bZ b;unfold ptr;go_enter Tryz.func77,Tryz.ntmps77;go_wp2_with (refine H1.o.mono ?_;rintro e w1 ⟨E,D,c1,rfl,h⟩);obtain rfl:D=q:=by rw[t.o];exact h.o.len.symm
  have r:=bZ h.o.kp0;have S:=bZ (fj w1 p A n c L (D:Int) (by omega) (u.o.keep r.o (by simp)) (ab b.o r.o) hb);unfold ptr at S;have F:Z (∀g∈fb E,w.heap.size<=g/\g<w1.heap.size):=bZ (fun g X=>⟨by
   rcases h.o.nw g X with k | k
   ·simp[fb] at k
   exact k,(aw h.o.own X).2.1⟩)
  have H:Z (∀y∈p::fb A,y∉fb E):=bZ (fun y Q O=>by
   have k:=(F.o y O).1;rcases Db.1 Q with rfl | Q
   ·have:=N.o;omega
   have:=(aw b.o Q).2.1;omega)
  have K:=bZ (bK h.o.own).1;go_wp2_with (first
   | (refine S.o.mono ?_;rintro e w2 ⟨A2,Y,c2,rfl,a⟩;have x0:=a.o.blk.cell 0;have f:=a.o.len;have s:Y=n+8:=(by rw[CU,Cod.ag] at f;have:=C.o.len;omega);replace s:=bZ s;replace f:=bZ f;have J:=bZ (K.o.kp a.o.kp H.o))
   | (at_builtin;refine ai rfl (.tmp 15) (.tmp 16) 79 rfl 0 5 Tryz.underlying79 cY _ (L++Cod.num (D:Int)) (ca l) rfl (by rw[f.o];exact a.o.own) E D c1 rfl t.o.symm J.o (by rw[f.o,s.o,<-t.o];omega) (C3 _) ?_;rw[f.o];intro R T w3 q1 q2 q3;have i:=bZ ((bC.start a.o.own).app (aa.refl [] _) q1 q2 q3);have j:=a.o.blk.keep i.o.kp a.o.np;have x3:=j.cell 0;have xf:=j.frozen 0;replace j:=bZ j;clear q1 q2 q3))
  have z:Z (qt w p A (L++dX l) (.returned (.tuple #[])) (w3.setCell (U p 0) (.slice R (Y+D) T))):=bZ ⟨R,_,T,rfl,bZ (by
   have k:=(C.o.keep r.o).then_ (a.o.then_ (WrS.put a.o.blk a.o.own (aa.refl [] _) i.o));rw[Dd] at k;unfold dX;rw[<-t.o];exact k)⟩
  clear i a;go_end0;exact z.o
end Go.Proofs.YtmlmfpikncogpaaGreat
