import Derived.Deep.DeepCutAuto
import Derived.Test.YtmlmfpikncogpaaGreatL02
import Derived.Test.YtmlmfpikncogpaaGreatL04
namespace Go.Proofs.YtmlmfpikncogpaaGreat
open Go.RowKit
set_option linter.unusedSimpArgs false
set_option linter.unusedVariables false
set_option maxRecDepth 100000
set_option maxHeartbeats 16000000
theorem mY {w:World} {b e n c g k:Nat} {a:List Value} (h:w.ownsRow b e 1 (.slice (V g) n c) n a) (i:0<n) (m:Nat):bm w (some (U g k)) m (a.drop k):=by
 obtain⟨o,c',l,_,_,_,_,d,_⟩:=ax h i;cases l;exact .inr ⟨g,k,rfl,fun j u f=>d _ _ (by rwa [DK] at f)⟩
theorem mX {w:World} {b e n c g k:Nat} {d:List Value} (h:w.ownsRow b e 1 (.slice (V g) n c) n d) (i:0<n) (m:Nat):bm w (V g) m (d.take k):=by
 obtain⟨o,c',l,_,_,_,_,f,_⟩:=ax h i;cases l;exact .inr ⟨g,0,rfl,fun j u a=>by
  rw[Dx] at a
  split at a
  ·rw[Dl];exact f _ _ a
  cases a⟩
theorem bm.keep {w w':World} {Y:List Nat} {A:Option Addr} {m:Nat} {l:List Value} (h:bm w A m l) (d:aa Y w w') (b:∀y∈Y,y∉fb A):bm w' A m l:=by
 rcases h with h | ⟨g,off,rfl,a⟩
 ·exact .inl h
 exact .inr ⟨g,off,rfl,fun j u c=>d.cellEq (a j u c) (fun e=>b _ e (by simp[fb]))⟩
theorem dQ {v:Value} (h:cX v):v.oneCell'=true:=by obtain⟨x,rfl⟩:=h;rfl
theorem dO {v:Value} (h:dP v):v.oneCell'=true:=by obtain⟨x,rfl⟩:=h;rfl
def dk (v:Value):Prop:=∃A n c,v=.slice A n c
def dW (v:Value):Prop:=∃x,v=I x
theorem dN {v:Value} (h:dk v):v.oneCell'=true:=by obtain⟨A,n,c,rfl⟩:=h;rfl
theorem dM {v:Value} (h:dW v):v.oneCell'=true:=by obtain⟨x,rfl⟩:=h;rfl
theorem iN {A B C:List Nat} (g:A.Nodup) (i:B.Nodup) (j:C.Nodup) (c:∀x∈A,x∉B) (d:∀x∈A,x∉C) (f:∀x∈B,x∉C):(A++(B++C)).Nodup:=by
 rw[Dp,Dp];exact⟨g,⟨i,j,fun x a y b e=>f x a (e▸b)⟩,fun x a y b e=>by
  subst e;rcases CX.1 b with h | h
  ·exact c x a h
  exact d x a h⟩
theorem j2 {A B C:List Nat} (h:(A++(B++C)).Nodup):A.Nodup/\B.Nodup/\C.Nodup/\(∀x∈A,x∉B)/\(∀x∈A,x∉C)/\(∀x∈B,x∉C):=by
 obtain⟨f,d,c⟩:=Dp.1 h;obtain⟨g,i,e⟩:=Dp.1 d;exact⟨f,g,i,fun x b a=>c x b x (Di _ a) rfl,fun x b a=>c x b x (Dg _ a) rfl,fun x b a=>e x b x a rfl⟩
theorem aa.more {F Y:List Nat} {w0 w W:World} (h:aa F w0 w) (k:aa Y w W) (c:∀y∈Y,y∈F\/w0.heap.size<=y):aa F w0 W:=
 aa.mono (X:=F++Y) ((h.mono (fun x a=>.inl (Di _ a))).trans (k.mono (fun x a=>.inl (Dg _ a)))) (fun x a=>by
  rcases CX.1 a with b | b
  ·exact .inl b
  exact c x b)
structure aE (T:BTy) (w0 w:World) (p q r:Nat) (xkA xvA xcA ckA cvA ccA rkA rvA rcA:Option Addr) (xkc xvc xcc ckc cvc ccc rkc rvc rcc:Nat) (ks vs kq vq kr vr:List Value) (cs cl cr:List Nat) (F:List Nat):Prop where
 X:aU T w p xkA xkc xvA xvc xcA xcc ks vs cs
 Q:aU T w q ckA ckc cvA cvc ccA ccc kq vq cl
 R:aU T w r rkA rkc rvA rvc rcA rcc kr vr cr
 nd:(ay p xkA xvA xcA++(ay q ckA cvA ccA++ay r rkA rvA rcA)).Nodup
 kp:aa F w0 w
 nw:∀x∈ay p xkA xvA xcA++(ay q ckA cvA ccA++ay r rkA rvA rcA),x∈F\/w0.heap.size<=x
section
variable {T:BTy} {w0 w W:World} {p q r:Nat} {xkA xvA xcA ckA cvA ccA rkA rvA rcA:Option Addr} {xkc xvc xcc ckc cvc ccc rkc rvc rcc:Nat} {ks vs kq vq kr vr:List Value} {cs cl cr F:List Nat} {kA vA cA:Option Addr} {kc vc cc:Nat} {ks' vs':List Value} {cs' Y:List Nat}
theorem aE.stX (h:aE T w0 w p q r xkA xvA xcA ckA cvA ccA rkA rvA rcA xkc xvc xcc ckc cvc ccc rkc rvc rcc ks vs kq vq kr vr cs cl cr F) (N:aU T W p kA kc vA vc cA cc ks' vs' cs') (k:aa Y w W)
 (m:∀y∈Y,y∈ay p xkA xvA xcA) (n:∀x∈ay p kA vA cA,x∈ay p xkA xvA xcA\/w.heap.size<=x):aE T w0 W p q r kA vA cA ckA cvA ccA rkA rvA rcA kc vc cc ckc cvc ccc rkc rvc rcc ks' vs' kq vq kr vr cs' cl cr F:=by
  obtain⟨a,b,c,d,e,f⟩:=j2 h.nd;have s:=h.kp.size;refine⟨N,h.Q.keep k (fun y l i=>d y (m y l) i),h.R.keep k (fun y l i=>e y (m y l) i),iN N.nd b c (fun x j i=>?_) (fun x j i=>?_) f,h.kp.more k (fun y l=>h.nw y (Di _ (m y l))),fun x j=>?_⟩
  ·rcases n x j with g | g
   ·exact d x g i
   have:=h.Q.lt x i;omega
  ·rcases n x j with g | g
   ·exact e x g i
   have:=h.R.lt x i;omega
  rcases CX.1 j with g | g
  ·rcases n x g with o | o
   ·exact h.nw x (Di _ o)
   exact .inr (by omega)
  exact h.nw x (Dg _ g)
theorem aE.stQ (h:aE T w0 w p q r xkA xvA xcA ckA cvA ccA rkA rvA rcA xkc xvc xcc ckc cvc ccc rkc rvc rcc ks vs kq vq kr vr cs cl cr F) (N:aU T W q kA kc vA vc cA cc ks' vs' cs') (k:aa Y w W)
 (m:∀y∈Y,y∈ay q ckA cvA ccA) (n:∀x∈ay q kA vA cA,x∈ay q ckA cvA ccA\/w.heap.size<=x):aE T w0 W p q r xkA xvA xcA kA vA cA rkA rvA rcA xkc xvc xcc kc vc cc rkc rvc rcc ks vs ks' vs' kr vr cs cs' cr F:=by
  obtain⟨a,b,c,d,e,f⟩:=j2 h.nd;have s:=h.kp.size;refine⟨h.X.keep k (fun y l i=>d y i (m y l)),N,h.R.keep k (fun y l i=>f y (m y l) i),iN a N.nd c (fun x j i=>?_) e (fun x j i=>?_),h.kp.more k (fun y l=>h.nw y (Dg _ (Di _ (m y l)))),fun x j=>?_⟩
  ·rcases n x i with g | g
   ·exact d x j g
   have:=h.X.lt x j;omega
  ·rcases n x j with g | g
   ·exact f x g i
   have:=h.R.lt x i;omega
  rcases CX.1 j with g | g
  ·exact h.nw x (Di _ g)
  rcases CX.1 g with g | g
  ·rcases n x g with o | o
   ·exact h.nw x (Dg _ (Di _ o))
   exact .inr (by omega)
  exact h.nw x (Dg _ (Dg _ g))
theorem aE.stR (h:aE T w0 w p q r xkA xvA xcA ckA cvA ccA rkA rvA rcA xkc xvc xcc ckc cvc ccc rkc rvc rcc ks vs kq vq kr vr cs cl cr F) (N:aU T W r kA kc vA vc cA cc ks' vs' cs') (k:aa Y w W)
 (m:∀y∈Y,y∈ay r rkA rvA rcA) (n:∀x∈ay r kA vA cA,x∈ay r rkA rvA rcA\/w.heap.size<=x):aE T w0 W p q r xkA xvA xcA ckA cvA ccA kA vA cA xkc xvc xcc ckc cvc ccc kc vc cc ks vs kq vq ks' vs' cs cl cs' F:=by
  obtain⟨a,b,c,d,e,f⟩:=j2 h.nd;have s:=h.kp.size;refine⟨h.X.keep k (fun y l i=>e y i (m y l)),h.Q.keep k (fun y l i=>f y i (m y l)),N,iN a b N.nd d (fun x j i=>?_) (fun x j i=>?_),h.kp.more k (fun y l=>h.nw y (Dg _ (Dg _ (m y l)))),fun x j=>?_⟩
  ·rcases n x i with g | g
   ·exact e x j g
   have:=h.X.lt x j;omega
  ·rcases n x i with g | g
   ·exact f x j g
   have:=h.Q.lt x j;omega
  rcases CX.1 j with g | g
  ·exact h.nw x (Di _ g)
  rcases CX.1 g with g | g
  ·exact h.nw x (Dg _ (Di _ g))
  rcases n x g with o | o
  ·exact h.nw x (Dg _ (Dg _ o))
  exact .inr (by omega)
theorem aE.drew (h:aE T w0 w p q r xkA xvA xcA ckA cvA ccA rkA rvA rcA xkc xvc xcc ckc cvc ccc rkc rvc rcc ks vs kq vq kr vr cs cl cr F):aE T w0 w.drew p q r xkA xvA xcA ckA cvA ccA rkA rvA rcA xkc xvc xcc ckc cvc ccc rkc rvc rcc ks vs kq vq kr vr cs cl cr F:=
 ⟨h.X.keep (aa.refl [] w).drew (by simp),h.Q.keep (aa.refl [] w).drew (by simp),h.R.keep (aa.refl [] w).drew (by simp),h.nd,h.kp.drew,h.nw⟩
theorem bV {p:Nat} {kA vA cA:Option Addr}:∀y∈p::(fb kA++fb vA),y∈ay p kA vA cA:=fun y a=>by
 simp only[Db,CX] at a;rw[bf];rcases a with h | h | h
 ·exact .inl h
 ·exact .inr (.inl h)
 exact .inr (.inr (.inl h))
theorem eP {p:Nat} {kA vA cA:Option Addr}:∀y∈p::fb cA,y∈ay p kA vA cA:=fun y a=>by
 simp only[Db] at a;rw[bf];rcases a with h | h
 ·exact .inl h
 exact .inr (.inr (.inr h))
theorem aE.put1 {w1 w2:World} {a i n':Nat} {b c:Value} (h:aE T w0 w p q r xkA xvA xcA ckA cvA ccA rkA rvA rcA xkc xvc xcc ckc cvc ccc rkc rvc rcc ks vs kq vq kr vr cs cl cr F)
 (t:ks.length=a) (u:vs.length=a) (s:i<=a) (d:n'=a+1)
 (n:w1.ownsRow 0 T.tk 1 (.slice kA n' kc) n' (ks.take i++b::ks.drop i)) (e:aa (fb xkA) w w1) (j:∀g∈fb kA,g∈fb xkA\/w.heap.size<=g)
 (o:w2.ownsRow 0 T.tv 1 (.slice vA n' vc) n' (vs.take i++c::vs.drop i)) (f:aa (fb xvA) w1 w2) (l:∀g∈fb vA,g∈fb xvA\/w1.heap.size<=g):
 aE T w0 ((w2.setCell (U p 0) (.slice kA n' kc)).setCell (U p 1) (.slice vA n' vc)) p q r kA vA xcA ckA cvA ccA rkA rvA rcA kc vc xcc ckc cvc ccc rkc rvc rcc (ks.take i++b::ks.drop i) (vs.take i++c::vs.drop i) kq vq kr vr cs cl cr F:=by
  obtain⟨N,k,m⟩:=h.X.two (ks':=ks.take i++b::ks.drop i) (vs':=vs.take i++c::vs.drop i) (n':=n') (by rw[CU,CY,Dj,Da];omega) (by rw[CU,CY,Dj,Da];omega) n e j o f l;exact h.stX N k bV m
theorem aE.kid1 {w1:World} {n':Nat} (h:aE T w0 w p q r xkA xvA xcA ckA cvA ccA rkA rvA rcA xkc xvc xcc ckc cvc ccc rkc rvc rcc ks vs kq vq kr vr cs cl cr F)
 (a:cs'.length=n') (o:w1.ownsRow 0 T.tp 1 (.slice cA n' cc) n' (cs'.map ptr)) (b:aa (fb xcA) w w1) (c:∀g∈fb cA,g∈fb xcA\/w.heap.size<=g):
 aE T w0 (w1.setCell (U p 2) (.slice cA n' cc)) p q r xkA xvA cA ckA cvA ccA rkA rvA rcA xkc xvc cc ckc cvc ccc rkc rvc rcc ks vs kq vq kr vr cs' cl cr F:=by
  obtain⟨N,k,d⟩:=h.X.kids (cs':=cs') a o b c;exact h.stX N k eP d
theorem aE.kidsR {w1:World} {n' b:Nat} (h:aE T w0 w p q r xkA xvA xcA ckA cvA ccA rkA rvA rcA xkc xvc xcc ckc cvc ccc rkc rvc rcc ks vs kq vq kr vr cs cl cr F)
 (d:cs'.length=n') (a:w.heap.size<=b) (o:w1.ownsRow b T.tp 1 (.slice cA n' cc) n' (cs'.map ptr)) (e:aa [] w w1):
 aE T w0 (w1.setCell (U r 2) (.slice cA n' cc)) p q r xkA xvA xcA ckA cvA ccA rkA rvA cA xkc xvc xcc ckc cvc ccc rkc rvc cc ks vs kq vq kr vr cs cl cs' F:=by
  obtain⟨N,k,f⟩:=h.R.kids (cs':=cs') d (mv o) e.nil (fun g c=>.inr (Dc a (aw o c).1));exact h.stR N k eP f
theorem aE.kidsQ {w1:World} {n' b:Nat} (h:aE T w0 w p q r xkA xvA xcA ckA cvA ccA rkA rvA rcA xkc xvc xcc ckc cvc ccc rkc rvc rcc ks vs kq vq kr vr cs cl cr F)
 (d:cs'.length=n') (a:w.heap.size<=b) (o:w1.ownsRow b T.tp 1 (.slice cA n' cc) n' (cs'.map ptr)) (e:aa [] w w1):
 aE T w0 (w1.setCell (U q 2) (.slice cA n' cc)) p q r xkA xvA xcA ckA cvA cA rkA rvA rcA xkc xvc xcc ckc cvc cc rkc rvc rcc ks vs kq vq kr vr cs cs' cr F:=by
  obtain⟨N,k,f⟩:=h.Q.kids (cs':=cs') d (mv o) e.nil (fun g c=>.inr (Dc a (aw o c).1));exact h.stQ N k eP f
theorem aE.twoQ {w1 w2:World} {n' d e:Nat} (h:aE T w0 w p q r xkA xvA xcA ckA cvA ccA rkA rvA rcA xkc xvc xcc ckc cvc ccc rkc rvc rcc ks vs kq vq kr vr cs cl cr F)
 (m:ks'.length=n') (n:vs'.length=n') (a:w.heap.size<=d) (b:w1.heap.size<=e) (f:w1.ownsRow d T.tk 1 (.slice kA n' kc) n' ks') (j:aa [] w w1) (i:w2.ownsRow e T.tv 1 (.slice vA n' vc) n' vs') (l:aa [] w1 w2):
 aE T w0 ((w2.setCell (U q 0) (.slice kA n' kc)).setCell (U q 1) (.slice vA n' vc)) p q r xkA xvA xcA kA vA ccA rkA rvA rcA xkc xvc xcc kc vc ccc rkc rvc rcc ks vs ks' vs' kr vr cs cl cr F:=by
  obtain⟨N,k,o⟩:=h.Q.two (ks':=ks') (vs':=vs') (n':=n') m n (mv f) j.nil (fun g c=>.inr (Dc a (aw f c).1)) (mv i) l.nil (fun g c=>.inr (Dc b (aw i c).1));exact h.stQ N k bV o
end
abbrev S6 (p q a b c:Nat) (xkA xvA:Option Addr) (xkc xvc ckc cvc:Nat) (d e:Value) (w:World):Prop:=
 w.cell? (U p 0)=G xkA c xkc/\w.cell? (U p 1)=G xvA c xvc/\w.cell? (U q 0)=G (V a) 16 ckc/\w.cell? (U q 1)=G (V b) 16 cvc/\w.cell? (U a 8)=some d/\w.cell? (U b 8)=some e
theorem S6.keep {p q c d g:Nat} {xkA xvA:Option Addr} {xkc xvc ckc cvc:Nat} {e f:Value} {w W:World} {Y:List Nat} (h:S6 p q c d g xkA xvA xkc xvc ckc cvc e f w) (k:aa Y w W) (b:∀y∈Y,y∉[p,q,c,d]):S6 p q c d g xkA xvA xkc xvc ckc cvc e f W:=
 ⟨k.cellEq h.1 (fun a=>b _ a (by simp)),k.cellEq h.2.1 (fun a=>b _ a (by simp)),k.cellEq h.2.2.1 (fun a=>b _ a (by simp)),k.cellEq h.2.2.2.1 (fun a=>b _ a (by simp)),k.cellEq h.2.2.2.2.1 (fun a=>b _ a (by simp)),k.cellEq h.2.2.2.2.2 (fun a=>b _ a (by simp))⟩
structure F6 (T:BTy) (w:World) (p q gk gv nx:Nat) (xkA xvA xcA:Option Addr) (xkc xvc xcc ckc cvc:Nat) (ks vs:List Value) (cs:List Nat) (ek ev:Value):Prop where
 s:S6 p q gk gv nx xkA xvA xkc xvc ckc cvc ek ev w
 rk:w.ownsRow 0 T.tk 1 (.slice xkA nx xkc) nx ks
 rv:w.ownsRow 0 T.tv 1 (.slice xvA nx xvc) nx vs
 xb:Blk w p T.tn #[.slice xkA nx xkc,.slice xvA nx xvc,.slice xcA cs.length xcc]
 lt:∀x,x∈fb xkA\/x∈fb xvA->x<w.heap.size
 kv:∀y∈fb xkA,y∉fb xvA
 p4:(p∉fb xkA/\∀y∈fb xkA,y∉[p,q,gk,gv])/\(p∉fb xvA/\∀y∈fb xvA,y∉[p,q,gk,gv])
theorem aE.f6 {T:BTy} {w0 w:World} {p q r g i B:Nat} {xkA xvA xcA ccA rkA rvA rcA:Option Addr} {xkc xvc xcc ckc cvc ccc rkc rvc rcc:Nat} {ks vs kq vq kr vr:List Value} {cs cl cr F:List Nat} {n o:Value}
 (h:aE T w0 w p q r xkA xvA xcA (V g) (V i) ccA rkA rvA rcA xkc xvc xcc ckc cvc ccc rkc rvc rcc ks vs kq vq kr vr cs cl cr F)
 (N:ks.length=B) (O:vs.length=B) (P:kq.length=16) (R:vq.length=16) (z:kq[8]? =some n) (A:vq[8]? =some o):F6 T w p q g i B xkA xvA xcA xkc xvc xcc ckc cvc ks vs cs n o:=by
  subst N;obtain⟨a,b,c,d,e,f⟩:=j2 h.nd;obtain⟨⟨C,D,S⟩,K,W⟩:=aW.1 h.X.nd;have m:=h.X.blk;have u:=h.Q.blk;have J:=h.X.rv;rw[O] at m J;rw[P,R] at u;have s:w.cell? (U g 8)=some n:=by
   obtain⟨L,c',k,_,_,_,_,v,_⟩:=ax h.Q.rk (by omega);cases k;exact v _ _ z
  have t:w.cell? (U i 8)=some o:=by
   obtain⟨L,c',k,_,_,_,_,v,_⟩:=ax h.Q.rv (by omega);cases k;exact v _ _ A
  have H:q∈ay q (V g) (V i) ccA:=bf.2 (.inl rfl);have E:g∈ay q (V g) (V i) ccA:=bf.2 (.inr (.inl (by simp[fb])));have k:i∈ay q (V g) (V i) ccA:=bf.2 (.inr (.inr (.inl (by simp[fb]))));refine⟨⟨m.cell 0,m.cell 1,u.cell 0,u.cell 1,s,t⟩,h.X.rk,J,m,fun x M=>h.X.lt x (bf.2 (by rcases M with h | h<;>simp[h])),fun y j=>(K y j).1,⟨C,fun y j l=>?_⟩,D,fun y j l=>?_⟩
  ·have:=d y (bf.2 (.inr (.inl j)));simp only[Db,Dw,or_false] at l;rcases l with rfl | rfl | rfl | rfl
   ·exact C j
   ·exact this H
   ·exact this E
   exact this k
  have:=d y (bf.2 (.inr (.inr (.inl j))));simp only[Db,Dw,or_false] at l;rcases l with rfl | rfl | rfl | rfl
  ·exact D j
  ·exact this H
  ·exact this E
  exact this k
def zq (T:BTy) (w:World) (p q:Nat) (ks vs kc vc:List Value) (cs a:List Nat) (i:Nat) (F:List Nat) (e:Ending) (w':World):Prop:=
 ∃r xkA xvA xcA ckA cvA ccA rkA rvA rcA xkc xvc xcc ckc cvc ccc rkc rvc rcc b c,e=.returned (.tuple #[])/\kc[8]? =some b/\vc[8]? =some c/\
  Z (aE T w w' p q r xkA xvA xcA ckA cvA ccA rkA rvA rcA xkc xvc xcc ckc cvc ccc rkc rvc rcc (ks.take i++b::ks.drop i) (vs.take i++c::vs.drop i) (kc.take 8) (vc.take 8) (kc.drop 9) (vc.drop 9) (cs.take (i+1)++r::cs.drop (i+1)) (a.take 9) (a.drop 9) F)
def ir:=fun j c (e:Value->Prop) (f:Value->Prop) p7=>∀(w:World) (d p q a i:Nat) (g h:Value) (xkA xvA xcA ckA cvA ccA:Option Addr) (xkc xvc xcc ckc cvc ccc:Nat) (ks vs kc vc:List Value) (cs b:List Nat)
 (r:Blk w d j #[g,I 16,h]) (s:aU c w p xkA xkc xvA xvc xcA xcc ks vs cs) (o:aU c w q ckA ckc cvA cvc ccA ccc kc vc b) (t:∀x∈ay p xkA xvA xcA,x∉ay q ckA cvA ccA)
 (A:ks.length=a) (B:vs.length=a) (C:cs.length=a+1) (u:i<=a) (z:cs[i]? =some q) (D:kc.length=16) (E:vc.length=16) (F:b.length=0\/b.length=17) (y:a<=1000)
 (k:∀v∈ks,e v) (l:∀v∈vs,f v) (m:∀v∈kc,e v) (n:∀v∈vc,f v),Calls Tryz.prog p7 #[ptr d,ptr p,I i] w (zq c w p q ks vs kc vc cs b i (ay p xkA xvA xcA++ay q ckA cvA ccA))
theorem j6:ir 204 tyI cX dk 150/\ir 250 tyS dP dW 152:=by
 refine⟨?_,?_⟩;have a:=trivial;rotate_left;rotate_left
 all_goals
  intro w bt p q l i b0 b2 xkA xvA xcA ckA cvA ccA xkc xvc xcc ckc cvc ccc ks vs kc vc cs cd hT hX hQ hd l1 l2 l3 hi hq m1 m2 m3 hn f1 f2 f3 f4
  first | (have:=a;have o1:∀v∈ks,v.oneCell'=true:=fun v C=>dQ (f1 v C)) | have o1:∀v∈ks,v.oneCell'=true:=fun v C=>dO (f1 v C)
  first | (have:=a;have o2:∀v∈vs,v.oneCell'=true:=fun v C=>dN (f2 v C)) | have o2:∀v∈vs,v.oneCell'=true:=fun v C=>dM (f2 v C)
  first | (have:=a;have ak:∀v∈kc,v.oneCell'=true:=fun v C=>dQ (f3 v C)) | have ak:∀v∈kc,v.oneCell'=true:=fun v C=>dO (f3 v C)
  first | (have:=a;have an:∀v∈vc,v.oneCell'=true:=fun v C=>dN (f4 v C)) | have an:∀v∈vc,v.oneCell'=true:=fun v C=>dM (f4 v C)
  obtain⟨d6,bd⟩:∃e,kc[8]? =some e:=⟨kc[8]'(by omega),CT _⟩;obtain⟨cj,b5⟩:∃e,vc[8]? =some e:=⟨vc[8]'(by omega),CT _⟩;obtain⟨R,rfl⟩:=f3 d6 (CW bd)
  first | (have:=a;obtain⟨eA,en,ec,rfl⟩:=f4 cj (CW b5)) | obtain⟨ey,rfl⟩:=f4 cj (CW b5)
  replace bd:=bZ bd;replace b5:=bZ b5;clear f1 f2 f3 f4;obtain⟨z,er,e1,dr,fc,_,_,ds,_⟩:=ax (hQ.rk) (by omega);obtain⟨A,es,e2,e0,fd,_,_,e4,_⟩:=ax (hQ.rv) (by omega);obtain⟨gx,ev,e3,e7,fe,_,_,cr,_⟩:=ax (hX.rc) (by omega);injection e1 with e1 _ e1';injection e2 with e2 _ e2';injection e3 with e3 _ e3';subst e1 e1' e2 e2' e3 e3';rw[m1] at dr;rw[m2] at e0;rw[l3] at e7;have z1:=hT.cell 1;have y0:w.cell? (U q 0)=G (V z) 16 ckc:=by have:=hQ.blk.cell 0;rw[m1] at this;exact this
  have y1:w.cell? (U q 1)=G (V A) 16 cvc:=by have:=hQ.blk.cell 1;rw[m2] at this;exact this
  have x2:w.cell? (U p 2)=G (V gx) (l+1) xcc:=by have:=hX.blk.cell 2;rw[l3] at this;exact this
  have xq:w.cell? (U gx i)=some (.pointer (V q)):=cr i _ (by rw[De,hq];rfl);have dq:(i:Int)<((l:Int)+1):=by omega
  have w9:IntKind.i64.wrap 9=9:=by decide
  have db:¬ckc=9:=by omega
  have dc:¬cvc=9:=by omega
  have c8:Z (bm w.drew (some (U z 9)) 7 (kc.drop 9)):=bZ (mY hQ.rk (by omega) 7);have c9:Z (bm w.drew (some (U A 9)) 7 (vc.drop 9)):=bZ (mY hQ.rv (by omega) 7);have bk:Z ((kc.drop 9).length=7):=bZ (by rw[Da];omega);have bn:Z ((vc.drop 9).length=7):=bZ (by rw[Da];omega);have a6:Z (∀w',aa [] w.drew w'->w'.cell? (U q 0)=G (V z) 16 ckc/\w'.cell? (U q 1)=G (V A) 16 cvc):=bZ (fun w' k=>⟨k.cellEq y0 (by simp),k.cellEq y1 (by simp)⟩);have h0:=a6.o _ (aa.refl [] w.drew);have c6:=bZ (hX.keep (aa.refl [] w).drew (by simp));have c4:=bZ (hQ.keep (aa.refl [] w).drew (by simp));have c1:Z (aa [] w w.drew):=bZ (aa.refl [] w).drew;replace hd:=bZ hd;replace o1:=bZ o1;replace o2:=bZ o2;replace ak:=bZ ak;replace an:=bZ an;replace l1:=bZ l1;replace l2:=bZ l2;replace l3:=bZ l3;replace m1:=bZ m1;replace m2:=bZ m2;replace m3:=bZ m3;replace hq:=bZ hq;clear hT hX hQ ds e4 cr y0 y1;unfold ptr
  first | (have:=a;go_enter Tryz.func150,Tryz.ntmps150) | go_enter Tryz.func152,Tryz.ntmps152
  go_wp2_with fail;refine ad (S:=(fun w':World=>w'.cell? (U q 0)=G (V z) 16 ckc/\w'.cell? (U q 1)=G (V A) 16 cvc)) (n:=19) (by kernel_rfl) ?_;generalize w.drew=wd at*;have d:=h0;refine ord [0,1,2,3,4,5,6,8,9,10,11,12,13,14] ?_
  iterate 14 (refine tq d ?_;try simp only[PT,Y1,Y2,Y3])
  refine av ?_;refine J1 7 fun K u=>?_;dsimp only[Y1,Y2,Y3];go_simp
  first | (have:=a;refine(eJ.1 wd (some (U z 9)) 7 (ckc - 9) (kc.drop 9) c8.o bk.o (by simp) (by omega) (fun v C=>ak.o v (Ef C))).mono ?_) | refine(eJ.2.2.2.1 wd (some (U z 9)) 7 (ckc - 9) (kc.drop 9) c8.o bk.o (by simp) (by omega) (fun v C=>ak.o v (Ef C))).mono ?_
  rintro e wn ⟨rkA,rkc,rfl,rk,k⟩;have Kx:Z (aa [] wd wn):=k;have d:=a6.o _ Kx.o;refine u _ _ (.inr d) ?_;clear u K k
  try simp only[PT,Y1,Y2,Y3]
  refine J1 15 fun K u=>?_;dsimp only[Y1,Y2,Y3];go_simp
  first | (have:=a;refine(eJ.2.1 wn (some (U A 9)) 7 (cvc - 9) (vc.drop 9) (c9.o.keep Kx.o (by simp)) bn.o (by simp) (by omega) (fun v C=>an.o v (Ef C))).mono ?_) | refine(eJ.1 wn (some (U A 9)) 7 (cvc - 9) (vc.drop 9) (c9.o.keep Kx.o (by simp)) bn.o (by simp) (by omega) (fun v C=>an.o v (Ef C))).mono ?_
  rintro e wm ⟨rvA,rvc,rfl,rv,k⟩;have bp:Z (∀x∈fb rkA,wd.heap.size<=x/\x<wn.heap.size):=bZ (fun x hx=>⟨(aw rk.o hx).1,(aw rk.o hx).2.1⟩);replace rk:=bZ (ab rk.o k.o);have cq:Z (wd.heap.size<=wn.heap.size):=bZ Kx.o.size;replace Kx:Z (aa [] wd wm):=bZ (Kx.o.trans k.o);have d:=a6.o _ Kx.o;refine u _ _ (.inr d) ?_;clear u K k
  try simp only[PT,Y1,Y2,Y3]
  refine ord [16] ?_
  (refine tq d ?_;try simp only[PT,Y1,Y2,Y3])
  refine av ?_;refine J1 17 fun K u=>?_;dsimp only[Y1,Y2,Y3];go_simp
  first | (have:=a;have d:=a6.o _ (Kx.o.alloc (.cells #[.slice rkA 7 rkc,.slice rvA 7 rvc,.slice none 0 0] 210))) | have d:=a6.o _ (Kx.o.alloc (.cells #[.slice rkA 7 rkc,.slice rvA 7 rvc,.slice none 0 0] 254))
  refine u _ _ (.inr d) ?_;clear u K
  try simp only[PT,Y1,Y2,Y3]
  refine ord [18] ?_
  (refine tq d ?_;try simp only[PT,Y1,Y2,Y3])
  refine av ?_;refine JD ?_;go_wp2_with fail;obtain⟨r,hr⟩:∃r,r=wm.heap.size:=⟨_,rfl⟩
  first | (have:=a;obtain⟨w5,bi⟩:∃x,x=wm.alloc (.cells #[.slice rkA 7 rkc,.slice rvA 7 rvc,.slice none 0 0] 210):=⟨_,rfl⟩) | obtain⟨w5,bi⟩:∃x,x=wm.alloc (.cells #[.slice rkA 7 rkc,.slice rvA 7 rvc,.slice none 0 0] 254):=⟨_,rfl⟩
  have c0:Z (∀x∈fb rvA,wn.heap.size<=x):=bZ (fun x hx=>(aw rv.o hx).1)
  first | (have:=a;have R5:Z (aU tyI w5 r rkA rkc rvA rvc none 0 (kc.drop 9) (vc.drop 9) []):=bZ ?_) | have R5:Z (aU tyS w5 r rkA rkc rvA rvc none 0 (kc.drop 9) (vc.drop 9) []):=bZ ?_
  rotate_left
  ·rw[bi,hr]
   first | (have:=a;exact aU.make (T:=tyI) rk.o rv.o (fun x hx B=>by have:=(bp.o x hx).2;have:=c0.o x B;omega) bk.o bn.o) | (exact aU.make (T:=tyS) rk.o rv.o (fun x hx B=>by have:=(bp.o x hx).2;have:=c0.o x B;omega) bk.o bn.o)
  have k5:Z (aa [] wd w5):=bZ (by rw[bi];exact Kx.o.alloc _);have X5:=bZ (c6.o.keep k5.o (by simp));have Q5:=bZ (c4.o.keep k5.o (by simp));have c7:Z (∀x∈ay p xkA xvA (V gx),x<wd.heap.size):=bZ c6.o.lt;have c5:Z (∀x∈ay q (V z) (V A) ccA,x<wd.heap.size):=bZ c4.o.lt;have cm:Z (wd.heap.size<=r):=bZ (by rw[hr];exact Kx.o.size);have ar:Z (∀x∈ay r rkA rvA none,wd.heap.size<=x):=bZ (fun x hx=>by
   rcases bf.1 hx with h | h | h | h
   ·rw[h];exact cm.o
   ·exact(bp.o x h).1
   ·exact Dc cq.o (c0.o x h)
   simp[fb] at h)
  rw[<-bi,<-hr];clear d a6 h0 c6 c4 rk rv bp c0 cq Kx c8 c9 x2 xq w9 db dc hr bi z1 dq
  first | (have:=a;have a8:Z (aE tyI w w5 p q r xkA xvA (V gx) (V z) (V A) ccA rkA rvA none xkc xvc xcc ckc cvc ccc rkc rvc 0 ks vs kc vc (kc.drop 9) (vc.drop 9) cs cd [] (ay p xkA xvA (V gx)++ay q (V z) (V A) ccA)):=bZ ⟨X5.o,Q5.o,R5.o,iN X5.o.nd Q5.o.nd R5.o.nd hd.o (fun x hx B=>by have:=c7.o x hx;have:=ar.o x B;omega) (fun x hx B=>by have:=c5.o x hx;have:=ar.o x B;omega),(c1.o.trans k5.o).nil,fun x hx=>?_⟩) | (have a8:Z (aE tyS w w5 p q r xkA xvA (V gx) (V z) (V A) ccA rkA rvA none xkc xvc xcc ckc cvc ccc rkc rvc 0 ks vs kc vc (kc.drop 9) (vc.drop 9) cs cd [] (ay p xkA xvA (V gx)++ay q (V z) (V A) ccA)):=bZ ⟨X5.o,Q5.o,R5.o,iN X5.o.nd Q5.o.nd R5.o.nd hd.o (fun x hx B=>by have:=c7.o x hx;have:=ar.o x B;omega) (fun x hx B=>by have:=c5.o x hx;have:=ar.o x B;omega),(c1.o.trans k5.o).nil,fun x hx=>?_⟩)
  rotate_left
  ·rcases CX.1 hx with h | h
   ·exact .inl (Di _ h)
   rcases CX.1 h with h | h
   ·exact .inl (Dg _ h)
   exact .inr (Dc c1.o.size (ar.o x h))
  first | (have:=a;have bh:=bM.1 w5 q kc vc cd _ Q5.o.at_ (by have:=m3.o;omega)) | (have bh:=bM.2 w5 q kc vc cd _ Q5.o.at_ (by have:=m3.o;omega))
  clear X5 k5 hd c7 c5 cm ar c1;obtain⟨bl,b4⟩:∃b,b=decide (cd.length=0):=⟨_,rfl⟩;rw[<-b4] at bh;replace b4:=bZ b4;unfold ptr at bh;go_upto_if 41 with (refine bh.mono ?_;rintro e w' ⟨rfl,rfl⟩);clear bh
  first | (have:=a;go_cut [] (fun wx=>∃b8 b9 rcA rcc,Z (aE tyI w wx p q r xkA xvA (V gx) (V z) (V A) b8 rkA rvA rcA xkc xvc xcc ckc cvc b9 rkc rvc rcc ks vs kc vc (kc.drop 9) (vc.drop 9) cs (cd.take 9) (cd.drop 9) (ay p xkA xvA (V gx)++ay q (V z) (V A) ccA)))) | go_cut [] (fun wx=>∃b8 b9 rcA rcc,Z (aE tyS w wx p q r xkA xvA (V gx) (V z) (V A) b8 rkA rvA rcA xkc xvc xcc ckc cvc b9 rkc rvc rcc ks vs kc vc (kc.drop 9) (vc.drop 9) cs (cd.take 9) (cd.drop 9) (ay p xkA xvA (V gx)++ay q (V z) (V A) ccA)))
  case first=>
   rcases m3.o with m0 | c3
   ·obtain rfl:bl=true:=by rw[b4.o,m0];rfl
    obtain rfl:cd=[]:=Dh m0;go_wp2_with fail;go_meet;exact⟨_,_,_,_,a8⟩
   obtain rfl:bl=false:=by rw[b4.o,c3];rfl
   obtain⟨gc,ep,ec,dl,f5,_,_,dn,_⟩:=ax (Q5.o.rc) (by omega);injection ec with ec1 _ ec2;subst ec1 ec2;rw[c3] at dl;have c2:w5.cell? (U q 2)=G (V gc) 17 ccc:=by have:=Q5.o.blk.cell 2;rw[c3] at this;exact this
   have w9:IntKind.i64.wrap 9=9:=by decide
   have da:¬ccc=9:=by omega
   have ac:Z (bm w5 (some (U gc 9)) 8 ((cd.drop 9).map ptr)):=bZ (by have:=mY Q5.o.rc (by omega) (k:=9) 8;rwa [<-En] at this)
   first | (have:=a;have C4:=eJ.2.2.1 w5 (some (U gc 9)) 8 (ccc - 9) ((cd.drop 9).map ptr) ac.o (by rw[Df,Da];omega) (by simp) (by omega) (fun v C=>by obtain⟨c,_,rfl⟩:=Dt.1 C;rfl)) | (have C4:=eJ.2.2.2.2 w5 (some (U gc 9)) 8 (ccc - 9) ((cd.drop 9).map ptr) ac.o (by rw[Df,Da];omega) (by simp) (by omega) (fun v C=>by obtain⟨c,_,rfl⟩:=Dt.1 C;rfl))
   go_wp2_with fail;refine C4.mono ?_;clear C4;rintro e wa ⟨a1,d1,rfl,oa,ka⟩;have RB:=R5.o.blk.keep ka.o (by simp);have e9:=RB.cell 2;have ee:=RB.frozen;clear RB;have h4:=bZ (a8.o.kidsR (by rw[Da];omega) (C9 _) oa.o ka.o);clear c2 dn ac da oa;go_upto_region 5 with fail;obtain⟨wb,cp⟩:∃x,x=wa.setCell (U r 2) (.slice a1 8 d1):=⟨_,rfl⟩;rw[<-cp] at h4 ⊢;clear cp e9 ee ka a8 Q5 R5;have c2:wb.cell? (U q 2)=G (V gc) 17 ccc:=by have:=h4.o.Q.blk.cell 2;rw[c3] at this;exact this
   have d7:¬ccc<9:=by omega
   have ac:Z (bm wb (V gc) 9 ((cd.take 9).map ptr)):=bZ (by have:=mX h4.o.Q.rc (by omega) (k:=9) 9;rwa [<-El] at this)
   first | (have:=a;have C5:=eJ.2.2.1 wb (V gc) 9 ccc ((cd.take 9).map ptr) ac.o (by rw[Df,CY];omega) (by simp) (by omega) (fun v C=>by obtain⟨c,_,rfl⟩:=Dt.1 C;rfl)) | (have C5:=eJ.2.2.2.2 wb (V gc) 9 ccc ((cd.take 9).map ptr) ac.o (by rw[Df,CY];omega) (by simp) (by omega) (fun v C=>by obtain⟨c,_,rfl⟩:=Dt.1 C;rfl))
   go_wp2_with fail;refine C5.mono ?_;clear C5;rintro e fn ⟨a2,d2,rfl,ob,kb⟩;have QB:=h4.o.Q.blk.keep kb.o (by simp);have fl:=QB.cell 2;have e8:=QB.frozen;clear QB;have h5:=bZ (h4.o.kidsQ (by rw[CY];omega) (C9 _) ob.o kb.o);clear c2 ac d7 ob h4;go_wp2_with fail;go_meet;exact⟨_,_,_,_,h5⟩
  obtain⟨b8,b9,rcA,rcc,cn⟩:=hcut;obtain⟨w6,e5⟩:∃x,x=wc:=⟨_,rfl⟩;subst e5;clear a8 Q5 R5 m3 b4;go_wp2_with fail;have bb:=bZ cn.o.drew;have H6:=bb.o.f6 l1.o l2.o m1.o m2.o bd.o b5.o
  first | (have:=a;have d:w6.drew.cell? (U p 0)=G xkA l xkc/\w6.drew.cell? (U p 1)=G xvA l xvc/\w6.drew.cell? (U q 0)=G (V z) 16 ckc/\w6.drew.cell? (U q 1)=G (V A) 16 cvc/\w6.drew.cell? (U z 8)=some (I R)/\w6.drew.cell? (U A 8)=some (Value.slice eA en ec):=H6.s) | have d:w6.drew.cell? (U p 0)=G xkA l xkc/\w6.drew.cell? (U p 1)=G xvA l xvc/\w6.drew.cell? (U q 0)=G (V z) 16 ckc/\w6.drew.cell? (U q 1)=G (V A) 16 cvc/\w6.drew.cell? (U z 8)=some (Value.string R)/\w6.drew.cell? (U A 8)=some (I ey):=H6.s
  first | (have:=a;have RK:Z (w6.drew.ownsRow 0 2 1 (.slice xkA l xkc) l ks):=bZ H6.rk) | have RK:Z (w6.drew.ownsRow 0 9 1 (.slice xkA l xkc) l ks):=bZ H6.rk
  first | (have:=a;have P:Z (w6.drew.ownsRow 0 62 1 (.slice xvA l xvc) l vs):=bZ H6.rv) | have P:Z (w6.drew.ownsRow 0 2 1 (.slice xvA l xvc) l vs):=bZ H6.rv
  first | (have:=a;have H:Z (Blk w6.drew p 210 #[.slice xkA l xkc,.slice xvA l xvc,.slice (V gx) cs.length xcc]):=bZ H6.xb) | have H:Z (Blk w6.drew p 254 #[.slice xkA l xkc,.slice xvA l xvc,.slice (V gx) cs.length xcc]):=bZ H6.xb
  have O:Z (∀x,x∈fb xkA\/x∈fb xvA->x<w6.drew.heap.size):=bZ H6.lt;have bs:Z (∀y∈fb xkA,y∉fb xvA):=bZ H6.kv;have a3:Z ((p∉fb xkA/\∀y∈fb xkA,y∉[p,q,z,A])/\(p∉fb xvA/\∀y∈fb xvA,y∉[p,q,z,A])):=bZ H6.p4
  first | (have:=a;have a0:Z (∀(W W':World) (Y:List Nat),(W.cell? (U p 0)=G xkA l xkc/\W.cell? (U p 1)=G xvA l xvc/\W.cell? (U q 0)=G (V z) 16 ckc/\W.cell? (U q 1)=G (V A) 16 cvc/\W.cell? (U z 8)=some (I R)/\W.cell? (U A 8)=some (Value.slice eA en ec))->aa Y W W'->(∀y∈Y,y∉[p,q,z,A])->(W'.cell? (U p 0)=G xkA l xkc/\W'.cell? (U p 1)=G xvA l xvc/\W'.cell? (U q 0)=G (V z) 16 ckc/\W'.cell? (U q 1)=G (V A) 16 cvc/\W'.cell? (U z 8)=some (I R)/\W'.cell? (U A 8)=some (Value.slice eA en ec))):=bZ (fun W W' Y h1 h2 h3=>S6.keep h1 h2 h3)) | have a0:Z (∀(W W':World) (Y:List Nat),(W.cell? (U p 0)=G xkA l xkc/\W.cell? (U p 1)=G xvA l xvc/\W.cell? (U q 0)=G (V z) 16 ckc/\W.cell? (U q 1)=G (V A) 16 cvc/\W.cell? (U z 8)=some (Value.string R)/\W.cell? (U A 8)=some (I ey))->aa Y W W'->(∀y∈Y,y∉[p,q,z,A])->(W'.cell? (U p 0)=G xkA l xkc/\W'.cell? (U p 1)=G xvA l xvc/\W'.cell? (U q 0)=G (V z) 16 ckc/\W'.cell? (U q 1)=G (V A) 16 cvc/\W'.cell? (U z 8)=some (Value.string R)/\W'.cell? (U A 8)=some (I ey))):=bZ (fun W W' Y h1 h2 h3=>S6.keep h1 h2 h3)
  clear H6 cn
  first | (have:=a;go_cut [] (fun wx=>∃E M F N,Z (aE tyI w wx p q r E F (V gx) (V z) (V A) b8 rkA rvA rcA M N xcc ckc cvc b9 rkc rvc rcc (ks.take i++(I R)::ks.drop i) (vs.take i++(Value.slice eA en ec)::vs.drop i) kc vc (kc.drop 9) (vc.drop 9) cs (cd.take 9) (cd.drop 9) (ay p xkA xvA (V gx)++ay q (V z) (V A) ccA)))) | go_cut [] (fun wx=>∃E M F N,Z (aE tyS w wx p q r E F (V gx) (V z) (V A) b8 rkA rvA rcA M N xcc ckc cvc b9 rkc rvc rcc (ks.take i++(Value.string R)::ks.drop i) (vs.take i++(I ey)::vs.drop i) kc vc (kc.drop 9) (vc.drop 9) cs (cd.take 9) (cd.drop 9) (ay p xkA xvA (V gx)++ay q (V z) (V A) ccA)))
  case first=>
   refine bj (by kernel_rfl) ?_;refine JW 1 ?_
   try simp only[PT,Y1,Y2,Y3]
   first | (have:=a;refine bu (S:=(fun w':World=>w'.cell? (U p 0)=G xkA l xkc/\w'.cell? (U p 1)=G xvA l xvc/\w'.cell? (U q 0)=G (V z) 16 ckc/\w'.cell? (U q 1)=G (V A) 16 cvc/\w'.cell? (U z 8)=some (I R)/\w'.cell? (U A 8)=some (Value.slice eA en ec))) (n:=32) _ _ _ _ ?_) | refine bu (S:=(fun w':World=>w'.cell? (U p 0)=G xkA l xkc/\w'.cell? (U p 1)=G xvA l xvc/\w'.cell? (U q 0)=G (V z) 16 ckc/\w'.cell? (U q 1)=G (V A) 16 cvc/\w'.cell? (U z 8)=some (Value.string R)/\w'.cell? (U A 8)=some (I ey))) (n:=32) _ _ _ _ ?_
   generalize w6.drew=wd at*;obtain⟨wc,f⟩:∃x,x=wd:=⟨_,rfl⟩;have Ka:Z (aa [] wd wc):=bZ (by rw[f];exact aa.refl _ _);rw[<-f] at RK P H d ⊢;clear f;refine ord [0,2,3,4,5,6,7,8,9,10,11,12,13,16,17,18,19,20,21,22,23,24,25,26,27] ?_
   iterate 25 (refine tq d ?_;try simp only[PT,Y1,Y2,Y3])
   refine av ?_;refine cK (i:=14) (j:=28) rfl rfl (by kernel_rfl) (fun K u=>?_) (fun K u=>?_)
   ·dsimp only[Y1,Y2,Y3];go_simp;obtain⟨b1,a9⟩:∃g,g=wc.heap.size:=⟨_,rfl⟩;have ap:Z (wd.heap.size<=b1):=bZ (by rw[a9];exact Ka.o.size)
    first | (have:=a;have L:=bZ (Blk.new wc 2 #[I R])) | have L:=bZ (Blk.new wc 9 #[Value.string R])
    first | (have:=a;have m:aa [] wc (wc.alloc (.cells #[I R] 2)):=(aa.refl [] wc).alloc _) | have m:aa [] wc (wc.alloc (.cells #[Value.string R] 9)):=(aa.refl [] wc).alloc _
    replace Ka:=bZ (Ka.o.trans m);replace RK:=bZ (ab RK.o m);replace P:=bZ (ab P.o m);replace H:=bZ (H.o.keep m (by simp));have d:=a0.o _ _ [] d m (by simp);refine u _ _ (.inr d) ?_;clear u K m;rw[<-a9] at L ⊢
    first | (have:=a;generalize wc.alloc (.cells #[I R] 2)=D at*) | generalize wc.alloc (.cells #[Value.string R] 9)=D at*
    clear a9;obtain⟨wc,f⟩:∃x,x=D:=⟨_,rfl⟩;subst f
    try simp only[PT,Y1,Y2,Y3]
    refine cK (i:=15) (j:=28) rfl rfl (by kernel_rfl) (fun K u=>?_) (fun K u=>?_)
    ·dsimp only[Y1,Y2,Y3];go_simp
     first | (have:=a;refine(aP.1 wc xkA l xkc i b1 ks (I R) RK.o hi L.o (fun B=>by have:=(O.o _ (.inl B));have:=ap.o;omega) (by omega) o1.o rfl).mono ?_) | (refine(aP.2.2.2.1 wc xkA l xkc i b1 ks (Value.string R) RK.o hi L.o (fun B=>by have:=(O.o _ (.inl B));have:=ap.o;omega) (by omega) o1.o rfl).mono ?_)
     rintro e D ⟨E,M,rfl,o,k,nf⟩;have J:Z (wd.heap.size<=wc.heap.size):=bZ Ka.o.size;have k1:Z (aa (fb xkA) wd D):=bZ (Ka.o.nil.trans k.o);have O1:=o;have n1:Z (∀g∈fb E,g∈fb xkA\/wd.heap.size<=g):=bZ (fun g hg=>(nf.o g hg).imp_right (fun h=>Dc J.o h));have b7:Z (wd.heap.size<=D.heap.size):=bZ k1.o.size;obtain⟨w1,a5⟩:∃x,x=D:=⟨_,rfl⟩;rw[<-a5] at O1 k1 b7;have Kb:Z (aa [] w1 D):=bZ (by rw[a5];exact aa.refl _ _);replace P:=bZ (aq P.o k.o bs.o);replace H:=bZ (H.o.keep k.o a3.o.1.1);have d:=a0.o _ _ (fb xkA) d k.o a3.o.1.2;refine u _ _ (.inr d) ?_;clear u K o k nf RK a5 Ka L J;obtain⟨wc,f⟩:∃x,x=D:=⟨_,rfl⟩;subst f
     try simp only[PT,Y1,Y2,Y3]
     refine J1 28 fun K u=>?_;dsimp only[Y1,Y2,Y3];go_simp;obtain⟨b2,a4⟩:∃g,g=wc.heap.size:=⟨_,rfl⟩;have a7:Z (wd.heap.size<=b2):=bZ (by rw[a4];exact Dc b7.o Kb.o.size)
     first | (have:=a;have t:=bZ (Blk.new wc 62 #[Value.slice eA en ec])) | have t:=bZ (Blk.new wc 2 #[I ey])
     first | (have:=a;have m:aa [] wc (wc.alloc (.cells #[Value.slice eA en ec] 62)):=(aa.refl [] wc).alloc _) | have m:aa [] wc (wc.alloc (.cells #[I ey] 2)):=(aa.refl [] wc).alloc _
     replace Kb:=bZ (Kb.o.trans m);replace P:=bZ (ab P.o m);replace H:=bZ (H.o.keep m (by simp));have d:=a0.o _ _ [] d m (by simp);refine u _ _ (.inr d) ?_;clear u K m;rw[<-a4] at t ⊢
     first | (have:=a;generalize wc.alloc (.cells #[Value.slice eA en ec] 62)=D at*) | generalize wc.alloc (.cells #[I ey] 2)=D at*
     clear a4;obtain⟨wc,f⟩:∃x,x=D:=⟨_,rfl⟩;subst f
     try simp only[PT,Y1,Y2,Y3]
     refine J1 29 fun K u=>?_;dsimp only[Y1,Y2,Y3];go_simp
     first | (have:=a;refine(aP.2.1 wc xvA l xvc i b2 vs (Value.slice eA en ec) P.o hi t.o (fun B=>by have:=(O.o _ (.inr B));have:=a7.o;omega) (by omega) o2.o rfl).mono ?_) | (refine(aP.1 wc xvA l xvc i b2 vs (I ey) P.o hi t.o (fun B=>by have:=(O.o _ (.inr B));have:=a7.o;omega) (by omega) o2.o rfl).mono ?_)
     rintro e D ⟨F,N,rfl,o,k,nf⟩;have J:Z (w1.heap.size<=wc.heap.size):=bZ Kb.o.size;have k2:Z (aa (fb xvA) w1 D):=bZ (Kb.o.nil.trans k.o);have O2:=o;have n2:Z (∀g∈fb F,g∈fb xvA\/w1.heap.size<=g):=bZ (fun g hg=>(nf.o g hg).imp_right (fun h=>Dc J.o h));replace H:=bZ (H.o.keep k.o a3.o.2.1);have d:=a0.o _ _ (fb xvA) d k.o a3.o.2.2;have d0:=H.o.cell 0;have d3:=H.o.cell 1;have xf:=H.o.frozen;refine u _ _ (.inr d) ?_;clear u K o k nf P Kb t J;obtain⟨wc,f⟩:∃x,x=D:=⟨_,rfl⟩;subst f
     try simp only[PT,Y1,Y2,Y3]
     refine ord [30,31] ?_
     iterate 2 (refine tq d ?_;try simp only[PT,Y1,Y2,Y3])
     refine av ?_;refine JQ 32 ?_
     try simp only[PT,Y1,Y2,Y3]
     refine JQ 33 ?_
     try simp only[PT,Y1,Y2,Y3]
     refine JQ 34 ?_
     try simp only[PT,Y1,Y2,Y3]
     refine JQ 35 ?_
     try simp only[PT,Y1,Y2,Y3]
     refine JD ?_;go_wp2_with fail;go_meet;exact⟨E,M,F,N,bZ (bb.o.put1 l1.o l2.o hi rfl O1.o k1.o n1.o O2.o k2.o n2.o)⟩
    dsimp only[Y1,Y2,Y3];go_simp;obtain⟨b2,a4⟩:∃g,g=wc.heap.size:=⟨_,rfl⟩;have a7:Z (wd.heap.size<=b2):=bZ (by rw[a4];exact Ka.o.size)
    first | (have:=a;have t:=bZ (Blk.new wc 62 #[Value.slice eA en ec])) | have t:=bZ (Blk.new wc 2 #[I ey])
    first | (have:=a;have m:aa [] wc (wc.alloc (.cells #[Value.slice eA en ec] 62)):=(aa.refl [] wc).alloc _) | have m:aa [] wc (wc.alloc (.cells #[I ey] 2)):=(aa.refl [] wc).alloc _
    replace Ka:=bZ (Ka.o.trans m);replace RK:=bZ (ab RK.o m);replace P:=bZ (ab P.o m);replace H:=bZ (H.o.keep m (by simp));replace L:=bZ (L.o.keep m (by simp));have d:=a0.o _ _ [] d m (by simp);refine u _ _ (.inr d) ?_;clear u K m;rw[<-a4] at t ⊢
    first | (have:=a;generalize wc.alloc (.cells #[Value.slice eA en ec] 62)=D at*) | generalize wc.alloc (.cells #[I ey] 2)=D at*
    clear a4;obtain⟨wc,f⟩:∃x,x=D:=⟨_,rfl⟩;subst f
    try simp only[PT,Y1,Y2,Y3]
    refine J1 15 fun K u=>?_;dsimp only[Y1,Y2,Y3];go_simp
    first | (have:=a;refine(aP.1 wc xkA l xkc i b1 ks (I R) RK.o hi L.o (fun B=>by have:=(O.o _ (.inl B));have:=ap.o;omega) (by omega) o1.o rfl).mono ?_) | (refine(aP.2.2.2.1 wc xkA l xkc i b1 ks (Value.string R) RK.o hi L.o (fun B=>by have:=(O.o _ (.inl B));have:=ap.o;omega) (by omega) o1.o rfl).mono ?_)
    rintro e D ⟨E,M,rfl,o,k,nf⟩;have J:Z (wd.heap.size<=wc.heap.size):=bZ Ka.o.size;have k1:Z (aa (fb xkA) wd D):=bZ (Ka.o.nil.trans k.o);have O1:=o;have n1:Z (∀g∈fb E,g∈fb xkA\/wd.heap.size<=g):=bZ (fun g hg=>(nf.o g hg).imp_right (fun h=>Dc J.o h));have b7:Z (wd.heap.size<=D.heap.size):=bZ k1.o.size;obtain⟨w1,a5⟩:∃x,x=D:=⟨_,rfl⟩;rw[<-a5] at O1 k1 b7;have Kb:Z (aa [] w1 D):=bZ (by rw[a5];exact aa.refl _ _);replace P:=bZ (aq P.o k.o bs.o);replace H:=bZ (H.o.keep k.o a3.o.1.1);replace t:=bZ (t.o.keep k.o (fun B=>by have:=O.o _ (.inl B);have:=a7.o;omega));have d:=a0.o _ _ (fb xkA) d k.o a3.o.1.2;refine u _ _ (.inr d) ?_;clear u K o k nf RK a5 Ka L J;obtain⟨wc,f⟩:∃x,x=D:=⟨_,rfl⟩;subst f
    try simp only[PT,Y1,Y2,Y3]
    refine J1 29 fun K u=>?_;dsimp only[Y1,Y2,Y3];go_simp
    first | (have:=a;refine(aP.2.1 wc xvA l xvc i b2 vs (Value.slice eA en ec) P.o hi t.o (fun B=>by have:=(O.o _ (.inr B));have:=a7.o;omega) (by omega) o2.o rfl).mono ?_) | (refine(aP.1 wc xvA l xvc i b2 vs (I ey) P.o hi t.o (fun B=>by have:=(O.o _ (.inr B));have:=a7.o;omega) (by omega) o2.o rfl).mono ?_)
    rintro e D ⟨F,N,rfl,o,k,nf⟩;have J:Z (w1.heap.size<=wc.heap.size):=bZ Kb.o.size;have k2:Z (aa (fb xvA) w1 D):=bZ (Kb.o.nil.trans k.o);have O2:=o;have n2:Z (∀g∈fb F,g∈fb xvA\/w1.heap.size<=g):=bZ (fun g hg=>(nf.o g hg).imp_right (fun h=>Dc J.o h));replace H:=bZ (H.o.keep k.o a3.o.2.1);have d:=a0.o _ _ (fb xvA) d k.o a3.o.2.2;have d0:=H.o.cell 0;have d3:=H.o.cell 1;have xf:=H.o.frozen;refine u _ _ (.inr d) ?_;clear u K o k nf P Kb t J;obtain⟨wc,f⟩:∃x,x=D:=⟨_,rfl⟩;subst f
    try simp only[PT,Y1,Y2,Y3]
    refine ord [30,31] ?_
    iterate 2 (refine tq d ?_;try simp only[PT,Y1,Y2,Y3])
    refine av ?_;refine JQ 32 ?_
    try simp only[PT,Y1,Y2,Y3]
    refine JQ 33 ?_
    try simp only[PT,Y1,Y2,Y3]
    refine JQ 34 ?_
    try simp only[PT,Y1,Y2,Y3]
    refine JQ 35 ?_
    try simp only[PT,Y1,Y2,Y3]
    refine JD ?_;go_wp2_with fail;go_meet;exact⟨E,M,F,N,bZ (bb.o.put1 l1.o l2.o hi rfl O1.o k1.o n1.o O2.o k2.o n2.o)⟩
   dsimp only[Y1,Y2,Y3];go_simp;obtain⟨b2,a4⟩:∃g,g=wc.heap.size:=⟨_,rfl⟩;have a7:Z (wd.heap.size<=b2):=bZ (by rw[a4];exact Ka.o.size)
   first | (have:=a;have t:=bZ (Blk.new wc 62 #[Value.slice eA en ec])) | have t:=bZ (Blk.new wc 2 #[I ey])
   first | (have:=a;have m:aa [] wc (wc.alloc (.cells #[Value.slice eA en ec] 62)):=(aa.refl [] wc).alloc _) | have m:aa [] wc (wc.alloc (.cells #[I ey] 2)):=(aa.refl [] wc).alloc _
   replace Ka:=bZ (Ka.o.trans m);replace RK:=bZ (ab RK.o m);replace P:=bZ (ab P.o m);replace H:=bZ (H.o.keep m (by simp));have d:=a0.o _ _ [] d m (by simp);refine u _ _ (.inr d) ?_;clear u K m;rw[<-a4] at t ⊢
   first | (have:=a;generalize wc.alloc (.cells #[Value.slice eA en ec] 62)=D at*) | generalize wc.alloc (.cells #[I ey] 2)=D at*
   clear a4;obtain⟨wc,f⟩:∃x,x=D:=⟨_,rfl⟩;subst f
   try simp only[PT,Y1,Y2,Y3]
   refine J1 14 fun K u=>?_;dsimp only[Y1,Y2,Y3];go_simp;obtain⟨b1,a9⟩:∃g,g=wc.heap.size:=⟨_,rfl⟩;have ap:Z (wd.heap.size<=b1):=bZ (by rw[a9];exact Ka.o.size)
   first | (have:=a;have L:=bZ (Blk.new wc 2 #[I R])) | have L:=bZ (Blk.new wc 9 #[Value.string R])
   first | (have:=a;have m:aa [] wc (wc.alloc (.cells #[I R] 2)):=(aa.refl [] wc).alloc _) | have m:aa [] wc (wc.alloc (.cells #[Value.string R] 9)):=(aa.refl [] wc).alloc _
   replace Ka:=bZ (Ka.o.trans m);replace RK:=bZ (ab RK.o m);replace P:=bZ (ab P.o m);replace H:=bZ (H.o.keep m (by simp));replace t:=bZ (t.o.keep m (by simp));have d:=a0.o _ _ [] d m (by simp);refine u _ _ (.inr d) ?_;clear u K m;rw[<-a9] at L ⊢
   first | (have:=a;generalize wc.alloc (.cells #[I R] 2)=D at*) | generalize wc.alloc (.cells #[Value.string R] 9)=D at*
   clear a9;obtain⟨wc,f⟩:∃x,x=D:=⟨_,rfl⟩;subst f
   try simp only[PT,Y1,Y2,Y3]
   refine J1 15 fun K u=>?_;dsimp only[Y1,Y2,Y3];go_simp
   first | (have:=a;refine(aP.1 wc xkA l xkc i b1 ks (I R) RK.o hi L.o (fun B=>by have:=(O.o _ (.inl B));have:=ap.o;omega) (by omega) o1.o rfl).mono ?_) | (refine(aP.2.2.2.1 wc xkA l xkc i b1 ks (Value.string R) RK.o hi L.o (fun B=>by have:=(O.o _ (.inl B));have:=ap.o;omega) (by omega) o1.o rfl).mono ?_)
   rintro e D ⟨E,M,rfl,o,k,nf⟩;have J:Z (wd.heap.size<=wc.heap.size):=bZ Ka.o.size;have k1:Z (aa (fb xkA) wd D):=bZ (Ka.o.nil.trans k.o);have O1:=o;have n1:Z (∀g∈fb E,g∈fb xkA\/wd.heap.size<=g):=bZ (fun g hg=>(nf.o g hg).imp_right (fun h=>Dc J.o h));have b7:Z (wd.heap.size<=D.heap.size):=bZ k1.o.size;obtain⟨w1,a5⟩:∃x,x=D:=⟨_,rfl⟩;rw[<-a5] at O1 k1 b7;have Kb:Z (aa [] w1 D):=bZ (by rw[a5];exact aa.refl _ _);replace P:=bZ (aq P.o k.o bs.o);replace H:=bZ (H.o.keep k.o a3.o.1.1);replace t:=bZ (t.o.keep k.o (fun B=>by have:=O.o _ (.inl B);have:=a7.o;omega));have d:=a0.o _ _ (fb xkA) d k.o a3.o.1.2;refine u _ _ (.inr d) ?_;clear u K o k nf RK a5 Ka L J;obtain⟨wc,f⟩:∃x,x=D:=⟨_,rfl⟩;subst f
   try simp only[PT,Y1,Y2,Y3]
   refine J1 29 fun K u=>?_;dsimp only[Y1,Y2,Y3];go_simp
   first | (have:=a;refine(aP.2.1 wc xvA l xvc i b2 vs (Value.slice eA en ec) P.o hi t.o (fun B=>by have:=(O.o _ (.inr B));have:=a7.o;omega) (by omega) o2.o rfl).mono ?_) | (refine(aP.1 wc xvA l xvc i b2 vs (I ey) P.o hi t.o (fun B=>by have:=(O.o _ (.inr B));have:=a7.o;omega) (by omega) o2.o rfl).mono ?_)
   rintro e D ⟨F,N,rfl,o,k,nf⟩;have J:Z (w1.heap.size<=wc.heap.size):=bZ Kb.o.size;have k2:Z (aa (fb xvA) w1 D):=bZ (Kb.o.nil.trans k.o);have O2:=o;have n2:Z (∀g∈fb F,g∈fb xvA\/w1.heap.size<=g):=bZ (fun g hg=>(nf.o g hg).imp_right (fun h=>Dc J.o h));replace H:=bZ (H.o.keep k.o a3.o.2.1);have d:=a0.o _ _ (fb xvA) d k.o a3.o.2.2;have d0:=H.o.cell 0;have d3:=H.o.cell 1;have xf:=H.o.frozen;refine u _ _ (.inr d) ?_;clear u K o k nf P Kb t J;obtain⟨wc,f⟩:∃x,x=D:=⟨_,rfl⟩;subst f
   try simp only[PT,Y1,Y2,Y3]
   refine ord [30,31] ?_
   iterate 2 (refine tq d ?_;try simp only[PT,Y1,Y2,Y3])
   refine av ?_;refine JQ 32 ?_
   try simp only[PT,Y1,Y2,Y3]
   refine JQ 33 ?_
   try simp only[PT,Y1,Y2,Y3]
   refine JQ 34 ?_
   try simp only[PT,Y1,Y2,Y3]
   refine JQ 35 ?_
   try simp only[PT,Y1,Y2,Y3]
   refine JD ?_;go_wp2_with fail;go_meet;exact⟨E,M,F,N,bZ (bb.o.put1 l1.o l2.o hi rfl O1.o k1.o n1.o O2.o k2.o n2.o)⟩
  obtain⟨E,M,F,N,h7⟩:=hcut;obtain⟨w7,e6⟩:∃x,x=wc:=⟨_,rfl⟩;subst e6;clear d RK P H O bs a3 a0 bb
  first | (have:=a;have b6:Z (w7.ownsRow 0 202 1 (.slice (V gx) (l+1) xcc) (l+1) (cs.map ptr)):=bZ (by have:=h7.o.X.rc;rw[l3.o] at this;exact this)) | (have b6:Z (w7.ownsRow 0 248 1 (.slice (V gx) (l+1) xcc) (l+1) (cs.map ptr)):=bZ (by have:=h7.o.X.rc;rw[l3.o] at this;exact this))
  first | (have:=a;have H:Z (Blk w7 p 210 _):=bZ h7.o.X.blk) | have H:Z (Blk w7 p 254 _):=bZ h7.o.X.blk
  have x2:w7.cell? (U p 2)=G (V gx) (l+1) xcc:=by have:=h7.o.X.blk.cell 2;rw[l3.o] at this;exact this
  have wi:IntKind.i64.wrap ((i:Int)+1)=(i:Int)+1:=C0 _ (by omega);go_wp2_with fail;obtain⟨b3,ck⟩:∃g,g=w7.heap.size:=⟨_,rfl⟩
  first | (have:=a;have m:Z (aa [] w7 (w7.alloc (.cells #[.pointer (V r)] 202))):=bZ ((aa.refl [] w7).alloc _)) | have m:Z (aa [] w7 (w7.alloc (.cells #[.pointer (V r)] 248))):=bZ ((aa.refl [] w7).alloc _)
  first | (have:=a;have B3:=bZ (Blk.new w7 202 #[.pointer (V r)])) | have B3:=bZ (Blk.new w7 248 #[.pointer (V r)])
  rw[<-ck] at B3 ⊢;have cl:Z (p∉fb (V gx:Option Addr)):=bZ (aW.1 h7.o.X.nd).1.2.2
  first | (have:=a;have C7:=aP.2.2.1 (w7.alloc (.cells #[.pointer (V r)] 202)) (V gx) (l+1) xcc (i+1) b3 (cs.map ptr) (.pointer (V r)) (ab b6.o m.o) (by omega) B3.o (fun B=>by have:=(aw b6.o B).2.1;omega) (by omega) (fun v C=>by obtain⟨c,_,rfl⟩:=Dt.1 C;rfl) rfl) | (have C7:=aP.2.2.2.2 (w7.alloc (.cells #[.pointer (V r)] 248)) (V gx) (l+1) xcc (i+1) b3 (cs.map ptr) (.pointer (V r)) (ab b6.o m.o) (by omega) B3.o (fun B=>by have:=(aw b6.o B).2.1;omega) (by omega) (fun v C=>by obtain⟨c,_,rfl⟩:=Dt.1 C;rfl) rfl)
  refine C7.mono ?_;clear C7;rintro e D ⟨d4,d5,rfl,o,k,nf⟩;have X8:=(H.o.keep m.o (by simp)).keep k.o cl.o;have eg:=X8.cell 2;have ek:=X8.frozen;clear X8;have ch:(cs.map ptr).take (i+1)++(.pointer (V r))::(cs.map ptr).drop (i+1)=(cs.take (i+1)++r::cs.drop (i+1)).map ptr:=by simp[El,En,ptr]
  rw[ch] at o;have h8:=bZ (h7.o.kid1 (by rw[CU,CY,Dj,Da,l3.o];omega) o.o (m.o.nil.trans k.o) (fun g hg=>(nf.o g hg).imp_right (fun h=>Dc m.o.size h)));clear ch o nf;go_wp2_with fail;obtain⟨w8,co⟩:∃x,x=D.setCell (U p 2) (.slice d4 (l+1+1) d5):=⟨_,rfl⟩;rw[<-co] at h8 ⊢;clear co eg ek k m B3 ck cl b6 H x2 wi h7;have ba:=bZ h8.o.drew;have cb:Z ((kc.take 8).length=8):=bZ (by rw[CY,m1.o];rfl);have cc:Z ((vc.take 8).length=8):=bZ (by rw[CY,m2.o];rfl);have ct:Z (bm w8.drew (V z) 8 (kc.take 8)):=bZ (mX ba.o.Q.rk (by rw[m1.o];omega) 8);have cv:Z (bm w8.drew (V A) 8 (vc.take 8)):=bZ (mX ba.o.Q.rv (by rw[m2.o];omega) 8)
  first | (have:=a;have QB:Z (Blk w8.drew q 210 _):=bZ ba.o.Q.blk) | have QB:Z (Blk w8.drew q 254 _):=bZ ba.o.Q.blk
  have a6:Z (∀w',aa [] w8.drew w'->w'.cell? (U q 0)=G (V z) 16 ckc/\w'.cell? (U q 1)=G (V A) 16 cvc):=bZ (fun w' k=>⟨k.cellEq (by have:=QB.o.cell 0;rw[m1.o] at this;exact this) (by simp),k.cellEq (by have:=QB.o.cell 1;rw[m2.o] at this;exact this) (by simp)⟩);clear h8;have ew:(8:Int)<=(ckc:Int):=by omega
  have f0:(8:Int)<=(cvc:Int):=by omega
  refine bj (by kernel_rfl) ?_;refine JW 1 ?_
  try simp only[PT,Y1,Y2,Y3]
  refine bu (S:=(fun w':World=>w'.cell? (U q 0)=G (V z) 16 ckc/\w'.cell? (U q 1)=G (V A) 16 cvc)) (n:=18) _ _ _ _ ?_;generalize w8.drew=wd at*;have d:=a6.o _ (aa.refl [] wd);refine ord [0,2,3,4,5,6,7,9,10,11,12,13,14] ?_
  iterate 13 (refine tq d ?_;try simp only[PT,Y1,Y2,Y3])
  refine av ?_;refine J1 8 fun K u=>?_;dsimp only[Y1,Y2,Y3];go_simp
  first | (have:=a;refine(eJ.1 wd (V z) 8 ckc (kc.take 8) ct.o cb.o (by simp) (by omega) (fun v C=>ak.o v (DD C))).mono ?_) | refine(eJ.2.2.2.1 wd (V z) 8 ckc (kc.take 8) ct.o cb.o (by simp) (by omega) (fun v C=>ak.o v (DD C))).mono ?_
  rintro e wn ⟨a1,d1,rfl,p1,k1⟩;have d:=a6.o _ k1.o;refine u _ _ (.inr d) ?_;clear u K
  try simp only[PT,Y1,Y2,Y3]
  refine J1 15 fun K u=>?_;dsimp only[Y1,Y2,Y3];go_simp
  first | (have:=a;refine(eJ.2.1 wn (V A) 8 cvc (vc.take 8) (cv.o.keep k1.o (by simp)) cc.o (by simp) (by omega) (fun v C=>an.o v (DD C))).mono ?_) | refine(eJ.1 wn (V A) 8 cvc (vc.take 8) (cv.o.keep k1.o (by simp)) cc.o (by simp) (by omega) (fun v C=>an.o v (DD C))).mono ?_
  rintro e wm ⟨a2,d2,rfl,p2,k2⟩;have d:=a6.o _ (k1.o.trans k2.o);have QB:=(QB.o.keep k1.o (by simp)).keep k2.o (by simp);have fi:=QB.cell 0;have fk:=QB.cell 1;have e8:=QB.frozen;refine u _ _ (.inr d) ?_;clear u K QB
  try simp only[PT,Y1,Y2,Y3]
  refine ord [16,17] ?_
  iterate 2 (refine tq d ?_;try simp only[PT,Y1,Y2,Y3])
  refine av ?_;refine JQ 18 ?_
  try simp only[PT,Y1,Y2,Y3]
  refine JQ 19 ?_
  try simp only[PT,Y1,Y2,Y3]
  refine JQ 20 ?_
  try simp only[PT,Y1,Y2,Y3]
  refine JQ 21 ?_
  try simp only[PT,Y1,Y2,Y3]
  refine JD ?_;go_wp2_with fail
  first | (have:=a;refine bodyPost_ret (v:=.tuple #[]) (by simp[results,Tryz.results150,go_sem]) rfl ?_) | refine bodyPost_ret (v:=.tuple #[]) (by simp[results,Tryz.results152,go_sem]) rfl ?_
  refine⟨r,_,_,_,_,_,_,_,_,_,_,_,_,_,_,_,_,_,_,_,_,rfl,bd.o,b5.o,bZ (ba.o.twoQ cb.o cc.o (C9 _) (C9 _) p1.o k1.o p2.o k2.o)⟩
end Go.Proofs.YtmlmfpikncogpaaGreat
