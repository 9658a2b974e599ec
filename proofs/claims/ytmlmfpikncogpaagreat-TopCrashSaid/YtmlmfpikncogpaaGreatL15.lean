import Derived.Test.YtmlmfpikncogpaaGreatL14
namespace Go.Proofs.YtmlmfpikncogpaaGreat
open Go.RowKit
set_option linter.unusedSimpArgs false
set_option linter.unusedVariables false
set_option maxRecDepth 100000
set_option maxHeartbeats 16000000
structure ef (S:Bool) (T:BTy) (w:World) (h p m:Nat) (es:List Ent) (F:List Nat) (k:Value) (fd:Bool) (old:Value) (w':World) (m':Nat) (es':List Ent) (F':List Nat):Prop where
 vw:iY T w' h p m' es' F'
 nd:F'.Nodup
 lo:m'<=m
 hi:m<=m'+1
 kp:aa F w w'
 nw:∀x∈F',x∈F\/w.heap.size<=x
 sub:∀x∈es',x∈es
 fdm:fd=true->∃x∈es,old=x.2
 ord:S=true->Asc es->es'=jT k es/\fd=dw k es/\(fd=true->gj k es=some old)
theorem zh {P R:List Ent} {e:Ent} (h:Asc (P++e::R)):(∀x∈P,kI x<kI e)/\(∀x∈R,kI e<kI x):=by
 have b:=EF.1 h;exact⟨fun x a=>b.2.2 x a e (by simp),fun x a=>(DJ.1 b.2.1).1 x a⟩
theorem wH {k:Value} {es:List Ent} (h:∀e∈es,kI e≠iv k):jT k es=es:=Ek.2 (fun e a=>by simpa using h e a)
theorem nW {k:Value} {P R:List Ent} {e:Ent} (h:Asc (P++e::R)) (d:kI e=iv k):jT k (P++e::R)=P++R:=by
 obtain⟨b,c⟩:=zh h;unfold jT;rw[Eh,DF,if_neg (by simpa using d)];rw[Ek.2 (fun x a=>by have:=b x a;simp;omega),Ek.2 (fun x a=>by have:=c x a;simp;omega)]
theorem nO {k:Value} {P R:List Ent} {e:Ent} (h:Asc (P++e::R)) (b:kI e=iv k):gj k (P++e::R)=some e.2:=by
 obtain⟨a,d⟩:=zh h;unfold gj;have:P.find? (fun e=>decide (kI e=iv k))=none:=by
  rw[Fe];intro x c;have:=a x c;simp;omega
 rw[List.find?_append,this];simp[b]
theorem nN {k:Value} {P R:List Ent} {e:Ent} (a:kI e=iv k):dw k (P++e::R)=true:=by
 unfold dw;rw[Fo];exact⟨e,by simp,by simpa using a⟩
theorem yT {k:Value} {A B:List Kid} {c c':Kid} {EA EB:List Ent} (a:EA.length=A.length) (b:EB.length=B.length) (d:Asc (ao (A++c::B) (EA++EB))) (h:∀e∈EA,kI e<iv k) (i:∀e∈EB,iv k<kI e) (j:c'.2.2.1=jT k c.2.2.1):
 jT k (ao (A++c::B) (EA++EB))=ao (A++c'::B) (EA++EB):=by
  rw[au A EA c B EB a b] at d ⊢;rw[au A EA c' B EB a b,j];obtain⟨f,l,g,_⟩:=gR d;exact yS k _ _ _ (nk k A EA f a h) (pL k EB B g b i)
theorem yR {k:Value} {A B:List Kid} {c c':Kid} {EA EB:List Ent} {e x:Ent} (l:EA.length=A.length) (g:(e::EB).length=B.length) (a:Asc (ao (A++c::B) (EA++e::EB))) (j:kI e=iv k) (q:c.2.2.1.getLast? =some x) (o:c'.2.2.1=jT x.1 c.2.2.1):
 jT k (ao (A++c::B) (EA++e::EB))=ao (A++c'::B) (EA++x::EB)/\dw k (ao (A++c::B) (EA++e::EB))=true/\gj k (ao (A++c::B) (EA++e::EB))=some e.2:=by
  rw[au A EA c B (e::EB) l g] at a ⊢;rw[au A EA c' B (x::EB) l (by simpa using g)];cases B with
  | nil=>simp at g
  | cons b B=>
   rw[cD] at a ⊢;rw[cD];obtain⟨L,f⟩:∃L,c.2.2.1=L++[x]:=by
    have:=List.getLast?_eq_some_iff.1 q;exact this
   have d:Asc c.2.2.1:=(gR a).2.1;have i:c'.2.2.1=L:=by
    rw[o,f];rw[f] at d;have:=nW (k:=x.1) (P:=L) (R:=[]) (e:=x) d rfl;simpa using this
   rw[i,f];rw[f] at a;have n:pre A EA++(L++[x]++e::(b.2.2.1++suf EB B))=(pre A EA++(L++[x]))++e::(b.2.2.1++suf EB B):=by simp
   rw[n] at a ⊢;refine⟨?_,nN j,nO a j⟩;rw[nW a j];simp
section
variable {S:Bool} {T:BTy} {w w1:World} {h p m:Nat} {A B:List Kid} {c c1:Kid} {EA EB en1:List Ent} {F0 F01 FF:List Nat} {k:Value} {fd:Bool} {old:Value} {es:List Ent}
theorem uh (i:cR T w1 h p en1 (A++c1::B) F01) (u:en1.length=m) (l:aa FF w w1) (n:∀x∈F01++af (A++c1::B),x∈FF\/w.heap.size<=x) (o:∀d∈A++B,7<=d.2.1/\d.2.1<=15) (s:c1.2.1<=15)
 (g:∀x∈ao (A++c1::B) en1,x∈es) (f:fd=true->∃x∈es,old=x.2) (ord:S=true->Asc es->ao (A++c1::B) en1=jT k es/\fd=dw k es/\(fd=true->gj k es=some old)):
 (7<=c1.2.1->ef S T w (h+1) p m es FF k fd old w1 m (ao (A++c1::B) en1) (F01++af (A++c1::B)))/\
  (∀w2,iA T w1 h p en1 (A++c1::B) F01 w2->∃m' es' F',ef S T w (h+1) p m es FF k fd old w2 m' es' F'):=by
 refine⟨fun E=>⟨⟨en1,A++c1::B,F01,u.symm,i.node,rfl,.inr ⟨h,rfl,i.len,rfl,fun d b=>⟨i.kid d b,?_⟩⟩⟩,i.nd,C9 _,by omega,l,n,g,f,ord⟩,fun w2 t=>?_⟩
 ·simp only[CX,Db] at b;rcases b with b | rfl | b
  ·exact o d (by simp[b])
  ·omega
  exact o d (by simp[b])
 ·obtain⟨c,a,e,j,r,H,J,q,C,D⟩:=t;have F:=l.size;refine⟨c.length,ao a c,e++af a,⟨c,a,e,rfl,j.node,rfl,.inr ⟨h,rfl,j.len,rfl,fun d b=>⟨j.kid d b,r d b⟩⟩⟩,j.nd,by omega,by omega,l.more C (fun y z=>n y z),fun x v=>?_,?_,f,?_⟩
  ·rcases D x v with h | h
   ·exact n x h
   exact .inr (by omega)
  ·rw[q];exact g
  rw[q];exact ord
theorem vD (W:cR T w h p (EA++EB) (A++c::B) F0) (f:EA.length=A.length) (g:EB.length=B.length) (o:∀d∈A++c::B,7<=d.2.1/\d.2.1<=15) (D:ld S (ao (A++c::B) (EA++EB)) EA EB k)
 (b:ef S T w h c.1 c.2.1 c.2.2.1 c.2.2.2 k fd old w1 c1.2.1 c1.2.2.1 c1.2.2.2) (n:c1.1=c.1):
 cR T w1 h p (EA++EB) (A++c1::B) F0/\(7<=c1.2.1->ef S T w (h+1) p (EA++EB).length (ao (A++c::B) (EA++EB)) (F0++af (A++c::B)) k fd old w1 (EA++EB).length (ao (A++c1::B) (EA++EB)) (F0++af (A++c1::B)))/\
  (∀w2,iA T w1 h p (EA++EB) (A++c1::B) F0 w2->∃m' es' F',ef S T w (h+1) p (EA++EB).length (ao (A++c::B) (EA++EB)) (F0++af (A++c::B)) k fd old w2 m' es' F'):=by
 have y:=o c (by simp)
 have z:=b.hi
 have C:=b.lo
 obtain⟨m,E⟩:=W.kid1 (c':=c1) (by rw[n];exact b.vw.rep (.inr (by omega))) n b.kp b.nd b.nw
 refine⟨m,uh m rfl (b.kp.mono (fun x a=>.inl (by rw[aB,aG];simp[a]))) E (fun d i=>o d (by rcases CX.1 i with i | i<;>simp[i])) (by omega) (fun x a=>?_) (fun l=>?_) (fun q j=>?_)⟩
 ·rw[au A EA c1 B EB f g] at a;rw[au A EA c B EB f g];simp only[CX] at a ⊢;rcases a with a | a | a
  ·simp[a]
  ·simp[b.sub x a]
  simp[a]
 ·obtain⟨x,a,e⟩:=b.fdm l;refine⟨x,?_,e⟩;rw[au A EA c B EB f g];simp[a]
 ·obtain⟨r,s⟩:=D q j;obtain⟨t,u,v⟩:=nM (k:=k) f g j r s;obtain⟨F,H,J⟩:=b.ord q v;exact⟨(yT f g j r s F).symm,by rw[H,t],fun l=>by rw[u];exact J l⟩
theorem ug {e x:Ent} {s:World} {n:Bool} {i:Value} (W:cR T w h p (EA++e::EB) (A++c::B) F0) (W0:cR T s h p (EA++x::EB) (A++c::B) F0) (D:aa F0 w s) (j:EA.length=A.length) (g:(e::EB).length=B.length) (v:∀d∈A++c::B,7<=d.2.1/\d.2.1<=15)
 (C:c.2.2.1.getLast? =some x) (H:S=true->Asc (ao (A++c::B) (EA++e::EB))->kI e=iv k) (f:ef S T s h c.1 c.2.1 c.2.2.1 c.2.2.2 x.1 n i w1 c1.2.1 c1.2.2.1 c1.2.2.2) (u:c1.1=c.1):
 cR T w1 h p (EA++x::EB) (A++c1::B) F0/\(7<=c1.2.1->ef S T w (h+1) p (EA++e::EB).length (ao (A++c::B) (EA++e::EB)) (F0++af (A++c::B)) k true e.2 w1 (EA++e::EB).length (ao (A++c1::B) (EA++x::EB)) (F0++af (A++c1::B)))/\
  (∀w2,iA T w1 h p (EA++x::EB) (A++c1::B) F0 w2->∃m' es' F',ef S T w (h+1) p (EA++e::EB).length (ao (A++c::B) (EA++e::EB)) (F0++af (A++c::B)) k true e.2 w2 m' es' F'):=by
 have E:=v c (by simp)
 have F:=f.hi
 have J:=f.lo
 have q:=D.size
 obtain⟨t,K⟩:=W0.kid1 (c':=c1) (by rw[u];exact f.vw.rep (.inr (by omega))) u f.kp f.nd f.nw
 have o:(x::EB).length=B.length:=by simpa using g
 refine⟨t,uh t (by simp) ((D.mono (Y:=F0++af (A++c::B)) (fun y a=>.inl (by simp[a]))).trans (f.kp.mono (fun y a=>.inl (by rw[aB,aG];simp[a])))) (fun y a=>(K y a).imp_right (Dc q)) (fun d m=>v d (by rcases CX.1 m with m | m<;>simp[m])) (by omega) (fun y a=>?_) (fun _=>?_) (fun z l=>?_)⟩
 ·rw[au A EA c1 B (x::EB) j o] at a;rw[au A EA c B (e::EB) j g];cases B with
  | nil=>simp at g
  | cons b B=>
   rw[cD] at a ⊢;have r:x∈c.2.2.1:=E4 C;simp only[CX,Db] at a ⊢;rcases a with a | a | a | a | a
   ·simp[a]
   ·simp[f.sub y a]
   ·simp[a,r]
   ·simp[a]
   simp[a]
 ·refine⟨e,?_,rfl⟩;exact bL W.len (by simp)
 ·obtain⟨L,_,_⟩:=f.ord z (by
   rw[au A EA c B (e::EB) j g] at l;exact(gR l).2.1)
  obtain⟨M,N,O⟩:=yR (c':=c1) j g l (H z l) C L;exact⟨M.symm,N.symm,fun _=>O⟩
end
theorem qW {S:Bool} {T:BTy} {w w1 w2:World} {p i n' b c s t v:Nat} {l:Option Addr} {en:List Ent} {k:Value} {e:Ent}
 (B:aU T w p (V b) s (V c) t l v (en.map (·.1)) (en.map (·.2)) []) (D:eK S (en.map (·.1)) k i true) (m:en[i]? =some e) (E:en.length=n'+1)
 (J:w1.ownsRow 0 T.tk 1 (.slice (V b) n' s) n' ((en.map (·.1)).eraseIdx i)) (F:aa [b] w w1) (L:w2.ownsRow 0 T.tv 1 (.slice (V c) n' t) n' ((en.map (·.2)).eraseIdx i)) (H:aa [c] w1 w2):
 ef S T w 0 p en.length en (ay p (V b) (V c) l++af []) k true e.2 ((w2.setCell (U p 0) (.slice (V b) n' s)).setCell (U p 1) (.slice (V c) n' t)) n' (en.eraseIdx i) (ay p (V b) (V c) l):=by
  have q:=(CV.1 m).1;obtain⟨N,K,P⟩:=B.two (ks':=(en.map (·.1)).eraseIdx i) (vs':=(en.map (·.2)).eraseIdx i) (n':=n') (by rw[DT,Df,if_pos q];omega) (by rw[DT,Df,if_pos q];omega) J F (fun g o=>.inl o) L H (fun g o=>.inl o);have y:(en.map (·.1)).eraseIdx i=(en.eraseIdx i).map (·.1):=by rw[DU,DU];simp[El,En]
  have z:(en.map (·.2)).eraseIdx i=(en.eraseIdx i).map (·.2):=by rw[DU,DU];simp[El,En]
  rw[y,z] at N;have a:=du m;have n:en.eraseIdx i=en.take i++en.drop (i+1):=DU _ _;have h:(en.eraseIdx i).length=n':=by rw[DT,if_pos q];omega
  refine⟨⟨en.eraseIdx i,[],ay p (V b) (V c) l,h.symm,N.at_,by simp[af],.inl ⟨rfl,rfl,rfl⟩⟩,N.nd,by omega,by omega,K.mono (fun x j=>.inl (Di _ (bV x j))),fun x j=>.inl (Di _ j),fun x j=>List.mem_of_mem_eraseIdx j,fun _=>⟨e,CW m,rfl⟩,fun C u=>?_⟩;obtain⟨O,A⟩:=dR D C u;obtain⟨M,f,r⟩:=A.1 rfl;rw[m] at f;cases f;have d:=u;rw[a] at d;refine⟨?_,?_,fun _=>?_⟩
  ·rw[n]
   conv=>rhs;rw[a]
   exact(nW d r).symm
  ·conv=>rhs;rw[a]
   exact(nN r).symm
  conv=>lhs;rw[a]
  exact nO d r
theorem Br {S:Bool} {T:BTy} {w:World} {p i:Nat} {F0:List Nat} {en:List Ent} {k old:Value} (j:aX T w p (en.map (·.1)) (en.map (·.2)) [] F0) (c:F0.Nodup) (l:eK S (en.map (·.1)) k i false):
 ef S T w 0 p en.length en (F0++af []) k false old w en.length en F0:=by
  refine⟨⟨en,[],F0,rfl,j,by simp[af],.inl ⟨rfl,rfl,rfl⟩⟩,c,C9 _,by omega,aa.refl _ _,fun x d=>.inl (Di _ d),fun x d=>d,(fun h=>by cases h),fun hS ha=>?_⟩;obtain⟨f,g⟩:=dR l hS ha;have b:∀e∈en,kI e≠iv k:=fun e a=>by
   obtain⟨n,o⟩:=jo f ha (fun e a m=>by simpa using g.2 ⟨e,a,m⟩);rw[<-Du i en] at a;rcases CX.1 a with a | a
   ·have:=n e a;omega
   have:=o e a;omega
  exact⟨(wH b).symm,(jQ b).symm,(fun h=>by cases h)⟩
end Go.Proofs.YtmlmfpikncogpaaGreat
