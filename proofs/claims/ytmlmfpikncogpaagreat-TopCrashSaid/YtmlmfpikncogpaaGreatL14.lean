import Derived.Test.YtmlmfpikncogpaaGreatL13
namespace Go.Proofs.YtmlmfpikncogpaaGreat
open Go.RowKit
set_option linter.unusedSimpArgs false
set_option linter.unusedVariables false
set_option maxRecDepth 100000
set_option maxHeartbeats 16000000
def iA (T:BTy) (w:World) (h p:Nat) (en:List Ent) (kids:List Kid) (F0:List Nat) (w':World):Prop:=
 ∃(b:List Ent) (a:List Kid) (d:List Nat),cR T w' h p b a d/\(∀c∈a,7<=c.2.1/\c.2.1<=15)/\b.length<=en.length/\en.length<=b.length+1/\ao a b=ao kids en/\
  aa (F0++af kids) w w'/\(∀x∈d++af a,x∈F0++af kids\/w.heap.size<=x)
section
variable {T:BTy} {w w':World} {h p q r ma mb:Nat} {en ena enb ena' enb' EA EB:List Ent} {e e':Ent} {esa esb:List Ent} {A B ka kb ka' kb':List Kid} {F0 Fa0 Fb0:List Nat}
theorem ng (W:cR T w h p en (A++(q,ma,esa,Fa0++af ka)::(r,mb,esb,Fb0++af kb)::B) F0):
 (F0++(Fa0++Fb0)).Nodup/\(af A++(af ka++(af kb++af B))).Nodup/\∀x∈af A++(af ka++(af kb++af B)),x∉F0++(Fa0++Fb0)/\x<w.heap.size:=by
  have a:=W.nd;have i:F0++af (A++(q,ma,esa,Fa0++af ka)::(r,mb,esb,Fb0++af kb)::B)=F0++(af A++((Fa0++af ka)++((Fb0++af kb)++af B))):=by rw[aB,aG,aG]
  rw[i] at a;refine⟨Do.2 (fun x=>?_),Do.2 (fun x=>?_),fun x d=>⟨fun j=>?_,?_⟩⟩
  ·have:=Do.1 a x;simp only[DN] at this ⊢;omega
  ·have:=Do.1 a x;simp only[DN] at this ⊢;omega
  ·have:=Do.1 a x;have c1:1<=List.count x (af A++(af ka++(af kb++af B))):=D4.2 d;have f:1<=List.count x (F0++(Fa0++Fb0)):=D4.2 j;simp only[DN] at this c1 f;omega
  have e:x∈af (A++(q,ma,esa,Fa0++af ka)::(r,mb,esb,Fb0++af kb)::B):=by
   rw[aB,aG,aG];simp only[CX] at d ⊢;rcases d with h | h | h | h<;>simp[h]
  obtain⟨c,g,b⟩:=aT.1 e;exact(W.kid c g).lt _ _ _ _ _ x b
theorem bo.new {a:List Ent} {b:List Kid} {d:List Ent} (i:∀k,h=k+1->∀c∈b,Rep T w k c.1 c.2.1 c.2.2.1 c.2.2.2/\7<=c.2.1/\c.2.1<=15) (j:h=0/\b=[]/\d=a\/(∃k,h=k+1)/\b.length=a.length+1/\d=ao b a):bo T w h a b d:=by
 rcases j with e | ⟨⟨k,rfl⟩,f,g⟩
 ·exact .inl e
 exact .inr ⟨k,rfl,f,g,i k rfl⟩
theorem bo.kids_ok {a:List Ent} (e:bo T w h en ka a):∀k,h=k+1->∀c∈ka,Rep T w k c.1 c.2.1 c.2.2.1 c.2.2.2/\7<=c.2.1/\c.2.1<=15:=fun k i c f=>by
 rcases e with ⟨b,_⟩ | ⟨g,b,_,_,d⟩
 ·omega
 obtain rfl:k=g:=by omega
 exact d c f
theorem Rep.of_below {P:List Nat} {c:List Ent} {a:List Ent} {b:List Kid} (f:aX T w q (a.map (·.1)) (a.map (·.2)) (b.map (·.1)) P) (d:1<=a.length) (e:bo T w h a b c):Rep T w h q a.length c (P++af b):=Rep.of_view f d e
theorem lX {P Q R:List Nat} (W:cR T w h p (EA++e::EB) (A++(q,ma,esa,Fa0++af ka)::(r,mb,esb,Fb0++af kb)::B) F0) (hA:EA.length=A.length) (hB:EB.length=B.length)
 (ba:bo T w h ena ka esa) (O:bo T w h enb kb esb)
 (hX:aX T w' p ((EA++e'::EB).map (·.1)) ((EA++e'::EB).map (·.2)) ((A++(q,ma,esa,Fa0++af ka)::(r,mb,esb,Fb0++af kb)::B).map (·.1)) P)
 (hQ:aX T w' q (ena'.map (·.1)) (ena'.map (·.2)) (ka'.map (·.1)) Q) (hR:aX T w' r (enb'.map (·.1)) (enb'.map (·.2)) (kb'.map (·.1)) R)
 (nd:(P++(Q++R)).Nodup) (kp:aa (F0++(Fa0++Fb0)) w w') (nw:∀x∈P++(Q++R),x∈F0++(Fa0++Fb0)\/w.heap.size<=x)
 (u:ena++e::enb=ena'++e'::enb') (D:ka++kb=ka'++kb') (hl:h=0\/ka'.length=ena'.length+1/\kb'.length=enb'.length+1) (n1:7<=ena'.length/\ena'.length<=15) (n2:7<=enb'.length/\enb'.length<=15)
 (h7:∀c∈A++B,7<=c.2.1/\c.2.1<=15):
 iA T w h p (EA++e::EB) (A++(q,ma,esa,Fa0++af ka)::(r,mb,esb,Fb0++af kb)::B) F0 w':=by
  obtain⟨_,o,old⟩:=ng W;have a0:∀c∈A++B,∀y∈c.2.2.2,y∈af A++(af ka++(af kb++af B)):=fun c b y i=>by
   rcases CX.1 b with h | h
   ·simp only[CX];exact .inl (aT.2 ⟨c,h,i⟩)
   simp only[CX];exact .inr (.inr (.inr (aT.2 ⟨c,h,i⟩)))
  have a4:∀c∈ka++kb,∀y∈c.2.2.2,y∈af A++(af ka++(af kb++af B)):=fun c b y i=>by
   rcases CX.1 b with h | h
   ·simp only[CX];exact .inr (.inl (aT.2 ⟨c,h,i⟩))
   simp only[CX];exact .inr (.inr (.inl (aT.2 ⟨c,h,i⟩)))
  have j:∀c∈A++B,Rep T w' h c.1 c.2.1 c.2.2.1 c.2.2.2:=fun c b=>by
   refine(W.kid c ?_).keep kp _ _ _ _ _ (fun y i Y=>(old y (a0 c b y Y)).1 i);rcases CX.1 b with h | h
   ·exact Di _ h
   exact Dg _ (by simp[h])
  have l:∀k,h=k+1->∀c∈ka++kb,Rep T w' k c.1 c.2.1 c.2.2.1 c.2.2.2/\7<=c.2.1/\c.2.1<=15:=fun k E c b=>by
   have a:Rep T w k c.1 c.2.1 c.2.2.1 c.2.2.2/\7<=c.2.1/\c.2.1<=15:=by
    rcases CX.1 b with h | h
    ·exact ba.kids_ok k E c h
    exact O.kids_ok k E c h
   exact⟨a.1.keep kp _ _ _ _ _ (fun y i Y=>(old y (a4 c b y Y)).1 i),a.2⟩
  obtain⟨f,g,X,v1,v2⟩:∃f g,esa++e::esb=f++e'::g/\bo T w' h ena' ka' f/\bo T w' h enb' kb' g:=by
   have m1:∀c∈ka',c∈ka++kb:=fun c b=>by rw[D];simp[b]
   have m2:∀c∈kb',c∈ka++kb:=fun c b=>by rw[D];simp[b]
   rcases ba with ⟨n,M,N⟩ | ⟨k,n,M,N,a3⟩
   ·rcases O with ⟨_,c1,S⟩ | ⟨k,a,_⟩
    ·have:ka'++kb'=[]:=by rw[<-D,M,c1];rfl
     obtain⟨d1,d2⟩:=List.append_eq_nil_iff.1 this;exact⟨ena',enb',by rw[N,S,u],.inl ⟨n,d1,rfl⟩,.inl ⟨n,d2,rfl⟩⟩
    omega
   rcases O with ⟨a,_⟩ | ⟨k',a,c1,S,c3⟩
   ·omega
   rcases hl with hl | ⟨H,J⟩
   ·omega
   refine⟨ao ka' ena',ao kb' enb',?_,.inr ⟨k,n,H,rfl,fun c b=>l k n c (m1 c b)⟩,.inr ⟨k,n,J,rfl,fun c b=>l k n c (m2 c b)⟩⟩;rw[N,S,<-gV _ _ _ _ _ M c1,<-gV _ _ _ _ _ H J,u,D]
  have R1:=Rep.of_below hQ (by omega) v1;have R2:=Rep.of_below hR (by omega) v2;have NW:∀x∈P++(Q++R),x∉af A++(af ka++(af kb++af B)):=fun x m K=>by
   rcases nw x m with a | a
   ·exact(old x K).1 a
   have:=(old x K).2;omega
  have s:((P++(Q++R))++(af A++(af ka++(af kb++af B)))).Nodup:=Dp.2 ⟨nd,o,fun x m y i e=>NW x m (e▸i)⟩;have z:af ka++af kb=af ka'++af kb':=by rw[<-aB,D,aB]
  have v:af (A++((q,ena'.length,f,Q++af ka'):Kid)::((r,enb'.length,g,R++af kb'):Kid)::B)=af A++((Q++af ka')++((R++af kb')++af B)):=by rw[aB,aG,aG]
  have C:af (A++((q,ma,esa,Fa0++af ka):Kid)::((r,mb,esb,Fb0++af kb):Kid)::B)=af A++((Fa0++af ka)++((Fb0++af kb)++af B)):=by rw[aB,aG,aG]
  refine⟨EA++e'::EB,A++(q,ena'.length,f,Q++af ka')::(r,enb'.length,g,R++af kb')::B,P,⟨?_,?_,fun c b=>?_,?_⟩,fun c b=>?_,by simp,by simp,?_,kp.mono (fun x m=>.inl ?_),fun x m=>?_⟩
  ·simp;omega
  ·simpa using hX
  ·simp only[CX,Db] at b;rcases b with a | rfl | rfl | a
   ·exact j c (Di _ a)
   ·exact R1
   ·exact R2
   exact j c (Dg _ a)
  ·rw[v];refine Do.2 (fun x=>?_);have t:=Do.1 s x;have d:List.count x (af ka++af kb)=List.count x (af ka'++af kb'):=by rw[z]
   simp only[DN] at t d ⊢;omega
  ·simp only[CX,Db] at b;rcases b with a | rfl | rfl | a
   ·exact h7 c (Di _ a)
   ·exact n1
   ·exact n2
   exact h7 c (Dg _ a)
  ·rw[au A EA _ (_::B) (e'::EB) hA (by simp[hB]),au A EA _ (_::B) (e::EB) hA (by simp[hB]),cD,cD];show pre A EA++(f++e'::(g++suf EB B))=pre A EA++(esa++e::(esb++suf EB B));have:f++e'::(g++suf EB B)=(f++e'::g)++suf EB B:=by simp
   rw[this,<-X];simp
  ·rw[C];simp only[CX] at m ⊢;rcases m with a | a | a<;>simp[a]
  rw[v] at m;rw[C];have L:=nw x;have F:x∈af ka'\/x∈af kb'->x∈af ka\/x∈af kb:=fun h=>by
   have:x∈af ka++af kb:=by rw[z];exact CX.2 h
   exact CX.1 this
  simp only[CX] at m L ⊢;rcases m with a | a | (a | a) | (a | a) | a
  ·rcases L (.inl a) with (d | d | d) | d<;>simp[d]
  ·simp[a]
  ·rcases L (.inr (.inl a)) with (d | d | d) | d<;>simp[d]
  ·rcases F (.inl a) with d | d<;>simp[d]
  ·rcases L (.inr (.inr a)) with (d | d | d) | d<;>simp[d]
  ·rcases F (.inr a) with d | d<;>simp[d]
  simp[a]
theorem sP {P Q:List Nat} (W:cR T w h p (EA++e::EB) (A++(q,ma,esa,Fa0++af ka)::(r,mb,esb,Fb0++af kb)::B) F0) (S:EA.length=A.length) (X:EB.length=B.length)
 (O:bo T w h ena ka esa) (E:bo T w h enb kb esb)
 (hX:aX T w' p ((EA++EB).map (·.1)) ((EA++EB).map (·.2)) ((A++(q,ma,esa,Fa0++af ka)::B).map (·.1)) P)
 (hQ:aX T w' q ((ena++e::enb).map (·.1)) ((ena++e::enb).map (·.2)) ((ka++kb).map (·.1)) Q)
 (nd:(P++Q).Nodup) (M:aa (F0++(Fa0++Fb0)) w w') (Y:∀x∈P++Q,x∈F0++(Fa0++Fb0)\/w.heap.size<=x)
 (n1:7<=ena.length+1+enb.length/\ena.length+1+enb.length<=15) (R:∀c∈A++B,7<=c.2.1/\c.2.1<=15):
 iA T w h p (EA++e::EB) (A++(q,ma,esa,Fa0++af ka)::(r,mb,esb,Fb0++af kb)::B) F0 w':=by
  obtain⟨_,j,old⟩:=ng W;have K:∀c∈A++B,∀y∈c.2.2.2,y∈af A++(af ka++(af kb++af B)):=fun c b y d=>by
   rcases CX.1 b with h | h
   ·simp only[CX];exact .inl (aT.2 ⟨c,h,d⟩)
   simp only[CX];exact .inr (.inr (.inr (aT.2 ⟨c,h,d⟩)))
  have L:∀c∈ka++kb,∀y∈c.2.2.2,y∈af A++(af ka++(af kb++af B)):=fun c b y d=>by
   rcases CX.1 b with h | h
   ·simp only[CX];exact .inr (.inl (aT.2 ⟨c,h,d⟩))
   simp only[CX];exact .inr (.inr (.inl (aT.2 ⟨c,h,d⟩)))
  have f:∀c∈A++B,Rep T w' h c.1 c.2.1 c.2.2.1 c.2.2.2:=fun c b=>by
   refine(W.kid c ?_).keep M _ _ _ _ _ (fun y d H=>(old y (K c b y H)).1 d);rcases CX.1 b with h | h
   ·exact Di _ h
   exact Dg _ (by simp[h])
  have l:∀k,h=k+1->∀c∈ka++kb,Rep T w' k c.1 c.2.1 c.2.2.1 c.2.2.2/\7<=c.2.1/\c.2.1<=15:=fun k t c b=>by
   have a:Rep T w k c.1 c.2.1 c.2.2.1 c.2.2.2/\7<=c.2.1/\c.2.1<=15:=by
    rcases CX.1 b with h | h
    ·exact O.kids_ok k t c h
    exact E.kids_ok k t c h
   exact⟨a.1.keep M _ _ _ _ _ (fun y d H=>(old y (L c b y H)).1 d),a.2⟩
  have v1:bo T w' h (ena++e::enb) (ka++kb) (esa++e::esb):=by
   rcases O with ⟨z,C,D⟩ | ⟨k,z,C,D,a3⟩
   ·rcases E with ⟨_,c1,F⟩ | ⟨k,a,_⟩
    ·exact .inl ⟨z,by rw[C,c1];rfl,by rw[D,F]⟩
    omega
   rcases E with ⟨a,_⟩ | ⟨k',a,c1,F,c3⟩
   ·omega
   exact .inr ⟨k,z,by simp;omega,by rw[D,F,gV _ _ _ _ _ C c1],fun c b=>l k z c b⟩
  have N:=Rep.of_below hQ (by simp;omega) v1;have u:(ena++e::enb).length=ena.length+1+enb.length:=by simp;omega
  rw[u] at N;have NW:∀x∈P++Q,x∉af A++(af ka++(af kb++af B)):=fun x g v=>by
   rcases Y x g with a | a
   ·exact(old x v).1 a
   have:=(old x v).2;omega
  have m:((P++Q)++(af A++(af ka++(af kb++af B)))).Nodup:=Dp.2 ⟨nd,j,fun x g y d e=>NW x g (e▸d)⟩;have o:af (A++((q,ena.length+1+enb.length,esa++e::esb,Q++af (ka++kb)):Kid)::B)=af A++((Q++(af ka++af kb))++af B):=by rw[aB,aG,aB]
  have s:af (A++((q,ma,esa,Fa0++af ka):Kid)::((r,mb,esb,Fb0++af kb):Kid)::B)=af A++((Fa0++af ka)++((Fb0++af kb)++af B)):=by rw[aB,aG,aG]
  refine⟨EA++EB,A++(q,ena.length+1+enb.length,esa++e::esb,Q++af (ka++kb))::B,P,⟨?_,?_,fun c b=>?_,?_⟩,fun c b=>?_,by simp,by simp;omega,?_,M.mono (fun x g=>.inl ?_),fun x g=>?_⟩
  ·simp;omega
  ·simpa using hX
  ·simp only[CX,Db] at b;rcases b with a | rfl | a
   ·exact f c (Di _ a)
   ·exact N
   exact f c (Dg _ a)
  ·rw[o];refine Do.2 (fun x=>?_);have n:=Do.1 m x;simp only[DN] at n ⊢;omega
  ·simp only[CX,Db] at b;rcases b with a | rfl | a
   ·exact R c (Di _ a)
   ·exact n1
   exact R c (Dg _ a)
  ·rw[au A EA _ B EB S X,au A EA _ (_::B) (e::EB) S (by simp[X]),cD];show pre A EA++((esa++e::esb)++suf EB B)=pre A EA++(esa++e::(esb++suf EB B));simp
  ·rw[s];simp only[CX] at g ⊢;rcases g with a | a | a<;>simp[a]
  rw[o] at g;rw[s];have J:=Y x;simp only[CX] at g J ⊢;rcases g with a | a | (a | a | a) | a
  ·rcases J (.inl a) with (i | i | i) | i<;>simp[i]
  ·simp[a]
  ·rcases J (.inr a) with (i | i | i) | i<;>simp[i]
  ·simp[a]
  ·simp[a]
  simp[a]
end
theorem aE.reset {T:BTy} {M w:World} {p q r:Nat} {i j g b c a e f d:Option Addr} {u v t l m k o s n:Nat} {C H A D B E:List Value} {cs y z F J:List Nat}
 (h:aE T M w p q r i j g b c a e f d u v t l m k o s n C H A D B E cs y z J) (K:∀x∈ay p i j g++(ay q b c a++ay r e f d),x∈F):
 aE T w w p q r i j g b c a e f d u v t l m k o s n C H A D B E cs y z F:=⟨h.X,h.Q,h.R,h.nd,aa.refl _ _,fun x L=>.inl (K x L)⟩
theorem aE.from_ {T:BTy} {K w1 w:World} {p q r:Nat} {t v o c e a j m g:Option Addr} {u y s d f b l n i:Nat} {D J B E C H:List Value} {cs z A F:List Nat}
 (h:aE T w1 w p q r t v o c e a j m g u y s d f b l n i D J B E C H cs z A F) (k:aa [] K w1):
 aE T K w p q r t v o c e a j m g u y s d f b l n i D J B E C H cs z A F:=⟨h.X,h.Q,h.R,h.nd,k.nil.trans h.kp,fun x L=>(h.nw x L).imp_right (Dc k.size)⟩
theorem j0.from_ {T:BTy} {w w1:World} {p q r:Nat} {f l c g d j:List Value} {cs a b:List Nat} {i:Nat} {F:List Nat} {e:Ending} {w':World} (h:j0 T w1 p q r f l c g d j cs a b i F e w') (k:aa [] w w1):j0 T w p q r f l c g d j cs a b i F e w':=by
 obtain⟨m,n,s,t,u,v,x,y,z,A,B,C,D,E,H,J,K,L,M,N,O,P,Q,R⟩:=h;exact⟨m,n,s,t,u,v,x,y,z,A,B,C,D,E,H,J,K,L,M,N,O,P,Q,bZ (R.o.from_ k)⟩
def gJ:=fun p3 L (M:Value->Prop) (N:Value->Prop) p7=>∀(w:World) (H p q r j m a g J h K:Nat) (X Y:Value) (T W S O P Q R:Nat) (b c:Option Addr) (D E C t u s z A y:Nat) (f k o B e i:List Value) (cs l n F:List Nat)
 (hT:Blk w H p3 #[X,I 16,Y]) (a0:aE L w w p q r (V T) (V W) (V S) (V O) (V P) b (V Q) (V R) c D E C t u s z A y f k o B e i cs l n F) (hF:∀x∈ay p (V T) (V W) (V S)++(ay q (V O) (V P) b++ay r (V Q) (V R) c),x∈F)
 (l1:f.length=a) (l2:k.length=a) (l3:cs.length=a+1) (m1:o.length=g) (m2:B.length=g) (m3:l.length=J) (r1:e.length=h) (r2:i.length=h) (r3:n.length=K)
 (hn:a=j+1+m) (hq:cs[j]? =some q) (hr:cs[j+1]? =some r) (d:Bf w cs (j+1) a) (b1:a<=100) (b2:1<=g/\g<=7/\J<=100) (b3:1<=h/\h<=100/\K<=100)
 (f1:∀v∈f,M v) (f2:∀v∈k,N v) (f3:∀v∈e,M v) (f4:∀v∈i,N v),Calls Tryz.prog p7 #[ptr H,ptr p,I ((j:Int)+1)] w (j0 L w p q r f k o B e i cs l n j F)
theorem jD:gJ 204 tyI cX dk 185/\gJ 250 tyS dP dW 189:=by
 refine⟨?_,?_⟩;have c:=trivial;rotate_left;rotate_left
 all_goals
  intro w i p q r j m g lq dq lr dr c0 c2 xk xv A qk qv rk rv P T l a1 h z S R Y a0 W ks vs kq vq kr vr cs cq cr F hT f hF L M N O m2 m3 r1 r2 r3 hn H J a b1 b2 b3 f1 f2 f3 f4;have i2:(j:Int)+1<(g:Int)+1:=by omega
  have i3:(j:Int)<(g:Int)+1:=by omega
  have i4:(0:Int)<(j:Int)+1:=by omega
  have i5:¬(7:Int)<(lq:Int):=by omega
  have wj:IntKind.i64.wrap (j:Int)=(j:Int):=C0 _ (by omega);have an:IntKind.i64.wrap ((j:Int)+1 - 1)=(j:Int):=by rw[C0 _ (by omega)];omega
  have ap:IntKind.i64.wrap ((j:Int)+2)=(j:Int)+2:=C0 _ (by omega);have ar:IntKind.i64.wrap ((j:Int)+1+1)=(j:Int)+2:=by rw[C0 _ (by omega)];omega
  have B:=f.X.num L M N;have x2:=B.1.cell 2;have x0:=B.1.cell 0;have xq:=aj B.2.2.2 (j:=j) (u:=.pointer (V q)) (by rw[De,H];rfl);have xr:=aj B.2.2.2 (j:=j+1) (u:=.pointer (V r)) (by rw[De,J];rfl);have XR:=bZ B.2.2.2;have q0:=(f.Q.numk O).1
  first | (have:=c;have C:∀n,Calls Tryz.prog 184 #[.pointer (V i)] (w.drewN n) fun e w'=>e=.returned (I 7)/\w.drewN n=w':=fun n=>ie (w.drewN n) i c0 c2 ((hT.keep ((aa.refl [] w).drewN n) (by simp)).cell 1)) | have C:∀n,Calls Tryz.prog 188 #[.pointer (V i)] (w.drewN n) fun e w'=>e=.returned (I 7)/\w.drewN n=w':=fun n=>ic (w.drewN n) i c0 c2 ((hT.keep ((aa.refl [] w).drewN n) (by simp)).cell 1)
  have a6:∀n,(w.drewN n).cell? (U p 2)=G (V A) (g+1) h:=fun n=>x2;have a7:∀n,(w.drewN n).cell? (U A j)=some (.pointer (V q)):=fun n=>xq;have a5:∀n,(w.drewN n).cell? (U q 0)=G (V qk) lq z:=fun n=>q0;have E:=bZ hT
  first | (have:=c;have D:=fun (wN:World) (k:aa [] w wN)=>eO.1 wN i p q r j m g lq dq lr dr xk xv A qk qv rk rv P T l a1 h z S R Y a0 W ks vs kq vq kr vr cs cq cr F ((f.keep0 k).reset hF) L M N O m2 m3 r1 r2 r3 hn H J b1 (by omega) (by omega) (by omega) f1 f2 f3 f4) | have D:=fun (wN:World) (k:aa [] w wN)=>eO.2 wN i p q r j m g lq dq lr dr xk xv A qk qv rk rv P T l a1 h z S R Y a0 W ks vs kq vq kr vr cs cq cr F ((f.keep0 k).reset hF) L M N O m2 m3 r1 r2 r3 hn H J b1 (by omega) (by omega) (by omega) f1 f2 f3 f4
  clear B hT hF f1 f2 f3 f4;replace f:=bZ f;replace D:=bZ D;replace a:=bZ a;replace hn:=bZ hn;replace L:=bZ L;replace M:=bZ M;replace N:=bZ N;replace O:=bZ O;replace m2:=bZ m2;replace m3:=bZ m3;replace r1:=bZ r1;replace r2:=bZ r2;replace r3:=bZ r3;replace H:=bZ H;replace J:=bZ J;replace C:=bZ C;unfold ptr
  first | (have:=c;go_enter Tryz.func185,Tryz.ntmps185) | go_enter Tryz.func189,Tryz.ntmps189
  go_wp2_with fail;go_quiet (with_reducible exact bw (C.o _));go_wp2_with fail;obtain⟨d,t⟩:∃x,x=w.drewN nq:=⟨_,rfl⟩;have b:Z (aa [] w d):=bZ (by rw[t];exact(aa.refl [] w).drewN nq);rw[<-t];clear t a7 a5 a6 C q0 xq xr;have y2:d.cell? (U p 2)=G (V A) (g+1) h:=b.o.cellEq x2 (by simp);have y0:d.cell? (U p 0)=G (V xk) g l:=b.o.cellEq x0 (by simp);have a9:∀n,(d.drewN n).cell? (U p 2)=G (V A) (g+1) h:=fun n=>y2;have a8:∀n,(d.drewN n).cell? (U p 0)=G (V xk) g l:=fun n=>y0
  first | (have:=c;have CM:Z (∀n,Calls Tryz.prog 184 #[.pointer (V i)] (d.drewN n) fun e w'=>e=.returned (I 7)/\d.drewN n=w'):=bZ (fun n=>ie (d.drewN n) i c0 c2 (b.o.cellEq (E.o.cell 1) (by simp)))) | have CM:Z (∀n,Calls Tryz.prog 188 #[.pointer (V i)] (d.drewN n) fun e w'=>e=.returned (I 7)/\d.drewN n=w'):=bZ (fun n=>ic (d.drewN n) i c0 c2 (b.o.cellEq (E.o.cell 1) (by simp)))
  clear x2 x0;go_cut [171] (fun v wx=>v=.bool false/\∃k,wx=d.drewN k)
  case first=>
   rcases a.o with s | ⟨l0,A0,n0,a2,s,a4,a3,ak⟩
   ·have g1:¬(j:Int)+1<(g:Int):=by omega
    replace s:=bZ s;go_quiet (with_reducible exact bw (CM.o _));go_wp2_with fail;go_meet;exact⟨by first | rfl | (rw[decide_eq_false (by omega)]),_,rfl⟩
   have xl:=b.o.cellEq (aj XR.o (j:=j+1+1) (u:=.pointer (V l0)) (by rw[De,a4];rfl)) (by simp);have b0:∀n,(d.drewN n).cell? (U A (j+2))=some (.pointer (V l0)):=fun n=>xl;have ac:∀n,(d.drewN n).cell? (U l0 0)=G A0 n0 a2:=fun n=>b.o.cellEq a3 (by simp);have g1:(j:Int)+1<(g:Int):=by omega
   have g2:¬(7:Int)<(n0:Int):=by omega
   have g3:(j:Int)+2<(g:Int)+1:=by omega
   go_quiet (with_reducible exact bw (CM.o _));go_wp2_with fail;go_meet;exact⟨by first | rfl | (rw[decide_eq_false (by omega)]),_,rfl⟩
  obtain⟨rfl,k1,rfl⟩:=hcut;obtain⟨wc,y⟩:∃x,x=d.drewN k1:=⟨_,rfl⟩;have K:Z (aa [] w wc):=bZ (by rw[y];exact b.o.trans ((aa.refl [] d).drewN k1));rw[<-y];have MC:=D.o wc K.o;unfold ptr at MC;clear y y2 y0 a9 a8 CM D XR a b f;go_wp2_with fail;refine MC.mono ?_;clear MC;rintro e w9 hm;have hm:=hm.from_ K.o;have he:e=.returned (.tuple #[]):=by
   obtain⟨_,_,_,_,_,_,_,_,_,_,_,_,_,_,_,_,_,_,_,_,h1,_⟩:=hm;exact h1
  subst he;go_wp2_with fail
  first | (have:=c;refine bodyPost_ret (v:=.tuple #[]) (by simp[results,Tryz.results185,go_sem]) rfl ?_) | refine bodyPost_ret (v:=.tuple #[]) (by simp[results,Tryz.results189,go_sem]) rfl ?_
  exact hm
def gK:=fun Y J (K:Value->Prop) (L:Value->Prop) p7=>∀(w:World) (D p q r m a f E g H:Nat) (T W:Value) (R S Q M N O P:Nat) (b c:Option Addr) (B C A o s n u y t:Nat) (e i l z d h:List Value) (cs j k F:List Nat)
 (hT:Blk w D Y #[T,I 16,W]) (X:aE J w w p q r (V R) (V S) (V Q) (V M) (V N) b (V O) (V P) c B C A o s n u y t e i l z d h cs j k F) (hF:∀x∈ay p (V R) (V S) (V Q)++(ay q (V M) (V N) b++ay r (V O) (V P) c),x∈F)
 (l1:e.length=a) (l2:i.length=a) (l3:cs.length=a+1) (m1:l.length=f) (m2:z.length=f) (m3:j.length=E) (r1:d.length=g) (r2:h.length=g) (r3:k.length=H)
 (hn:a=0+1+m) (hq:cs[0]? =some q) (hr:cs[0+1]? =some r) (b1:a<=100) (b2:1<=f/\f<=100/\E<=100) (b3:1<=g/\g<=7/\H<=100)
 (f1:∀v∈e,K v) (f2:∀v∈i,L v) (f3:∀v∈d,K v) (f4:∀v∈h,L v),Calls Tryz.prog p7 #[ptr D,ptr p,I 0] w (j0 J w p q r e i l z d h cs j k 0 F)
theorem jE:gK 204 tyI cX dk 185/\gK 250 tyS dP dW 189:=by
 refine⟨?_,?_⟩;have c:=trivial;rotate_left;rotate_left
 all_goals
  intro w l p q r m f lq dq z dr c0 c2 xk xv s qk qv Y rv N T i a1 h P Q O g a0 W ks vs kq vq kr vr cs cq cr F hT d hF K L M m1 m2 m3 S r2 r3 hn E H b1 b2 b3 f1 f2 f3 f4;have i1:(0:Int)<(f:Int):=by omega
  have a4:0<f:=by omega
  have an:((0:Int)<(f:Int))=True:=by simp[a4]
  have i2:(1:Int)<(f:Int)+1:=by omega
  have i3:(0:Int)<(f:Int)+1:=by omega
  have i5:¬(7:Int)<(z:Int):=by omega
  have C:=d.X.num K L M;have x2:=C.1.cell 2;have x0:=C.1.cell 0;have xq:=aj C.2.2.2 (j:=0) (u:=.pointer (V q)) (by rw[De,E];rfl);have xr:=aj C.2.2.2 (j:=1) (u:=.pointer (V r)) (by rw[De];have:=H;simp at this;rw[this];rfl);have r0:=(d.R.numk S).1
  first | (have:=c;have A:∀n,Calls Tryz.prog 184 #[.pointer (V l)] (w.drewN n) fun e w'=>e=.returned (I 7)/\w.drewN n=w':=fun n=>ie (w.drewN n) l c0 c2 ((hT.keep ((aa.refl [] w).drewN n) (by simp)).cell 1)) | have A:∀n,Calls Tryz.prog 188 #[.pointer (V l)] (w.drewN n) fun e w'=>e=.returned (I 7)/\w.drewN n=w':=fun n=>ic (w.drewN n) l c0 c2 ((hT.keep ((aa.refl [] w).drewN n) (by simp)).cell 1)
  have a7:∀n,(w.drewN n).cell? (U p 2)=G (V s) (f+1) h:=fun n=>x2;have a6:∀n,(w.drewN n).cell? (U p 0)=G (V xk) f i:=fun n=>x0;have a8:∀n,(w.drewN n).cell? (U s 1)=some (.pointer (V r)):=fun n=>xr;have a5:∀n,(w.drewN n).cell? (U r 0)=G (V Y) z g:=fun n=>r0;have D:=bZ hT
  first | (have:=c;have B:=fun (wN:World) (k:aa [] w wN)=>eO.1 wN l p q r 0 m f lq dq z dr xk xv s qk qv Y rv N T i a1 h P Q O g a0 W ks vs kq vq kr vr cs cq cr F ((d.keep0 k).reset hF) K L M m1 m2 m3 S r2 r3 hn E H b1 (by omega) (by omega) (by omega) f1 f2 f3 f4) | have B:=fun (wN:World) (k:aa [] w wN)=>eO.2 wN l p q r 0 m f lq dq z dr xk xv s qk qv Y rv N T i a1 h P Q O g a0 W ks vs kq vq kr vr cs cq cr F ((d.keep0 k).reset hF) K L M m1 m2 m3 S r2 r3 hn E H b1 (by omega) (by omega) (by omega) f1 f2 f3 f4
  clear C hT hF f1 f2 f3 f4;replace d:=bZ d;replace B:=bZ B;replace hn:=bZ hn;replace K:=bZ K;replace L:=bZ L;replace M:=bZ M;replace m1:=bZ m1;replace m2:=bZ m2;replace m3:=bZ m3;replace S:=bZ S;replace r2:=bZ r2;replace r3:=bZ r3;replace E:=bZ E;replace H:=bZ H;replace A:=bZ A;unfold ptr
  first | (have:=c;go_enter Tryz.func185,Tryz.ntmps185) | go_enter Tryz.func189,Tryz.ntmps189
  go_wp2_with fail;go_quiet (with_reducible exact bw (A.o _));go_wp2_with fail;obtain⟨a,t⟩:∃x,x=w.drewN nq:=⟨_,rfl⟩;have b:Z (aa [] w a):=bZ (by rw[t];exact(aa.refl [] w).drewN nq);rw[<-t];clear t a7 a6 a8 a5 A;have y2:a.cell? (U p 2)=G (V s) (f+1) h:=b.o.cellEq x2 (by simp);have y0:a.cell? (U p 0)=G (V xk) f i:=b.o.cellEq x0 (by simp);have yr:a.cell? (U s 1)=some (.pointer (V r)):=b.o.cellEq xr (by simp);have a2:a.cell? (U r 0)=G (V Y) z g:=b.o.cellEq r0 (by simp);have ac:∀n,(a.drewN n).cell? (U p 2)=G (V s) (f+1) h:=fun n=>y2;have a9:∀n,(a.drewN n).cell? (U p 0)=G (V xk) f i:=fun n=>y0;have ak:∀n,(a.drewN n).cell? (U s 1)=some (.pointer (V r)):=fun n=>yr;have a3:∀n,(a.drewN n).cell? (U r 0)=G (V Y) z g:=fun n=>a2
  first | (have:=c;have CM:Z (∀n,Calls Tryz.prog 184 #[.pointer (V l)] (a.drewN n) fun e w'=>e=.returned (I 7)/\a.drewN n=w'):=bZ (fun n=>ie (a.drewN n) l c0 c2 (b.o.cellEq (D.o.cell 1) (by simp)))) | have CM:Z (∀n,Calls Tryz.prog 188 #[.pointer (V l)] (a.drewN n) fun e w'=>e=.returned (I 7)/\a.drewN n=w'):=bZ (fun n=>ic (a.drewN n) l c0 c2 (b.o.cellEq (D.o.cell 1) (by simp)))
  clear x2 x0 xr r0 xq;go_cut [171] (fun v wx=>v=.bool false/\∃k,wx=a.drewN k)
  case first=>
   go_quiet (with_reducible exact bw (CM.o _));go_wp2_with fail;go_meet;exact⟨by first | rfl | (rw[decide_eq_false (by omega)]),_,rfl⟩
  obtain⟨rfl,k1,rfl⟩:=hcut;obtain⟨wc,y⟩:∃x,x=a.drewN k1:=⟨_,rfl⟩;have J:Z (aa [] w wc):=bZ (by rw[y];exact b.o.trans ((aa.refl [] a).drewN k1));rw[<-y];have MC:=B.o wc J.o;unfold ptr at MC;rw[show ((0:Nat):Int)=0 from rfl] at MC;clear y y2 y0 yr a2 ac a9 ak a3 CM B b d;go_wp2_with fail;refine MC.mono ?_;clear MC;rintro e w9 hm;have hm:=hm.from_ J.o;have he:e=.returned (.tuple #[]):=by
   obtain⟨_,_,_,_,_,_,_,_,_,_,_,_,_,_,_,_,_,_,_,_,h1,_⟩:=hm;exact h1
  subst he;go_wp2_with fail
  first | (have:=c;refine bodyPost_ret (v:=.tuple #[]) (by simp[results,Tryz.results185,go_sem]) rfl ?_) | refine bodyPost_ret (v:=.tuple #[]) (by simp[results,Tryz.results189,go_sem]) rfl ?_
  exact hm
theorem aV {w:World} {e n c:Nat} {A:Option Addr} {d:List Value} (h:w.ownsRow 0 e 1 (.slice A n c) n d) (a:0<n):∃g,A=V g:=by
 obtain⟨g,c',b,_⟩:=ax h a;injection b with h1 _ _;exact⟨g,h1⟩
structure zt (T:BTy) (w:World) (h p:Nat) (EA EB:List Ent) (e:Ent) (A B:List Kid) (F0:List Nat) (q r:Nat) (esa esb ena enb:List Ent) (ka kb:List Kid) (Fa0 Fb0:List Nat) (xk xv xc qk qv rk rv:Nat) (qcA rcA:Option Addr) (xkc xvc xcc qkc qvc qcc rkc rvc rcc:Nat):Prop where
 W:cR T w h p (EA++e::EB) (A++(q,ena.length,esa,Fa0++af ka)::(r,enb.length,esb,Fb0++af kb)::B) F0
 ba:bo T w h ena ka esa
 bb:bo T w h enb kb esb
 S:aE T w w p q r (V xk) (V xv) (V xc) (V qk) (V qv) qcA (V rk) (V rv) rcA xkc xvc xcc qkc qvc qcc rkc rvc rcc ((EA++e::EB).map (·.1)) ((EA++e::EB).map (·.2)) (ena.map (·.1)) (ena.map (·.2)) (enb.map (·.1)) (enb.map (·.2)) ((A++(q,ena.length,esa,Fa0++af ka)::(r,enb.length,esb,Fb0++af kb)::B).map (·.1)) (ka.map (·.1)) (kb.map (·.1)) (F0++(Fa0++Fb0))
 f:∀x∈ay p (V xk) (V xv) (V xc)++(ay q (V qk) (V qv) qcA++ay r (V rk) (V rv) rcA),x∈F0++(Fa0++Fb0)
theorem jf {T:BTy} {w:World} {h p:Nat} {EA EB:List Ent} {e:Ent} {A B:List Kid} {a b:Kid} {F0:List Nat} (W:cR T w h p (EA++e::EB) (A++a::b::B) F0) (E:1<=a.2.1) (F:1<=b.2.1):
 ∃q r esa esb ena enb ka kb Fa0 Fb0 xk xv xc qk qv rk rv qcA rcA xkc xvc xcc qkc qvc qcc rkc rvc rcc,a=(q,ena.length,esa,Fa0++af ka)/\b=(r,enb.length,esb,Fb0++af kb)/\zt T w h p EA EB e A B F0 q r esa esb ena enb ka kb Fa0 Fb0 xk xv xc qk qv rk rv qcA rcA xkc xvc xcc qkc qvc qcc rkc rvc rcc:=by
  obtain⟨q,v,esa,t⟩:=a;obtain⟨r,y,esb,u⟩:=b;obtain⟨ena,ka,Fa0,j,g,d,o⟩:=(W.kid (q,v,esa,t) (by simp)).view;obtain⟨enb,kb,Fb0,k,i,f,s⟩:=(W.kid (r,y,esb,u) (by simp)).view;dsimp only at j g d o k i f s E F;subst j d k f;obtain⟨l,_,_⟩:=ng W;obtain⟨z,n,P⟩:=Dp.1 l;obtain⟨C,D,S⟩:=Dp.1 n;obtain⟨N,xkc,O,xvc,M,xcc,X,rfl⟩:=W.node.c z;obtain⟨H,qkc,J,qvc,qcA,qcc,Q,rfl⟩:=g.c C;obtain⟨K,rkc,L,rvc,rcA,rcc,R,rfl⟩:=i.c D;obtain⟨xk,rfl⟩:=aV X.rk (by simp;omega);obtain⟨xv,rfl⟩:=aV X.rv (by simp;omega);obtain⟨xc,rfl⟩:=aV X.rc (by simp;omega);obtain⟨qk,rfl⟩:=aV Q.rk (by simp;omega);obtain⟨qv,rfl⟩:=aV Q.rv (by simp;omega);obtain⟨rk,rfl⟩:=aV R.rk (by simp;omega);obtain⟨rv,rfl⟩:=aV R.rv (by simp;omega);exact⟨q,r,esa,esb,ena,enb,ka,kb,_,_,xk,xv,xc,qk,qv,rk,rv,qcA,rcA,xkc,xvc,xcc,qkc,qvc,qcc,rkc,rvc,rcc,rfl,rfl,⟨W,o,s,⟨X,Q,R,l,aa.refl _ _,fun x m=>.inl m⟩,fun x m=>m⟩⟩
theorem mq {α β:Type _} (f:α->β) (EA EB:List α) (e x:α):((EA++e::EB).map f).set EA.length (f x)=(EA++x::EB).map f:=by
 rw[<-EV,EL _ _ (C9 _),Ez,List.set_cons_zero]
theorem jk {α β:Type _} (f:α->β) (EA EB:List α) (e:α):((EA++e::EB).map f)[EA.length]? =some (f e):=by
 rw[De,Dv (C9 _),Ez];rfl
theorem eZ {α β:Type _} (f:α->β) (EA EB:List α) (e:α):((EA++e::EB).map f).eraseIdx EA.length=(EA++EB).map f:=by
 rw[DU,<-El,<-En,DS rfl,show EA++e::EB=(EA++[e])++EB by simp,Ei (by simp),DX]
theorem ua {α:Type _} {l:List α} {n:Nat} (h:l.length=n+1):∃L x,l=L++[x]/\L.length=n/\l[n]? =some x:=by
 have a:l[n]? =some (l[n]'(by omega)):=CT _;refine⟨l.take n,l[n]'(by omega),?_,by rw[CY];omega,a⟩;have:=du a;rw[D0 (by omega)] at this;exact this
section
variable {T:BTy} {w w':World} {h p:Nat} {EA EB:List Ent} {e:Ent} {A B:List Kid} {F0:List Nat} {q r:Nat} {esa esb ena enb:List Ent} {ka kb:List Kid} {Fa0 Fb0:List Nat} {xk xv xc qk qv rk rv:Nat} {qcA rcA:Option Addr} {xkc xvc xcc qkc qvc qcc rkc rvc rcc:Nat} {en:Ending}
theorem vZ (P:zt T w h p EA EB e A B F0 q r esa esb ena enb ka kb Fa0 Fb0 xk xv xc qk qv rk rv qcA rcA xkc xvc xcc qkc qvc qcc rkc rvc rcc) (S:EA.length=A.length) (Y:EB.length=B.length) {f:Nat} (C:ena.length=f+1) (h1:7<=f/\f<=15) (h2:6<=enb.length/\enb.length<=14)
 (O:∀c∈A++B,7<=c.2.1/\c.2.1<=15)
 (H:zD T w p q r ((EA++e::EB).map (·.1)) ((EA++e::EB).map (·.2)) (ena.map (·.1)) (ena.map (·.2)) (enb.map (·.1)) (enb.map (·.2)) ((A++(q,ena.length,esa,Fa0++af ka)::(r,enb.length,esb,Fb0++af kb)::B).map (·.1)) (ka.map (·.1)) (kb.map (·.1)) EA.length f (F0++(Fa0++Fb0)) en w'):
 en=.returned (.tuple #[])/\iA T w h p (EA++e::EB) (A++(q,ena.length,esa,Fa0++af ka)::(r,enb.length,esb,Fb0++af kb)::B) F0 w':=by
  obtain⟨_,_,_,_,_,_,_,_,_,_,_,_,_,_,_,_,_,_,ek,ev,fk,fv,he,i,j,l,m,d⟩:=H;refine⟨he,?_⟩;have d:=d.o;obtain⟨L,x,rfl,v,hx⟩:=ua C;rw[jk] at i j;cases i;cases j;have n:=jk (fun y:Ent=>y.1) L [] x;have s:=jk (fun y:Ent=>y.2) L [] x;rw[v] at n s;rw[n] at l;rw[s] at m;cases l;cases m;have X:=d.X.at_;have Q:=d.Q.at_;have R:=d.R.at_;rw[mq,mq] at X;have c1:=eZ (fun y:Ent=>y.1) L [] x;have t:=eZ (fun y:Ent=>y.2) L [] x;rw[v,DA] at c1 t;rw[c1,t] at Q;obtain⟨a,b,F,J,M,N⟩:∃a b:List Kid,ka++kb=a++b/\(ka.map (·.1)).eraseIdx (f+1)=a.map (·.1)/\((ka.map (·.1))[f+1]?).toList++kb.map (·.1)=b.map (·.1)/\(h=0\/a.length=L.length+1/\b.length=(e::enb).length+1):=by
   rcases P.ba with ⟨u,g,_⟩ | ⟨k,u,g,_,_⟩
   ·exact⟨ka,kb,rfl,by rw[g];rfl,by rw[g];rfl,.inl u⟩
   rcases P.bb with ⟨g0,_⟩ | ⟨k',_,e2,_,_⟩
   ·omega
   rw[C] at g;obtain⟨K,y,rfl,hK,hy⟩:=ua g;have D:=eZ (fun z:Kid=>z.1) K [] y;have E:=jk (fun z:Kid=>z.1) K [] y;rw[hK] at D E;exact⟨K,y::kb,by simp,by rw[D,DA],by rw[E];rfl,.inr ⟨by omega,by simp;omega⟩⟩
  rw[J] at Q;rw[M] at R;exact lX P.W S Y P.ba P.bb X Q (enb':=e::enb) R d.nd d.kp d.nw (by simp) F N (by omega) (by simp;omega) O
theorem vY (P:zt T w h p EA EB e A B F0 q r esa esb ena enb ka kb Fa0 Fb0 xk xv xc qk qv rk rv qcA rcA xkc xvc xcc qkc qvc qcc rkc rvc rcc) (D:EA.length=A.length) (E:EB.length=B.length) (n:8<=enb.length/\enb.length<=15) (h2:6<=ena.length/\ena.length<=14)
 (C:∀c∈A++B,7<=c.2.1/\c.2.1<=15)
 (H:zC T w p q r ((EA++e::EB).map (·.1)) ((EA++e::EB).map (·.2)) (ena.map (·.1)) (ena.map (·.2)) (enb.map (·.1)) (enb.map (·.2)) ((A++(q,ena.length,esa,Fa0++af ka)::(r,enb.length,esb,Fb0++af kb)::B).map (·.1)) (ka.map (·.1)) (kb.map (·.1)) EA.length (F0++(Fa0++Fb0)) en w'):
 en=.returned (.tuple #[])/\iA T w h p (EA++e::EB) (A++(q,ena.length,esa,Fa0++af ka)::(r,enb.length,esb,Fb0++af kb)::B) F0 w':=by
  obtain⟨_,_,_,_,_,_,_,_,_,_,_,_,_,_,_,_,_,_,M,N,O,S,F,g,i,j,l,d⟩:=H;refine⟨F,?_⟩;have d:=d.o;obtain⟨x,L,rfl⟩:∃x L,enb=x::L:=by
   cases enb with
   | nil=>simp at n
   | cons x L=>exact⟨x,L,rfl⟩
  rw[jk] at g i;cases g;cases i;simp only[D1,D5] at j l;cases j;cases l;have X:=d.X.at_;have Q:=d.Q.at_;have R:=d.R.at_;rw[mq,mq] at X;simp only[D1,List.eraseIdx_cons_zero] at R;have c1:ena.map (·.1)++[e.1]=(ena++[e]).map (·.1):=by simp
  have s:ena.map (·.2)++[e.2]=(ena++[e]).map (·.2):=by simp
  rw[c1,s] at Q;obtain⟨a,b,t,u,v,z⟩:∃a b:List Kid,ka++kb=a++b/\ka.map (·.1)++((kb.map (·.1))[0]?).toList=a.map (·.1)/\(kb.map (·.1)).eraseIdx 0=b.map (·.1)/\(h=0\/a.length=(ena++[e]).length+1/\b.length=L.length+1):=by
   rcases P.bb with ⟨m,f,_⟩ | ⟨k,m,f,_,_⟩
   ·exact⟨ka,kb,rfl,by rw[f];simp,by rw[f];rfl,.inl m⟩
   rcases P.ba with ⟨Y,_⟩ | ⟨k',_,J,_,_⟩
   ·omega
   cases kb with
   | nil=>simp at f
   | cons y K=>exact⟨ka++[y],K,by simp,by simp,by simp,.inr ⟨by simp;omega,by simpa using f⟩⟩
  rw[u] at Q;rw[v] at R;simp only[Dj] at n;exact lX P.W D E P.ba P.bb X (ena':=ena++[e]) Q R d.nd d.kp d.nw (by simp) t z (by simp;omega) (by omega) C
theorem o9 (P:zt T w h p EA EB e A B F0 q r esa esb ena enb ka kb Fa0 Fb0 xk xv xc qk qv rk rv qcA rcA xkc xvc xcc qkc qvc qcc rkc rvc rcc) (g:EA.length=A.length) (n:EB.length=B.length) (l:7<=ena.length+1+enb.length/\ena.length+1+enb.length<=15)
 (m:∀c∈A++B,7<=c.2.1/\c.2.1<=15)
 (H:j0 T w p q r ((EA++e::EB).map (·.1)) ((EA++e::EB).map (·.2)) (ena.map (·.1)) (ena.map (·.2)) (enb.map (·.1)) (enb.map (·.2)) ((A++(q,ena.length,esa,Fa0++af ka)::(r,enb.length,esb,Fb0++af kb)::B).map (·.1)) (ka.map (·.1)) (kb.map (·.1)) EA.length (F0++(Fa0++Fb0)) en w'):
 en=.returned (.tuple #[])/\iA T w h p (EA++e::EB) (A++(q,ena.length,esa,Fa0++af ka)::(r,enb.length,esb,Fb0++af kb)::B) F0 w':=by
  obtain⟨_,_,_,_,_,_,_,_,_,_,_,_,_,_,_,_,_,_,u,v,s,b,d,a⟩:=H;refine⟨s,?_⟩;have a:=a.o;rw[jk] at b d;cases b;cases d;have X:=a.X.at_;have Q:=a.Q.at_;rw[eZ,eZ] at X;have f:=eZ (fun z:Kid=>z.1) (A++[(q,ena.length,esa,Fa0++af ka)]) B (r,enb.length,esb,Fb0++af kb);rw[CU,DE,<-g,Dd,Dd] at f;rw[show A++(q,ena.length,esa,Fa0++af ka)::(r,enb.length,esb,Fb0++af kb)::B=A++([(q,ena.length,esa,Fa0++af ka)]++(r,enb.length,esb,Fb0++af kb)::B) from rfl,f] at X;have c1:ena.map (·.1)++[e.1]++enb.map (·.1)=(ena++e::enb).map (·.1):=by simp
  have j:ena.map (·.2)++[e.2]++enb.map (·.2)=(ena++e::enb).map (·.2):=by simp
  have k:ka.map (·.1)++kb.map (·.1)=(ka++kb).map (·.1):=by simp
  rw[c1,j,k] at Q;have i:=a.nd;rw[<-Dd] at i;exact sP P.W g n P.ba P.bb X Q (Dp.1 i).1 a.kp (fun x t=>a.nw x (by
   rw[<-Dd];exact Di _ t)) l m
end
end Go.Proofs.YtmlmfpikncogpaaGreat
