import Derived.Test.YtmlmfpikncogpaaGreatL05
namespace Go.Proofs.YtmlmfpikncogpaaGreat
open Go.RowKit
set_option linter.unusedSimpArgs false
set_option linter.unusedVariables false
set_option maxRecDepth 100000
set_option maxHeartbeats 16000000
theorem Rep.view {T:BTy} {w:World}:∀ {h q m:Nat} {a:List Ent} {F:List Nat},Rep T w h q m a F->
 ∃(en:List Ent) (kids:List Kid) (b:List Nat),m=en.length/\aX T w q (en.map (·.1)) (en.map (·.2)) (kids.map (·.1)) b/\F=b++af kids/\
  ((h=0/\kids=[]/\a=en)\/(∃k,h=k+1/\kids.length=en.length+1/\a=ao kids en/\∀c∈kids,Rep T w k c.1 c.2.1 c.2.2.1 c.2.2.2/\7<=c.2.1/\c.2.1<=15))
 | 0,q,m,a,F,hr=>⟨a,[],F,hr.1,hr.2,by simp[af],.inl ⟨rfl,rfl,rfl⟩⟩
 | h+1,q,m,a,F,hr=>by
  obtain⟨en,kids,b,d,j,e,f,g,i,rfl⟩:=hr;exact⟨en,kids,b,d,g,rfl,.inr ⟨h,rfl,e,f,i⟩⟩
theorem Rep.of_view {T:BTy} {w:World} {h q:Nat} {en:List Ent} {kids:List Kid} {a:List Nat} {b:List Ent} (d:aX T w q (en.map (·.1)) (en.map (·.2)) (kids.map (·.1)) a) (e:1<=en.length)
 (j:(h=0/\kids=[]/\b=en)\/(∃k,h=k+1/\kids.length=en.length+1/\b=ao kids en/\∀c∈kids,Rep T w k c.1 c.2.1 c.2.2.1 c.2.2.2/\7<=c.2.1/\c.2.1<=15)):Rep T w h q en.length b (a++af kids):=by
  rcases j with ⟨rfl,rfl,rfl⟩ | ⟨k,rfl,f,g,i⟩
  ·exact⟨rfl,by simpa [af] using d⟩
  exact⟨en,kids,a,rfl,e,f,g,d,i,rfl⟩
def iZ (T:BTy) (w:World) (h p:Nat) (A:List Kid) (c:Kid) (B:List Kid) (EA EB:List Ent) (d:List Nat) (w':World):Prop:=
 ∃(e:Ent) (c1 b:Kid) (a:List Nat),c.2.2.1=c1.2.2.1++e::b.2.2.1/\c1.1=c.1/\c1.2.1=8/\b.2.1=7/\cR T w' h p (EA++e::EB) (A++c1::b::B) a/\aa (d++c.2.2.2) w w'/\
  (∀x∈a++af (A++c1::b::B),x∈d++af (A++c::B)\/w.heap.size<=x)
theorem mZ {T:BTy} {w w':World} {h p:Nat} {A B:List Kid} {q:Nat} {H:List Ent} {enc:List Ent} {a:List Kid} {d:List Nat} {EA EB:List Ent} {P:List Nat} {e:Ending}
 (W:cR T w h p (EA++EB) (A++(q,16,H,d++af a)::B) P) (hA:EA.length=A.length) (hB:EB.length=B.length) (hm:enc.length=16)
 (hv:(h=0/\a=[]/\H=enc)\/(∃k,h=k+1/\a.length=enc.length+1/\H=ao a enc/\∀c∈a,Rep T w k c.1 c.2.1 c.2.2.1 c.2.2.2/\7<=c.2.1/\c.2.1<=15))
 (hp:zq T w p q ((EA++EB).map (·.1)) ((EA++EB).map (·.2)) (enc.map (·.1)) (enc.map (·.2)) ((A++(q,16,H,d++af a)::B).map (·.1)) (a.map (·.1)) A.length (P++d) e w'):
 e=.returned (.tuple #[])/\iZ T w h p A (q,16,H,d++af a) B EA EB P w':=by
  obtain⟨r,a0,a1,Y,u,v,t,D,E,C,b5,b6,b4,ar,b0,ap,b2,b3,b1,ek,ev,rfl,a4,a5,J⟩:=hp;replace J:=J.o;refine⟨rfl,?_⟩;obtain⟨N,a3⟩:∃x,enc[8]? =some x:=⟨enc[8]'(by omega),CT _⟩;rw[De,a3] at a4 a5;cases a4;cases a5;have M:=W.nd;have z:P++af (A++(q,16,H,d++af a)::B)=P++(af A++((d++af a)++af B)):=by rw[aB,aG]
  have a8:a=a.take 9++a.drop 9:=(Du 9 a).symm;have O:enc=enc.take 8++N::enc.drop 9:=by
   have b:=(Du 8 enc).symm;rw[DP (by omega)] at b;have n:enc[8]'(by omega)=N:=by
    have:=CT (l:=enc) (i:=8) (by omega);rw[a3] at this;exact(Option.some.inj this).symm
   rw[n] at b;exact b
  have old:∀x∈af A++(af a++af B),x∉P++d/\x<w.heap.size:=by
   intro x F;have ak:∀c∈(A++(q,16,H,d++af a)::B:List Kid),∀y∈c.2.2.2,y<w.heap.size:=fun c s=>(W.kid c s).lt;have an:x∈af (A++(q,16,H,d++af a)::B):=by
    rw[aB,aG];simp only[CX] at F ⊢;rcases F with h | h | h
    ·exact .inl h
    ·exact .inr (.inl (.inr h))
    exact .inr (.inr h)
   refine⟨fun f=>?_,?_⟩
   ·rw[z] at M;have g:=Do.1 M x;have c1:1<=List.count x (af A++(af a++af B)):=D4.2 F;have c2:1<=List.count x (P++d):=D4.2 f;simp only[DN] at g c1 c2;omega
   obtain⟨c,s,f⟩:=aT.1 an;exact ak c s x f
  have K:∀c∈A++B,Rep T w' h c.1 c.2.1 c.2.2.1 c.2.2.2:=fun c s=>by
   have a9:c∈(A++(q,16,H,d++af a)::B:List Kid):=by
    rcases CX.1 s with h | h
    ·exact Di _ h
    exact Dg _ (DL _ h)
   refine(W.kid c a9).keep J.kp _ _ _ _ _ (fun y hy f=>(old y ?_).1 hy);rcases CX.1 s with h | h
   ·exact Di _ (aT.2 ⟨c,h,f⟩)
   exact Dg _ (Dg _ (aT.2 ⟨c,h,f⟩))
  have L:∀k,(∀c∈a,Rep T w k c.1 c.2.1 c.2.2.1 c.2.2.2/\7<=c.2.1/\c.2.1<=15)->∀c∈a,Rep T w' k c.1 c.2.1 c.2.2.1 c.2.2.2/\7<=c.2.1/\c.2.1<=15:=fun k hk c s=>
   ⟨(hk c s).1.keep J.kp _ _ _ _ _ (fun y hy f=>(old y (Dg _ (Di _ (aT.2 ⟨c,s,f⟩)))).1 hy),(hk c s).2⟩
  have l8:(enc.take 8).length=8:=by rw[CY];omega
  have l7:(enc.drop 9).length=7:=by rw[Da];omega
  obtain⟨j,m,ac,v1,v2⟩:∃j m,H=j++N::m/\
   ((h=0/\a.take 9=[]/\j=enc.take 8)\/(∃k,h=k+1/\(a.take 9).length=(enc.take 8).length+1/\j=ao (a.take 9) (enc.take 8)/\∀c∈a.take 9,Rep T w' k c.1 c.2.1 c.2.2.1 c.2.2.2/\7<=c.2.1/\c.2.1<=15))/\
   ((h=0/\a.drop 9=[]/\m=enc.drop 9)\/(∃k,h=k+1/\(a.drop 9).length=(enc.drop 9).length+1/\m=ao (a.drop 9) (enc.drop 9)/\∀c∈a.drop 9,Rep T w' k c.1 c.2.1 c.2.2.1 c.2.2.2/\7<=c.2.1/\c.2.1<=15)):=by
   rcases hv with ⟨b,n,h3⟩ | ⟨k,b,n,h3,h4⟩
   ·exact⟨enc.take 8,enc.drop 9,h3.trans O,.inl ⟨b,by rw[n];rfl,rfl⟩,.inl ⟨b,by rw[n];rfl,rfl⟩⟩
   ·have t1:(a.take 9).length=(enc.take 8).length+1:=by rw[l8,CY];omega
    have t2:(a.drop 9).length=(enc.drop 9).length+1:=by rw[l7,Da];omega
    refine⟨ao (a.take 9) (enc.take 8),ao (a.drop 9) (enc.drop 9),?_,.inr ⟨k,b,t1,rfl,fun c s=>L k h4 c (DD s)⟩,.inr ⟨k,b,t2,rfl,fun c s=>L k h4 c (Ef s)⟩⟩;rw[h3,<-gV _ _ _ _ _ t1 t2,<-O,<-a8]
  have R1:Rep T w' h q 8 j (ay q u v t++af (a.take 9)):=by
   have:=Rep.of_view (T:=T) (w:=w') (q:=q) (en:=enc.take 8) (kids:=a.take 9) (by have:=J.Q.at_;rwa [<-El,<-El,<-El] at this) (by omega) v1;rwa [l8] at this
  have R2:Rep T w' h r 7 m (ay r D E C++af (a.drop 9)):=by
   have:=Rep.of_view (T:=T) (w:=w') (q:=r) (en:=enc.drop 9) (kids:=a.drop 9) (by have:=J.R.at_;rwa [<-En,<-En,<-En] at this) (by omega) v2;rwa [l7] at this
  have hX:=J.X.at_;have q1:((EA++EB).map (·.1)).take A.length++N.1::((EA++EB).map (·.1)).drop A.length=(EA++N::EB).map (·.1):=by
   rw[DX,DS (by simp[hA]),Ei (by simp[hA])];simp
  have q2:((EA++EB).map (·.2)).take A.length++N.2::((EA++EB).map (·.2)).drop A.length=(EA++N::EB).map (·.2):=by
   rw[DX,DS (by simp[hA]),Ei (by simp[hA])];simp
  have q3:((A++(q,16,H,d++af a)::B).map (·.1)).take (A.length+1)++r::((A++(q,16,H,d++af a)::B).map (·.1)).drop (A.length+1)=(A++((q,8,j,ay q u v t++af (a.take 9)):Kid)::((r,7,m,ay r D E C++af (a.drop 9)):Kid)::B).map (·.1):=by
   rw[show (A++(q,16,H,d++af a)::B).map (·.1)=(A.map (·.1)++[q])++B.map (·.1) by simp,DS (by simp),Ei (by simp)];simp
  rw[q1,q2,q3] at hX;have a7:af a=af (a.take 9)++af (a.drop 9):=by rw[<-aB,<-a8]
  have NW:∀x∈ay p a0 a1 Y++(ay q u v t++ay r D E C),x∉af A++(af a++af B):=fun x F f=>by
   rcases J.nw x F with b | b
   ·exact(old x f).1 b
   have:=(old x f).2;omega
  have S:(af A++(af a++af B)).Nodup:=by
   rw[z] at M;refine Do.2 (fun x=>?_);have g:=Do.1 M x;simp only[DN] at g ⊢;omega
  have a2:((ay p a0 a1 Y++(ay q u v t++ay r D E C))++(af A++(af a++af B))).Nodup:=Dp.2 ⟨J.nd,S,fun x F y hy e=>NW x F (e▸hy)⟩;have a6:af (A++((q,8,j,ay q u v t++af (a.take 9)):Kid)::((r,7,m,ay r D E C++af (a.drop 9)):Kid)::B)=af A++((ay q u v t++af (a.take 9))++((ay r D E C++af (a.drop 9))++af B)):=by rw[aB,aG,aG]
  refine⟨N,(q,8,j,ay q u v t++af (a.take 9)),(r,7,m,ay r D E C++af (a.drop 9)),ay p a0 a1 Y,ac,rfl,rfl,rfl,⟨?_,hX,fun c s=>?_,?_⟩,J.kp.mono (fun x F=>.inl ?_),fun x F=>?_⟩
  ·simp only[CU,Dj];omega
  ·simp only[CX,Db] at s;rcases s with b | rfl | rfl | b
   ·exact K c (Di _ b)
   ·exact R1
   ·exact R2
   exact K c (Dg _ b)
  ·rw[a6];refine Do.2 (fun x=>?_);have g:=Do.1 a2 x;rw[a7] at g;simp only[DN] at g ⊢;omega
  ·simp only[CX] at F ⊢;rcases F with b | b
   ·exact .inl b
   exact .inr (.inl b)
  rw[a6] at F;rw[z,a7];have hn:=J.nw x;simp only[CX] at F hn ⊢;rcases F with b | b | (b | b) | (b | b) | b
  ·rcases hn (.inl b) with (n | n) | n<;>simp[n]
  ·simp[b]
  ·rcases hn (.inr (.inl b)) with (n | n) | n<;>simp[n]
  ·simp[b]
  ·rcases hn (.inr (.inr b)) with (n | n) | n<;>simp[n]
  ·simp[b]
  simp[b]
theorem bL:∀ {K:List Kid} {E:List Ent} {x:Ent},K.length=E.length+1->x∈E->x∈ao K E
 | [],_,_,h,_=>by simp at h
 | c::K,[],x,_,a=>by cases a
 | c::K,e::E,x,h,a=>by
  rcases Db.1 a with rfl | a
  ·simp[ao]
  simp[ao,bL (K:=K) (E:=E) (by simpa using h) a]
theorem xo (w:World) (n h p:Nat) (N O:Value) (A B:List Kid) (c:Kid) (EA EB:List Ent) (l:List Nat) (hT:Blk w n 204 #[N,I 16,O]) (W:cR tyI w h p (EA++EB) (A++c::B) l)
 (hA:EA.length=A.length) (hB:EB.length=B.length) (hc:c.2.1=16) (hn:EA.length+EB.length<=1000) (S:∀x∈EA++EB,cX x.1/\dk x.2) (T:∀x∈c.2.2.1,cX x.1/\dk x.2):
 Calls Tryz.prog 150 #[ptr n,ptr p,I A.length] w fun e w'=>e=.returned (.tuple #[])/\Z (iZ tyI w h p A c B EA EB l w'):=by
  obtain⟨q,m,z,Fc⟩:=c;obtain rfl:m=16:=hc;have hk:=W.kid (q,16,z,Fc) (by simp);obtain⟨enc,kc,i,hm,Y,rfl,a⟩:=hk.view;dsimp only at hm Y a;have d:=W.nd;rw[aB,aG] at d;have D:l.Nodup:=(Dp.1 d).1;have E:i.Nodup:=Do.2 (fun x=>by
   have:=Do.1 d x;simp only[DN] at this;omega)
  have hd:∀x∈l,x∉i:=fun x h1 j=>(Dp.1 d).2.2 x h1 x (by simp[j]) rfl;obtain⟨J,K,L,M,F,H,X,P⟩:=W.node.c D;obtain⟨s,t,u,y,o,r,Q,R⟩:=Y.c E;have hw:=W.len;simp only[CU,Dj] at hw;have g:∀x∈enc,x∈z:=fun x b=>by
   rcases a with ⟨_,_,C⟩ | ⟨k,_,j,C,_⟩
   ·rw[C];exact b
   rw[C];exact bL j b
  have f:=j6.1 w n p q (EA.length+EB.length) A.length N O J L F s u o K M H t y r ((EA++EB).map (·.1)) ((EA++EB).map (·.2)) (enc.map (·.1)) (enc.map (·.2)) ((A++(q,16,z,i++af kc)::B).map (·.1)) (kc.map (·.1)) hT X Q (by rw[<-P,<-R];exact hd)
   (by simp) (by simp) (by simp;omega) (by omega) (by simp) (by simp;omega) (by simp;omega)
   (by
    rcases a with ⟨_,j,_⟩ | ⟨k,_,j,_⟩
    ·exact .inl (by rw[j];rfl)
    exact .inr (by rw[Df];omega))
   hn (fun v a=>by obtain⟨x,b,rfl⟩:=Dt.1 a;exact(S x b).1) (fun v a=>by obtain⟨x,b,rfl⟩:=Dt.1 a;exact(S x b).2)
   (fun v a=>by obtain⟨x,b,rfl⟩:=Dt.1 a;exact(T x (g x b)).1) (fun v a=>by obtain⟨x,b,rfl⟩:=Dt.1 a;exact(T x (g x b)).2)
  rw[<-P,<-R] at f;refine f.mono (fun e w' hp=>?_);have:=mZ W hA hB hm.symm a hp;exact⟨this.1,bZ this.2⟩
theorem xm (w:World) (n h p:Nat) (N O:Value) (A B:List Kid) (c:Kid) (EA EB:List Ent) (l:List Nat) (hT:Blk w n 250 #[N,I 16,O]) (W:cR tyS w h p (EA++EB) (A++c::B) l)
 (hA:EA.length=A.length) (hB:EB.length=B.length) (hc:c.2.1=16) (hn:EA.length+EB.length<=1000) (S:∀x∈EA++EB,dP x.1/\dW x.2) (T:∀x∈c.2.2.1,dP x.1/\dW x.2):
 Calls Tryz.prog 152 #[ptr n,ptr p,I A.length] w fun e w'=>e=.returned (.tuple #[])/\Z (iZ tyS w h p A c B EA EB l w'):=by
  obtain⟨q,m,z,Fc⟩:=c;obtain rfl:m=16:=hc;have hk:=W.kid (q,16,z,Fc) (by simp);obtain⟨enc,kc,i,hm,Y,rfl,a⟩:=hk.view;dsimp only at hm Y a;have d:=W.nd;rw[aB,aG] at d;have D:l.Nodup:=(Dp.1 d).1;have E:i.Nodup:=Do.2 (fun x=>by
   have:=Do.1 d x;simp only[DN] at this;omega)
  have hd:∀x∈l,x∉i:=fun x h1 j=>(Dp.1 d).2.2 x h1 x (by simp[j]) rfl;obtain⟨J,K,L,M,F,H,X,P⟩:=W.node.c D;obtain⟨s,t,u,y,o,r,Q,R⟩:=Y.c E;have hw:=W.len;simp only[CU,Dj] at hw;have g:∀x∈enc,x∈z:=fun x b=>by
   rcases a with ⟨_,_,C⟩ | ⟨k,_,j,C,_⟩
   ·rw[C];exact b
   rw[C];exact bL j b
  have f:=j6.2 w n p q (EA.length+EB.length) A.length N O J L F s u o K M H t y r ((EA++EB).map (·.1)) ((EA++EB).map (·.2)) (enc.map (·.1)) (enc.map (·.2)) ((A++(q,16,z,i++af kc)::B).map (·.1)) (kc.map (·.1)) hT X Q (by rw[<-P,<-R];exact hd)
   (by simp) (by simp) (by simp;omega) (by omega) (by simp) (by simp;omega) (by simp;omega)
   (by
    rcases a with ⟨_,j,_⟩ | ⟨k,_,j,_⟩
    ·exact .inl (by rw[j];rfl)
    exact .inr (by rw[Df];omega))
   hn (fun v a=>by obtain⟨x,b,rfl⟩:=Dt.1 a;exact(S x b).1) (fun v a=>by obtain⟨x,b,rfl⟩:=Dt.1 a;exact(S x b).2)
   (fun v a=>by obtain⟨x,b,rfl⟩:=Dt.1 a;exact(T x (g x b)).1) (fun v a=>by obtain⟨x,b,rfl⟩:=Dt.1 a;exact(T x (g x b)).2)
  rw[<-P,<-R] at f;refine f.mono (fun e w' hp=>?_);have:=mZ W hA hB hm.symm a hp;exact⟨this.1,bZ this.2⟩
theorem rB {k v:Value} {P R:List Ent} {e:Ent} (h:∀x∈P,kI x<iv k) (a:kI e=iv k):eu k v (P++e::R)=P++(k,v)::R:=by
 rw[ji k v P _ h,eu,if_neg (by omega),if_neg (by omega)]
theorem vN {k v:Value} {P R:List Ent} (h:∀x∈P,kI x<iv k) (a:∀x∈R,iv k<kI x):eu k v (P++R)=P++(k,v)::R:=by
 rw[ji k v P _ h];cases R with
 | nil=>rfl
 | cons e R=>
  have:=a e (by simp);rw[eu,if_neg (by omega),if_pos this]
theorem du {α:Type _} {l:List α} {i:Nat} {x:α} (h:l[i]? =some x):l=l.take i++x::l.drop (i+1):=by
 obtain⟨a,rfl⟩:=CV.1 h;rw[<-DP a,Du]
theorem sI {α:Type _} {l:List α} {i:Nat} {x:α} (h:l[i]? =some x) (y:α):l.set i y=l.take i++y::l.drop (i+1):=by
 obtain⟨c,_⟩:=CV.1 h;have a:=du h;have b:(l.take i).length=i:=by rw[CY];omega
 rw[a,EL _ _ (by omega),b,Ez,List.set_cons_zero,<-a]
theorem yh {k v:Value} {a:List Ent} {i:Nat} {e:Ent} (b:Cut a i k) (h:a[i]? =some e) (c:kI e=iv k):eu k v a=a.set i (k,v):=by
 rw[sI h]
 conv=>lhs;rw[du h]
 exact rB b.before c
theorem yj {k v:Value} {a:List Ent} {i:Nat} (d:Cut a i k) (l:Asc a) (h:∀e,a[i]? =some e->kI e≠iv k):eu k v a=a.take i++(k,v)::a.drop i:=by
 conv=>lhs;rw[<-Du i a]
 refine vN d.before (fun x b=>?_);have m:=d.behind x b;cases c:a[i]? with
 | none=>
  rw[D0 (by have:=List.getElem?_eq_none_iff.1 c;omega)] at b;cases b
 | some e=>
  have f:a.drop i=e::a.drop (i+1):=by
   obtain⟨j,rfl⟩:=CV.1 c;exact DP j
  rw[f] at b;have o:=h e c;have n:iv k<=kI e:=d.2 i e (C9 _) c;rcases Db.1 b with rfl | b
  ·omega
  have g:Asc (a.drop i):=l.sublist (List.drop_sublist _ _);rw[f] at g;have:=(DJ.1 g).1 x b;omega
theorem yi {k v:Value} {A B:List Kid} {c:Kid} {EA EB:List Ent} {e:Ent} (f:EA.length=A.length) (a:(e::EB).length=B.length) (d:Asc (ao (A++c::B) (EA++e::EB))) (g:kI e=iv k):
 eu k v (ao (A++c::B) (EA++e::EB))=ao (A++c::B) (EA++(k,v)::EB):=by
  rw[au A EA c B (e::EB) f a] at d ⊢;rw[au A EA c B ((k,v)::EB) f (by simpa using a)];cases B with
  | nil=>simp at a
  | cons b B=>
   rw[cD] at d ⊢;rw[cD,<-Dd,<-Dd] at*;refine rB (fun x h=>?_) g;have:=(EF.1 d).2.2 x h e (by simp);omega
theorem yo {k v:Value} {A B:List Kid} {c c':Kid} {EA EB:List Ent} (a:EA.length=A.length) (b:EB.length=B.length) (d:Asc (ao (A++c::B) (EA++EB))) (h:∀e∈EA,kI e<iv k) (i:∀e∈EB,iv k<kI e) (j:c'.2.2.1=eu k v c.2.2.1):
 eu k v (ao (A++c::B) (EA++EB))=ao (A++c'::B) (EA++EB):=by
  rw[au A EA c B EB a b] at d ⊢;rw[au A EA c' B EB a b,j];obtain⟨f,l,g,_⟩:=gR d;exact yl k v _ _ _ (nk k A EA f a h) (pL k EB B g b i)
theorem nM {k:Value} {A B:List Kid} {c:Kid} {EA EB:List Ent} (a:EA.length=A.length) (b:EB.length=B.length) (i:Asc (ao (A++c::B) (EA++EB))) (g:∀e∈EA,kI e<iv k) (h:∀e∈EB,iv k<kI e):
 dw k (ao (A++c::B) (EA++EB))=dw k c.2.2.1/\gj k (ao (A++c::B) (EA++EB))=gj k c.2.2.1/\Asc c.2.2.1:=by
  rw[au A EA c B EB a b] at i ⊢;obtain⟨d,j,f,_⟩:=gR i;exact⟨yy k _ _ _ (nk k A EA d a g) (pL k EB B f b h),yD k _ _ _ (nk k A EA d a g) (pL k EB B f b h),j⟩
theorem vi {A B:List Kid} {c c1 a:Kid} {e:Ent} {EA EB:List Ent} (b:EA.length=A.length) (d:EB.length=B.length) (f:c.2.2.1=c1.2.2.1++e::a.2.2.1):
 ao (A++c1::a::B) (EA++e::EB)=ao (A++c::B) (EA++EB):=by
  rw[au A EA c B EB b d,f];rw[au A EA c1 (a::B) (e::EB) b (by simp[d]),cD];simp
theorem um {w:World} {b e n c g i:Nat} {d:List Value} (h:w.ownsRow b e 1 (.slice (V g) n c) n d) (t:i<n) (u:Value):(w.setCell (U g i) u).ownsRow b e 1 (.slice (V g) n c) n (d.set i u):=by
 obtain⟨r,c1,o,s,_⟩:=ax h (by omega);injection o with _ _ hcc;obtain⟨q,tl,f,j,l,k,B,m,p⟩:=oZ h (by omega);cases f;have a:=B.set_ i u;rw[EK,List.set_append_left _ _ (by omega)] at a;exact ko a j (by rw[Em];exact p) m k
theorem aU.set1 {T:BTy} {w:World} {p a b t u s i:Nat} {r:Option Addr} {n o:List Value} {cs:List Nat} (h:aU T w p (V a) t (V b) u r s n o cs) (C:i<n.length) (D:i<o.length) (k v:Value):
 aU T ((w.setCell (U a i) k).setCell (U b i) v) p (V a) t (V b) u r s (n.set i k) (o.set i v) cs/\aa [a,b] w ((w.setCell (U a i) k).setCell (U b i) v):=by
  obtain⟨⟨z,A,F⟩,q,B⟩:=aW.1 h.nd;have E:a≠b:=fun e=>(q a (by simp[fb])).1 (by simp[fb,e]);have l:p≠a:=fun e=>z (by simp[fb,e]);have m:p≠b:=fun e=>A (by simp[fb,e]);have g:aa [a] w (w.setCell (U a i) k):=(aa.refl [a] w).setCell (p:=(U a i)) (.inl (by simp)) _;have j:aa [b] (w.setCell (U a i) k) ((w.setCell (U a i) k).setCell (U b i) v):=(aa.refl [b] _).setCell (p:=(U b i)) (.inl (by simp)) _;refine⟨⟨?_,?_,?_,?_,h.nd⟩,(g.mono (fun x f=>.inl (by simp at f;simp[f]))).trans (j.mono (fun x f=>.inl (by simp at f;simp[f])))⟩
  ·rw[Em,Em];exact(h.blk.keep g (by simp[l])).keep j (by simp[m])
  ·rw[Em];exact aq (um h.rk C k) j (fun y d c=>by simp[fb] at d c;omega)
  ·rw[Em];exact um (aq h.rv g (fun y d c=>by simp[fb] at d c;omega)) D v
  refine aq (aq h.rc g (fun y d c=>?_)) j (fun y d c=>?_)
  ·rw[CZ.1 d] at c;exact(q a (by simp[fb])).2 c
  rw[CZ.1 d] at c;exact B b (by simp[fb]) c
def bo (T:BTy) (w:World) (h:Nat) (en:List Ent) (kids:List Kid) (a:List Ent):Prop:=
 (h=0/\kids=[]/\a=en)\/(∃k,h=k+1/\kids.length=en.length+1/\a=ao kids en/\∀c∈kids,Rep T w k c.1 c.2.1 c.2.2.1 c.2.2.2/\7<=c.2.1/\c.2.1<=15)
def iY (T:BTy) (w:World) (h q m:Nat) (a:List Ent) (F:List Nat):Prop:=
 ∃(en:List Ent) (kids:List Kid) (F0:List Nat),m=en.length/\aX T w q (en.map (·.1)) (en.map (·.2)) (kids.map (·.1)) F0/\F=F0++af kids/\bo T w h en kids a
theorem Rep.toView {T:BTy} {w:World} {h q m:Nat} {a:List Ent} {F:List Nat} (b:Rep T w h q m a F):iY T w h q m a F:=b.view
theorem iY.rep {T:BTy} {w:World} {h q m:Nat} {b:List Ent} {F:List Nat} (g:iY T w h q m b F) (i:h=0\/1<=m):Rep T w h q m b F:=by
 obtain⟨en,kids,F0,rfl,c,rfl,a⟩:=g;rcases a with ⟨rfl,rfl,rfl⟩ | a
 ·exact⟨rfl,by simpa [af] using c⟩
 obtain⟨k,rfl,d,e,f⟩:=a;exact⟨en,kids,F0,rfl,by omega,d,e,c,f,rfl⟩
theorem iY.keep {T:BTy} {w w':World} {Y:List Nat} {h p m:Nat} {f:List Ent} {F:List Nat} (q:iY T w h p m f F) (j:aa Y w w') (i:∀y∈Y,y∉F):iY T w' h p m f F:=by
 obtain⟨en,kids,F0,rfl,o,rfl,a⟩:=q;refine⟨en,kids,F0,rfl,o.keep j (fun y e d=>i y e (Di _ d)),rfl,?_⟩;rcases a with a | ⟨k,rfl,l,n,g⟩
 ·exact .inl a
 exact .inr ⟨k,rfl,l,n,fun c b=>⟨(g c b).1.keep j _ _ _ _ _ (fun y e d=>i y e (Dg _ (aT.2 ⟨c,b,d⟩))),(g c b).2⟩⟩
theorem iY.lt {T:BTy} {w:World} {h p m:Nat} {b:List Ent} {F:List Nat} (j:iY T w h p m b F):∀x∈F,x<w.heap.size:=by
 obtain⟨en,kids,F0,rfl,e,rfl,f⟩:=j;intro x a;rcases CX.1 a with a | a
 ·exact e.lt x a
 rcases f with ⟨_,rfl,_⟩ | ⟨k,rfl,l,n,d⟩
 ·simp[af] at a
 obtain⟨c,g,i⟩:=aT.1 a;exact(d c g).1.lt _ _ _ _ _ x i
structure il (S:Bool) (T:BTy) (w:World) (h p m:Nat) (es:List Ent) (F:List Nat) (k v:Value) (fd:Bool) (w':World) (m':Nat) (es':List Ent) (F':List Nat):Prop where
 vw:iY T w' h p m' es' F'
 nd:F'.Nodup
 lo:m<=m'
 hi:m'<=m+1
 kp:aa F w w'
 nw:∀x∈F',x∈F\/w.heap.size<=x
 sub:∀x∈es',x∈es\/x=(k,v)
 ord:S=true->Asc es->es'=eu k v es/\fd=dw k es
theorem cR.kid1 {T:BTy} {w w':World} {h p:Nat} {en:List Ent} {A B:List Kid} {c c':Kid} {F0:List Nat} (W:cR T w h p en (A++c::B) F0) (z:Rep T w' h c'.1 c'.2.1 c'.2.2.1 c'.2.2.2) (u:c'.1=c.1) (n:aa c.2.2.2 w w') (o:c'.2.2.2.Nodup) (k:∀x∈c'.2.2.2,x∈c.2.2.2\/w.heap.size<=x):
 cR T w' h p en (A++c'::B) F0/\(∀x∈F0++af (A++c'::B),x∈F0++af (A++c::B)\/w.heap.size<=x):=by
  have g:=W.nd;rw[aB,aG] at g;have i:∀x∈F0++(af A++(c.2.2.2++af B)),x<w.heap.size:=fun x a=>by
   rcases CX.1 a with a | a
   ·exact W.node.lt x a
   have q:x∈af (A++c::B):=by rw[aB,aG];exact a
   obtain⟨d,e,f⟩:=aT.1 q;exact(W.kid d e).lt _ _ _ _ _ x f
  have m:∀y∈c.2.2.2,y∉F0++(af A++af B):=fun y b f=>by
   have:=Do.1 g y;have c1:1<=List.count y c.2.2.2:=D4.2 b;have t:1<=List.count y (F0++(af A++af B)):=D4.2 f;simp only[DN] at this t;omega
  refine⟨⟨by have:=W.len;simpa using this,?_,fun d e=>?_,?_⟩,fun x a=>?_⟩
  ·have:=W.node.keep n (fun y b f=>m y b (Di _ f));simpa [u] using this
  ·rcases CX.1 e with e | e
   ·exact(W.kid d (Di _ e)).keep n _ _ _ _ _ (fun y b f=>m y b (Dg _ (Di _ (aT.2 ⟨d,e,f⟩))))
   rcases Db.1 e with rfl | e
   ·exact z
   exact(W.kid d (by simp[e])).keep n _ _ _ _ _ (fun y b f=>m y b (Dg _ (Dg _ (aT.2 ⟨d,e,f⟩))))
  ·rw[aB,aG];refine Do.2 (fun x=>?_);have s:=Do.1 g x;have C:=Do.1 o x;simp only[DN] at s ⊢;by_cases a:x∈c'.2.2.2
   ·rcases k x a with j | j
    ·have:1<=List.count x c.2.2.2:=D4.2 j;omega
    have r:∀l:List Nat,(∀y∈l,y<w.heap.size)->List.count x l=0:=fun l v=>List.count_eq_zero.2 (fun f=>by have:=v x f;omega);have D:=r F0 (fun y b=>i y (by simp[b]));have E:=r (af A) (fun y b=>i y (by simp[b]));have F:=r (af B) (fun y b=>i y (by simp[b]));omega
   have:=List.count_eq_zero.2 a;omega
  rw[aB,aG] at a ⊢;simp only[CX] at a ⊢;rcases a with a | a | a | a
  ·simp[a]
  ·simp[a]
  ·rcases k x a with j | j<;>simp[j]
  simp[a]
def ld (S:Bool) (a:List Ent) (EA EB:List Ent) (k:Value):Prop:=S=true->Asc a->(∀e∈EA,kI e<iv k)/\(∀e∈EB,iv k<kI e)
section
variable {S:Bool} {T:BTy} {w w1:World} {h p:Nat} {A B:List Kid} {c c1:Kid} {EA EB:List Ent} {F0:List Nat} {k v:Value} {fd:Bool}
theorem ul (b:EA.length=A.length) (d:EB.length=B.length) (l:ld S (ao (A++c::B) (EA++EB)) EA EB k) (j:S=true->Asc c.2.2.1->c1.2.2.1=eu k v c.2.2.1/\fd=dw k c.2.2.1):
 S=true->Asc (ao (A++c::B) (EA++EB))->ao (A++c1::B) (EA++EB)=eu k v (ao (A++c::B) (EA++EB))/\fd=dw k (ao (A++c::B) (EA++EB)):=fun e a=>by
 obtain⟨f,g⟩:=l e a
 obtain⟨h,o,i⟩:=nM (k:=k) b d a f g
 obtain⟨m,n⟩:=j e i
 exact⟨(yo b d a f g m).symm,by rw[n,h]⟩
theorem uk (b:EA.length=A.length) (d:EB.length=B.length) (e:∀x∈c1.2.2.1,x∈c.2.2.1\/x=(k,v)):∀x∈ao (A++c1::B) (EA++EB),x∈ao (A++c::B) (EA++EB)\/x=(k,v):=fun x a=>by
 rw[au A EA c1 B EB b d] at a;rw[au A EA c B EB b d];simp only[CX] at a ⊢;rcases a with a | a | a
 ·simp[a]
 ·rcases e x a with h | h<;>simp[h]
 simp[a]
theorem xH (W:cR T w h p (EA++EB) (A++c::B) F0) (i:EA.length=A.length) (j:EB.length=B.length) (f:∀d∈A++c::B,7<=d.2.1/\d.2.1<=15) (n:ld S (ao (A++c::B) (EA++EB)) EA EB k)
 (b:il S T w h c.1 c.2.1 c.2.2.1 c.2.2.2 k v fd w1 c1.2.1 c1.2.2.1 c1.2.2.2) (g:c1.1=c.1) (r:c1.2.1<=15):
 il S T w (h+1) p (EA++EB).length (ao (A++c::B) (EA++EB)) (F0++af (A++c::B)) k v fd w1 (EA++EB).length (ao (A++c1::B) (EA++EB)) (F0++af (A++c1::B)):=by
  have l:=(f c (by simp)).1;have m:=b.lo;obtain⟨e,q⟩:=W.kid1 (c':=c1) (by rw[g];exact b.vw.rep (.inr (by omega))) g b.kp b.nd b.nw;refine⟨⟨EA++EB,A++c1::B,F0,rfl,e.node,rfl,.inr ⟨h,rfl,e.len,rfl,fun d a=>⟨e.kid d a,?_⟩⟩⟩,e.nd,C9 _,by omega,b.kp.mono (fun x o=>.inl ?_),q,uk i j b.sub,ul i j n b.ord⟩
  ·rcases CX.1 a with a | a
   ·exact f d (Di _ a)
   rcases Db.1 a with rfl | a
   ·omega
   exact f d (by simp[a])
  rw[aB,aG];simp[o]
theorem xI (W:cR T w h p (EA++EB) (A++c::B) F0) (m:EA.length=A.length) (n:EB.length=B.length) (t:∀d∈A++c::B,7<=d.2.1/\d.2.1<=15) (D:ld S (ao (A++c::B) (EA++EB)) EA EB k)
 (b:il S T w h c.1 c.2.1 c.2.2.1 c.2.2.2 k v fd w1 c1.2.1 c1.2.2.1 c1.2.2.2) (r:c1.1=c.1) (L:c1.2.1=16):
 cR T w1 h p (EA++EB) (A++c1::B) F0/\∀w2,iZ T w1 h p A c1 B EA EB F0 w2->∃es' F',il S T w (h+1) p (EA++EB).length (ao (A++c::B) (EA++EB)) (F0++af (A++c::B)) k v fd w2 ((EA++EB).length+1) es' F':=by
  obtain⟨z,y⟩:=W.kid1 (c':=c1) (by rw[r];exact b.vw.rep (.inr (by omega))) r b.kp b.nd b.nw;refine⟨z,fun w2 o=>?_⟩;obtain⟨e,j,l,g,C,H,J,K,i,F,q⟩:=o;have u:ao (A++j::l::B) (EA++e::EB)=ao (A++c1::B) (EA++EB):=vi m n C;have E:=b.kp.size;refine⟨ao (A++j::l::B) (EA++e::EB),g++af (A++j::l::B),⟨⟨EA++e::EB,A++j::l::B,g,by simp;omega,i.node,rfl,.inr ⟨h,rfl,i.len,rfl,fun d f=>⟨i.kid d f,?_⟩⟩⟩,i.nd,by omega,C9 _,?_,fun x a=>?_,?_,?_⟩⟩
  ·simp only[CX,Db] at f;rcases f with f | rfl | rfl | f
   ·exact t d (by simp[f])
   ·omega
   ·omega
   exact t d (by simp[f])
  ·refine(b.kp.mono (fun x a=>.inl ?_)).trans (F.mono (fun x a=>?_)) |>.mono (Y:=F0++af (A++c::B)) (X:=(F0++af (A++c::B))++(F0++af (A++c1::B))) (fun x a=>?_)
   ·rw[aB,aG];simp[a]
   ·refine .inl ?_;rw[aB A (c1::B),aG c1];rcases CX.1 a with a | a<;>simp[a]
   rcases CX.1 a with a | a
   ·exact .inl a
   exact y x a
  ·rcases q x a with s | s
   ·exact y x s
   exact .inr (by omega)
  ·rw[u];exact uk m n b.sub
  rw[u];exact ul m n D b.ord
end
theorem eS:∀ {K:List Kid} {E:List Ent},K.length=E.length+1->E.Sublist (ao K E)
 | [],_,h=>by simp at h
 | c::K,[],_=>by simp
 | c::K,e::E,h=>by
  have:=eS (K:=K) (E:=E) (by simpa using h);simp only[ao];exact(this.cons_cons e).trans (List.sublist_append_right _ _)
theorem dR {S:Bool} {en:List Ent} {k:Value} {i:Nat} {f:Bool} (o:eK S (en.map (·.1)) k i f) (m:S=true) (n:Asc en):Cut en i k/\(f=true↔∃e,en[i]? =some e/\kI e=iv k):=by
 obtain⟨g,h,l⟩:=o.2.2 ⟨m,List.pairwise_map.2 n⟩;refine⟨⟨fun j e d a=>g j e.1 d (by rw[De,a];rfl),fun j e d a=>h j e.1 d (by rw[De,a];rfl)⟩,l.trans ⟨?_,?_⟩⟩
 ·rintro⟨u,b,c⟩;rw[De] at b;cases a:en[i]? with
  | none=>rw[a] at b;cases b
  | some e=>rw[a] at b;cases b;exact⟨e,rfl,c⟩
 rintro⟨e,a,c⟩;exact⟨e.1,by rw[De,a];rfl,c⟩
theorem jo {en:List Ent} {k:Value} {i:Nat} (b:Cut en i k) (h:Asc en) (m:∀e,en[i]? =some e->kI e≠iv k):(∀e∈en.take i,kI e<iv k)/\(∀e∈en.drop i,iv k<kI e):=by
 refine⟨b.before,fun x g=>?_⟩;have n:=b.behind x g;obtain⟨j,a⟩:=DQ g;rw[DK] at a;rcases DY j with rfl | f
 ·have:=m x a;omega
 cases c:en[i]? with
 | none=>
  rw[D9 (by have:=List.getElem?_eq_none_iff.1 c;omega)] at a;cases a
 | some e=>
  have o:iv k<=kI e:=b.2 i e (C9 _) c;obtain⟨l,rfl⟩:=CV.1 c;obtain⟨d,rfl⟩:=CV.1 a;have:kI en[i]<kI en[i+j]:=Ex.1 h i (i+j) l d (by omega);omega
theorem fE {S:Bool} {en:List Ent} {kids:List Kid} {k:Value} {i:Nat} (l:kids.length=en.length+1) (h:eK S (en.map (·.1)) k i false):ld S (ao kids en) (en.take i) (en.drop i) k:=fun d f=>by
 have a:=f.sublist (eS l);obtain⟨b,c⟩:=dR h d a;exact jo b a (fun e g j=>by simpa using c.2 ⟨e,g,j⟩)
theorem lJ {en:List Ent} {kids:List Kid} {i:Nat} (d:kids.length=en.length+1) (b:i<=en.length):∃c,kids=kids.take i++c::kids.drop (i+1)/\kids[i]? =some c/\(en.take i).length=(kids.take i).length/\(en.drop i).length=(kids.drop (i+1)).length/\(kids.take i).length=i:=by
 have a:kids[i]? =some (kids[i]'(by omega)):=CT _;exact⟨_,du a,a,by rw[CY,CY];omega,by rw[Da,Da];omega,by rw[CY];omega⟩
theorem bo.keep {T:BTy} {w w':World} {Y:List Nat} {h:Nat} {en:List Ent} {kids:List Kid} {d:List Ent} (a:bo T w h en kids d) (j:aa Y w w') (i:∀y∈Y,y∉af kids):bo T w' h en kids d:=by
 rcases a with a | ⟨k,rfl,f,g,e⟩
 ·exact .inl a
 exact .inr ⟨k,rfl,f,g,fun c b=>⟨(e c b).1.keep j _ _ _ _ _ (fun y m l=>i y m (aT.2 ⟨c,b,l⟩)),(e c b).2⟩⟩
theorem q9 {S:Bool} {T:BTy} {w:World} {h p l m kc vc cc i:Nat} {t:Option Addr} {en:List Ent} {kids:List Kid} {E:List Ent} {k v:Value}
 (hN:aU T w p (V l) kc (V m) vc t cc (en.map (·.1)) (en.map (·.2)) (kids.map (·.1))) (hb:bo T w h en kids E) (r:(ay p (V l) (V m) t++af kids).Nodup) (R:eK S (en.map (·.1)) k i true):
 ∃J,il S T w h p en.length E (ay p (V l) (V m) t++af kids) k v true ((w.setCell (U l i) k).setCell (U m i) v) en.length J (ay p (V l) (V m) t++af kids):=by
  have u:i<en.length:=by have:=R.2.1 rfl;simpa using this
  obtain⟨N,K⟩:=hN.set1 (i:=i) (by simpa using u) (by simpa using u) k v;have j:∀y∈[l,m],y∈ay p (V l) (V m) t:=fun y s=>by
   simp only[Db,Dw,or_false] at s;rw[bf];rcases s with rfl | rfl<;>simp[fb]
  have P:∀y∈[l,m],y∉af kids:=fun y s W=>(Dp.1 r).2.2 y (j y s) y W rfl;have e1:(en.map (·.1)).set i k=(en.set i (k,v)).map (·.1):=by rw[EV]
  have e2:(en.map (·.2)).set i v=(en.set i (k,v)).map (·.2):=by rw[EV]
  rw[e1,e2] at N;obtain⟨e,o⟩:∃e,en[i]? =some e:=⟨_,CT u⟩;have n:=sI o (k,v);have q:=du o;rcases hb with ⟨rfl,rfl,rfl⟩ | ⟨h,rfl,D,rfl,z⟩
  ·refine⟨E.set i (k,v),⟨E.set i (k,v),[],_,by simp,N.at_,rfl,.inl ⟨rfl,rfl,rfl⟩⟩,r,C9 _,by omega,K.mono (fun x a=>.inl (Di _ (j x a))),fun x a=>.inl a,fun x a=>?_,fun M F=>?_⟩
   ·rcases List.mem_or_eq_of_mem_set a with h | h
    ·exact .inl h
    exact .inr h
   obtain⟨X,L⟩:=dR R M F;obtain⟨e',g,z⟩:=L.1 rfl;rw[o] at g;cases g;refine⟨(yh X o z).symm,?_⟩;symm;unfold dw;rw[Fo];exact⟨e,CW o,by simpa using z⟩
  refine⟨ao kids (en.set i (k,v)),⟨en.set i (k,v),kids,_,by simp,N.at_,rfl,.inr ⟨h,rfl,by simpa using D,rfl,fun c Q=>⟨(z c Q).1.keep K _ _ _ _ _ (fun y s W=>P y s (aT.2 ⟨c,Q,W⟩)),(z c Q).2⟩⟩⟩,r,C9 _,by omega,K.mono (fun x a=>.inl (Di _ (j x a))),fun x a=>.inl a,fun x a=>?_,fun M F=>?_⟩
  ·obtain⟨c,d,_,H,l2,_⟩:=lJ D (Nat.le_of_lt u);have f:(e::en.drop (i+1)).length=(kids.drop (i+1)).length:=by rw[Dj,Da,Da];omega
   rw[n,d,au _ _ c _ _ H (by simpa using f)] at a;rw[d,q,au _ _ c _ _ H (by simpa using f)];cases Y:kids.drop (i+1) with
   | nil=>rw[Y] at f;simp at f
   | cons b B=>
    rw[Y,cD] at a;rw[cD];simp only[CX,Db] at a ⊢;rcases a with a | a | a | a | a<;>simp[a]
  have O:=F.sublist (eS D);obtain⟨X,L⟩:=dR R M O;obtain⟨e',g,C⟩:=L.1 rfl;rw[o] at g;cases g;obtain⟨c,d,_,H,l2,_⟩:=lJ D (Nat.le_of_lt u);have f:(e::en.drop (i+1)).length=(kids.drop (i+1)).length:=by rw[Dj,Da,Da];omega
  constructor
  ·rw[n];have:=yi (k:=k) (v:=v) (A:=kids.take i) (c:=c) (B:=kids.drop (i+1)) (EA:=en.take i) (EB:=en.drop (i+1)) (e:=e) H f (by rw[<-d,<-q];exact F) C;rw[<-d,<-q] at this;exact this.symm
  symm;unfold dw;rw[Fo];exact⟨e,(eS D).subset (CW o),by simpa using C⟩
theorem gy {S:Bool} {T:BTy} {w w1 w2:World} {p i n':Nat} {m n l a b:Option Addr} {F R t h j:Nat} {en:List Ent} {k v:Value}
 (A:aU T w p m F n R l t (en.map (·.1)) (en.map (·.2)) []) (r:eK S (en.map (·.1)) k i false) (C:n'=en.length+1)
 (M:w1.ownsRow 0 T.tk 1 (.slice a n' h) n' ((en.map (·.1)).take i++k::(en.map (·.1)).drop i)) (D:aa (fb m) w w1) (H:∀g∈fb a,g∈fb m\/w.heap.size<=g)
 (O:w2.ownsRow 0 T.tv 1 (.slice b n' j) n' ((en.map (·.2)).take i++v::(en.map (·.2)).drop i)) (E:aa (fb n) w1 w2) (J:∀g∈fb b,g∈fb n\/w1.heap.size<=g):
 il S T w 0 p en.length en (ay p m n l) k v false ((w2.setCell (U p 0) (.slice a n' h)).setCell (U p 1) (.slice b n' j)) (en.length+1) (en.take i++(k,v)::en.drop i) (ay p a b l):=by
  have W:i<=en.length:=by have:=r.1;simpa using this
  obtain⟨N,K,L⟩:=A.two (ks':=(en.map (·.1)).take i++k::(en.map (·.1)).drop i) (vs':=(en.map (·.2)).take i++v::(en.map (·.2)).drop i) (n':=n') (by simp[CY,Da];omega) (by simp[CY,Da];omega) M D H O E J;have u:(en.map (·.1)).take i++k::(en.map (·.1)).drop i=(en.take i++(k,v)::en.drop i).map (·.1):=by simp[El,En]
  have y:(en.map (·.2)).take i++v::(en.map (·.2)).drop i=(en.take i++(k,v)::en.drop i).map (·.2):=by simp[El,En]
  rw[u,y] at N;refine⟨⟨en.take i++(k,v)::en.drop i,[],ay p a b l,by simp[CY,Da];omega,N.at_,by simp[af],.inl ⟨rfl,rfl,rfl⟩⟩,N.nd,by omega,C9 _,K.mono (fun x c=>.inl (bV x c)),L,fun x c=>?_,fun B o=>?_⟩
  ·simp only[CX,Db] at c;rcases c with c | c | c
   ·exact .inl (DD c)
   ·exact .inr c
   exact .inl (Ef c)
  obtain⟨q,z⟩:=dR r B o;have f:∀e,en[i]? =some e->kI e≠iv k:=fun e d s=>by simpa using z.2 ⟨e,d,s⟩
  refine⟨(yj q o f).symm,?_⟩;obtain⟨P,Q⟩:=jo q o f;symm;refine jQ (fun e d s=>?_);rw[<-Du i en] at d;rcases CX.1 d with d | d
  ·have:=P e d;omega
  have:=Q e d;omega
end Go.Proofs.YtmlmfpikncogpaaGreat
