import Derived.Test.YtmlmfpikncogpaaGreatL15
import Derived.Test.YtmlmfpikncogpaaGreatL16
import Derived.Test.YtmlmfpikncogpaaGreatL17
namespace Go.Proofs.YtmlmfpikncogpaaGreat
open Go.RowKit
set_option linter.unusedSimpArgs false
set_option linter.unusedVariables false
set_option maxRecDepth 100000
set_option maxHeartbeats 16000000
theorem ki {kids:List Kid} {en:List Ent} {j:Nat} {a b:Kid} (m:kids.length=en.length+1) (h:kids[j]? =some a) (c:kids[j+1]? =some b):
 ∃A B EA EB e,kids=A++a::b::B/\en=EA++e::EB/\A.length=j/\EA.length=A.length/\EB.length=B.length:=by
  have l:=(CV.1 c).1;have d:=du h;have i:kids.drop (j+1)=b::kids.drop (j+1+1):=by
   obtain⟨f,g⟩:=CV.1 c;rw[<-g];exact DP f
  rw[i] at d;have k:en[j]? =some (en[j]'(by omega)):=CT _;exact⟨kids.take j,kids.drop (j+1+1),en.take j,en.drop (j+1),en[j]'(by omega),d,du k,by rw[CY];omega,by rw[CY,CY];omega,by rw[Da,Da];omega⟩
theorem Rep.cell0 {T:BTy} {w:World} {h p m:Nat} {d:List Ent} {F:List Nat} (f:Rep T w h p m d F):∃A c,w.cell? (U p 0)=G A m c:=by
 obtain⟨b,_,_,a,⟨g,i,_,_,_,_,e,_⟩,_⟩:=f.view;have:=e.cell 0;rw[Df,<-a] at this;exact⟨g,i,this⟩
theorem vo {T:BTy} {w:World} {h p i:Nat} {en:List Ent} {kids:List Kid} {e:List Nat} (W:cR T w h p en kids e) (k:i<kids.length) (f:¬∃j a,i=j+1/\kids[j]? =some a/\8<=a.2.1):Bg w (kids.map (·.1)) i:=by
 cases i with
 | zero=>exact .inl rfl
 | succ j=>
  have b:kids[j]? =some (kids[j]'(by omega)):=CT _;obtain⟨A,c,g⟩:=(W.kid _ (CW b)).cell0;refine .inr ⟨j,(kids[j]'(by omega)).1,A,_,c,rfl,by rw[De,b];rfl,g,?_⟩;rcases DR (kids[j]'(by omega)).2.1 8 with d | d
  ·omega
  exact absurd ⟨j,_,rfl,b,d⟩ f
theorem sC {T:BTy} {w:World} {h p i:Nat} {en:List Ent} {kids:List Kid} {f:List Nat} (W:cR T w h p en kids f) (l:i<=en.length) (g:¬∃b,kids[i+1]? =some b/\8<=b.2.1):Bf w (kids.map (·.1)) i en.length:=by
 have m:=W.len;rcases Nat.eq_or_lt_of_le l with k | d
 ·exact .inl k
 have a:kids[i+1]? =some (kids[i+1]'(by omega)):=CT _;obtain⟨A,c,j⟩:=(W.kid _ (CW a)).cell0;refine .inr ⟨(kids[i+1]'(by omega)).1,A,_,c,d,by rw[De,a];rfl,j,?_⟩;rcases DR (kids[i+1]'(by omega)).2.1 8 with e | e
 ·omega
 exact absurd ⟨_,a,e⟩ g
theorem bo.dims {T:BTy} {w:World} {h:Nat} {en:List Ent} {kids:List Kid} {c:List Ent} (d:bo T w h en kids c):h=0/\kids.length=0\/h≠0/\kids.length=en.length+1:=by
 rcases d with ⟨b,a,_⟩ | ⟨k,b,a,_⟩
 ·exact .inl ⟨b,by rw[a];rfl⟩
 exact .inr ⟨by omega,a⟩
theorem ub {A B:List Kid} {a b:Kid} {i j:Nat} (g:∀j d,(A++a::b::B)[j]? =some d->j≠i->7<=d.2.1/\d.2.1<=15) (l:A.length=j) (h:i=j\/i=j+1):∀d∈A++B,7<=d.2.1/\d.2.1<=15:=fun d c=>by
 rcases CX.1 c with c | c
 ·obtain⟨k,e⟩:=DQ c;have f:=(CV.1 e).1;exact g k d (by rw[DC f];exact e) (by omega)
 obtain⟨k,e⟩:=DQ c;refine g (A.length+(k+1+1)) d ?_ (by omega);rw[Dv (by omega),Ff];simpa using e
theorem pX {T:BTy} {w:World} {h p:Nat} {EA EB:List Ent} {e:Ent} {A B:List Kid} {W:List Nat} {q r:Nat} {k m a b:List Ent} {o s:List Kid} {i j:List Nat} {xk xv xc X Y rk rv:Nat} {C H:Option Addr} {N O M E F D K L J:Nat} {d g:Value->Prop}
 (f:∀x∈ao (A++(q,a.length,k,i++af o)::(r,b.length,m,j++af s)::B) (EA++e::EB),d x.1/\g x.2)
 (P:zt T w h p EA EB e A B W q r k m a b o s i j xk xv xc X Y rk rv C H N O M E F D K L J) (t:(A++(q,a.length,k,i++af o)::(r,b.length,m,j++af s)::B).length=(EA++e::EB).length+1):
 (∀v∈(EA++e::EB).map (·.1),d v)/\(∀v∈(EA++e::EB).map (·.2),g v)/\(∀v∈a.map (·.1),d v)/\(∀v∈a.map (·.2),g v)/\(∀v∈b.map (·.1),d v)/\(∀v∈b.map (·.2),g v):=by
  have Q:∀x∈EA++e::EB,d x.1/\g x.2:=fun x n=>f x (bL t n);have R:∀x∈a,d x.1/\g x.2:=fun x n=>f x (dC t (c:=(q,a.length,k,i++af o)) (by simp) (P.ba.en_sub x n));have S:∀x∈b,d x.1/\g x.2:=fun x n=>f x (dC t (c:=(r,b.length,m,j++af s)) (by simp) (P.bb.en_sub x n));have y:∀ {l:List Ent},(∀x∈l,d x.1/\g x.2)->∀v∈l.map (·.1),d v:=fun h v u=>by obtain⟨x,n,rfl⟩:=Dt.1 u;exact(h x n).1
  have z:∀ {l:List Ent},(∀x∈l,d x.1/\g x.2)->∀v∈l.map (·.2),g v:=fun h v u=>by obtain⟨x,n,rfl⟩:=Dt.1 u;exact(h x n).2
  exact⟨y Q,z Q,y R,z R,y S,z S⟩
def nQ:=fun m g (n:Value->Prop) (o:Value->Prop) p7=>∀(w:World) (b h p i:Nat) (k l:Value) (en:List Ent) (kids:List Kid) (a:List Nat) (c:Kid) (s:Blk w b m #[k,I 16,l]) (W:cR g w h p en kids a) (t:kids[i]? =some c) (q:c.2.1=6)
 (r:∀j d,kids[j]? =some d->j≠i->7<=d.2.1/\d.2.1<=15) (u:1<=en.length/\en.length<=90) (f:∀x∈ao kids en,n x.1/\o x.2),Calls Tryz.prog p7 #[ptr b,ptr p,I i] w (fun e w'=>e=.returned (.tuple #[])/\Z (iA g w h p en kids a w'))
theorem mz:nQ 204 tyI cX dk 185/\nQ 250 tyS dP dW 189:=by
 refine⟨?_,?_⟩;have F:=trivial;rotate_left;rotate_left
 all_goals
  intro w bt h p i c0 c2 en kids F0 c hT W hc h6 h7 hn f;have hl:=W.len;have hi:=(CV.1 hc).1;by_cases hL:∃j a,i=j+1/\kids[j]? =some a/\8<=a.2.1
  ·obtain⟨j,a,rfl,ha,E⟩:=hL;have a0:=h7 j a ha (by omega);obtain⟨A,B,EA,EB,e,rfl,rfl,R,g,lB⟩:=ki hl ha hc;obtain⟨q,r,a4,a5,k,l,O,Q,a2,a3,xk,xv,xc,T,X,Y,rv,n,u,C,D,z,s,t,o,x,y,v,rfl,rfl,P⟩:=jf W (by omega) (by omega);dsimp only at E a0 h6;obtain⟨n1,N⟩:∃n1,k.length=n1+1:=⟨k.length - 1,by omega⟩;have g7:∀d∈A++B,7<=d.2.1/\d.2.1<=15:=ub h7 R (.inr rfl);obtain⟨J,K,f3,f4,L,M⟩:=pX f P hl;subst R;have da:=P.ba.dims;have db:=P.bb.dims
   first | (have:=F;have H:=kS.1 w bt p q r EA.length n1 (EA++e::EB).length l.length O.length Q.length c0 c2 xk xv xc T X Y rv n u C D z s t o x y v _ _ _ _ _ _ _ _ _ _ hT P.S (by simp) (by simp) (by simp;omega) (by simp[N]) (by simp[N]) (by simp) (by simp) (by simp) (by simp) (by simp) (by rw[g];simp) (by rw[g];simp) (by omega) (by omega) (by omega) (by omega) J K L M f3 f4) | (have H:=kS.2 w bt p q r EA.length n1 (EA++e::EB).length l.length O.length Q.length c0 c2 xk xv xc T X Y rv n u C D z s t o x y v _ _ _ _ _ _ _ _ _ _ hT P.S (by simp) (by simp) (by simp;omega) (by simp[N]) (by simp[N]) (by simp) (by simp) (by simp) (by simp) (by simp) (by rw[g];simp) (by rw[g];simp) (by omega) (by omega) (by omega) (by omega) J K L M f3 f4)
   rw[show (((A.length+1:Nat)):Int)=(EA.length:Int)+1 from by omega];exact H.mono (fun e' w' H=>(vZ P g lB N (by omega) (by omega) g7 H).imp_right bZ)
  have tl:=vo W hi hL;by_cases hR:∃b,kids[i+1]? =some b/\8<=b.2.1
  ·obtain⟨b,hb,E⟩:=hR;have a1:=h7 (i+1) b hb (by omega);obtain⟨A,B,EA,EB,e,rfl,rfl,R,g,lB⟩:=ki hl hc hb;obtain⟨q,r,a4,a5,k,l,O,Q,a2,a3,xk,xv,xc,T,X,Y,rv,n,u,C,D,z,s,t,o,x,y,v,rfl,rfl,P⟩:=jf W (by omega) (by omega);dsimp only at E a1 h6;obtain⟨m,hm⟩:∃m,l.length=m+1:=⟨l.length - 1,by omega⟩;have g7:∀d∈A++B,7<=d.2.1/\d.2.1<=15:=ub h7 R (.inl rfl);obtain⟨J,K,f3,f4,L,M⟩:=pX f P hl;subst R;have da:=P.ba.dims;have db:=P.bb.dims
   first | (have:=F;have H:=kR.1 w bt p q r EA.length m (EA++e::EB).length k.length O.length Q.length c0 c2 xk xv xc T X Y rv n u C D z s t o x y v _ _ _ _ _ _ _ _ _ _ hT P.S (by simp) (by simp) (by simp;omega) (by simp) (by simp) (by simp) (by simp[hm]) (by simp[hm]) (by simp) (by simp) (by rw[g];simp) (by rw[g];simp) (by rw[g];exact tl) (by omega) (by omega) (by omega) (by omega) J K L M) | (have H:=kR.2 w bt p q r EA.length m (EA++e::EB).length k.length O.length Q.length c0 c2 xk xv xc T X Y rv n u C D z s t o x y v _ _ _ _ _ _ _ _ _ _ hT P.S (by simp) (by simp) (by simp;omega) (by simp) (by simp) (by simp) (by simp[hm]) (by simp[hm]) (by simp) (by simp) (by rw[g];simp) (by rw[g];simp) (by rw[g];exact tl) (by omega) (by omega) (by omega) (by omega) J K L M)
   rw[show ((A.length:Nat):Int)=(EA.length:Int) from by omega];exact H.mono (fun e' w' H=>(vY P g lB (by omega) (by omega) g7 H).imp_right bZ)
  have tr:=sC W (by omega) hR;cases i with
  | succ j=>
   have ha:kids[j]? =some (kids[j]'(by omega)):=CT _;have a0:=h7 j _ ha (by omega);have E:(kids[j]'(by omega)).2.1<=7:=by
    rcases DR (kids[j]'(by omega)).2.1 8 with E | E
    ·omega
    exact absurd ⟨j,_,rfl,ha,E⟩ hL
   generalize kids[j]'(by omega)=a at ha a0 E;obtain⟨A,B,EA,EB,e,rfl,rfl,R,g,lB⟩:=ki hl ha hc;obtain⟨q,r,a4,a5,k,l,O,Q,a2,a3,xk,xv,xc,T,X,Y,rv,n,u,C,D,z,s,t,o,x,y,v,rfl,rfl,P⟩:=jf W (by omega) (by omega);dsimp only at E a0 h6;have g7:∀d∈A++B,7<=d.2.1/\d.2.1<=15:=ub h7 R (.inr rfl);obtain⟨J,K,f3,f4,L,M⟩:=pX f P hl;subst R;have da:=P.ba.dims;have db:=P.bb.dims
   first | (have:=F;have H:=jD.1 w bt p q r EA.length EB.length (EA++e::EB).length k.length O.length l.length Q.length c0 c2 xk xv xc T X Y rv n u C D z s t o x y v _ _ _ _ _ _ _ _ _ _ hT P.S P.f (by simp) (by simp) (by simp;omega) (by simp) (by simp) (by simp) (by simp) (by simp) (by simp) (by simp;omega) (by rw[g];simp) (by rw[g];simp) (by rw[g];exact tr) (by omega) (by omega) (by omega) J K L M) | (have H:=jD.2 w bt p q r EA.length EB.length (EA++e::EB).length k.length O.length l.length Q.length c0 c2 xk xv xc T X Y rv n u C D z s t o x y v _ _ _ _ _ _ _ _ _ _ hT P.S P.f (by simp) (by simp) (by simp;omega) (by simp) (by simp) (by simp) (by simp) (by simp) (by simp) (by simp;omega) (by rw[g];simp) (by rw[g];simp) (by rw[g];exact tr) (by omega) (by omega) (by omega) J K L M)
   rw[show (((A.length+1:Nat)):Int)=(EA.length:Int)+1 from by omega];exact H.mono (fun e' w' H=>(o9 P g lB (by omega) g7 H).imp_right bZ)
  | zero=>
   have hb:kids[0+1]? =some (kids[0+1]'(by omega)):=CT _;have a1:=h7 (0+1) _ hb (by omega);have E:(kids[0+1]'(by omega)).2.1<=7:=by
    rcases DR (kids[0+1]'(by omega)).2.1 8 with E | E
    ·omega
    exact absurd ⟨_,hb,E⟩ hR
   generalize kids[0+1]'(by omega)=b at hb a1 E;obtain⟨A,B,EA,EB,e,rfl,rfl,R,g,lB⟩:=ki hl hc hb;obtain⟨q,r,a4,a5,k,l,O,Q,a2,a3,xk,xv,xc,T,X,Y,rv,n,u,C,D,z,s,t,o,x,y,v,rfl,rfl,P⟩:=jf W (by omega) (by omega);dsimp only at E a1 h6;have g7:∀d∈A++B,7<=d.2.1/\d.2.1<=15:=ub h7 R (.inl rfl);obtain⟨J,K,f3,f4,L,M⟩:=pX f P hl;obtain rfl:A=[]:=Dh R;obtain rfl:EA=[]:=Dh (by rw[g];rfl);have da:=P.ba.dims;have db:=P.bb.dims
   first | (have:=F;have H:=jE.1 w bt p q r EB.length ([]++e::EB).length k.length O.length l.length Q.length c0 c2 xk xv xc T X Y rv n u C D z s t o x y v _ _ _ _ _ _ _ _ _ _ hT P.S P.f (by simp) (by simp) (by simp;omega) (by simp) (by simp) (by simp) (by simp) (by simp) (by simp) (by simp;omega) (by simp) (by simp) (by omega) (by omega) (by omega) J K L M) | (have H:=jE.2 w bt p q r EB.length ([]++e::EB).length k.length O.length l.length Q.length c0 c2 xk xv xc T X Y rv n u C D z s t o x y v _ _ _ _ _ _ _ _ _ _ hT P.S P.f (by simp) (by simp) (by simp;omega) (by simp) (by simp) (by simp) (by simp) (by simp) (by simp) (by simp;omega) (by simp) (by simp) (by omega) (by omega) (by omega) J K L M)
   exact H.mono (fun e' w' H=>(o9 P g lB (by omega) g7 H).imp_right bZ)
def jr (S:Bool) (T:BTy) (w:World) (h p m:Nat) (d:List Ent) (F:List Nat) (k:Value) (e:Ending) (w':World):Prop:=
 ∃old b f a c,e=.returned (.tuple #[old,.bool b])/\Z (ef S T w h p m d F k b old w' f a c)
theorem ef.drew {S:Bool} {T:BTy} {w:World} {h p m:Nat} {d:List Ent} {F:List Nat} {k:Value} {e:Bool} {old:Value} {w':World} {f:Nat} {b:List Ent} {c:List Nat} (a:ef S T w.drew h p m d F k e old w' f b c):ef S T w h p m d F k e old w' f b c:=
 ⟨a.vw,a.nd,a.lo,a.hi,(aa.refl _ w).drew.trans a.kp,a.nw,a.sub,a.fdm,a.ord⟩
theorem ef.keepR {S:Bool} {T:BTy} {w:World} {h p m:Nat} {d:List Ent} {F:List Nat} {k:Value} {e:Bool} {old:Value} {w' w2:World} {g:Nat} {b:List Ent} {c:List Nat} (a:ef S T w h p m d F k e old w' g b c) (f:aa [] w' w2):ef S T w h p m d F k e old w2 g b c:=
 ⟨a.vw.keep f (by simp),a.nd,a.lo,a.hi,a.kp.trans f.nil,a.nw,a.sub,a.fdm,a.ord⟩
theorem iA.from_ {T:BTy} {w w1 w2:World} {h p:Nat} {en:List Ent} {kids:List Kid} {d:List Nat} (n:iA T w1 h p en kids d w2) (k:aa [] w w1):iA T w h p en kids d w2:=by
 obtain⟨c,a,b,e,f,g,i,j,l,m⟩:=n;exact⟨c,a,b,e,f,g,i,j,k.nil.trans l,fun x o=>(m x o).imp_right (Dc k.size)⟩
theorem uf {A B:List Kid} {c c1:Kid} {EA EB:List Ent} {e x:Ent} (f:EA.length=A.length) (d:(e::EB).length=B.length) (h:x∈c.2.2.1) (g:∀y∈c1.2.2.1,y∈c.2.2.1):∀y∈ao (A++c1::B) (EA++x::EB),y∈ao (A++c::B) (EA++e::EB):=fun y a=>by
 rw[au A EA c1 B (x::EB) f (by simpa using d)] at a;rw[au A EA c B (e::EB) f d];cases B with
 | nil=>simp at d
 | cons b B=>
  rw[cD] at a ⊢;simp only[CX,Db] at a ⊢;rcases a with a | a | a | a | a
  ·simp[a]
  ·simp[g y a]
  ·simp[a,h]
  ·simp[a]
  simp[a]
theorem kM {α:Type _} (A B:List α) (c:α):(A++c::B)[A.length]? =some c:=by rw[Dv (C9 _),Ez];rfl
theorem mx {A B:List Kid} {c:Kid} (h:∀d∈A++B,7<=d.2.1/\d.2.1<=15):∀j d,(A++c::B)[j]? =some d->j≠A.length->7<=d.2.1/\d.2.1<=15:=fun j d a g=>by
 rcases DR j A.length with e | b
 ·rw[DC e] at a;exact h d (Di _ (CW a))
 rw[Dv b] at a;obtain⟨k,f⟩:∃k,j - A.length=k+1:=⟨j - A.length - 1,by omega⟩;rw[f,EI] at a;exact h d (Dg _ (CW a))
theorem fS:(∀(w:World) (O p h:Nat) (c0 c2:Value) (en:List Ent) (kids:List Kid) (es:List Ent) (F0:List Nat) (kx:Int)
 (hT:Blk w O 204 #[c0,I 16,c2]) (hN:aX tyI w p (en.map (·.1)) (en.map (·.2)) (kids.map (·.1)) F0) (hb:bo tyI w h en kids es) (X:(F0++af kids).Nodup) (b5:O∉F0++af kids) (l:en.length<=15) (b7:h=0\/1<=en.length)
 (f:∀x∈es,cX x.1/\dk x.2)
 (IH:∀D,h=D+1->∀(kx:Int) (w:World) (p m:Nat) (es:List Ent) (F:List Nat),Blk w O 204 #[c0,I 16,c2]->iY tyI w D p m es F->F.Nodup->O∉F->m<=15->(D=0\/1<=m)->(∀x∈es,cX x.1/\dk x.2)->
  Calls Tryz.prog 157 #[ptr O,ptr p,I kx] w (jr true tyI w D p m es F (I kx))),Calls Tryz.prog 157 #[ptr O,ptr p,I kx] w (jr true tyI w h p en.length es (F0++af kids) (I kx)))/\
 (∀(w:World) (O p h:Nat) (c0 c2:Value) (en:List Ent) (kids:List Kid) (es:List Ent) (F0:List Nat) (kx:ByteArray)
 (hT:Blk w O 250 #[c0,I 16,c2]) (hN:aX tyS w p (en.map (·.1)) (en.map (·.2)) (kids.map (·.1)) F0) (hb:bo tyS w h en kids es) (X:(F0++af kids).Nodup) (b5:O∉F0++af kids) (l:en.length<=15) (b7:h=0\/1<=en.length)
 (f:∀x∈es,dP x.1/\dW x.2)
 (IH:∀D,h=D+1->∀(kx:ByteArray) (w:World) (p m:Nat) (es:List Ent) (F:List Nat),Blk w O 250 #[c0,I 16,c2]->iY tyS w D p m es F->F.Nodup->O∉F->m<=15->(D=0\/1<=m)->(∀x∈es,dP x.1/\dW x.2)->
  Calls Tryz.prog 158 #[ptr O,ptr p,Value.string kx] w (jr false tyS w D p m es F (Value.string kx))),Calls Tryz.prog 158 #[ptr O,ptr p,Value.string kx] w (jr false tyS w h p en.length es (F0++af kids) (Value.string kx))):=by
 refine⟨?_,?_⟩
 have a:=trivial
 rotate_left
 rotate_left
 all_goals
  intro w O p h c0 c2 en kids es F0 kx hT hN hb X b5 l b7 f IH;obtain⟨b3,r,b4,z,ak,J,N,rfl⟩:=hN.c (Dp.1 X).1
  first | (have:=a;have fk:∀x∈en.map (·.1),cX x:=fun v hv=>by obtain⟨x,L,rfl⟩:=Dt.1 hv;exact(f x (hb.en_sub x L)).1) | (have fk:∀x∈en.map (·.1),dP x:=fun v hv=>by obtain⟨x,L,rfl⟩:=Dt.1 hv;exact(f x (hb.en_sub x L)).1)
  first | (have:=a;have fv:∀x∈en.map (·.2),dk x:=fun v hv=>by obtain⟨x,L,rfl⟩:=Dt.1 hv;exact(f x (hb.en_sub x L)).2) | (have fv:∀x∈en.map (·.2),dW x:=fun v hv=>by obtain⟨x,L,rfl⟩:=Dt.1 hv;exact(f x (hb.en_sub x L)).2)
  have hl:h=0/\kids=[]\/kids.length=en.length+1:=by
   rcases hb with ⟨h1,h2,_⟩ | ⟨_,_,h2,_⟩
   ·exact .inl ⟨h1,h2⟩
   exact .inr h2
  first | (have:=a;have ba:=kQ.1 w p (en.map (·.1)) (en.map (·.2)) (kids.map (·.1)) _ kx N.at_ fk (by simp;omega)) | (have ba:=kQ.2 w p (en.map (·.1)) (en.map (·.2)) (kids.map (·.1)) _ kx N.at_ fk (by simp;omega))
  first | (have:=a;have bd:=bM.1 w p (en.map (·.1)) (en.map (·.2)) (kids.map (·.1)) _ N.at_ (by rcases hl with ⟨_,rfl⟩ | h2<;>simp<;>omega)) | (have bd:=bM.2 w p (en.map (·.1)) (en.map (·.2)) (kids.map (·.1)) _ N.at_ (by rcases hl with ⟨_,rfl⟩ | h2<;>simp<;>omega))
  first | (have:=a;have o1:Z (∀v∈en.map (·.1),v.oneCell'=true):=bZ (fun v hv=>dQ (fk v hv))) | have o1:Z (∀v∈en.map (·.1),v.oneCell'=true):=bZ (fun v hv=>dO (fk v hv))
  first | (have:=a;have o2:Z (∀v∈en.map (·.2),v.oneCell'=true):=bZ (fun v hv=>dN (fv v hv))) | have o2:Z (∀v∈en.map (·.2),v.oneCell'=true):=bZ (fun v hv=>dM (fv v hv))
  obtain⟨b,a0⟩:∃n,n=en.length:=⟨_,rfl⟩;have l1:(en.map (·.1)).length=b:=by simp[a0]
  have l2:(en.map (·.2)).length=b:=by simp[a0]
  rw[<-a0] at l
  first | (have:=a;have b0:Blk w p 210 #[.slice b3 b r,.slice b4 b z,.slice ak (kids.map (·.1)).length J]:=by have:=N.blk;rw[l1,l2] at this;exact this) | (have b0:Blk w p 254 #[.slice b3 b r,.slice b4 b z,.slice ak (kids.map (·.1)).length J]:=by have:=N.blk;rw[l1,l2] at this;exact this)
  have x0:=b0.cell 0;have x1:=b0.cell 1;replace b0:=bZ b0;replace N:=bZ N;replace hb:=bZ hb;replace X:=bZ X;replace b5:=bZ b5;replace f:=bZ f;replace fk:=bZ fk;replace fv:=bZ fv;replace hl:=bZ hl;have T0:=bZ hT;clear hT;replace IH:=bZ IH;replace a0:=bZ a0;replace b7:=bZ b7;replace l1:=bZ l1;replace l2:=bZ l2;unfold ptr at*
  first | (have:=a;go_enter Tryz.func157,Tryz.ntmps157) | go_enter Tryz.func158,Tryz.ntmps158
  go_wp2_with fail;refine ba.mono ?_;rintro e w' ⟨i,ok,rfl,hf,rfl⟩;clear ba;have hi:i<=b:=by have:=hf.o.1;rw[l1.o] at this;exact this
  rcases hl.o with ⟨rfl,rfl⟩ | M
  ·obtain rfl:en=es:=by
    rcases hb.o with ⟨_,_,h3⟩ | ⟨_,h1,_⟩
    ·exact h3.symm
    omega
   have E:decide ((List.map (fun x:Kid=>x.1) []).length=0)=true:=rfl;rw[E] at bd;clear E IH;go_wp2_with fail;refine bd.mono ?_;rintro e w' ⟨rfl,rfl⟩;clear bd;cases ok with
   | false=>
    go_wp2_with fail
    first | (have:=a;refine bodyPost_ret (v:=.tuple #[.slice none 0 0,.bool false]) (by simp[results,Tryz.results157,go_sem]) rfl ?_) | refine bodyPost_ret (v:=.tuple #[I 0,.bool false]) (by simp[results,Tryz.results158,go_sem]) rfl ?_
    exact⟨_,false,_,_,_,rfl,bZ (Br N.o.at_ N.o.nd hf.o)⟩
   | true=>
    have hi:i<b:=by have:=hf.o.2.1 rfl;rw[l1.o] at this;exact this
    obtain⟨m,e8⟩:∃m,b=i+1+m:=⟨b - i - 1,by omega⟩;obtain⟨g,db⟩:=aV N.o.rk (by rw[l1.o];omega);obtain⟨q,dc⟩:=aV N.o.rv (by rw[l2.o];omega);subst db dc
    first | (have:=a;have b2:w.ownsRow 0 2 1 (.slice (V g) b r) b (en.map (·.1)):=by have:=N.o.rk;rw[l1.o] at this;exact this) | (have b2:w.ownsRow 0 9 1 (.slice (V g) b r) b (en.map (·.1)):=by have:=N.o.rk;rw[l1.o] at this;exact this)
    first | (have:=a;have a8:w.ownsRow 0 62 1 (.slice (V q) b z) b (en.map (·.2)):=by have:=N.o.rv;rw[l2.o] at this;exact this) | (have a8:w.ownsRow 0 2 1 (.slice (V q) b z) b (en.map (·.2)):=by have:=N.o.rv;rw[l2.o] at this;exact this)
    obtain⟨e0,C⟩:∃e,en[i]? =some e:=⟨_,CT (by rw[<-a0.o];exact hi)⟩;obtain⟨ar,c3⟩:=e0
    first | (have:=a;obtain⟨eA,a6,ec,rfl⟩:=fv.o c3 (CW (by rw[De,C];rfl))) | (obtain⟨ey,rfl⟩:=fv.o c3 (CW (by rw[De,C];rfl)))
    first | (have:=a;have bn:=aj a8 (j:=i) (u:=Value.slice eA a6 ec) (by rw[De,C];rfl)) | (have bn:=aj a8 (j:=i) (u:=I ey) (by rw[De,C];rfl))
    first | (have:=a;have RK:Z (w.drew.ownsRow 0 2 1 (.slice (V g) b r) b (en.map (·.1))):=bZ (ab b2 (aa.refl [] w).drew)) | have RK:Z (w.drew.ownsRow 0 9 1 (.slice (V g) b r) b (en.map (·.1))):=bZ (ab b2 (aa.refl [] w).drew)
    first | (have:=a;have RV:Z (w.drew.ownsRow 0 62 1 (.slice (V q) b z) b (en.map (·.2))):=bZ (ab a8 (aa.refl [] w).drew)) | have RV:Z (w.drew.ownsRow 0 2 1 (.slice (V q) b z) b (en.map (·.2))):=bZ (ab a8 (aa.refl [] w).drew)
    first | (have:=a;have XB:Z (Blk w.drew p 210 #[.slice (V g) b r,.slice (V q) b z,.slice ak (List.map (fun x:Kid=>x.1) []).length J]):=bZ b0.o.drew) | have XB:Z (Blk w.drew p 254 #[.slice (V g) b r,.slice (V q) b z,.slice ak (List.map (fun x:Kid=>x.1) []).length J]):=bZ b0.o.drew
    have bh:Z (p≠g/\p≠q/\q≠g):=bZ (by
     obtain⟨⟨a1,a2,a3⟩,a4,a5⟩:=aW.1 N.o.nd;exact⟨fun e=>a1 (by simp[fb,e]),fun e=>a2 (by simp[fb,e]),fun e=>(a4 g (by simp[fb])).1 (by simp[fb,e])⟩)
    have R:w.drew.cell? (U p 0)=G (V g) b r/\w.drew.cell? (U p 1)=G (V q) b z:=⟨x0,x1⟩;have Nd:=bZ N.o.drew
    first | (have:=a;have da:Z (∀ {W:World} {m':Nat} {b9:List Ent} {F':List Nat} {old:Value},ef true tyI w.drew 0 p en.length en (ay p (V g) (V q) ak++af []) (I kx) true old W m' b9 F'->ef true tyI w 0 p en.length en (ay p (V g) (V q) ak++af []) (I kx) true old W m' b9 F'):=bZ (fun h=>h.drew)) | have da:Z (∀ {W:World} {m':Nat} {b9:List Ent} {F':List Nat} {old:Value},ef false tyS w.drew 0 p en.length en (ay p (V g) (V q) ak++af []) (Value.string kx) true old W m' b9 F'->ef false tyS w 0 p en.length en (ay p (V g) (V q) ak++af []) (Value.string kx) true old W m' b9 F'):=bZ (fun h=>h.drew)
    have dn:Z (en.length=(i+m)+1):=bZ (by rw[<-a0.o];omega);have f4:(i:Int)<(b:Int):=by omega
    have fx:IntKind.i64.wrap ((i:Int)+1)=(i:Int)+1:=C0 _ (by omega);have bi:=bZ e8;replace C:=bZ C;clear b2 a8 b0 fk fv f hb X b5 hl N T0 e8;go_wp2_with fail;refine bj (by kernel_rfl) ?_;refine JW 1 ?_
    try simp only[PT,Y1,Y2,Y3]
    refine bu (S:=(fun w':World=>w'.cell? (U p 0)=G (V g) b r/\w'.cell? (U p 1)=G (V q) b z)) (n:=20) _ _ _ _ ?_;generalize w.drew=wd at*;refine ord [0,2,3,4,5,6,7,8,10,11,12,13,14,15,16] ?_
    iterate 15 (refine tq R ?_;try simp only[PT,Y1,Y2,Y3])
    refine av ?_;refine J1 9 fun K hK=>?_;dsimp only[Y1,Y2,Y3];go_simp
    first | (have:=a;refine(Et (cw.1 _ g i (i+1) m b (i+m) r (en.map (·.1)) l1.o rfl bi.o rfl RK.o o1.o (by omega)) ?_)) | refine(Et (cw.2.2.2.1 _ g i (i+1) m b (i+m) r (en.map (·.1)) l1.o rfl bi.o rfl RK.o o1.o (by omega)) ?_)
    rintro e w4 ⟨rfl,ek,k1⟩;have R:w4.cell? (U p 0)=G (V g) b r/\w4.cell? (U p 1)=G (V q) b z:=⟨k1.o.cellEq R.1 (fun l=>bh.o.1 (CZ.1 l)),k1.o.cellEq R.2 (fun l=>bh.o.1 (CZ.1 l))⟩;replace RV:=bZ (aq RV.o k1.o (fun y hy l=>bh.o.2.2 (by rw[CZ.1 hy] at l;simp[fb] at l;exact l.symm)));replace XB:=bZ (XB.o.keep k1.o (fun l=>bh.o.1 (CZ.1 l)));refine hK _ _ (.inr R) ?_;clear hK K RK
    try simp only[PT,Y1,Y2,Y3]
    refine J1 17 fun K hK=>?_;dsimp only[Y1,Y2,Y3];go_simp
    first | (have:=a;refine(Et (cw.2.1 _ q i (i+1) m b (i+m) z (en.map (·.2)) l2.o rfl bi.o rfl RV.o o2.o (by omega)) ?_)) | refine(Et (cw.1 _ q i (i+1) m b (i+m) z (en.map (·.2)) l2.o rfl bi.o rfl RV.o o2.o (by omega)) ?_)
    rintro e w5 ⟨rfl,ep,k2⟩;have R:w5.cell? (U p 0)=G (V g) b r/\w5.cell? (U p 1)=G (V q) b z:=⟨k2.o.cellEq R.1 (fun l=>bh.o.2.1 (CZ.1 l)),k2.o.cellEq R.2 (fun l=>bh.o.2.1 (CZ.1 l))⟩;replace XB:=bZ (XB.o.keep k2.o (fun l=>bh.o.2.1 (CZ.1 l)));have fy:=XB.o.cell 0;have fz:=XB.o.cell 1;have xf:=XB.o.frozen;refine hK _ _ (.inr R) ?_;clear hK K RV
    try simp only[PT,Y1,Y2,Y3]
    refine ord [18,19] ?_
    iterate 2 (refine tq R ?_;try simp only[PT,Y1,Y2,Y3])
    refine av ?_;refine JQ 20 ?_
    try simp only[PT,Y1,Y2,Y3]
    refine JQ 21 ?_
    try simp only[PT,Y1,Y2,Y3]
    refine JQ 22 ?_
    try simp only[PT,Y1,Y2,Y3]
    refine JQ 23 ?_
    try simp only[PT,Y1,Y2,Y3]
    refine JD ?_;go_wp2_with fail
    first | (have:=a;refine bodyPost_ret (v:=.tuple #[Value.slice eA a6 ec,.bool true]) (by simp[results,Tryz.results157,go_sem]) rfl ?_) | refine bodyPost_ret (v:=.tuple #[I ey,.bool true]) (by simp[results,Tryz.results158,go_sem]) rfl ?_
    first | (have:=a;exact⟨_,true,_,_,_,rfl,bZ (da.o (qW (S:=true) Nd.o hf.o C.o dn.o ek.o k1.o ep.o k2.o))⟩) | exact⟨_,true,_,_,_,rfl,bZ (da.o (qW (S:=false) Nd.o hf.o C.o dn.o ek.o k1.o ep.o k2.o))⟩
  ·clear b0
   first | (have:=a;have ob:∃D,h=D+1/\es=ao kids en/\∀c∈kids,Rep tyI w D c.1 c.2.1 c.2.2.1 c.2.2.2/\7<=c.2.1/\c.2.1<=15:=?_) | have ob:∃D,h=D+1/\es=ao kids en/\∀c∈kids,Rep tyS w D c.1 c.2.1 c.2.2.1 c.2.2.2/\7<=c.2.1/\c.2.1<=15:=?_
   rotate_left
   ·rcases hb.o with ⟨_,h2,_⟩ | ⟨D,h1,_,h3,h4⟩
    ·rw[h2] at M;simp at M
    exact⟨D,h1,h3,h4⟩
   obtain⟨D,rfl,f2,bb⟩:=ob;subst f2;have dn:1<=b:=by
    rcases b7.o with h | h
    ·omega
    rw[a0.o];exact h
   first | (have:=a;have W:Z (cR tyI w D p en kids (ay p b3 b4 ak)):=bZ ⟨M,N.o.at_,fun c hc=>(bb c hc).1,X.o⟩) | have W:Z (cR tyS w D p en kids (ay p b3 b4 ak)):=bZ ⟨M,N.o.at_,fun c hc=>(bb c hc).1,X.o⟩
   obtain⟨c,T,b6,la,lb,lc⟩:=lJ M (by rw[<-a0.o];exact hi)
   first | (have:=a;have co:Z (ok=false->ld true (ao kids en) (en.take i) (en.drop i) (I kx)):=bZ (fun h=>by subst h;exact fE M hf.o)) | (have co:Z (ok=false->ld false (ao kids en) (en.take i) (en.drop i) (Value.string kx)):=bZ (fun h=>by subst h;exact fE M hf.o))
   have c5:=(Du i en).symm;generalize hA:kids.take i=A at*;generalize hB:kids.drop (i+1)=B at*;generalize d5:en.take i=EA at*;generalize d6:en.drop i=EB at*;have d1:Z (∀y∈c.2.2.2,y∉ay p b3 b4 ak/\y≠O):=bZ (fun y hy=>⟨fun l=>(Dp.1 X.o).2.2 y l y (by rw[T,aB,aG];simp[hy]) rfl,fun e=>b5.o (by rw[T,aB,aG,<-e];simp[hy])⟩);have a7:=d1;clear d1;have c7:(List.map (fun x:Kid=>x.1) kids).length=b+1:=by rw[Df,M,a0.o]
   have d7:(List.map (fun x:Kid=>x.1) kids)[i]? =some c.1:=by rw[De,b6];rfl
   have E:decide ((List.map (fun x:Kid=>x.1) kids).length=0)=false:=by rw[c7];simp
   rw[E] at bd;obtain⟨t,e6⟩:=aV N.o.rc (by rw[c7];omega);subst e6;have x2:w.cell? (U p 2)=G (V t) (b+1) J:=by have:=N.o.blk.cell 2;rw[c7] at this;exact this
   have xq:w.cell? (U t i)=some (.pointer (V c.1)):=aj N.o.rc (by rw[De,d7];rfl);have fs:(i:Int)<(b:Int)+1:=by omega
   have e5:t∈ay p b3 b4 (V t):=bf.2 (by simp[fb]);have ee:p∈ay p b3 b4 (V t):=bf.2 (.inl rfl);have h7:Z (∀d∈A++c::B,7<=d.2.1/\d.2.1<=15):=bZ (fun d E=>(bb d (by rw[T];exact E)).2)
   first | (have:=a;have bs:Z (Rep tyI w D c.1 c.2.1 c.2.2.1 c.2.2.2):=bZ (bb c (CW b6)).1) | have bs:Z (Rep tyS w D c.1 c.2.1 c.2.2.1 c.2.2.2):=bZ (bb c (CW b6)).1
   have c4:Z (c.2.2.2.Nodup):=bZ (by
    have d2:=X.o;rw[T,aB,aG] at d2;refine Do.2 (fun x=>?_);have:=Do.1 d2 x;simp only[DN] at this;omega)
   first | (have:=a;have bp:Z (∀x∈c.2.2.1,cX x.1/\dk x.2):=bZ (fun x L=>f.o x (dC M (CW b6) L))) | have bp:Z (∀x∈c.2.2.1,dP x.1/\dW x.2):=bZ (fun x L=>f.o x (dC M (CW b6) L))
   go_wp2_with fail;refine bd.mono ?_;rintro e w' ⟨rfl,rfl⟩;clear bd;cases ok with
   | false=>
    have hs:=bZ (co.o rfl);clear co E c7 d7 x0 x1 hb hf N;subst T;subst c5;have b8:=IH.o D rfl kx w c.1 c.2.1 c.2.2.1 c.2.2.2 T0.o bs.o.toView c4.o (fun l=>(a7.o _ l).2 rfl) (h7.o c (by simp)).2 (.inr (by have:=(h7.o c (by simp)).1;omega)) bp.o;replace la:=bZ la;replace lb:=bZ lb;replace lc:=bZ lc;replace M:=bZ M;clear bb IH hA hB d5 d6 b6;unfold ptr at b8;go_wp2_with fail;refine b8.mono ?_;clear b8;rintro e w1 ⟨old,fd,m1,s,F1,rfl,hp⟩
    as_aux_lemma=>
     have an:=vD (c1:=(c.1,m1,s,F1)) W.o la.o lb.o h7.o hs.o hp.o rfl;have W1:=bZ an.1;have P:=bZ an.2.1;have Q:=bZ an.2.2;have cn:(EA++EB).length=b:=a0.o.symm
     first | (have:=a;have fW:Z (∀x∈ao (A++(c.1,m1,s,F1)::B) (EA++EB),cX x.1/\dk x.2):=bZ (fun x L=>f.o x ?_)) | have fW:Z (∀x∈ao (A++(c.1,m1,s,F1)::B) (EA++EB),dP x.1/\dW x.2):=bZ (fun x L=>f.o x ?_)
     rotate_left
     ·rw[au A EA _ B EB la.o lb.o] at L ⊢;simp only[CX] at L ⊢;rcases L with L | L | L
      ·exact .inl L
      ·exact .inr (.inl (hp.o.sub x L))
      exact .inr (.inr L)
     rw[CU] at cn;clear an;have c8:w1.cell? (U p 2)=G (V t) (b+1) J:=hp.o.kp.cellEq x2 (fun l=>(a7.o _ l).1 ee);have c9:w1.cell? (U t i)=some (.pointer (V c.1)):=hp.o.kp.cellEq xq (fun l=>(a7.o _ l).1 e5)
     first | (have:=a;have T1:Z (Blk w1 O 204 #[c0,I 16,c2]):=bZ (T0.o.keep hp.o.kp (fun l=>(a7.o _ l).2 rfl))) | have T1:Z (Blk w1 O 250 #[c0,I 16,c2]):=bZ (T0.o.keep hp.o.kp (fun l=>(a7.o _ l).2 rfl))
     first | (have:=a;have CL:Z (∀n,Calls Tryz.prog 184 #[.pointer (V O)] (w1.drewN n) fun e w'=>e=.returned (I 7)/\w1.drewN n=w'):=bZ (fun n=>ie (w1.drewN n) O c0 c2 (T1.o.cell 1))) | have CL:Z (∀n,Calls Tryz.prog 188 #[.pointer (V O)] (w1.drewN n) fun e w'=>e=.returned (I 7)/\w1.drewN n=w'):=bZ (fun n=>ic (w1.drewN n) O c0 c2 (T1.o.cell 1))
     have kn:Z (∀n,aa [] w1 (w1.drewN n)):=bZ (fun n=>(aa.refl [] w1).drewN n);obtain⟨qA,qc,q0⟩:∃qA qc,w1.cell? (U c.1 0)=G qA m1 qc:=by
      obtain⟨ex,_,_,dl,⟨qA,qc,_,_,_,_,hB,_⟩,_⟩:=hp.o.vw;refine⟨qA,qc,?_⟩;have:=hB.cell 0;rw[Df,<-dl] at this;exact this
     have e3:=h7.o c (by simp);have fl:∀n,(w1.drewN n).cell? (U p 2)=G (V t) (b+1) J:=fun n=>c8;have fn:∀n,(w1.drewN n).cell? (U t i)=some (.pointer (V c.1)):=fun n=>c9;have fi:∀n,(w1.drewN n).cell? (U c.1 0)=G qA m1 qc:=fun n=>q0;clear x2 xq c8 c9 q0 a7 T0;have e7:=hp.o.lo;have e9:=hp.o.hi;by_cases f6:m1<7
     ·obtain rfl:m1=6:=by omega
      first | (have:=a;have CF:=fun n=>mz.1 (w1.drewN n) O D p A.length c0 c2 (EA++EB) (A++(c.1,6,s,F1)::B) (ay p b3 b4 (V t)) (c.1,6,s,F1) (T1.o.keep (kn.o n) (by simp)) (W1.o.keep0 (kn.o n)) (kM A B _) rfl (mx (fun d E=>h7.o d (by rcases CX.1 E with E | E<;>simp[E]))) ⟨by simp;omega,by simp;omega⟩ fW.o) | (have CF:=fun n=>mz.2 (w1.drewN n) O D p A.length c0 c2 (EA++EB) (A++(c.1,6,s,F1)::B) (ay p b3 b4 (V t)) (c.1,6,s,F1) (T1.o.keep (kn.o n) (by simp)) (W1.o.keep0 (kn.o n)) (kM A B _) rfl (mx (fun d E=>h7.o d (by rcases CX.1 E with E | E<;>simp[E]))) ⟨by simp;omega,by simp;omega⟩ fW.o)
      rw[lc.o] at CF;replace CF:=bZ CF;clear P hp h7 fW T1 W1;unfold ptr at CF;go_wp2_with fail;go_quiet (with_reducible exact bw (CL.o _));go_wp2_with fail;refine(CF.o _).mono ?_;clear CF;rintro e w2 ⟨rfl,c6⟩;obtain⟨m',b9,F',hR⟩:=Q.o w2 (c6.o.from_ (kn.o _));clear Q c6;go_wp2_with fail
      first | (have:=a;refine bodyPost_ret (v:=.tuple #[old,.bool fd]) (by simp[results,Tryz.results157,go_sem]) rfl ?_) | refine bodyPost_ret (v:=.tuple #[old,.bool fd]) (by simp[results,Tryz.results158,go_sem]) rfl ?_
      exact⟨old,fd,_,_,_,rfl,bZ hR⟩
     have hR:=bZ (P.o (by show 7<=m1;omega));have f3:¬(m1:Int)<7:=by omega
     clear P Q hp h7 fW T1 W1;go_wp2_with fail;go_quiet (with_reducible exact bw (CL.o _));go_wp2_with fail
     first | (have:=a;refine bodyPost_ret (v:=.tuple #[old,.bool fd]) (by simp[results,Tryz.results157,go_sem]) rfl ?_) | refine bodyPost_ret (v:=.tuple #[old,.bool fd]) (by simp[results,Tryz.results158,go_sem]) rfl ?_
     exact⟨old,fd,_,_,_,rfl,bZ (hR.o.keepR ((aa.refl [] w1).drewN _))⟩
   | true=>
    have hi:i<b:=by have:=hf.o.2.1 rfl;rw[l1.o] at this;exact this
    have f4:(i:Int)<(b:Int):=by omega
    obtain⟨g,db⟩:=aV N.o.rk (by rw[l1.o];omega);obtain⟨q,dc⟩:=aV N.o.rv (by rw[l2.o];omega);subst db dc
    first | (have:=a;have b2:w.ownsRow 0 2 1 (.slice (V g) b r) b (en.map (·.1)):=by have:=N.o.rk;rw[l1.o] at this;exact this) | (have b2:w.ownsRow 0 9 1 (.slice (V g) b r) b (en.map (·.1)):=by have:=N.o.rk;rw[l1.o] at this;exact this)
    first | (have:=a;have a8:w.ownsRow 0 62 1 (.slice (V q) b z) b (en.map (·.2)):=by have:=N.o.rv;rw[l2.o] at this;exact this) | (have a8:w.ownsRow 0 2 1 (.slice (V q) b z) b (en.map (·.2)):=by have:=N.o.rv;rw[l2.o] at this;exact this)
    obtain⟨e0,C⟩:∃e,en[i]? =some e:=⟨_,CT (by rw[<-a0.o];exact hi)⟩;obtain⟨ar,c3⟩:=e0
    first | (have:=a;obtain⟨eA,a6,ec,rfl⟩:=fv.o c3 (CW (by rw[De,C];rfl))) | (obtain⟨ey,rfl⟩:=fv.o c3 (CW (by rw[De,C];rfl)))
    first | (have:=a;have bn:=aj a8 (j:=i) (u:=Value.slice eA a6 ec) (by rw[De,C];rfl)) | (have bn:=aj a8 (j:=i) (u:=I ey) (by rw[De,C];rfl))
    have e1:=aj b2 (j:=i) (u:=ar) (by rw[De,C];rfl);have d4:w.drew.cell? (U g i)=some ar:=e1
    first | (have:=a;have cc:w.drew.cell? (U q i)=some (Value.slice eA a6 ec):=bn) | have cc:w.drew.cell? (U q i)=some (I ey):=bn
    have eg:∀j,w.drew.frozen? (U g j)=false:=fun j=>jh b2 (by omega) j;have ev:∀j,w.drew.frozen? (U q j)=false:=fun j=>jh a8 (by omega) j
    first | (have:=a;have b1:Z (∀x:Ent,c.2.2.1.getLast? =some x->cX x.1/\dk x.2):=bZ (fun x L=>bp.o x (E4 L))) | have b1:Z (∀x:Ent,c.2.2.1.getLast? =some x->dP x.1/\dW x.2):=bZ (fun x L=>bp.o x (E4 L))
    have R:w.drew.cell? (U p 0)=G (V g) b r/\w.drew.cell? (U p 1)=G (V q) b z/\w.drew.cell? (U p 2)=G (V t) (b+1) J/\w.drew.cell? (U t i)=some (.pointer (V c.1)):=⟨x0,x1,x2,xq⟩
    first | (have:=a;have MX:=bZ (xZ.1 w.drew c.1 D c.2.1 c.2.2.1 c.2.2.2 (bs.o.keep (aa.refl [] w).drew _ _ _ _ _ (by simp)) (by have:=(h7.o c (by simp)).1;omega) (by have:=(h7.o c (by simp)).2;omega))) | (have MX:=bZ (xZ.2 w.drew c.1 D c.2.1 c.2.2.1 c.2.2.2 (bs.o.keep (aa.refl [] w).drew _ _ _ _ _ (by simp)) (by have:=(h7.o c (by simp)).1;omega) (by have:=(h7.o c (by simp)).2;omega)))
    have cb:Z (∀(W W':World) (Y:List Nat),(W.cell? (U p 0)=G (V g) b r/\W.cell? (U p 1)=G (V q) b z/\W.cell? (U p 2)=G (V t) (b+1) J/\W.cell? (U t i)=some (.pointer (V c.1)))->aa Y W W'->(∀y∈Y,y∉[p,t])->
     (W'.cell? (U p 0)=G (V g) b r/\W'.cell? (U p 1)=G (V q) b z/\W'.cell? (U p 2)=G (V t) (b+1) J/\W'.cell? (U t i)=some (.pointer (V c.1)))):=bZ (fun W W' Y h1 h2 h3=>⟨h2.cellEq h1.1 (fun l=>h3 _ l (by simp)),h2.cellEq h1.2.1 (fun l=>h3 _ l (by simp)),h2.cellEq h1.2.2.1 (fun l=>h3 _ l (by simp)),h2.cellEq h1.2.2.2 (fun l=>h3 _ l (by simp))⟩)
    have fr:p≠g/\p≠q/\g≠q/\g≠t/\q≠t:=by
     obtain⟨⟨a1,a2,a3⟩,a4,a5⟩:=aW.1 N.o.nd;exact⟨fun e=>a1 (by simp[fb,e]),fun e=>a2 (by simp[fb,e]),fun e=>(a4 g (by simp[fb])).1 (by simp[fb,e]),fun e=>(a4 g (by simp[fb])).2 (by simp[fb,e]),fun e=>a5 q (by simp[fb]) (by simp[fb,e])⟩
    have ct:Z (g∉[p,t]):=bZ (by simp;omega);have d0:Z (q∉[p,t]):=bZ (by simp;omega);have cm:Z (q≠g):=bZ (by omega);have fe:Z (aa [] w w.drew):=bZ (aa.refl [] w).drew;have Nd:=bZ N.o.drew
    first | (have:=a;have cl:Z (true=true->Asc (ao kids en)->kI (ar,Value.slice eA a6 ec)=iv (I kx)):=bZ (fun hS ha=>?_)) | have cl:Z (false=true->Asc (ao kids en)->kI (ar,I ey)=iv (Value.string kx)):=bZ (fun hS ha=>?_)
    rotate_left
    ·obtain⟨h1,h2⟩:=dR hf.o hS (ha.sublist (eS M));obtain⟨e',e4,hk⟩:=h2.1 rfl;rw[C] at e4;cases e4;exact hk
    first | (have:=a;have cs:EB=(ar,Value.slice eA a6 ec)::en.drop (i+1):=?_) | have cs:EB=(ar,I ey)::en.drop (i+1):=?_
    rotate_left
    ·rw[<-d6];obtain⟨h1,h2⟩:=CV.1 C;rw[<-h2];exact DP h1
    have bk:=sI C;rw[d5] at bk;have a9:∀u v,(en.map (·.1)).set i u=(EA++(u,v)::en.drop (i+1)).map (·.1):=fun u v=>by rw[<-bk (u,v),EV]
    have ac:∀u v,(en.map (·.2)).set i v=(EA++(u,v)::en.drop (i+1)).map (·.2):=fun u v=>by rw[<-bk (u,v),EV]
    generalize f0:en.drop (i+1)=EC at*;subst cs;replace a9:=bZ a9;replace ac:=bZ ac;replace X:=X;replace C:=bZ C;replace la:=bZ la;replace lb:=bZ lb;replace lc:=bZ lc;replace T:=bZ T;replace c5:=bZ c5;replace M:=bZ M;replace b6:=bZ b6;clear b2 a8 e1 co E c7 d7 hb hf bb hA hB d5 d6 f0 bk N;go_wp2_with fail;refine ad (S:=(fun w':World=>w'.cell? (U p 0)=G (V g) b r/\w'.cell? (U p 1)=G (V q) b z/\w'.cell? (U p 2)=G (V t) (b+1) J/\w'.cell? (U t i)=some (.pointer (V c.1)))) (n:=25) (by kernel_rfl) ?_;generalize w.drew=wd at*;refine ord [0,1,2,3,4,5,6,7,8,9,10,11,12,13,14,15,16] ?_
    iterate 17 (refine tq R ?_;try simp only[PT,Y1,Y2,Y3])
    refine av ?_;refine J1 17 fun K hK=>?_;dsimp only[Y1,Y2,Y3];go_simp;refine MX.o.mono ?_;clear MX;rintro e wz ⟨⟨g0,g1⟩,rfl,L,kz⟩
    first | (have:=a;obtain⟨⟨H,rfl⟩,⟨zA,zn,zc,rfl⟩⟩:=b1.o _ L.o) | obtain⟨⟨H,rfl⟩,⟨zy,rfl⟩⟩:=b1.o _ L.o
    have R:=cb.o _ _ [] R kz.o (by simp);have ck:=kz.o.cellEq d4 (by simp);have cv:=kz.o.cellEq cc (by simp);have kf:wz.frozen? (U g i)=false:=kz.o.frozenEq d4 (eg i) (by simp);have vf:wz.frozen? (U q i)=false:=kz.o.frozenEq cc (ev i) (by simp);refine hK _ _ (.inr R) ?_;clear hK K d4 cc eg ev
    try simp only[PT,Y1,Y2,Y3]
    refine ord [18,19,20,21] ?_
    iterate 4 (refine tq R ?_;try simp only[PT,Y1,Y2,Y3])
    refine av ?_;refine J1 22 fun K hK=>?_;dsimp only[Y1,Y2,Y3];go_simp
    first | (have:=a;have k1:aa [g] wz (wz.setCell (U g i) (I H)):=(aa.refl [g] wz).setCell (p:=(U g i)) (.inl (by simp)) _) | have k1:aa [g] wz (wz.setCell (U g i) (Value.string H)):=(aa.refl [g] wz).setCell (p:=(U g i)) (.inl (by simp)) _
    have R:=cb.o _ _ _ R k1 (fun y hy=>by rw[CZ.1 hy];exact ct.o);have ew:=k1.cellEq cv (fun l=>cm.o (CZ.1 l))
    first | (have:=a;have er:(wz.setCell (U g i) (I H)).frozen? (U q i)=false:=k1.frozenEq cv vf (fun l=>cm.o (CZ.1 l))) | have er:(wz.setCell (U g i) (Value.string H)).frozen? (U q i)=false:=k1.frozenEq cv vf (fun l=>cm.o (CZ.1 l))
    refine hK _ _ (.inr R) ?_;clear hK K ck kf
    try simp only[PT,Y1,Y2,Y3]
    refine ord [23] ?_
    (refine tq R ?_;try simp only[PT,Y1,Y2,Y3])
    refine av ?_;refine J1 24 fun K hK=>?_;dsimp only[Y1,Y2,Y3];go_simp
    first | (have:=a;have k2:aa [q] (wz.setCell (U g i) (I H)) ((wz.setCell (U g i) (I H)).setCell (U q i) (Value.slice zA zn zc)):=(aa.refl [q] _).setCell (p:=(U q i)) (.inl (by simp)) _) | have k2:aa [q] (wz.setCell (U g i) (Value.string H)) ((wz.setCell (U g i) (Value.string H)).setCell (U q i) (I zy)):=(aa.refl [q] _).setCell (p:=(U q i)) (.inl (by simp)) _
    have R:=cb.o _ _ _ R k2 (fun y hy=>by rw[CZ.1 hy];exact d0.o);refine hK _ _ (.inr R) ?_;clear hK K
    try simp only[PT,Y1,Y2,Y3]
    refine JD ?_
    first | (have:=a;obtain⟨N0,K0⟩:=(Nd.o.keep kz.o (by simp)).set1 (i:=i) (by rw[l1.o];exact hi) (by rw[l2.o];exact hi) (I H) (Value.slice zA zn zc)) | (obtain⟨N0,K0⟩:=(Nd.o.keep kz.o (by simp)).set1 (i:=i) (by rw[l1.o];exact hi) (by rw[l2.o];exact hi) (Value.string H) (I zy))
    first | (have:=a;obtain⟨w0,dr⟩:∃x,x=(wz.setCell (U g i) (I H)).setCell (U q i) (Value.slice zA zn zc):=⟨_,rfl⟩) | obtain⟨w0,dr⟩:∃x,x=(wz.setCell (U g i) (Value.string H)).setCell (U q i) (I zy):=⟨_,rfl⟩
    rw[<-dr] at N0 K0 R ⊢;clear dr k1 k2 cv vf ew er;have N0:=bZ N0;have K0:=bZ (fe.o.nil.trans (kz.o.nil.trans K0));clear kz Nd
    as_aux_lemma=>
     obtain⟨dq,fc,cp,cq⟩:=R;clear cb ct d0 cm b1
     first | (have:=a;have cd:=aj (by have:=N0.o.rk;rw[Em,l1.o] at this;exact this) (j:=i) (u:=I H) (by rw[List.getElem?_set_self (by rw[l1.o];exact hi)])) | (have cd:=aj (by have:=N0.o.rk;rw[Em,l1.o] at this;exact this) (j:=i) (u:=Value.string H) (by rw[List.getElem?_set_self (by rw[l1.o];exact hi)]))
     have f5:=T.o;have f1:=c5.o;subst f5;subst f1;clear T c5;have ch:Z (∀y∈[g,q],y∈ay p (V g) (V q) (V t)):=bZ (fun y hy=>by
      simp only[Db,Dw,or_false] at hy;rw[bf];rcases hy with rfl | rfl<;>simp[fb])
     have cj:Z (∀d∈A++c::B,∀y∈[g,q],y∉d.2.2.2):=bZ (fun d E y hy l=>(Dp.1 X.o).2.2 y (ch.o y hy) y (aT.2 ⟨d,E,l⟩) rfl)
     first | (have:=a;have W0:Z (cR tyI w0 D p (EA++((I H),(Value.slice zA zn zc))::EC) (A++c::B) (ay p (V g) (V q) (V t))):=bZ ⟨by have:=W.o.len;simpa using this,by have:=N0.o.at_;rw[a9.o (I H) (Value.slice zA zn zc),ac.o (I H) (Value.slice zA zn zc)] at this;exact this,fun d E=>(W.o.kid d E).keep K0.o _ _ _ _ _ (cj.o d E),W.o.nd⟩) | (have W0:Z (cR tyS w0 D p (EA++((Value.string H),(I zy))::EC) (A++c::B) (ay p (V g) (V q) (V t))):=bZ ⟨by have:=W.o.len;simpa using this,by have:=N0.o.at_;rw[a9.o (Value.string H) (I zy),ac.o (Value.string H) (I zy)] at this;exact this,fun d E=>(W.o.kid d E).keep K0.o _ _ _ _ _ (cj.o d E),W.o.nd⟩)
     have d3:Z (aa (ay p (V g) (V q) (V t)) w w0):=bZ (K0.o.mono (fun y hy=>.inl (ch.o y hy)));have e2:Z (∀y∈[g,q],y≠O):=bZ (fun y hy e=>b5.o (by rw[<-e];exact Di _ (ch.o y hy)));have T2:=bZ (T0.o.keep K0.o (fun l=>e2.o _ l rfl));clear T0;have T0:=T2;clear T2
     first | (have:=a;have cr:Z (((I H),(Value.slice zA zn zc))∈c.2.2.1):=bZ (E4 L.o)) | have cr:Z (((Value.string H),(I zy))∈c.2.2.1):=bZ (E4 L.o)
     have b8:=bZ (IH.o D rfl H w0.drew c.1 c.2.1 c.2.2.1 c.2.2.2 T0.o.drew ((bs.o.keep K0.o _ _ _ _ _ (cj.o c (by simp))).keep (aa.refl [] w0).drew _ _ _ _ _ (by simp)).toView c4.o (fun l=>(a7.o _ l).2 rfl) (h7.o c (by simp)).2 (.inr (by have:=(h7.o c (by simp)).1;omega)) bp.o);clear IH ch cj e2 x0 x1 x2 xq bn a9 ac X b5 bs c4 bp N0 K0 o1 o2 fk fv hl M;unfold ptr at b8;have x2:=cp;have xq:=cq
     first | (have:=a;have R:w0.drew.cell? (U p 2)=G (V t) (b+1) J/\w0.drew.cell? (U t i)=some (.pointer (V c.1))/\w0.drew.cell? (U p 0)=G (V g) b r/\w0.drew.cell? (U g i)=some (I H):=⟨cp,cq,dq,cd⟩) | have R:w0.drew.cell? (U p 2)=G (V t) (b+1) J/\w0.drew.cell? (U t i)=some (.pointer (V c.1))/\w0.drew.cell? (U p 0)=G (V g) b r/\w0.drew.cell? (U g i)=some (Value.string H):=⟨cp,cq,dq,cd⟩
     first | (have:=a;have hdr:Z (∀ {m1:Nat} {s:List Ent} {F1:List Nat} {bl:Bool} {ap:Value} {w1:World},ef true tyI w0.drew D c.1 c.2.1 c.2.2.1 c.2.2.2 (I H) bl ap w1 m1 s F1->ef true tyI w0 D c.1 c.2.1 c.2.2.1 c.2.2.2 (I H) bl ap w1 m1 s F1):=bZ (fun h=>h.drew)) | have hdr:Z (∀ {m1:Nat} {s:List Ent} {F1:List Nat} {bl:Bool} {ap:Value} {w1:World},ef false tyS w0.drew D c.1 c.2.1 c.2.2.1 c.2.2.2 (Value.string H) bl ap w1 m1 s F1->ef false tyS w0 D c.1 c.2.1 c.2.2.1 c.2.2.2 (Value.string H) bl ap w1 m1 s F1):=bZ (fun h=>h.drew)
     clear dq fc cp cq cd;go_wp2_with fail
     first | (have:=a;refine ad (S:=(fun w':World=>w'.cell? (U p 2)=G (V t) (b+1) J/\w'.cell? (U t i)=some (.pointer (V c.1))/\w'.cell? (U p 0)=G (V g) b r/\w'.cell? (U g i)=some (I H))) (n:=15) (by kernel_rfl) ?_) | refine ad (S:=(fun w':World=>w'.cell? (U p 2)=G (V t) (b+1) J/\w'.cell? (U t i)=some (.pointer (V c.1))/\w'.cell? (U p 0)=G (V g) b r/\w'.cell? (U g i)=some (Value.string H))) (n:=15) (by kernel_rfl) ?_
     generalize w0.drew=wd2 at*;refine ord [0,1,2,3,4,5,6,7,8,9,10,11,12,13,14] ?_
     iterate 15 (refine tq R ?_;try simp only[PT,Y1,Y2,Y3])
     refine av ?_;refine J1 15 fun K hK=>?_;dsimp only[Y1,Y2,Y3];go_simp;refine b8.o.mono ?_;clear b8;rintro e w1 ⟨ap,bl,m1,s,F1,rfl,hp⟩;refine hK _ _ (.inl (by omega)) ?_;clear hK K R
     try simp only[PT,Y1,Y2,Y3]
     refine JD ?_
     as_aux_lemma=>
      replace hp:=bZ (hdr.o hp.o);clear hdr
      first | (have:=a;have an:=ug (S:=true) (k:=I kx) (c1:=(c.1,m1,s,F1)) W.o W0.o d3.o la.o lb.o h7.o L.o (fun hS=>cl.o (by first | trivial | simp at hS)) hp.o rfl) | (have an:=ug (S:=false) (k:=Value.string kx) (c1:=(c.1,m1,s,F1)) W.o W0.o d3.o la.o lb.o h7.o L.o (fun hS=>cl.o (by first | trivial | simp at hS)) hp.o rfl)
      have W1:=bZ an.1;have P:=bZ an.2.1;have Q:=bZ an.2.2
      first | (have:=a;have cn:(EA++(ar,Value.slice eA a6 ec)::EC).length=b:=a0.o.symm) | have cn:(EA++(ar,I ey)::EC).length=b:=a0.o.symm
      first | (have:=a;have fW:Z (∀x∈ao (A++(c.1,m1,s,F1)::B) (EA++((I H),(Value.slice zA zn zc))::EC),cX x.1/\dk x.2):=bZ (fun x ds=>f.o x (uf la.o lb.o cr.o hp.o.sub x ds))) | have fW:Z (∀x∈ao (A++(c.1,m1,s,F1)::B) (EA++((Value.string H),(I zy))::EC),dP x.1/\dW x.2):=bZ (fun x ds=>f.o x (uf la.o lb.o cr.o hp.o.sub x ds))
      rw[CU,Dj] at cn;clear an W W0 d3 L cl cr;have c8:w1.cell? (U p 2)=G (V t) (b+1) J:=hp.o.kp.cellEq x2 (fun l=>(a7.o _ l).1 ee);have c9:w1.cell? (U t i)=some (.pointer (V c.1)):=hp.o.kp.cellEq xq (fun l=>(a7.o _ l).1 e5)
      first | (have:=a;have T1:Z (Blk w1 O 204 #[c0,I 16,c2]):=bZ (T0.o.keep hp.o.kp (fun l=>(a7.o _ l).2 rfl))) | have T1:Z (Blk w1 O 250 #[c0,I 16,c2]):=bZ (T0.o.keep hp.o.kp (fun l=>(a7.o _ l).2 rfl))
      first | (have:=a;have CL:Z (∀n,Calls Tryz.prog 184 #[.pointer (V O)] (w1.drewN n) fun e w'=>e=.returned (I 7)/\w1.drewN n=w'):=bZ (fun n=>ie (w1.drewN n) O c0 c2 (T1.o.cell 1))) | have CL:Z (∀n,Calls Tryz.prog 188 #[.pointer (V O)] (w1.drewN n) fun e w'=>e=.returned (I 7)/\w1.drewN n=w'):=bZ (fun n=>ic (w1.drewN n) O c0 c2 (T1.o.cell 1))
      have kn:Z (∀n,aa [] w1 (w1.drewN n)):=bZ (fun n=>(aa.refl [] w1).drewN n);obtain⟨qA,qc,q0⟩:∃qA qc,w1.cell? (U c.1 0)=G qA m1 qc:=by
       obtain⟨ex,_,_,dl,⟨qA,qc,_,_,_,_,hB,_⟩,_⟩:=hp.o.vw;refine⟨qA,qc,?_⟩;have:=hB.cell 0;rw[Df,<-dl] at this;exact this
      have e3:=h7.o c (by simp);have fl:∀n,(w1.drewN n).cell? (U p 2)=G (V t) (b+1) J:=fun n=>c8;have fn:∀n,(w1.drewN n).cell? (U t i)=some (.pointer (V c.1)):=fun n=>c9;have fi:∀n,(w1.drewN n).cell? (U c.1 0)=G qA m1 qc:=fun n=>q0;clear x2 xq c8 c9 q0 a7 T0;have e7:=hp.o.lo;have e9:=hp.o.hi;by_cases f6:m1<7
      ·obtain rfl:m1=6:=by omega
       first | (have:=a;have CF:=fun n=>mz.1 (w1.drewN n) O D p A.length c0 c2 (EA++((I H),(Value.slice zA zn zc))::EC) (A++(c.1,6,s,F1)::B) (ay p (V g) (V q) (V t)) (c.1,6,s,F1) (T1.o.keep (kn.o n) (by simp)) (W1.o.keep0 (kn.o n)) (kM A B _) rfl (mx (fun d E=>h7.o d (by rcases CX.1 E with E | E<;>simp[E]))) ⟨by simp;omega,by simp;omega⟩ fW.o) | (have CF:=fun n=>mz.2 (w1.drewN n) O D p A.length c0 c2 (EA++((Value.string H),(I zy))::EC) (A++(c.1,6,s,F1)::B) (ay p (V g) (V q) (V t)) (c.1,6,s,F1) (T1.o.keep (kn.o n) (by simp)) (W1.o.keep0 (kn.o n)) (kM A B _) rfl (mx (fun d E=>h7.o d (by rcases CX.1 E with E | E<;>simp[E]))) ⟨by simp;omega,by simp;omega⟩ fW.o)
       rw[lc.o] at CF;replace CF:=bZ CF;clear P hp h7 fW T1 W1;unfold ptr at CF;go_wp2_with fail;go_quiet (with_reducible exact bw (CL.o _));go_wp2_with fail;refine(CF.o _).mono ?_;clear CF;rintro e w2 ⟨rfl,c6⟩;obtain⟨m',b9,F',hR⟩:=Q.o w2 (c6.o.from_ (kn.o _));clear Q c6;go_wp2_with fail
       first | (have:=a;refine bodyPost_ret (v:=.tuple #[Value.slice eA a6 ec,.bool true]) (by simp[results,Tryz.results157,go_sem]) rfl ?_) | refine bodyPost_ret (v:=.tuple #[I ey,.bool true]) (by simp[results,Tryz.results158,go_sem]) rfl ?_
       first | (have:=a;exact⟨Value.slice eA a6 ec,true,_,_,_,rfl,bZ hR⟩) | exact⟨I ey,true,_,_,_,rfl,bZ hR⟩
      have hR:=bZ (P.o (by show 7<=m1;omega));have f3:¬(m1:Int)<7:=by omega
      clear P Q hp h7 fW T1 W1;go_wp2_with fail;go_quiet (with_reducible exact bw (CL.o _));go_wp2_with fail
      first | (have:=a;refine bodyPost_ret (v:=.tuple #[Value.slice eA a6 ec,.bool true]) (by simp[results,Tryz.results157,go_sem]) rfl ?_) | refine bodyPost_ret (v:=.tuple #[I ey,.bool true]) (by simp[results,Tryz.results158,go_sem]) rfl ?_
      first | (have:=a;exact⟨Value.slice eA a6 ec,true,_,_,_,rfl,bZ (hR.o.keepR ((aa.refl [] w1).drewN _))⟩) | exact⟨I ey,true,_,_,_,rfl,bZ (hR.o.keepR ((aa.refl [] w1).drewN _))⟩
theorem xD:(∀(b:Nat) (i j:Value),∀(h:Nat) (g:Int) (w:World) (p m:Nat) (a:List Ent) (F:List Nat),Blk w b 204 #[i,I 16,j]->iY tyI w h p m a F->F.Nodup->b∉F->m<=15->(h=0\/1<=m)->(∀x∈a,cX x.1/\dk x.2)->
 Calls Tryz.prog 157 #[ptr b,ptr p,I g] w (jr true tyI w h p m a F (I g)))/\
 (∀(b:Nat) (i j:Value),∀(h:Nat) (g:ByteArray) (w:World) (p m:Nat) (a:List Ent) (F:List Nat),Blk w b 250 #[i,I 16,j]->iY tyS w h p m a F->F.Nodup->b∉F->m<=15->(h=0\/1<=m)->(∀x∈a,dP x.1/\dW x.2)->
 Calls Tryz.prog 158 #[ptr b,ptr p,Value.string g] w (jr false tyS w h p m a F (Value.string g))):=by
  refine⟨?_,?_⟩;have k:=trivial;rotate_left;rotate_left
  all_goals
   intro b i j;intro h
   induction h with
   | zero=>
    rintro g w p m a F q ⟨en,kids,l,rfl,o,rfl,r⟩ d c s n f
    first | (have:=k;exact fS.1 w b p 0 i j en kids a l g q o r d c s n f (fun t e=>by omega)) | exact fS.2 w b p 0 i j en kids a l g q o r d c s n f (fun t e=>by omega)
   | succ h ih=>
    rintro g w p m a F q ⟨en,kids,l,rfl,o,rfl,r⟩ d c s n f
    first | (have:=k;refine fS.1 w b p (h+1) i j en kids a l g q o r d c s n f (fun t e=>?_)) | refine fS.2 w b p (h+1) i j en kids a l g q o r d c s n f (fun t e=>?_)
    rotate_left
    obtain rfl:h=t:=by omega
    exact ih
end Go.Proofs.YtmlmfpikncogpaaGreat
