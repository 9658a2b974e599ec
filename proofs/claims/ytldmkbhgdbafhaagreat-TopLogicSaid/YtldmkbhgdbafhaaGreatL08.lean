import Derived.Test.YtldmkbhgdbafhaaGreatL07
namespace Go.Proofs.YtldmkbhgdbafhaaGreat
open Go.RowKit
set_option linter.unusedSimpArgs false
set_option linter.unusedVariables false
set_option maxRecDepth 100000
set_option maxHeartbeats 64000000
theorem di (s:ByteArray) {j:Nat} (h:j<s.size):s.data.toList[j]? =some (s[j]'h):=by
 rw[CT (by rw[DO];exact h)];rfl
theorem sG {s:ByteArray} {j:Nat} (h:j<s.size):s.data.toList.take (j+1)=s.data.toList.take j++[s[j]'h]:=by rw[Dq,di s h];rfl
theorem dd {s:ByteArray}:s.toList=[]↔s.size=0:=by
 rw[Lib.toList_data];constructor
 ·intro h;have:=congrArg List.length h;rw[DO] at this;exact this
 intro h;exact Dh (by rw[DO];exact h)
theorem qq (w:World) (s:ByteArray) (p:s.size<=9223372036854775807) (b:Bool) (c:b=true↔∀x∈s.data.toList,32<=x.toNat/\x.toNat<=126):Calls Tryz.prog 53 #[.string s] w fun e w'=>e=.returned (.bool b)/\w=w':=by
 replace c:=bZ c;go_enter Tryz.func53,Tryz.ntmps53;go_wp2_with fail;go_loopw [3] (fun d wr=>∃j:Nat,j<=s.size/\d=I (j:Int)/\Z (∀b∈s.data.toList.take j,32<=b.toNat/\b.toNat<=126)/\w=wr) (fun d _=>s.size - (intOf d).toNat)
 case atStart=>exact⟨0,C3 _,rfl,bZ (by simp),rfl⟩
 obtain⟨j,r,rfl,f,rfl⟩:=hrel;by_cases a:j<s.size
 ·have q:(j:Int)<(s.size:Int):=by omega
  have t:IntKind.i64.wrap ((j:Int)+1)=(j:Int)+1:=C0 _ (by omega);by_cases h:(s[j]'a).toNat<32
  ·have m:((s[j]'a).toNat:Int)<32:=by omega
   obtain rfl:b=false:=by
    cases b with
    | false=>rfl
    | true=>have:=c.o.1 rfl _ (CW (di s a));omega
   go_wp2_with fail;go_ret;exact⟨rfl,by trivial⟩
  have i:((s[j]'a).toNat<32)=False:=eq_false h;have m:(((s[j]'a).toNat:Int)<32)=False:=eq_false (by omega);by_cases k:126<(s[j]'a).toNat
  ·have n:126<((s[j]'a).toNat:Int):=by omega
   obtain rfl:b=false:=by
    cases b with
    | false=>rfl
    | true=>have:=c.o.1 rfl _ (CW (di s a));omega
   go_wp2_with fail;go_ret;exact⟨rfl,by trivial⟩
  have l:(126<(s[j]'a).toNat)=False:=eq_false k;have n:(126<((s[j]'a).toNat:Int))=False:=eq_false (by omega);have g:Z (∀b∈s.data.toList.take (j+1),32<=b.toNat/\b.toNat<=126):=bZ (by
   rw[sG a];intro b c;rcases CX.1 c with c | c
   ·exact f.o b c
   obtain rfl:b=s[j]'a:=by simpa using c
   exact⟨by omega,by omega⟩)
  clear f;go_wp2_with fail;go_roundw
  case rel=>exact⟨j+1,by omega,by go_num,g,by trivial⟩
  case measure=>simp[intOf];omega
 obtain rfl:j=s.size:=by omega
 obtain rfl:b=true:=c.o.2 (by
  have:=f.o;rwa [C6 (by rw[DO];exact C9 _)] at this)
 go_wp2_with fail;go_ret;exact⟨rfl,by trivial⟩
def prB (s:ByteArray):Bool:=s.data.toList.all (fun b=>decide (32<=b.toNat) && decide (b.toNat<=126))
theorem vg (s:ByteArray):prB s=true↔∀x∈s.data.toList,32<=x.toNat/\x.toNat<=126:=by
 unfold prB;rw[List.all_eq_true];simp
theorem yQ {v:Vl} (h:v.k=0):vOk v=(decide (v.n=0) && decide (v.s.size=0)):=by unfold vOk;rw[if_pos h]
theorem yP {v:Vl} (h:v.k=1):vOk v=decide (v.s.size=0):=by unfold vOk;rw[if_neg (by omega),if_pos h]
theorem qe {v:Vl} (h:v.k=2):vOk v=(decide (v.n=0) && (prB v.s && decide (v.s.size<=16))):=by unfold vOk prB;rw[if_neg (by omega),if_neg (by omega),if_pos h,Lib.toList_data]
theorem yO {v:Vl} (a:v.k≠0) (b:v.k≠1) (c:v.k≠2):vOk v=false:=by unfold vOk;rw[if_neg a,if_neg b,if_neg c]
def vV (v:Vl):Value:=.agg #[I v.k,I v.n,.string v.s]
theorem gP (w:World) (v:Vl) (y:v.s.size<=9223372036854775807):Calls Tryz.prog 28 #[vV v] w (RoP w (.bool (vOk v))):=by
 obtain⟨k,n,s⟩:=v;unfold vV;dsimp only at*;have c:Z (ad [] w (w.alloc (.cells #[I k,I n,.string s] 23))):=bZ ((ad.refl [] w).alloc _);have B:∃q,q=decide (s.size=0)/\((q=true/\s.toList=[])\/(q=false/\¬s.toList=[])):=⟨_,rfl,by
  by_cases h:s.size=0
  ·exact .inl ⟨decide_eq_true h,dd.2 h⟩
  exact .inr ⟨decide_eq_false h,fun C=>h (dd.1 C)⟩⟩
 obtain⟨q,g,a⟩:=B;cases t:(k==0)
 ·have f:k≠0:=by intro h;rw[h] at t;cases t
  cases u:(k==1)
  ·have i:k≠1:=by intro h;rw[h] at u;cases u
   cases x:(k==2)
   ·have p:k≠2:=by intro h;rw[h] at x;cases x
    rw[yO (v:=⟨k,n,s⟩) f i p];clear f i p g a;go_enter Tryz.func28,Tryz.ntmps28;go_wp2_with fail;go_ret;exact⟨rfl,c⟩
   have p:k=2:=by simpa using x
   rw[qe (v:=⟨k,n,s⟩) p];dsimp only;have r:Z (∀W,Calls Tryz.prog 53 #[.string s] W fun e A=>e=.returned (.bool (prB s))/\W=A):=bZ (fun W=>qq W s y _ (vg s));have m:Z (decide (n=0)=(n==0)):=bZ rfl;have l:Z (decide (s.size<=16)=decide ((s.size:Int)<=16)):=bZ (decide_eq_decide.2 (by omega));rw[m.o,l.o];clear f i p g a m l;generalize prB s=b at*;cases z:(n==0)
   ·go_enter Tryz.func28,Tryz.ntmps28;go_wp2_with fail;go_ret;exact⟨rfl,c⟩
   cases j:b
   ·rw[j] at r;go_enter Tryz.func28,Tryz.ntmps28;go_wp2_with (go_at_call 53;refine(r.o _).mono ?_;rintro e A ⟨rfl,rfl⟩);go_ret;exact⟨rfl,c⟩
   rw[j] at r;go_enter Tryz.func28,Tryz.ntmps28;go_wp2_with (go_at_call 53;refine(r.o _).mono ?_;rintro e A ⟨rfl,rfl⟩);go_ret;exact⟨rfl,c⟩
  have i:k=1:=by simpa using u
  rw[yP (v:=⟨k,n,s⟩) i];dsimp only;rw[<-g];clear f i g;rcases a with ⟨rfl,d⟩ | ⟨rfl,d⟩
  ·go_enter Tryz.func28,Tryz.ntmps28;go_wp2_with fail;go_ret;exact⟨by simp[d],c⟩
  go_enter Tryz.func28,Tryz.ntmps28;go_wp2_with fail;go_ret;exact⟨by simp[d],c⟩
 have f:k=0:=by simpa using t
 rw[yQ (v:=⟨k,n,s⟩) f];dsimp only;rw[<-g];have m:Z (decide (n=0)=(n==0)):=bZ rfl;rw[m.o];clear f g m;cases z:(n==0)
 ·go_enter Tryz.func28,Tryz.ntmps28;go_wp2_with fail;go_ret;exact⟨rfl,c⟩
 rcases a with ⟨rfl,d⟩ | ⟨rfl,d⟩
 ·go_enter Tryz.func28,Tryz.ntmps28;go_wp2_with fail;go_ret;exact⟨by simp[d],c⟩
 go_enter Tryz.func28,Tryz.ntmps28;go_wp2_with fail;go_ret;exact⟨by simp[d],c⟩
def Vl.rg (v:Vl):Prop:=(-9223372036854775808<=v.n/\v.n<9223372036854775808)/\v.s.size<=9223372036854775807
def E.rg:E->Prop
 | .z _ _ v=>v.rg
 | .a _ _ v x=>v.rg/\E.rg x
 | .b _ _ v x y=>v.rg/\E.rg x/\E.rg y
 | .many _ _ v=>v.rg
theorem sP {e:E} (h:e.rg):e.lit.rg:=by cases e<;>first | exact h | exact h.1
theorem bX {e x:E} (h:e.rg) (c:x∈e.args):x.rg:=by
 cases e with
 | z=>cases c
 | a=>rw[CZ.1 c];exact h.2
 | b o i v y z=>
  simp only[E.args,Db,Dw,or_false] at c;rcases c with rfl | rfl
  ·exact h.2.1
  exact h.2.2
 | many=>cases c
theorem isz {e:E} (a:e.ok2=true) (h:e.args.length=0):∃o i v,e=.z o i v:=by cases e<;>first | exact⟨_,_,_,rfl⟩ | (simp[E.args] at h;done) | (cases a;done)
theorem vR (w:World) (o i:Int) (v:Vl) (x u:ByteArray) (A:Option Addr) (c:Nat) (L:Option Addr) (m:Nat) (l:List Vb) (j:Nat) (d:j=l.length) (F:v.rg) (q:bR w L l):
 Calls Tryz.prog 51 #[exV (.z o i v) x u A 0 c,.slice L j m] w (RoP w (.bool ((E.z o i v).int l))):=by
  have a:Z (ad [] w (w.alloc (.cells (exC (.z o i v) x u A 0 c) 26))):=bZ ((ad.refl [] w).alloc _);have B:Z (∀W,ad [] w W->Calls Tryz.prog 77 #[I i,I 1,.slice L j m] W (RoP W (.bool (aK l i 1)))):=bZ (fun W D=>fS W i 1 L m l j d (q.keep0 D));have r:Z (∀W,Calls Tryz.prog 28 #[.agg #[I v.k,I v.n,.string v.s]] W (RoP W (.bool (vOk v)))):=bZ (fun W=>gP W v F.2);unfold exC at a;unfold exV;rw[show (E.z o i v).int l=if o=1 then decide (v.k=1\/v.k=0) && vOk v else if o=2 then aK l i 1 else false from rfl];simp only[opz,opa,opb,ixz,ixa,ixb,ltz,lta,ltb] at a ⊢;replace d:=bZ d;replace q:=bZ q;obtain⟨f,H,vs⟩:=v;dsimp only at*;generalize aK l i 1=ty at*;generalize vOk ⟨f,H,vs⟩=ok at*;by_cases b:o=1
  ·rw[if_pos b];rw[b] at a ⊢;clear b;have t:decide (f=1\/f=0)=((f==1) || (f==0)):=by simp[BEq.beq,Bool.decide_or]
   rw[t];clear t;cases K:(f==1)
   ·cases J:(f==0)
    ·go_enter Tryz.func51,Tryz.ntmps51;go_wp2_with fail;go_ret;exact⟨rfl,a⟩
    go_enter Tryz.func51,Tryz.ntmps51;go_wp2_with (go_at_call 28;refine(r.o _).mono ?_;rintro e y ⟨rfl,h⟩);go_ret;exact⟨rfl,bZ (a.o.trans h.o)⟩
   go_enter Tryz.func51,Tryz.ntmps51;go_wp2_with (go_at_call 28;refine(r.o _).mono ?_;rintro e y ⟨rfl,h⟩);go_ret;exact⟨rfl,bZ (a.o.trans h.o)⟩
  rw[if_neg b];have p:(o==1)=false:=beq_false_of_ne b;by_cases g:o=2
  ·rw[if_pos g];rw[g] at a ⊢;clear b p g;go_enter Tryz.func51,Tryz.ntmps51;go_wp2_with (go_at_call 77;refine(B.o _ a.o).mono ?_;rintro e y ⟨rfl,h⟩);go_ret;exact⟨rfl,bZ (a.o.trans h.o)⟩
  rw[if_neg g];have C:(o==2)=false:=beq_false_of_ne g;clear b g;go_enter Tryz.func51,Tryz.ntmps51;go_wp2_with fail
  all_goals go_ret
  all_goals exact⟨rfl,a⟩
def RdC (k:FuncId) (f:E->Bool) (l:List Value) (x:E) (w:World) (g a:Nat):Prop:=∃d b B m c,(∀W,ad [] w W->aC W g a x d b B m c)/\(x.ok2=true->m=x.args.length)/\∀W,ad [] w W->Calls Tryz.prog k (exV x d b B m c::l).toArray W (RoP W (.bool (f x)))
theorem vS (w:World) (o i:Int) (v:Vl) (x y:E) (q p:ByteArray) (g a c:Nat) (L:Option Addr) (J:Nat) (l:List Vb) (N:Nat) (hg:g<w.heap.size) (K:2<=c/\c<=maxLen)
 (X:RdC 51 (E.int l) [.slice L N J] x w g a) (Y:RdC 51 (E.int l) [.slice L N J] y w g (a+8)):
 Calls Tryz.prog 51 #[exV (.b o i v x y) q p (some (U g a)) 2 c,.slice L N J] w (RoP w (.bool ((E.b o i v x y).int l))):=by
  obtain⟨tx,nx,B,m,c',O,mx,h⟩:=X;obtain⟨ty,ny,B',m',c2,F,my,n⟩:=Y;have f:Z (ad [] w (w.alloc (.cells (exC (.b o i v x y) q p (some (U g a)) 2 c) 26))):=bZ ((ad.refl [] w).alloc _);have H:Z (Blk (w.alloc (.cells (exC (.b o i v x y) q p (some (U g a)) 2 c) 26)) w.heap.size 26 (exC (.b o i v x y) q p (some (U g a)) 2 c)):=bZ (Blk.new w 26 _);obtain⟨r,s,t,u,z,A,C,D⟩:=O _ f.o;replace F:=bZ F;unfold exV at h n;replace h:=bZ h;replace n:=bZ n;unfold exC at f H r s t u z A C D;unfold exV;rw[show (E.b o i v x y).int l=if 4<=o/\o<=8 then x.int l && y.int l else false from rfl];simp only[opz,opa,opb,ixz,ixa,ixb,ltz,lta,ltb] at f H r s t u z A C D ⊢;clear O mx my;generalize x.int l=bx at*;generalize y.int l=bY at*;by_cases d:4<=o/\o<=8
  ·rw[if_pos d];have hO:(o==1)=false/\(o==2)=false/\(o==9)=false/\(o==3)=false:=by refine⟨?_,?_,?_,?_⟩<;>exact beq_false_of_ne (by omega)
   obtain⟨P,Q,T,R⟩:=hO;cases k:bx
   ·rw[k] at h;rcases(by omega:o=4\/o=5\/o=6\/o=7\/o=8) with rfl | rfl | rfl | rfl | rfl
    all_goals
     clear d P Q T R K;go_enter Tryz.func51,Tryz.ntmps51;go_wp2_with (go_at_call 51;refine(h.o _ f.o).mono ?_;rintro e W ⟨rfl,j⟩);go_ret;exact⟨rfl,bZ (f.o.trans j.o)⟩
   rw[k] at h;rcases(by omega:o=4\/o=5\/o=6\/o=7\/o=8) with rfl | rfl | rfl | rfl | rfl
   all_goals
    clear d P Q T R K;go_enter Tryz.func51,Tryz.ntmps51;go_wp2_with (go_at_call 51;(with_reducible refine(h.o _ f.o).mono ?_);rintro e W ⟨rfl,j⟩;clear r s t u z A C D;have z7:=(H.o.keep j.o (by simp)).cell 7;obtain⟨r,s,t,u,z,A,C,D⟩:=F.o _ (f.o.trans j.o);clear h);go_wp2_with (go_at_call 51;(with_reducible refine(n.o _ (f.o.trans j.o)).mono ?_);rintro e W ⟨rfl,M⟩);go_ret;exact⟨rfl,bZ ((f.o.trans j.o).trans M.o)⟩
  rw[if_neg d];have S:(o==4)=false/\(o==5)=false/\(o==6)=false/\(o==7)=false/\(o==8)=false:=by refine⟨?_,?_,?_,?_,?_⟩<;>exact beq_false_of_ne (by omega)
  obtain⟨S,q5,q6,q7,q8⟩:=S;clear d K;go_enter Tryz.func51,Tryz.ntmps51;go_wp2_with fail
  all_goals go_ret
  all_goals exact⟨rfl,f⟩
theorem tK (w:World) (i:Int) (v:Vl) (x:E) (p n:ByteArray) (g b c:Nat) (L:Option Addr) (j:Nat) (l:List Vb) (k:Nat) (K:g<w.heap.size) (D:1<=c/\c<=maxLen)
 (C:RdC 51 (E.int l) [.slice L k j] x w g b):
 Calls Tryz.prog 51 #[exV (.a 3 i v x) p n (some (U g b)) 1 c,.slice L k j] w (RoP w (.bool ((E.a 3 i v x).int l))):=by
  obtain⟨N,M,B,m,J,h,H,f⟩:=C;have d:Z (ad [] w (w.alloc (.cells (exC (.a 3 i v x) p n (some (U g b)) 1 c) 26))):=bZ ((ad.refl [] w).alloc _);obtain⟨q,r,s,t,u,y,z,A⟩:=h _ d.o;unfold exV at f;replace f:=bZ f;unfold exC at d q r s t u y z A;unfold exV;rw[show (E.a 3 i v x).int l=x.int l from rfl];simp only[opz,opa,opb,ixz,ixa,ixb,ltz,lta,ltb] at d q r s t u y z A ⊢;clear h H;generalize x.int l=bx at*;clear D;go_enter Tryz.func51,Tryz.ntmps51;go_wp2_with (go_at_call 51;refine(f.o _ d.o).mono ?_;rintro e O ⟨rfl,F⟩);go_ret;exact⟨rfl,bZ (d.o.trans F.o)⟩
theorem tJ (w:World) (o i:Int) (v:Vl) (x:E) (j h:ByteArray) (g b c:Nat) (L:Option Addr) (k:Nat) (l:List Vb) (m:Nat) (d:o≠3) (e:o≠9):
 Calls Tryz.prog 51 #[exV (.a o i v x) j h (some (U g b)) 1 c,.slice L m k] w (RoP w (.bool ((E.a o i v x).int l))):=by
  have f:Z (ad [] w (w.alloc (.cells (exC (.a o i v x) j h (some (U g b)) 1 c) 26))):=bZ ((ad.refl [] w).alloc _);unfold exC at f;unfold exV;rw[show (E.a o i v x).int l=false by unfold E.int;rw[if_neg e,if_neg d]];simp only[opz,opa,opb,ixz,ixa,ixb,ltz,lta,ltb] at f ⊢;have n:(o==3)=false:=beq_false_of_ne d;have p:(o==9)=false:=beq_false_of_ne e;clear d e;go_enter Tryz.func51,Tryz.ntmps51;go_wp2_with fail
  all_goals go_ret
  all_goals exact⟨rfl,f⟩
theorem rK (w:World) (i p j:Int) (v u:Vl) (tb nm:ByteArray) (g K c:Nat) (L:Option Addr) (cl:Nat) (l:List Vb) (nl:Nat) (hg:g<w.heap.size) (hu:u.rg) (hc:1<=c/\c<=maxLen)
 (Hx:RdC 26 (E.text l) [.slice L nl cl] (.z p j u) w g K):
 Calls Tryz.prog 51 #[exV (.a 9 i v (.z p j u)) tb nm (some (U g K)) 1 c,.slice L nl cl] w (RoP w (.bool ((E.a 9 i v (.z p j u)).int l))):=by
  obtain⟨tx,nx,B,m,c',J,mx,q⟩:=Hx;obtain rfl:m=0:=mx rfl;have d:Z (ad [] w (w.alloc (.cells (exC (.a 9 i v (.z p j u)) tb nm (some (U g K)) 1 c) 26))):=bZ ((ad.refl [] w).alloc _);have N:Z (Blk (w.alloc (.cells (exC (.a 9 i v (.z p j u)) tb nm (some (U g K)) 1 c) 26)) w.heap.size 26 (exC (.a 9 i v (.z p j u)) tb nm (some (U g K)) 1 c)):=bZ (Blk.new w 26 _);have HV:Z (∀W,Calls Tryz.prog 28 #[.agg #[I u.k,I u.n,.string u.s]] W (RoP W (.bool (vOk u)))):=bZ (fun W=>gP W u hu.2);have X0:=J _ d.o;unfold aC at X0 J;unfold exV at q;replace q:=bZ q;replace J:=bZ J;unfold exC at d N X0;unfold exV;rw[show (E.a 9 i v (.z p j u)).int l=((E.z p j u).text l && (decide (p=2) || vOk u) || decide (p=1) && decide (u.k=0/\u.n=0/\u.s.size=0)) from rfl];simp only[opz,opa,opb,ixz,ixa,ixb,ltz,lta,ltb] at d N X0 J q ⊢;obtain⟨t,x,y,A,C,D,F,H⟩:=X0;obtain⟨O,R,X⟩:=u;dsimp only at*;generalize (E.z p j ⟨O,R,X⟩).text l=T at*;generalize vOk ⟨O,R,X⟩=V00 at*;rw[show decide (p=2)=(p==2) from rfl,show decide (p=1)=(p==1) from rfl];obtain⟨r,hZ⟩:∃r,r=decide (O=0/\R=0/\X.size=0):=⟨_,rfl⟩;rw[<-hZ];clear hc mx;have hd:(p==1)=false\/(p==1)=true/\(((O==0)=false/\r=false)\/((O==0)=true/\(R==0)=false/\r=false)\/((O==0)=true/\(R==0)=true/\¬X.toList=[]/\r=false)\/((O==0)=true/\(R==0)=true/\X.toList=[]/\r=true)):=by
   cases (p==1)
   ·exact .inl rfl
   refine .inr ⟨rfl,?_⟩;rw[hZ,dd];by_cases h1:O=0
   ·by_cases h2:R=0
    ·by_cases h3:X.size=0
     ·simp[h1,h2,h3]
     simp[h1,h2,h3]
    simp[h1,h2]
   simp[h1]
  have hf:Z (∀(P:Prop),P->P):=bZ (fun _ h=>h);clear hZ;cases hT:T
  ·rw[hT] at q;rcases hd with q1 | ⟨q1,⟨M,rfl⟩ | ⟨M,Q,rfl⟩ | ⟨M,Q,Y,rfl⟩ | ⟨M,Q,Y,rfl⟩⟩
   all_goals
    rw[q1];go_enter Tryz.func51,Tryz.ntmps51;go_wp2_with (go_at_call 26;refine(q.o _ d.o).mono ?_;rintro e w' ⟨rfl,b⟩;clear t x y A C D F H;have S:=(N.o.keep b.o (by simp)).cell 7;obtain⟨t,x,y,A,C,D,F,H⟩:=J.o _ (d.o.trans b.o);clear q);go_ret;exact⟨by first | rfl | simp[M] | simp[Q] | simp[Y],bZ (d.o.trans b.o)⟩
  rw[hT] at q;cases q2:(p==2)
  ·cases hV:V00
   ·rw[hV] at HV;rcases hd with q1 | ⟨q1,⟨M,rfl⟩ | ⟨M,Q,rfl⟩ | ⟨M,Q,Y,rfl⟩ | ⟨M,Q,Y,rfl⟩⟩
    all_goals
     rw[q1];go_enter Tryz.func51,Tryz.ntmps51;go_wp2_with (go_at_call 26;refine(q.o _ d.o).mono ?_;rintro e w' ⟨rfl,b⟩;clear t x y A C D F H;have S:=(N.o.keep b.o (by simp)).cell 7;obtain⟨t,x,y,A,C,D,F,H⟩:=J.o _ (d.o.trans b.o);clear q);go_wp2_with (go_at_call 28;refine(HV.o _).mono ?_;rintro e w' ⟨rfl,f⟩;clear t x y A C D F H S;have S:=(N.o.keep (b.o.trans f.o) (by simp)).cell 7;obtain⟨t,x,y,A,C,D,F,H⟩:=J.o _ ((d.o.trans b.o).trans f.o));go_ret;exact⟨by first | rfl | simp[M] | simp[Q] | simp[Y],bZ ((d.o.trans b.o).trans f.o)⟩
   rw[hV] at HV;clear hd;go_enter Tryz.func51,Tryz.ntmps51;go_wp2_with (go_at_call 26;refine(q.o _ d.o).mono ?_;rintro e w' ⟨rfl,b⟩;clear t x y A C D F H;have S:=(N.o.keep b.o (by simp)).cell 7;obtain⟨t,x,y,A,C,D,F,H⟩:=J.o _ (d.o.trans b.o);clear q);go_wp2_with (go_at_call 28;refine(HV.o _).mono ?_;rintro e w' ⟨rfl,f⟩;clear t x y A C D F H S;have S:=(N.o.keep (b.o.trans f.o) (by simp)).cell 7;obtain⟨t,x,y,A,C,D,F,H⟩:=J.o _ ((d.o.trans b.o).trans f.o));go_ret;exact⟨rfl,bZ ((d.o.trans b.o).trans f.o)⟩
  clear hd;go_enter Tryz.func51,Tryz.ntmps51;go_wp2_with (go_at_call 26;refine(q.o _ d.o).mono ?_;rintro e w' ⟨rfl,b⟩;clear t x y A C D F H;have S:=(N.o.keep b.o (by simp)).cell 7;obtain⟨t,x,y,A,C,D,F,H⟩:=J.o _ (d.o.trans b.o);clear q);go_ret;exact⟨rfl,bZ (d.o.trans b.o)⟩
theorem rL (w:World) (i:Int) (v:Vl) (x:E) (s r:ByteArray) (g b c:Nat) (L:Option Addr) (h:Nat) (l:List Vb) (q:Nat) (F:g<w.heap.size) (k:x.ok2=true) (n:x.args.length≠0) (y:1<=c/\c<=maxLen)
 (u:RdC 26 (E.text l) [.slice L q h] x w g b):
 Calls Tryz.prog 51 #[exV (.a 9 i v x) s r (some (U g b)) 1 c,.slice L q h] w (RoP w (.bool ((E.a 9 i v x).int l))):=by
  obtain⟨J,H,B,m,D,f,p,t⟩:=u;have z:=p k;have A:((m:Int)==0)=false:=beq_false_of_ne (by omega);have C:(0:Int)<(m:Int):=by omega
  have e:Z (ad [] w (w.alloc (.cells (exC (.a 9 i v x) s r (some (U g b)) 1 c) 26))):=bZ ((ad.refl [] w).alloc _);have d:=f _ e.o;unfold aC at d;unfold exC at e d;unfold exV;have j:(E.a 9 i v x).int l=false:=by cases x<;>first | rfl | (exact absurd rfl n) | cases k
  rw[j];simp only[opz,opa,opb,ixz,ixa,ixb,ltz,lta,ltb] at e d ⊢;obtain⟨K,M,N,O,P,Q,R,S⟩:=d;clear y p z n f t j;go_enter Tryz.func51,Tryz.ntmps51;go_wp2_with fail;go_ret;exact⟨rfl,e⟩
theorem zi (C:Nat->Prop) (L:Option Addr) (k:Nat) (l:List Vb) (f:Nat) (O:f=l.length):∀(e:E) (w:World) (J F:ByteArray) (A:Option Addr) (n c:Nat),e.ok2=true->e.rg->aY w C e A n->n<=c->c<=maxLen->bR w L l->
 Calls Tryz.prog 51 #[exV e J F A n c,.slice L f k] w (RoP w (.bool (e.int l))):=by
  refine E.ind (fun e ih=>?_);intro w J F A n c P M R t s S;have T:∀x∈e.args,∀g a K H B m D,XAt w C g a x K H B m D->RdC 51 (E.int l) [.slice L f k] x w g a:=fun x q g a K H B m D h=>
   ⟨K,H,B,m,D,fun W r=>(h.keep0 r).cells,fun Q=>h.ar.nlen Q,fun W r=>ih x q W K H B m D (cT P q) (bX M q) ((h.keep0 r).ar) h.mc h.cm (S.keep0 r)⟩
  cases e with
  | z o i v=>
   obtain⟨rfl,_⟩:=R;exact vR w o i v J F A c L k l f O M S
  | a o i v x=>
   obtain⟨rfl,g,d,K,H,B,m,D,rfl,hC,N,q⟩:=R.get1;by_cases X:o=3
   ·subst X;exact tK w i v x J F g d c L k l f N ⟨t,s⟩ (T x (by simp[E.args]) _ _ _ _ _ _ _ q)
   by_cases Y:o=9
   ·subst Y;have rt:RdC 26 (E.text l) [.slice L f k] x w g d:=⟨K,H,B,m,D,fun W r=>(q.keep0 r).cells,fun Q=>q.ar.nlen Q,fun W r=>oM C x W K H B m D L k l f O (cT (e:=.a 9 i v x) P (by simp[E.args])) ((q.keep0 r).ar) (S.keep0 r)⟩;by_cases hz:x.args.length=0
    ·obtain⟨p,j,u,rfl⟩:=isz (cT (e:=.a 9 i v x) P (by simp[E.args])) hz;exact rK w i p j v u J F g d c L k l f N M.2 ⟨t,s⟩ rt
    exact rL w i v x J F g d c L k l f N (cT (e:=.a 9 i v x) P (by simp[E.args])) hz ⟨t,s⟩ rt
   exact tJ w o i v x J F g d c L k l f X Y
  | b o i v x y=>
   obtain⟨rfl,g,d,K,H,B,m,D,ty,ny,B',m',c2,rfl,hC,N,q,hy⟩:=R.get2;exact vS w o i v x y J F g d c L k l f N ⟨t,s⟩ (T x (by simp[E.args]) _ _ _ _ _ _ _ q) (T y (by simp[E.args]) _ _ _ _ _ _ _ hy)
  | many=>cases P
end Go.Proofs.YtldmkbhgdbafhaaGreat
