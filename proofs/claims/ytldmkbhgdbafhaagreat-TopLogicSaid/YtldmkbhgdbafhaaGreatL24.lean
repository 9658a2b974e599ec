import Derived.Test.YtldmkbhgdbafhaaGreatL23
namespace Go.Proofs.YtldmkbhgdbafhaaGreat
open Go.RowKit
set_option linter.unusedSimpArgs false
set_option linter.unusedVariables false
set_option maxRecDepth 100000
set_option maxHeartbeats 64000000
def rgV (v:Vl):Prop:=(-9223372036854775808<=v.n/\v.n<9223372036854775808)/\v.s.size<=9223372036854775807
theorem jP (n:Int): -9223372036854775808<=w64 n/\w64 n<9223372036854775808:=by unfold w64;omega
theorem ye {a b:Int} (g: -9223372036854775808<=a/\a<9223372036854775808) (c:0<b): -9223372036854775808<=a/b/\a/b<9223372036854775808:=by
 by_cases h:0<=a
 ·have d:=Int.ediv_nonneg h (Int.le_of_lt c);have e:=Int.ediv_le_self b h;omega
 have d:a<=a/b:=Int.le_ediv_of_mul_le c (by
  have f:=Int.mul_nonneg (a:= -a) (b:=b - 1) (by omega) (by omega);rw[Int.mul_sub,Int.neg_mul,Int.mul_one] at f;omega)
 have e:=Int.ediv_neg_of_neg_of_pos (a:=a) (b:=b) (by omega) c;omega
theorem xy {r:List Vl} (l:∀v∈r,rgV v):∀ {e:E},e.rg->dvE r e->rgV (evE r e):=by
 have f:rgV em:=⟨by show (-9223372036854775808:Int)<=0/\(0:Int)<9223372036854775808;decide,by show (0:Nat)<=_;omega⟩;have c:∀n,-9223372036854775808<=n/\n<9223372036854775808->rgV (fG n):=fun n h=>⟨h,by show (0:Nat)<=_;omega⟩
 intro e
 induction e with
 | z o i v=>
  intro h _;unfold evE
  split
  ·exact h
  cases k:r[i.toNat]? with
  | none=>exact f
  | some v=>exact l v (CW k)
 | a o i v x ih=>
  intro h d;have g:=ih h.2 d.2;unfold evE
  split
  ·exact f
  split
  ·exact c _ (jP _)
  exact c _ (by have:=g.2;omega)
 | b o i v x y ih1 ih2=>
  intro h d;have g:=ih1 h.2.1 d.2.1;have m:=ih2 h.2.2 d.2.2.1;have j:=d.2.2.2;unfold evE
  split
  ·exact f
  split
  ·exact f
  split
  ·exact c _ (jP _)
  split
  ·exact c _ (jP _)
  split
  ·exact c _ (jP _)
  split
  ·exact c _ (ye g.1 (j (.inl ‹_›) ‹_›))
  exact c _ (jP _)
 | many=>intro _ h;exact h.elim
theorem lU (C:Nat->Prop) (R:Option Addr) (u:Nat) (r:List Vl) (q:Nat) (S:q=r.length) (N:∀v∈r,rgV v):∀(e:E) (w:World) (J F:ByteArray) (A:Option Addr) (n c:Nat),e.rg->dvE r e->aY w C e A n->n<=c->c<=maxLen->gI w R r->
 Calls Tryz.prog 32 #[exV e J F A n c,.slice R q u] w (RoP w (vV (evE r e))):=by
  refine E.ind (fun e ih=>?_);intro w J F A n c p d P M L hR;have T:∀x∈e.args,dvE r x->∀g a l j B m f,XAt w C g a x l j B m f->Z (∀W,ad [] w W->XCl W g a x.op x.ix x.lit.k x.lit.n l j x.lit.s B m f)/\Z (∀W,ad [] w W->Calls Tryz.prog 32 #[exV x l j B m f,.slice R q u] W (RoP W (vV (evE r x)))):=fun x D d g a l j B m f h=>
   ⟨bZ (fun W O=>(h.keep0 O).cells),bZ (fun W O=>ih x D W l j B m f (bX p D) d ((h.keep0 O).ar) h.mc h.cm (hR.keep0 O))⟩
  cases e with
  | z o i v=>
   obtain⟨rfl,_⟩:=P;unfold exV;simp only[opz,ixz,ltz];rcases d with rfl | ⟨rfl,h0,h1⟩
   ·exact uR w i v.k v.n J F v.s A R 0 c q u
   have hv:r[i.toNat]? =some (evE r (.z 2 i v)):=by
    rw[evE,if_neg (by decide),CT h1];rfl
   exact uS w i v.k v.n J F v.s A R 0 c q u r _ S hR h0 hv
  | a o i v x=>
   obtain⟨rfl,g,t,l,j,B,m,f,rfl,hC,Q,D⟩:=P.get1;obtain⟨X,H⟩:=T x (by simp[E.args]) d.2 _ _ _ _ _ _ _ D;unfold exV;simp only[opa,ixa,lta];exact yN w o i v.k v.n x.op x.ix x.lit.k x.lit.n J F v.s l j x.lit.s R B g t c q u m f (evE r x) d.1 Q ⟨M,L⟩ (xy N (bX p (by simp[E.args])) d.2).2 X H
  | b o i v x y=>
   obtain⟨rfl,g,t,l,j,B,m,f,ty,ny,B',m',c2,rfl,hC,Q,D,hy⟩:=P.get2;obtain⟨X,H⟩:=T x (by simp[E.args]) d.2.1 _ _ _ _ _ _ _ D;obtain⟨Y,K⟩:=T y (by simp[E.args]) d.2.2.1 _ _ _ _ _ _ _ hy;have h7:=d.2.2.2;unfold exV;simp only[opb,ixb,ltb];have e:vV (evE r (.b o i v x y))=if (evE r x).k=0 then .agg #[I 0,I 0,.string ⟨#[]⟩] else if (evE r y).k=0 then .agg #[I 0,I 0,.string ⟨#[]⟩] else .agg #[I 1,I (bnV o (evE r x).n (evE r y).n),.string ⟨#[]⟩]:=by
    rw[evE]
    split
    ·rfl
    split
    ·rfl
    unfold bnV
    split
    ·rfl
    split
    ·rfl
    split
    ·rfl
    split<;>rfl
   rw[e];exact yM w o i v.k v.n x.op x.ix x.lit.k x.lit.n y.op y.ix y.lit.k y.lit.n _ _ _ _ J F v.s l j x.lit.s ty ny y.lit.s _ _ R B B' g t c q u m f m' c2 d.1 Q ⟨M,L⟩ (xy N (bX p (by simp[E.args])) d.2.1).1 (fun h h'=>by have:=h7 h h';omega) X Y H K
  | many=>exact d.elim
theorem ja:∀a b:List UInt8,Op.bytesLess a b=decide (cY a b<0)
 | [],[]=>by simp[Op.bytesLess,cY]
 | [],_::_=>by simp[Op.bytesLess,cY]
 | _::_,[]=>by simp[Op.bytesLess,cY]
 | x::a,y::b=>by
   have e:=ja a b;unfold Op.bytesLess cY;by_cases h:x=y
   ·subst h;rw[if_pos rfl,e];simp[UInt8.lt_irrefl]
   rw[if_neg h,show (x==y)=false from beq_false_of_ne h,Bool.false_and,Bool.or_false];refine decide_eq_decide.2 ?_;rw[UInt8.lt_iff_toNat_lt];have d:x.toNat≠y.toNat:=fun c=>h (E6.1 c);unfold ai
   split<;>(try split)<;>omega
theorem vj (w:World) (a b:Vl):Calls Tryz.prog 33 #[vV a,vV b] w (RoP w (I (gf a b))):=by
 unfold vV gf;obtain⟨t,k,d⟩:=a;obtain⟨u,l,e⟩:=b;dsimp only;obtain⟨r,c⟩:∃r,r=if k<l\/cJ d e<0 then (-1:Int) else if l<k\/0<cJ d e then 1 else 0:=⟨_,rfl⟩
 rw[<-c];have i:Z (∀o n,ad [] w ((w.alloc o).alloc n)):=bZ (fun o n=>((ad.refl [] w).alloc o).alloc n);have m:Op.bytesLess d.toList e.toList=decide (cJ d e<0):=by rw[ja,Lib.toList_data,Lib.toList_data];rfl
 have g:(d.toList==e.toList)=decide (cJ d e=0):=by
  rw[Lib.toList_data,Lib.toList_data];unfold cJ;by_cases h:d.data.toList=e.data.toList
  ·rw[decide_eq_true (dU.2 h),h];exact beq_self_eq_true _
  rw[decide_eq_false (fun s=>h (dU.1 s))];exact beq_false_of_ne h
 by_cases p:k<l
 ·rw[if_pos (.inl p)] at c;replace c:=bZ c;clear m g;go_enter Tryz.func33,Tryz.ntmps33;go_wp2_with fail;go_ret;exact⟨by rw[c.o];rfl,bZ (i.o _ _)⟩
 by_cases f:cJ d e<0
 ·rw[if_pos (.inr f)] at c;replace c:=bZ c;rw[decide_eq_true f] at m;clear g f;go_enter Tryz.func33,Tryz.ntmps33;go_wp2_with fail;go_ret;exact⟨by rw[c.o];rfl,bZ (i.o _ _)⟩
 rw[if_neg (by omega)] at c;rw[decide_eq_false f] at m;by_cases q:l<k
 ·rw[if_pos (.inl q)] at c;replace c:=bZ c;clear g f;go_enter Tryz.func33,Tryz.ntmps33;go_wp2_with fail;go_ret;exact⟨by rw[c.o];rfl,bZ (i.o _ _)⟩
 by_cases j:cJ d e=0
 ·rw[if_neg (by omega)] at c;rw[decide_eq_true j] at g;replace c:=bZ c;clear f j;go_enter Tryz.func33,Tryz.ntmps33;go_wp2_with fail;go_ret;exact⟨by rw[c.o];rfl,bZ (i.o _ _)⟩
 rw[if_pos (by omega)] at c;rw[decide_eq_false j] at g;replace c:=bZ c;clear f j;go_enter Tryz.func33,Tryz.ntmps33;go_wp2_with fail;go_ret;exact⟨by rw[c.o];rfl,bZ (i.o _ _)⟩
theorem wF (w:World) (k n:Int) (s:ByteArray):Sem.run Tryz.prog (Instr.field 23 (.agg #[I k,I n,.string s]) 0) w=.ok (I k) w:=by
 kernel_rfl
theorem zw (w:World) (ix t v D z A C:Int) (r n x s q xs:ByteArray) (R B:Option Addr) (g a c p j m l:Nat) (u:Vl) (hg:g<w.heap.size) (hc:1<=c/\c<=maxLen)
 (i:Z (∀W,ad [] w W->XCl W g a D z A C s q xs B m l))
 (F:Z (∀W,ad [] w W->Calls Tryz.prog 32 #[.agg #[I D,.string s,.string q,I z,I A,I C,.string xs,.slice B m l],.slice R p j] W (RoP W (vV u)))):
 Calls Tryz.prog 9 #[.agg #[I 17,.string r,.string n,I ix,I t,I v,.string x,.slice (some (U g a)) 1 c],.slice R p j] w (RoP w (I (ofB (decide (u.k=0))))):=by
  have f:Z (ad [] w (w.alloc (.cells #[I 17,.string r,.string n,I ix,I t,I v,.string x,.slice (some (U g a)) 1 c] 26))):=bZ ((ad.refl [] w).alloc _);unfold XCl at i;obtain⟨N,O,P,Q,S,T,X,Y⟩:=i.o _ f.o;have d:=bZ (F.o _ f.o);have E:Z (∀W b,Calls Tryz.prog 31 #[.bool b] W (RoP W (I (ofB b)))):=bZ (fun W b=>za W b);obtain⟨k,y,vs⟩:=u;unfold vV at d;dsimp only at d ⊢;rw[show decide (k=0)=(k==0) from rfl];have H:g<w.heap.size+1:=by omega
  have J:∀W,Sem.run Tryz.prog (Instr.field 23 (.agg #[I k,I y,.string vs]) 0) W=.ok (I k) W:=fun W=>wF W k y vs;go_enter Tryz.func9,Tryz.ntmps9;go_wp2_with (first | (go_at_call 32;refine d.o.mono ?_;rintro e w5 ⟨rfl,K⟩;have M:=bZ (f.o.trans K.o);clear N O P Q S T X Y) | (go_at_call 31;refine(E.o _ _).mono ?_;rintro e w6 ⟨rfl,L⟩;have h:=bZ (M.o.trans L.o)));go_ret;exact⟨by first | rfl | simp,h⟩
theorem zv (w:World) (ix q r x t u v:Int) (n j s p l xs:ByteArray) (R B:Option Addr) (g b c k h m i:Nat) (a:Int) (O:0<=a/\a<=2) (Q:g<w.heap.size) (P:1<=c/\c<=maxLen)
 (f:Z (∀W,ad [] w W->XCl W g b x t u v p l xs B m i))
 (z:Z (∀W,ad [] w W->Calls Tryz.prog 9 #[.agg #[I x,.string p,.string l,I t,I u,I v,.string xs,.slice B m i],.slice R k h] W (RoP W (I a)))):
 Calls Tryz.prog 9 #[.agg #[I 20,.string n,.string j,I ix,I q,I r,.string s,.slice (some (U g b)) 1 c],.slice R k h] w (RoP w (I (if a=2 then 2 else 1 - a))):=by
  have d:Z (ad [] w (w.alloc (.cells #[I 20,.string n,.string j,I ix,I q,I r,.string s,.slice (some (U g b)) 1 c] 26))):=bZ ((ad.refl [] w).alloc _);unfold XCl at f;obtain⟨E,F,H,J,K,L,M,N⟩:=f.o _ d.o;have y:=bZ (z.o _ d.o);have A:g<w.heap.size+1:=by omega
  rcases(by omega:a=0\/a=1\/a=2) with rfl | rfl | rfl
  all_goals
   go_enter Tryz.func9,Tryz.ntmps9;go_wp2_with (go_at_call 9;refine y.o.mono ?_;rintro e S ⟨rfl,C⟩;have D:=bZ (d.o.trans C.o);clear E F H J K L M N);go_ret;exact⟨rfl,D⟩
theorem yz (w:World) (o ix uk un J E F H O L M N:Int) (tb nm us C z xs D A ys:ByteArray) (R B s:Option Addr) (g d c nr Q x t y u:Nat) (a b:Int) (ho:o=18\/o=19) (ha:0<=a/\a<=2) (hb:0<=b/\b<=2) (hg:g<w.heap.size) (hc:2<=c/\c<=maxLen)
 (Xx:Z (∀W,ad [] w W->XCl W g d J E F H C z xs B x t)) (Xy:Z (∀W,ad [] w W->XCl W g (d+8) O L M N D A ys s y u))
 (HX:Z (∀W,ad [] w W->Calls Tryz.prog 9 #[.agg #[I J,.string C,.string z,I E,I F,I H,.string xs,.slice B x t],.slice R nr Q] W (RoP W (I a))))
 (HY:Z (∀W,ad [] w W->Calls Tryz.prog 9 #[.agg #[I O,.string D,.string A,I L,I M,I N,.string ys,.slice s y u],.slice R nr Q] W (RoP W (I b)))) (r:Int)
 (X:r=if a=o - 18\/b=o - 18 then o - 18 else if a=2\/b=2 then 2 else 1 - (o - 18)):
 Calls Tryz.prog 9 #[.agg #[I o,.string tb,.string nm,I ix,I uk,I un,.string us,.slice (some (U g d)) 2 c],.slice R nr Q] w (RoP w (I r)):=by
  obtain⟨W0,l⟩:∃W,W=w.alloc (.cells #[I o,.string tb,.string nm,I ix,I uk,I un,.string us,.slice (some (U g d)) 2 c] 26):=⟨_,rfl⟩;obtain⟨T,p⟩:∃g,g=w.heap.size:=⟨_,rfl⟩;have q:Z (ad [] w W0):=bZ (by rw[l];exact(ad.refl [] w).alloc _);have b0:Z (Blk W0 T 26 #[I o,.string tb,.string nm,I ix,I uk,I un,.string us,.slice (some (U g d)) 2 c]):=bZ (by rw[l,p];exact Blk.new w 26 _);unfold XCl at Xx Xy;obtain⟨ov,a2⟩:∃v,v=I o:=⟨_,rfl⟩;have m:Z (∀P,ad [] W0 P->(fun f:World=>f.cell? (U T 7)=G (some (U g d)) 2 c/\(f.cell? (U g d)=some (I J)/\f.cell? (U g (d+1))=some (.string C)/\f.cell? (U g (d+2))=some (.string z)/\f.cell? (U g (d+3))=some (I E)/\f.cell? (U g (d+4))=some (I F)/\f.cell? (U g (d+5))=some (I H)/\f.cell? (U g (d+6))=some (.string xs)/\f.cell? (U g (d+7))=G B x t)/\(f.cell? (U g (d+8))=some (I O)/\f.cell? (U g (d+8+1))=some (.string D)/\f.cell? (U g (d+8+2))=some (.string A)/\f.cell? (U g (d+8+3))=some (I L)/\f.cell? (U g (d+8+4))=some (I M)/\f.cell? (U g (d+8+5))=some (I N)/\f.cell? (U g (d+8+6))=some (.string ys)/\f.cell? (U g (d+8+7))=G s y u)) P):=bZ (fun P h=>⟨(b0.o.keep h (by simp)).cell 7,Xx.o _ (q.o.trans h),Xy.o _ (q.o.trans h)⟩);rcases(by omega:a=0\/a=1\/a=2) with rfl | rfl | rfl<;>rcases(by omega:b=0\/b=1\/b=2) with rfl | rfl | rfl<;>rcases ho with rfl | rfl
  all_goals
   replace X:=bZ X;go_enter Tryz.func9,Tryz.ntmps9;go_wp2_with fail;rw[<-l,<-p];clear l p;refine ae (S:=(fun f:World=>f.cell? (U T 7)=G (some (U g d)) 2 c/\(f.cell? (U g d)=some (I J)/\f.cell? (U g (d+1))=some (.string C)/\f.cell? (U g (d+2))=some (.string z)/\f.cell? (U g (d+3))=some (I E)/\f.cell? (U g (d+4))=some (I F)/\f.cell? (U g (d+5))=some (I H)/\f.cell? (U g (d+6))=some (.string xs)/\f.cell? (U g (d+7))=G B x t)/\(f.cell? (U g (d+8))=some (I O)/\f.cell? (U g (d+8+1))=some (.string D)/\f.cell? (U g (d+8+2))=some (.string A)/\f.cell? (U g (d+8+3))=some (I L)/\f.cell? (U g (d+8+4))=some (I M)/\f.cell? (U g (d+8+5))=some (I N)/\f.cell? (U g (d+8+6))=some (.string ys)/\f.cell? (U g (d+8+7))=G s y u))) (n:=14) (by kernel_rfl) ?_;have k:=m.o W0.drew (ad.refl [] W0).drew
   try dsimp only at k
   refine ord [0,1,2,3,4,6,7,8,9,10] ?_
   iterate 10 (refine tq k ?_;try simp only[PT,Y1,Y2,Y3])
   refine aB ?_;refine J1 5 fun K j=>?_;dsimp only[Y1,Y2,Y3];go_simp;refine(HX.o _ (q.o.trans (ad.refl [] W0).drew)).mono ?_;rintro e w5 ⟨rfl,a0⟩;have Y:=bZ ((ad.refl [] W0).drew.trans a0.o);have i:=m.o w5 Y.o
   try dsimp only at i
   refine j _ _ (.inr i) ?_;clear j K k;have k:=i;clear i
   try simp only[PT,Y1,Y2,Y3]
   refine J1 11 fun K j=>?_;dsimp only[Y1,Y2,Y3];go_simp;refine(HY.o _ (q.o.trans Y.o)).mono ?_;rintro e w6 ⟨rfl,a1⟩;have k6:=bZ (Y.o.trans a1.o);have i:=m.o w6 k6.o
   try dsimp only at i
   refine j _ _ (.inr i) ?_;clear j K k;have k:=i;clear i
   try simp only[PT,Y1,Y2,Y3]
   refine J1 12 fun K j=>?_;dsimp only[Y1,Y2,Y3];go_simp;refine j _ _ (.inr k) ?_;clear j K
   try simp only[PT,Y1,Y2,Y3]
   refine J1 13 fun K j=>?_;dsimp only[Y1,Y2,Y3];go_simp;refine j _ _ (.inr k) ?_;clear j K
   try simp only[PT,Y1,Y2,Y3]
   refine JD ?_;clear k;have y0:=(b0.o.keep k6.o (by simp)).cell 0;go_wp2_with fail;go_ret;exact⟨by rw[X.o];rfl,bZ (q.o.trans k6.o)⟩
section
theorem iY {s:List UInt8}:lk [] s=true↔s=[]:=by unfold lk;simp
theorem pz {p s:List UInt8}:lk (37::p) s=true↔∃i,i<=s.length/\lk p (s.drop i)=true:=by
 rw[lk.eq_def];dsimp only;rw[if_pos rfl,Fo];constructor
 ·rintro⟨i,b,a⟩;exact⟨i,by have:=List.mem_range.1 b;omega,a⟩
 rintro⟨i,b,a⟩;exact⟨i,List.mem_range.2 (by omega),a⟩
theorem mj {c:UInt8} {p s:List UInt8} (f:c≠37):lk (c::p) s=true↔∃d e,s=d::e/\(c=95\/c=d)/\lk p e=true:=by
 rw[lk.eq_def];dsimp only;rw[if_neg f];cases s with
 | nil=>simp
 | cons d s=>
  simp only[Bool.and_eq_true,Bool.or_eq_true,beq_iff_eq];constructor
  ·rintro⟨a,b⟩;exact⟨d,s,rfl,a,b⟩
  rintro⟨g,e,h,a,b⟩;cases h;exact⟨a,b⟩
theorem iZ:∀ {p q s:List UInt8},lk (p++q) s=true↔∃j,j<=s.length/\lk p (s.take j)=true/\lk q (s.drop j)=true
 | [],q,s=>by
   simp only[Dm,iY];constructor
   ·intro h;exact⟨0,C3 _,rfl,h⟩
   rintro⟨j,g,a,b⟩;have:(s.take j).length=0:=by rw[a];rfl
   rw[CY] at this;have n:j=0\/s=[]:=by
    rcases DY j with h | h
    ·exact .inl h
    exact .inr (Dh (by omega))
   rcases n with rfl | rfl
   ·exact b
   simpa using b
 | c::p,q,s=>by
   by_cases l:c=37
   ·subst l;simp only[D3,pz,iZ (p:=p)];constructor
    ·rintro⟨i,g,j,a,b,f⟩;rw[Da] at a;refine⟨i+j,by omega,⟨i,by rw[CY];omega,?_⟩,?_⟩
     ·rw[List.drop_take,Ff];exact b
     rw[<-Eo];exact f
    rintro⟨j,g,⟨i,a,b⟩,f⟩;rw[CY] at a;refine⟨i,by omega,j - i,by rw[Da];omega,?_,?_⟩
    ·rw[List.drop_take] at b;exact b
    rw[Eo,Nat.add_sub_cancel' (by omega)];exact f
   simp only[D3,mj l];constructor
   ·rintro⟨d,m,rfl,g,a⟩;obtain⟨j,b,f,k⟩:=iZ.1 a;exact⟨j+1,by simpa using b,⟨d,m.take j,rfl,g,f⟩,k⟩
   rintro⟨j,g,⟨d,m,a,b,f⟩,k⟩;cases s with
   | nil=>simp at a
   | cons e s=>
    cases j with
    | zero=>simp at a
    | succ j=>
     simp only[List.take_succ_cons,List.cons.injEq] at a;obtain⟨rfl,rfl⟩:=a;exact⟨e,s,rfl,b,iZ.2 ⟨j,by simpa using g,f,by simpa using k⟩⟩
def lkT (p s:List UInt8) (i k:Nat):Bool:=lk (p.take i) (s.take k)
section
variable {p s:List UInt8} {i k:Nat}
theorem fC:lkT p s 0 k=true↔k=0\/s=[]:=by
 unfold lkT;rw[EY,iY];constructor
 ·intro h;have:(s.take k).length=0:=by rw[h];rfl
  rw[CY] at this;rcases DY k with h | h
  ·exact .inl h
  exact .inr (Dh (by omega))
 rintro(rfl | rfl)<;>simp
theorem ml (e:p[i]? =some 37) (f:k<=s.length):lkT p s (i+1) k=true↔∃j,j<=k/\lkT p s i j=true:=by
 unfold lkT;rw[Dq,e];simp only[Option.toList_some];rw[iZ];have d:(s.take k).length=k:=by rw[CY];omega
 have c:∀t:List UInt8,lk [37] t=true:=fun t=>pz.2 ⟨t.length,C9 _,by simp[lk]⟩;rw[d];constructor
 ·rintro⟨j,a,b,_⟩;rw[Eu,Es a] at b;exact⟨j,a,b⟩
 rintro⟨j,a,b⟩;exact⟨j,a,by rw[Eu,Es a];exact b,c _⟩
theorem j5 (b:p[i]? =some 37):lkT p s (i+1) 0=lkT p s i 0:=by
 rw[Bool.eq_iff_iff,ml b (C3 _)];constructor
 ·rintro⟨j,c,a⟩;obtain rfl:j=0:=by omega
  exact a
 intro h;exact⟨0,C9 _,h⟩
theorem j4 (c:p[i]? =some 37) (d:k<s.length):lkT p s (i+1) (k+1)=(lkT p s i (k+1) || lkT p s (i+1) k):=by
 rw[Bool.eq_iff_iff,Bool.or_eq_true,ml c (by omega),ml c (by omega)];constructor
 ·rintro⟨j,b,a⟩;rcases Nat.lt_or_eq_of_le b with h | rfl
  ·exact .inr ⟨j,by omega,a⟩
  exact .inl a
 rintro(h | ⟨j,b,a⟩)
 ·exact⟨_,C9 _,h⟩
 exact⟨j,by omega,a⟩
theorem nI {c:UInt8} (b:p[i]? =some c) (a:c≠37):lkT p s (i+1) 0=false:=by
 unfold lkT;rw[Dq,b,Bool.eq_false_iff];simp only[Option.toList_some,EY,ne_eq];rw[iZ];rintro⟨j,_,_,h⟩;obtain⟨d,e,h,_⟩:=(mj a).1 h;simp at h
theorem nH {c d:UInt8} (u:p[i]? =some c) (n:c≠37) (g:s[k]? =some d):lkT p s (i+1) (k+1)=(lkT p s i k && (c==95 || c==d)):=by
 have v:k<s.length:=(CV.1 g).1;have o:(s.take (k+1)).length=k+1:=by rw[CY];omega
 rw[Bool.eq_iff_iff,Bool.and_eq_true,Bool.or_eq_true,beq_iff_eq,beq_iff_eq];unfold lkT;rw[Dq (l:=p),u];simp only[Option.toList_some];rw[iZ,o];constructor
 ·rintro⟨j,h,a,q⟩;obtain⟨e,w,b,r,m⟩:=(mj n).1 q;rw[iY] at m;subst m;have t:((s.take (k+1)).drop j).length=1:=by rw[b];rfl
  rw[Da,o] at t;obtain rfl:j=k:=by omega
  rw[List.drop_take,show j+1 - j=1 by omega] at b;have f:((s.drop j).take 1)[0]? =some d:=by rw[Dx,if_pos (by decide),DK];exact g
  rw[b] at f;simp at f;subst f;rw[Eu,Es (by omega)] at a;exact⟨a,r⟩
 rintro⟨h,a⟩;refine⟨k,by omega,by rw[Eu,Es (by omega)];exact h,(mj n).2 ⟨d,[],?_,a,iY.2 rfl⟩⟩;rw[Dq,g,List.drop_append,CY,Es (by omega)];simp
theorem qK:lkT p s p.length s.length=lk p s:=by unfold lkT;rw[List.take_length,List.take_length]
def lkR (p s:List UInt8) (i k:Nat):Bool:=if p[i]? =some 37 then lkT p s (i+1) k else lkT p s i k
theorem vG:lkR p s p.length k=lkT p s p.length k:=by unfold lkR;rw[if_neg (by simp)]
theorem xQ:lkR p s 0 0=true:=by
 unfold lkR
 split
 ·rw[j5 ‹_›];exact fC.2 (.inl rfl)
 exact fC.2 (.inl rfl)
theorem xO (e:i<p.length):lkR p s (i+1) 0=(decide (p[i]? =some 37) && lkR p s i 0):=by
 have a:lkR p s (i+1) 0=lkT p s (i+1) 0:=by
  unfold lkR
  split
  ·exact j5 ‹_›
  rfl
 rw[a];by_cases h:p[i]? =some 37
 ·rw[decide_eq_true h,Bool.true_and];unfold lkR;rw[if_pos h]
 rw[decide_eq_false h,Bool.false_and];obtain⟨c,b⟩:∃c,p[i]? =some c:=⟨p[i],CT e⟩;exact nI b (fun d=>h (by rw[b,d]))
def lkN (p s:List UInt8) (i k:Nat) (d:UInt8):Bool:=
 (decide (p[i]? =some 37) && lkR p s i k) || (match i with | 0=>false | j+1=>(match p[j]? with | some c=>!decide (c=37) && ((c==95 || c==d) && lkR p s j k) | none=>false))
theorem xP {d:UInt8} (c:s[k]? =some d):lkR p s 0 (k+1)=lkN p s 0 k d:=by
 have b:k<s.length:=(CV.1 c).1;have a:lkT p s 0 (k+1)=false:=by
  rw[Bool.eq_false_iff];intro h;rcases fC.1 h with h | h
  ·omega
  subst h;simp at b
 unfold lkN;simp only[Bool.or_false];by_cases h:p[0]? =some 37
 ·rw[decide_eq_true h,Bool.true_and];unfold lkR;rw[if_pos h,if_pos h,j4 h b,a,Bool.false_or]
 rw[decide_eq_false h,Bool.false_and];unfold lkR;rw[if_neg h];exact a
theorem xN {d:UInt8} (j:i<p.length) (f:s[k]? =some d):lkR p s (i+1) (k+1)=(lkN p s (i+1) k d || (decide (p[i]? =some 37) && lkR p s i (k+1))):=by
 have l:k<s.length:=(CV.1 f).1;obtain⟨c,a⟩:∃c,p[i]? =some c:=⟨p[i],CT j⟩;have e:lkT p s (i+1) (k+1)=((!decide (c=37) && ((c==95 || c==d) && lkR p s i k)) || (decide (p[i]? =some 37) && lkR p s i (k+1))):=by
  by_cases h:c=37
  ·subst h;rw[decide_eq_true a];unfold lkR;rw[if_pos a];simp[a]
  rw[show decide (p[i]? =some 37)=false from decide_eq_false (fun b=>by rw[a] at b;exact h (Option.some.inj b))];rw[decide_eq_false h];simp only[Bool.not_false,Bool.true_and,Bool.false_and,Bool.or_false];unfold lkR;rw[if_neg (fun b=>by rw[a] at b;exact h (Option.some.inj b)),nH a h f,Bool.and_comm]
 have g:lkN p s (i+1) k d=((decide (p[i+1]? =some 37) && lkR p s (i+1) k) || (!decide (c=37) && ((c==95 || c==d) && lkR p s i k))):=by
  unfold lkN;simp only[a]
 rw[g,Bool.or_assoc,<-e];by_cases h:p[i+1]? =some 37
 ·rw[decide_eq_true h,Bool.true_and];unfold lkR;rw[if_pos h,if_pos h,j4 h l,Bool.or_comm]
 rw[decide_eq_false h,Bool.false_and,Bool.false_or];unfold lkR;rw[if_neg h]
end
end
def bg (f:Nat->Bool) (n:Nat):Array Value:=((List.range n).map (fun i=>Value.bool (f i))).toArray
theorem bw {f:Nat->Bool} {n i:Nat} (h:i<n):(bg f n)[i]? =some (.bool (f i)):=by simp[bg,h]
theorem bB {f g:Nat->Bool} {n:Nat} (h:∀i,i<n->f i=g i):bg f n=bg g n:=by
 unfold bg
 congr 1
 exact List.map_congr_left (fun i a=>by rw[h i (List.mem_range.1 a)])
theorem fw {f:Nat->Bool} {n i:Nat} {v:Bool}:(bg f n).setIfInBounds i (.bool v)=bg (fun j=>if j=i then v else f j) n:=by
 apply Array.ext_getElem?;intro j;rw[D7];by_cases a:j<n
 ·rw[bw a];by_cases h:i=j
  ·subst h;simp[bg,a]
  rw[if_neg h,bw a,if_neg (Ne.symm h)]
 have:(bg (fun j=>if j=i then v else f j) n)[j]? =none:=by simp[bg];omega
 rw[this]
 split
 ·simp[bg];omega
 simp[bg];omega
theorem fU (n:Nat):madeCells (Value.bool false).cells (n*1)=bg (fun _=>false) n:=by
 rw[EU,show (Value.bool false).cells=Array.replicate 1 (Value.bool false) from rfl,j3 _ _ _ (by decide)];unfold bg
 congr 1
 apply Ee;intro j;by_cases a:j<n
 ·simp[a]
 rw[D9 (by simp;omega),D9 (by simp;omega)]
theorem qM:(Tryz.prog.info? 4).map (fun i=>(i.zero,i.size,i.bytes))=some (some (.bool false),1,1):=by kernel_rfl
theorem fp (a b:UInt8):(((a.toNat:Int)==(b.toNat:Int))=decide (a=b)):=by
 by_cases h:a=b
 ·subst h;simp
 rw[decide_eq_false h];exact beq_false_of_ne (fun c=>h (E6.1 (by omega)))
theorem lh {F:Nat->Bool} {n i:Nat} {v:Bool} (h:v=F i):(bg (fun j=>if j<i then F j else false) n).setIfInBounds i (.bool v)=bg (fun j=>if j<i+1 then F j else false) n:=by
 rw[fw];refine bB (fun j _=>?_);by_cases a:j=i
 ·subst a;rw[if_pos rfl,if_pos (Nat.lt_succ_self _),h]
 rw[if_neg a];by_cases b:j<i
 ·rw[if_pos b,if_pos (by omega)]
 rw[if_neg b,if_neg (by omega)]
theorem ry {F:Nat->Bool} {n i:Nat} (h:F i=false):bg (fun j=>if j<i then F j else false) n=bg (fun j=>if j<i+1 then F j else false) n:=by
 refine bB (fun j _=>?_);by_cases b:j=i
 ·subst b;rw[if_neg (Nat.lt_irrefl _),if_pos (Nat.lt_succ_self _),h]
 by_cases a:j<i
 ·rw[if_pos a,if_pos (by omega)]
 rw[if_neg a,if_neg (by omega)]
theorem xR (w:World) (s p:ByteArray) (hs:s.size<=100000) (hp:p.size<=100000):Calls Tryz.prog 34 #[.string s,.string p] w (RoP w (.bool (lkB s p))):=by
 obtain⟨S,hS⟩:∃S,S=s.data.toList:=⟨_,rfl⟩;obtain⟨P,hP⟩:∃P,P=p.data.toList:=⟨_,rfl⟩;have Q:Z (S.length=s.size):=bZ (by rw[hS,DO];rfl);have am:Z (P.length=p.size):=bZ (by rw[hP,DO];rfl);have an:Z (∀j (h:j<s.size),S[j]? =some (s[j]'h)):=bZ (fun j h=>by rw[hS];exact di s h);have ak:Z (∀j (h:j<p.size),P[j]? =some (p[j]'h)):=bZ (fun j h=>by rw[hP];exact di p h);have a6:Z (lkB s p=lkT P S p.size s.size):=bZ (by
  rw[<-am.o,<-Q.o,qK,hS,hP];rfl)
 generalize lkB s p=R at*;obtain⟨n,hn⟩:∃n,n=s.size:=⟨_,rfl⟩;have aq:(n:Int)=(s.size:Int):=by rw[hn]
 obtain⟨m,hm⟩:∃m,m=n+1:=⟨_,rfl⟩;have wn:IntKind.i64.wrap ((s.size:Int)+1)=(m:Int):=by rw[C0 _ (by omega)];omega
 have b6:m<=100001:=by omega
 have z:Z (m=s.size+1):=bZ (by omega);have b7:=bZ hn;clear hS hP hn aq hm;go_enter Tryz.func34,Tryz.ntmps34;go_upto_region 2 with (refine eb rfl 121 (.tmp 11) (.tmp 11) rfl 4 (.bool false) 1 1 Tryz.underlying121 qM .i64 .i64 m m rfl rfl (by omega) (by omega) (by omega) ?_;intro w1 B1 k1 z1);obtain⟨O,T⟩:∃g,g=w.heap.size:=⟨_,rfl⟩;rw[fU,<-T] at B1;rw[<-T];have a3:Z (w.heap.size<=O):=bZ (by omega);clear T;replace k1:=bZ k1;have c0:w1.cell? (U O 0)=some (.bool false):=by rw[B1.o.cell];exact bw (by have:=z.o;omega)
 have f0:=B1.o.frozen 0;have l0:=B1.o.lt;have b5:(0:Int)<(m:Int):=by have:=z.o;omega
 go_wp2_with fail;have B2:Z (Blk (w1.setCell (U O 0) (.bool true)) O 4 (bg (fun i=>lkT P S 0 i) m)):=bZ (by
  have:=B1.o.set_ 0 (.bool true);rw[fw] at this;rw[<-bB (f:=fun j=>if j=0 then true else false)]
  ·exact this
  intro i hi;have a4:i<S.length+1:=by rw[Q.o];have:=z.o;omega
  by_cases h:i=0
  ·subst h;exact(fC.2 (.inl rfl)).symm
  rw[if_neg h];symm;rw[Bool.eq_false_iff];intro hh;rcases fC.1 hh with h' | h'
  ·exact h h'
  subst h';simp at a4;exact h a4)
 have k2:Z (ad [] w (w1.setCell (U O 0) (.bool true))):=bZ (k1.o.setCell (.inr a3.o) _);generalize w1.setCell (U O 0) (.bool true)=w2 at*;clear c0 f0 l0 B1 k1 z1;go_loopw [5,6] (fun s5 s6 wr=>∃(k g:Nat),k<=p.size/\s5=.slice (V g) m m/\s6=I (k:Int)/\Z (Blk wr g 4 (bg (fun i=>lkT P S k i) m))/\Z (ad [] w wr)) (fun _ s6 _=>p.size - (intOf s6).toNat)
 case atStart=>exact⟨0,O,C3 _,rfl,rfl,B2,k2⟩
 obtain⟨k,g,hk,rfl,rfl,hB,H⟩:=hrel;obtain⟨wo,av⟩:∃x,x=wr:=⟨_,rfl⟩;subst av;by_cases y:k<p.size
 ·have b4:(k:Int)<(p.size:Int):=by omega
  have wk:IntKind.i64.wrap ((k:Int)+1)=(k:Int)+1:=C0 _ (by omega);obtain⟨c,L⟩:∃c,c=p[k]'y:=⟨_,rfl⟩;have J:Z (P[k]? =some c):=bZ (by rw[ak.o k y,L]);go_upto_region 7 with (refine eb rfl 121 (.tmp 23) (.tmp 23) rfl 4 (.bool false) 1 1 Tryz.underlying121 qM .i64 .i64 m m rfl rfl (by omega) (by omega) (by omega) ?_;intro w3 B3 k3 z3);obtain⟨q,W⟩:∃g,g=wo.heap.size:=⟨_,rfl⟩;rw[fU,<-W] at B3;rw[<-W];have M:Z (w.heap.size<=q):=bZ (by have:=H.o.size;omega);have ar:q≠g:=by have:=hB.o.lt;omega
  have N:g≠q:=Ne.symm ar;have a9:=bZ (hB.o.keep k3 (by simp));have ab:=bZ (H.o.trans k3);clear hB H z3 k3 W;go_wp2_with fail;go_loopw [8] (fun s8 wr=>∃(i:Nat),i<=m/\s8=I (i:Int)/\Z (Blk wr q 4 (bg (fun j=>if j<i then lkT P S (k+1) j else false) m))/\Z (Blk wr g 4 (bg (fun i=>lkT P S k i) m))/\Z (ad [] w wr)) (fun s8 _=>m - (intOf s8).toNat)
  case atStart=>exact⟨0,C3 _,rfl,bZ (by simpa using B3.o),a9,ab⟩
  obtain⟨i,hi,rfl,B,E,H⟩:=hrel;obtain⟨u,au⟩:∃x,x=wr:=⟨_,rfl⟩;subst au;by_cases a5:i<m
  ·have ao:(i:Int)<=(s.size:Int):=by have:=z.o;omega
   have b3:(i:Int)<(m:Int):=by omega
   have bc:IntKind.i64.wrap ((i:Int)+1)=(i:Int)+1:=C0 _ (by omega);have xi:u.cell? (U q i)=some (.bool false):=by rw[B.o.cell,bw a5,if_neg (Nat.lt_irrefl _)]
   have fi:=B.o.frozen i;have li:=B.o.lt;have xf:u.cell? (U g i)=some (.bool (lkT P S k i)):=by rw[E.o.cell,bw a5]
   have r:Z (∀v,v=lkT P S (k+1) i->Blk (u.setCell (U q i) (.bool v)) q 4 (bg (fun j=>if j<i+1 then lkT P S (k+1) j else false) m)/\Blk (u.setCell (U q i) (.bool v)) g 4 (bg (fun i=>lkT P S k i) m)/\ad [] w (u.setCell (U q i) (.bool v))):=bZ (fun v hv=>
    ⟨by rw[<-lh hv];exact B.o.set_ i _,E.o.far (p:=(U q i)) N _,H.o.setCell (.inr M.o) _⟩)
   have l:Z (∀v,v=lkT P S (k+1) i->Blk (u.drew.setCell (U q i) (.bool v)) q 4 (bg (fun j=>if j<i+1 then lkT P S (k+1) j else false) m)/\Blk (u.drew.setCell (U q i) (.bool v)) g 4 (bg (fun i=>lkT P S k i) m)/\ad [] w (u.drew.setCell (U q i) (.bool v))):=bZ (fun v hv=>
    ⟨by rw[<-lh hv];exact B.o.drew.set_ i _,E.o.drew.far (p:=(U q i)) N _,H.o.drew.setCell (.inr M.o) _⟩)
   obtain⟨v0,D⟩:∃v,v=lkT P S k i:=⟨_,rfl⟩;rw[<-D] at xf;replace D:=bZ D;by_cases h0:i=0
   ·subst h0;by_cases e:c=37
    ·have C:(((p[k]'y).toNat:Int)==37)=true:=by rw[<-L,e];rfl
     have a:=r.o v0 (by rw[D.o];exact(j5 (by rw[J.o,e])).symm);clear r l e B E;cases v0
     all_goals
      replace a:=bZ a;go_wp2_with fail;go_roundw
      case rel=>exact⟨1,by omega,rfl,bZ a.o.1,bZ a.o.2.1,bZ a.o.2.2⟩
      case measure=>simp[intOf];omega
    have C:(((p[k]'y).toNat:Int)==37)=false:=by rw[<-L];exact(fp c 37).trans (decide_eq_false e)
    have ac:Z (Blk u q 4 (bg (fun j=>if j<0+1 then lkT P S (k+1) j else false) m)):=bZ (by
     rw[<-ry (F:=lkT P S (k+1)) (nI J.o e)];exact B.o)
    clear r l e B;go_wp2_with fail;go_roundw
    case rel=>exact⟨1,by omega,rfl,ac,E,H⟩
    case measure=>simp[intOf];omega
   obtain⟨t,K⟩:∃t,i=t+1:=⟨i - 1,by omega⟩;have bb:IntKind.i64.wrap ((i:Int) - 1)=(t:Int):=by rw[C0 _ (by omega)];omega
   have A:t<s.size:=by have:=z.o;omega
   have ax:(t:Int)<(s.size:Int):=by omega
   have b0:(t:Int)<(m:Int):=by omega
   have ap:(0:Int)<(i:Int):=by omega
   obtain⟨d,hd⟩:∃d,d=s[t]'A:=⟨_,rfl⟩;have a2:S[t]? =some d:=by rw[an.o t A,hd]
   have xp:u.cell? (U g t)=some (.bool (lkT P S k t)):=by rw[E.o.cell,bw (by omega)]
   have xn:u.cell? (U q t)=some (.bool (lkT P S (k+1) t)):=by rw[B.o.cell,bw (by omega),if_pos (by omega)]
   by_cases e:c=37
   ·have C:(((p[k]'y).toNat:Int)==37)=true:=by rw[<-L,e];rfl
    obtain⟨vn,a0⟩:∃v,v=lkT P S (k+1) t:=⟨_,rfl⟩;rw[<-a0] at xn;have a:=r.o (v0 || vn) (by rw[D.o,a0,K];exact(j4 (by rw[J.o,e]) (by rw[Q.o];exact A)).symm);clear r l e B E a0 K xp h0;cases v0<;>cases vn
    all_goals
     replace a:=bZ a;go_wp2_with fail;go_roundw
     case rel=>exact⟨i+1,by omega,by go_num,bZ a.o.1,bZ a.o.2.1,bZ a.o.2.2⟩
     case measure=>simp[intOf];omega
   have C:(((p[k]'y).toNat:Int)==37)=false:=by rw[<-L];exact(fp c 37).trans (decide_eq_false e)
   obtain⟨q5,X⟩:∃b,b=(c==95):=⟨_,rfl⟩;obtain⟨qd,Y⟩:∃b,b=(c==d):=⟨_,rfl⟩;have b1:(((p[k]'y).toNat:Int)==95)=q5:=by rw[<-L,X];exact fp c 95
   have b8:(((p[k]'y).toNat:Int)==((s[t]'A).toNat:Int))=qd:=by rw[<-L,<-hd,Y];exact fp c d
   obtain⟨vp,a1⟩:∃v,v=lkT P S k t:=⟨_,rfl⟩;rw[<-a1] at xp;have a:=l.o (vp && (q5 || qd)) (by rw[a1,X,Y,K];exact(nH J.o e a2).symm);clear r l e B E a1 K xn xf h0 X Y a2 L hd;cases vp<;>cases q5<;>cases qd
   all_goals
    replace a:=bZ a;go_wp2_with fail;refine ae (S:=(fun w'=>w'.cell? (U g t)=u.cell? (U g t))) (n:=23) (by kernel_rfl) ?_;have HS:(fun w':World=>w'.cell? (U g t)=u.cell? (U g t)) u.drew:=rfl;have bd:u.drew.cell? (U q i)=some (.bool false):=xi;have b2:u.drew.frozen? (U q i)=false:=fi;have ba:q<u.drew.heap.size:=li;refine ord [0,1,2,3,4,5,6,7,8,9,10,11,12,13,14,15,16,17,18,19,20,21,22] ?_
    iterate 8 (refine tq HS ?_;try simp only[PT,Y1,Y2,Y3])
    iterate 14 (first | (refine tu HS ?_;try simp only[PT,Y1,Y2,Y3]) | (refine tq HS ?_;try simp only[PT,Y1,Y2,Y3]))
    refine tq HS ?_;try simp only[PT,Y1,Y2,Y3]
    refine aB ?_;refine JQ 23 ?_
    try simp only[PT,Y1,Y2,Y3]
    refine JQ 24 ?_
    try simp only[PT,Y1,Y2,Y3]
    refine JD ?_;go_wp2_with fail;go_roundw
    case rel=>exact⟨i+1,by omega,by go_num,bZ a.o.1,bZ a.o.2.1,bZ a.o.2.2⟩
    case measure=>simp[intOf];omega
  obtain rfl:i=m:=by omega
  have ao:((i:Int)<=(s.size:Int))=False:=eq_false (by have:=z.o;omega);have aa:Z (Blk u q 4 (bg (fun j=>lkT P S (k+1) j) i)):=bZ (by
   rw[<-bB (f:=fun j=>if j<i then lkT P S (k+1) j else false) (fun j hj=>if_pos hj)];exact B.o)
  clear E B;go_wp2_with fail;go_roundw
  case rel=>exact⟨k+1,q,by omega,rfl,by go_num,aa,H⟩
  case measure=>simp[intOf];omega
 obtain rfl:k=p.size:=by omega
 have b9:(s.size:Int)<(m:Int):=by have:=z.o;omega
 have xr:wo.cell? (U g s.size)=some (.bool R):=by rw[hB.o.cell,bw (by omega),a6.o]
 have lg:=hB.o.lt;clear hB;go_wp2_with fail;go_ret;exact⟨rfl,H⟩
end Go.Proofs.YtldmkbhgdbafhaaGreat
