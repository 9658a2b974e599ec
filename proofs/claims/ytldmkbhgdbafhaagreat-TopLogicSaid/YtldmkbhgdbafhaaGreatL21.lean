import Derived.Test.YtldmkbhgdbafhaaGreatL20
namespace Go.Proofs.YtldmkbhgdbafhaaGreat
open Go.RowKit
set_option linter.unusedSimpArgs false
set_option linter.unusedVariables false
set_option maxRecDepth 100000
set_option maxHeartbeats 64000000
theorem ss {v:Vl} (a:v.k=0) (b:v.n=0) (c:v.s.size=0):vOk v=true:=by simp[vOk,a,b,c]
theorem lm (C:Nat->Prop) (L:Option Addr) (r:Nat) (l:List Vb) (p:Nat) (F:p=l.length) (e:E) (w:World) (g f:ByteArray) (A:Option Addr) (n c:Nat)
 (R:∃d,d<=12/\e.short d=true) (x:e.rg) (D:aY w C e A n) (u:n<=c) (t:c<=maxLen) (Q:bR w L l):
 Calls Tryz.prog 25 #[exV e g f A n c,.slice L p r] w (RoP w (.bool (bT l e))):=by
  have m:e.ok2=true:=by obtain⟨d,_,h⟩:=R;exact cw h
  have J:=D.nlen m;have B:Z (∀W,ad [] w W->Calls Tryz.prog 27 #[exV e g f A n c] W (RoP W (.bool e.null))):=bZ (fun W j=>pq C e W g f A n c m (D.keep0 j) u t);have q:Z (∀W,ad [] w W->Calls Tryz.prog 26 #[exV e g f A n c,.slice L p r] W (RoP W (.bool (e.text l)))):=bZ (fun W j=>oM C e W g f A n c L r l p F m (D.keep0 j) (Q.keep0 j));have K:Z (∀W,Calls Tryz.prog 28 #[vV e.lit] W (RoP W (.bool (vOk e.lit)))):=bZ (fun W=>gP W e.lit (sP x).2);have M:Z (∀W,ad [] w W->Calls Tryz.prog 51 #[exV e g f A n c,.slice L p r] W (RoP W (.bool (e.int l)))):=bZ (fun W j=>zi C L r l p F e W g f A n c m x (D.keep0 j) u t (Q.keep0 j));have N:e.int l=true->∀W,ad [] w W->Calls Tryz.prog 52 #[exV e g f A n c] W (RoP W (.bool (bC e))):=fun T W j=>xV C l e W g f A n c ⟨R,x,T⟩ (D.keep0 j) u t;by_cases h:(e.nl || e.text l)=true
  ·have O:bT l e=(decide (e.op=2) || vOk e.lit):=by unfold bT;rw[if_pos h]
   rw[O];refine rB w e.op e.ix e.lit.k e.lit.n g f e.lit.s A n c p r L e.null (e.text l) (vOk e.lit) B q K ss ?_;cases e with
   | z o i v=>
    simp only[E.nl,E.text,E.null,opz,E.args,D6] at h J ⊢;by_cases m:o=2
    ·subst m;right;simpa using h
    rw[if_neg m] at h ⊢;by_cases y:o=1
    ·by_cases H:v.k=0
     ·left;exact⟨by simp[y,H],y,J⟩
     right;simp[y,H] at h ⊢;exact h
    simp[y] at h
   | a=>simp[E.nl,E.text] at h
   | b=>simp[E.nl,E.text] at h
   | many=>cases m
  have O:bT l e=(e.int l && bC e):=by unfold bT;rw[if_neg h]
  have X:e.text l=false:=by
   cases S:e.text l
   ·rfl
   rw[S,Bool.or_true] at h;exact absurd rfl h
  rw[O];rw[X] at q;refine rC w e.op e.ix e.lit.k e.lit.n g f e.lit.s A n c p r L e.null (e.int l) (bC e) B q M N ?_;intro y H P;cases e with
  | z o i v=>
   simp only[opz] at H;apply h;rw[show (E.z o i v).nl=(E.z o i v).null from rfl,y,Bool.true_or]
  | a=>simp[E.args,P] at J
  | b=>simp[E.args,P] at J
  | many=>cases m
theorem uh (w:World) (o ix g h:Int) (f e i:ByteArray) (A:Option Addr) (n c d a:Nat) (L:Option Addr):
 Calls Tryz.prog 7 #[.agg #[I o,.string f,.string e,I ix,I g,I h,.string i,.slice A n c],.slice L d a,I 0] w (RoP w (.bool false)):=by
  have b:Z (∀o,ad [] w (w.alloc o)):=bZ (fun o=>(ad.refl [] w).alloc o);go_enter Tryz.func7,Tryz.ntmps7;go_wp2_with fail;go_ret;exact⟨rfl,b.o _⟩
theorem rY (w:World) (D:Int) (m:(D==0)=false) (o ix f g:Int) (d b h:ByteArray) (A:Option Addr) (n c l j:Nat) (L:Option Addr)
 (a:Z (∀W,ad [] w W->Calls Tryz.prog 24 #[.agg #[I o,.string d,.string b,I ix,I f,I g,.string h,.slice A n c],I 12] W (RoP W (.bool false)))):
 Calls Tryz.prog 7 #[.agg #[I o,.string d,.string b,I ix,I f,I g,.string h,.slice A n c],.slice L l j,I D] w (RoP w (.bool false)):=by
  have i:Z (ad [] w (w.alloc (.cells #[I o,.string d,.string b,I ix,I f,I g,.string h,.slice A n c] 26))):=bZ ((ad.refl [] w).alloc _);go_enter Tryz.func7,Tryz.ntmps7;go_wp2_with (go_at_call 24;refine(a.o _ i.o).mono ?_;rintro e p ⟨rfl,k⟩);go_ret;exact⟨rfl,bZ (i.o.trans k.o)⟩
structure CnS (w W:World) (o ix uk un:Int) (tb nm us:ByteArray) (A:Option Addr) (n c gb:Nat):Prop where
 kp:ad [] w W
 bk:Blk W gb 26 #[I o,.string tb,.string nm,I ix,I uk,I un,.string us,.slice A n c]
theorem CnS.keep {w W a:World} {o ix g i:Int} {f e j:ByteArray} {A:Option Addr} {n c b:Nat} (h:CnS w W o ix g i f e j A n c b) (d:ad [] W a):CnS w a o ix g i f e j A n c b:=
 ⟨h.kp.trans d,h.bk.keep d (by simp)⟩
theorem CnS.new (w:World) (o ix d e:Int) (b a f:ByteArray) (A:Option Addr) (n c:Nat):CnS w (w.alloc (.cells #[I o,.string b,.string a,I ix,I d,I e,.string f,.slice A n c] 26)) o ix d e b a f A n c w.heap.size:=
 ⟨(ad.refl [] w).alloc _,Blk.new w 26 _⟩
theorem pP (w:World) (D:Int) (Q:(D==0)=false) (o ix v x:Int) (u t z:ByteArray) (A:Option Addr) (n c O H:Nat) (L:Option Addr)
 (d:Z (∀W,ad [] w W->Calls Tryz.prog 24 #[.agg #[I o,.string u,.string t,I ix,I v,I x,.string z,.slice A n c],I 12] W (RoP W (.bool true))))
 (K:(o=18\/o=19)/\n≠2\/(o=20\/o=17)/\n≠1\/(o≠18/\o≠19/\o≠16/\o≠20/\o≠17)/\(n≠2\/¬(10<=o/\o<=15))):
 Calls Tryz.prog 7 #[.agg #[I o,.string u,.string t,I ix,I v,I x,.string z,.slice A n c],.slice L O H,I D] w (RoP w (.bool false)):=by
  obtain⟨W0,a⟩:∃W,W=w.alloc (.cells #[I o,.string u,.string t,I ix,I v,I x,.string z,.slice A n c] 26):=⟨_,rfl⟩;obtain⟨J,b⟩:∃g,g=w.heap.size:=⟨_,rfl⟩;have c0:Z (CnS w W0 o ix v x u t z A n c J):=bZ (by rw[a,b];exact CnS.new _ _ _ _ _ _ _ _ _ _ _);rcases K with ⟨h,B⟩ | ⟨h,B⟩ | ⟨⟨k,l,i,m,j⟩,h⟩
  ·have C:((n:Int)==2)=false:=by rw[beq_eq_false_iff_ne];omega
   clear B;rcases h with rfl | rfl
   all_goals
    go_enter Tryz.func7,Tryz.ntmps7;go_wp2_with (go_at_call 24;rw[<-a,<-b];clear a b;refine(d.o _ c0.o.kp).mono ?_;rintro e F ⟨rfl,f⟩;have c5:=bZ (c0.o.keep f.o);have y:=c5.o.bk.cell;have p:=c5.o.bk.lt);go_ret;exact⟨rfl,bZ c5.o.kp⟩
  ·have M:((n:Int)==1)=false:=by rw[beq_eq_false_iff_ne];omega
   clear B;rcases h with rfl | rfl
   all_goals
    go_enter Tryz.func7,Tryz.ntmps7;go_wp2_with (go_at_call 24;rw[<-a,<-b];clear a b;refine(d.o _ c0.o.kp).mono ?_;rintro e F ⟨rfl,f⟩;have c5:=bZ (c0.o.keep f.o);have y:=c5.o.bk.cell;have p:=c5.o.bk.lt);go_ret;exact⟨rfl,bZ c5.o.kp⟩
  have R:(o==18)=false:=beq_false_of_ne k;have S:(o==19)=false:=beq_false_of_ne l;have T:(o==16)=false:=beq_false_of_ne i;have X:(o==20)=false:=beq_false_of_ne m;have Y:(o==17)=false:=beq_false_of_ne j;have r:Z (∀W,Calls Tryz.prog 29 #[I o] W (RoP W (I (plc o)))):=bZ (fun W=>qt W o);by_cases s:10<=o/\o<=15
  ·have C:((n:Int) !=2)=true:=by rw[bne_iff_ne];rcases h with h | h<;>omega
   have q:plc o=o - 10:=by unfold plc;rw[if_pos s]
   have N:¬o - 10<0:=by omega
   rw[q] at r;clear q h s k l i m j;generalize o - 10=pl at*;go_enter Tryz.func7,Tryz.ntmps7;go_wp2_with (first | (go_at_call 24;rw[<-a,<-b];clear a b;refine(d.o _ c0.o.kp).mono ?_;rintro e F ⟨rfl,f⟩;have c5:=bZ (c0.o.keep f.o);have y:=c5.o.bk.cell;have p:=c5.o.bk.lt) | (go_at_call 29;refine(r.o _).mono ?_;rintro e P ⟨rfl,E⟩;have c6:=bZ (c5.o.keep E.o);clear y p;have y:=c6.o.bk.cell;have p:=c6.o.bk.lt));go_ret;exact⟨rfl,bZ c6.o.kp⟩
  have q:plc o= -1:=by unfold plc;rw[if_neg s]
  rw[q] at r;clear q h s k l i m j;go_enter Tryz.func7,Tryz.ntmps7;go_wp2_with (first | (go_at_call 24;rw[<-a,<-b];clear a b;refine(d.o _ c0.o.kp).mono ?_;rintro e F ⟨rfl,f⟩;have c5:=bZ (c0.o.keep f.o);have y:=c5.o.bk.cell;have p:=c5.o.bk.lt) | (go_at_call 29;refine(r.o _).mono ?_;rintro e P ⟨rfl,E⟩;have c6:=bZ (c5.o.keep E.o);clear y p;have y:=c6.o.bk.cell;have p:=c6.o.bk.lt));go_ret;exact⟨rfl,bZ c6.o.kp⟩
theorem ol (w:World) (D:Int) (t:(D==0)=false) (ix h i:Int) (f d j:ByteArray) (A:Option Addr) (n c s l:Nat) (L:Option Addr)
 (k:Z (∀W,ad [] w W->Calls Tryz.prog 24 #[.agg #[I 16,.string f,.string d,I ix,I h,I i,.string j,.slice A n c],I 12] W (RoP W (.bool true))))
 (p:n≠2):
 Calls Tryz.prog 7 #[.agg #[I 16,.string f,.string d,I ix,I h,I i,.string j,.slice A n c],.slice L s l,I D] w (RoP w (.bool false)):=by
  obtain⟨W0,a⟩:∃W,W=w.alloc (.cells #[I 16,.string f,.string d,I ix,I h,I i,.string j,.slice A n c] 26):=⟨_,rfl⟩;obtain⟨m,b⟩:∃g,g=w.heap.size:=⟨_,rfl⟩;have c0:Z (CnS w W0 16 ix h i f d j A n c m):=bZ (by rw[a,b];exact CnS.new _ _ _ _ _ _ _ _ _ _ _);have q:((n:Int)==2)=false:=by rw[beq_eq_false_iff_ne];omega
  clear p;go_enter Tryz.func7,Tryz.ntmps7;go_upto_region 12 with (go_at_call 24;rw[<-a,<-b];clear a b;refine(k.o _ c0.o.kp).mono ?_;rintro e u ⟨rfl,r⟩;have c5:=bZ (c0.o.keep r.o);have y:=c5.o.bk.cell;have v:=c5.o.bk.lt);simp only[List.append_eq,D3,Dm];go_wp2_with fail;go_ret;exact⟨rfl,bZ c5.o.kp⟩
theorem yt (w:World) (D r:Int) (O:(D==0)=false) (A:IntKind.i64.wrap (D - 1)=r) (ix k l:Int) (j i n:ByteArray) (g a c t s:Nat) (L:Option Addr) (z:c<=maxLen) (Q:g<w.heap.size)
 (p:Z (∀W,ad [] w W->Calls Tryz.prog 24 #[.agg #[I 20,.string j,.string i,I ix,I k,I l,.string n,.slice (some (U g a)) 1 c],I 12] W (RoP W (.bool true))))
 (x:E) (f:E->Bool) (u:RdC 7 f [.slice L t s,I r] x w g a) (P:1<=c):
 Calls Tryz.prog 7 #[.agg #[I 20,.string j,.string i,I ix,I k,I l,.string n,.slice (some (U g a)) 1 c],.slice L t s,I D] w (RoP w (.bool (f x))):=by
  obtain⟨S,R,B,m,M,q,H,h⟩:=u;unfold exV at h;replace h:=bZ h;replace q:=bZ q;obtain⟨W0,b⟩:∃W,W=w.alloc (.cells #[I 20,.string j,.string i,I ix,I k,I l,.string n,.slice (some (U g a)) 1 c] 26):=⟨_,rfl⟩;obtain⟨v,d⟩:∃g,g=w.heap.size:=⟨_,rfl⟩;have c0:Z (CnS w W0 20 ix k l j i n (some (U g a)) 1 c v):=bZ (by rw[b,d];exact CnS.new _ _ _ _ _ _ _ _ _ _ _);generalize f x=bx at*;clear H;go_enter Tryz.func7,Tryz.ntmps7;go_wp2_with (first | (go_at_call 24;rw[<-b,<-d];clear b d;refine(p.o _ c0.o.kp).mono ?_;rintro e J ⟨rfl,C⟩;have c5:=bZ (c0.o.keep C.o);have y:=c5.o.bk.cell;have yl:=c5.o.bk.lt;obtain⟨K,X,Y,x3,x4,x5,x6,x7⟩:=q.o _ c5.o.kp;have N:g<J.heap.size:=block_lt_of_cell K) | (go_at_call 7;refine(h.o _ c5.o.kp).mono ?_;rintro e T ⟨rfl,F⟩;have c6:=bZ (c5.o.keep F.o)));go_ret;exact⟨rfl,bZ c6.o.kp⟩
theorem yu (w:World) (D t:Int) (O:(D==0)=false) (A:IntKind.i64.wrap (D - 1)=t) (ix k l:Int) (j i n:ByteArray) (g a c s r:Nat) (L:Option Addr) (z:c<=maxLen) (Q:g<w.heap.size)
 (p:Z (∀W,ad [] w W->Calls Tryz.prog 24 #[.agg #[I 17,.string j,.string i,I ix,I k,I l,.string n,.slice (some (U g a)) 1 c],I 12] W (RoP W (.bool true))))
 (x:E) (f:E->Bool) (u:RdC 25 f [.slice L s r] x w g a) (P:1<=c):
 Calls Tryz.prog 7 #[.agg #[I 17,.string j,.string i,I ix,I k,I l,.string n,.slice (some (U g a)) 1 c],.slice L s r,I D] w (RoP w (.bool (f x))):=by
  obtain⟨S,R,B,m,M,q,H,h⟩:=u;unfold exV at h;replace h:=bZ h;replace q:=bZ q;obtain⟨W0,b⟩:∃W,W=w.alloc (.cells #[I 17,.string j,.string i,I ix,I k,I l,.string n,.slice (some (U g a)) 1 c] 26):=⟨_,rfl⟩;obtain⟨v,d⟩:∃g,g=w.heap.size:=⟨_,rfl⟩;have c0:Z (CnS w W0 17 ix k l j i n (some (U g a)) 1 c v):=bZ (by rw[b,d];exact CnS.new _ _ _ _ _ _ _ _ _ _ _);generalize f x=bx at*;clear H;go_enter Tryz.func7,Tryz.ntmps7;go_wp2_with (first | (go_at_call 24;rw[<-b,<-d];clear b d;refine(p.o _ c0.o.kp).mono ?_;rintro e J ⟨rfl,C⟩;have c5:=bZ (c0.o.keep C.o);have y:=c5.o.bk.cell;have yl:=c5.o.bk.lt;obtain⟨K,X,Y,x3,x4,x5,x6,x7⟩:=q.o _ c5.o.kp;have N:g<J.heap.size:=block_lt_of_cell K) | (go_at_call 25;refine(h.o _ c5.o.kp).mono ?_;rintro e T ⟨rfl,F⟩;have c6:=bZ (c5.o.keep F.o)));go_ret;exact⟨rfl,bZ c6.o.kp⟩
theorem wK (w:World) (D t:Int) (hD:(D==0)=false) (a1:IntKind.i64.wrap (D - 1)=t) (o ix q r:Int) (p n s:ByteArray) (g a c F v:Nat) (L:Option Addr) (a0:c<=maxLen) (hg:g<w.heap.size)
 (j:Z (∀W,ad [] w W->Calls Tryz.prog 24 #[.agg #[I o,.string p,.string n,I ix,I q,I r,.string s,.slice (some (U g a)) 2 c],I 12] W (RoP W (.bool true))))
 (x y:E) (f:E->Bool) (X:RdC 7 f [.slice L F v,I t] x w g a) (Y:RdC 7 f [.slice L F v,I t] y w g (a+8)) (hc:2<=c) (S:o=18\/o=19):
 Calls Tryz.prog 7 #[.agg #[I o,.string p,.string n,I ix,I q,I r,.string s,.slice (some (U g a)) 2 c],.slice L F v,I D] w (RoP w (.bool (f x && f y))):=by
  obtain⟨tx,nx,B,m,c',l,mx,h⟩:=X;obtain⟨ty,ny,B',m',c2,u,my,k⟩:=Y;unfold exV at h k;replace h:=bZ h;replace k:=bZ k;replace l:=bZ l;replace u:=bZ u;obtain⟨W0,b⟩:∃W,W=w.alloc (.cells #[I o,.string p,.string n,I ix,I q,I r,.string s,.slice (some (U g a)) 2 c] 26):=⟨_,rfl⟩;obtain⟨gb,d⟩:∃g,g=w.heap.size:=⟨_,rfl⟩;have c0:Z (CnS w W0 o ix q r p n s (some (U g a)) 2 c gb):=bZ (by rw[b,d];exact CnS.new _ _ _ _ _ _ _ _ _ _ _);generalize f x=bx at*;generalize f y=bY at*;clear mx my;cases bx
  ·rcases S with rfl | rfl
   all_goals
    go_enter Tryz.func7,Tryz.ntmps7;go_wp2_with (go_at_call 24;rw[<-b,<-d];clear b d;refine(j.o _ c0.o.kp).mono ?_;rintro e H ⟨rfl,A⟩;have c5:=bZ (c0.o.keep A.o);have y:=c5.o.bk.cell;have R:=c5.o.bk.lt;obtain⟨i,J,K,M,N,O,P,Q⟩:=l.o _ c5.o.kp;have z:g<H.heap.size:=block_lt_of_cell i);go_wp2_with (go_at_call 7;(with_reducible refine(h.o _ c5.o.kp).mono ?_);rintro e T ⟨rfl,C⟩;have c6:=bZ (c5.o.keep C.o));go_ret;exact⟨rfl,bZ c6.o.kp⟩
  rcases S with rfl | rfl
  all_goals
   go_enter Tryz.func7,Tryz.ntmps7;go_wp2_with (go_at_call 24;rw[<-b,<-d];clear b d;refine(j.o _ c0.o.kp).mono ?_;rintro e H ⟨rfl,A⟩;have c5:=bZ (c0.o.keep A.o);have y:=c5.o.bk.cell;have R:=c5.o.bk.lt;obtain⟨i,J,K,M,N,O,P,Q⟩:=l.o _ c5.o.kp;have z:g<H.heap.size:=block_lt_of_cell i);go_wp2_with (go_at_call 7;(with_reducible refine(h.o _ c5.o.kp).mono ?_);rintro e T ⟨rfl,C⟩;have c6:=bZ (c5.o.keep C.o);clear h y R z i J K M N O P Q;have y:=c6.o.bk.cell;have R:=c6.o.bk.lt;obtain⟨i,J,K,M,N,O,P,Q⟩:=u.o _ c6.o.kp;have z:g<T.heap.size:=block_lt_of_cell i);go_wp2_with (go_at_call 7;(with_reducible refine(k.o _ c6.o.kp).mono ?_);rintro e w7 ⟨rfl,k7⟩;have c7:=bZ (c6.o.keep k7.o));go_ret;exact⟨rfl,bZ c7.o.kp⟩
def XCl (w:World) (g a:Nat) (o i k n:Int) (d b s:ByteArray) (B:Option Addr) (m c:Nat):Prop:=
 w.cell? (U g a)=some (I o)/\w.cell? (U g (a+1))=some (.string d)/\w.cell? (U g (a+2))=some (.string b)/\w.cell? (U g (a+3))=some (I i)/\
 w.cell? (U g (a+4))=some (I k)/\w.cell? (U g (a+5))=some (I n)/\w.cell? (U g (a+6))=some (.string s)/\w.cell? (U g (a+7))=G B m c
theorem rZ (w:World) (D:Int) (hD:(D==0)=false) (ix v x a C E F p yi k yn:Int) (t r z u s xs ty ny ys:ByteArray) (g b c Y M m q n cy:Nat) (L B B':Option Addr) (a0:c<=maxLen) (hc:2<=c)
 (H:Z (∀W,ad [] w W->Calls Tryz.prog 24 #[.agg #[I 16,.string t,.string r,I ix,I v,I x,.string z,.slice (some (U g b)) 2 c],I 12] W (RoP W (.bool true))))
 (J:Z (∀W,ad [] w W->XCl W g b a C E F u s xs B m q)) (K:Z (∀W,ad [] w W->XCl W g (b+8) p yi k yn ty ny ys B' n cy))
 (T N O f:Bool)
 (HT:Z (∀W,ad [] w W->Calls Tryz.prog 26 #[.agg #[I a,.string u,.string s,I C,I E,I F,.string xs,.slice B m q],.slice L Y M] W (RoP W (.bool T))))
 (HN:Z (∀W,ad [] w W->Calls Tryz.prog 27 #[.agg #[I a,.string u,.string s,I C,I E,I F,.string xs,.slice B m q]] W (RoP W (.bool N))))
 (HO:Z (∀W,ad [] w W->Calls Tryz.prog 25 #[.agg #[I a,.string u,.string s,I C,I E,I F,.string xs,.slice B m q],.slice L Y M] W (RoP W (.bool O))))
 (HV:Z (∀W,Calls Tryz.prog 28 #[.agg #[I k,I yn,.string ys]] W (RoP W (.bool f)))) (R:Bool)
 (d:R=(decide (n=0) && (T || N) && O && decide (p=1) && decide (k=2) && f && decide (a=1\/a=2))):
 Calls Tryz.prog 7 #[.agg #[I 16,.string t,.string r,I ix,I v,I x,.string z,.slice (some (U g b)) 2 c],.slice L Y M,I D] w (RoP w (.bool R)):=by
  obtain⟨W0,i⟩:∃W,W=w.alloc (.cells #[I 16,.string t,.string r,I ix,I v,I x,.string z,.slice (some (U g b)) 2 c] 26):=⟨_,rfl⟩;obtain⟨gb,j⟩:∃g,g=w.heap.size:=⟨_,rfl⟩;have c0:Z (CnS w W0 16 ix v x t r z (some (U g b)) 2 c gb):=bZ (by rw[i,j];exact CnS.new _ _ _ _ _ _ _ _ _ _ _);unfold XCl at J K;have l:a=9->R=false:=fun h=>by rw[d,h];simp
  have X:((n:Int)==0)=decide (n=0):=by rw[Bool.beq_eq_decide_eq];exact decide_eq_decide.2 (by omega)
  have hx:decide (a=1\/a=2)=((a==2) || (a==1)):=by
   by_cases P:a=1
   ·simp[P]
   by_cases h2:a=2<;>simp[P,h2]
  rw[hx,<-X,show decide (p=1)=(p==1) from rfl,show decide (k=2)=(k==2) from rfl] at d;clear X hx;cases X:((n:Int)==0);rotate_left;cases hT:T;cases hN:N;rotate_left
  all_goals try (
   fail_if_success (replace d:R=false:=by rw[d];simp[*];done)
   cases hO:O
   rotate_left
   cases Q:(a==9)
   cases h3:(p==1)
   rotate_left
   cases h4:(k==2)
   rotate_left
   cases hV:f
   rotate_left
   cases h2:(a==2)
   cases P:(a==1))
  all_goals
   (first | (replace d:R=false:=by rw[d];simp[*];done) | (replace d:R=true:=by rw[d];simp[*];done) | replace d:R=false:=l (beq_iff_eq.1 Q))
   (try have S:(a !=9)=true:=by rw[bne,Q];rfl)
   (try have S:(a !=9)=false:=by rw[bne,Q];rfl)
   (try rw[hT] at HT)
   (try rw[hN] at HN)
   (try rw[hO] at HO)
   (try rw[hV] at HV)
   replace d:=bZ d;clear l;go_enter Tryz.func7,Tryz.ntmps7;go_upto_region 12 with (go_at_call 24;rw[<-i,<-j];clear i j;refine(H.o _ c0.o.kp).mono ?_;rintro e w5 ⟨rfl,k5⟩;have c5:=bZ (c0.o.keep k5.o);have y:=c5.o.bk.cell;have yl:=c5.o.bk.lt;obtain⟨A,x1,x2,x3,x4,x5,x6,x7⟩:=J.o _ c5.o.kp;obtain⟨e0,e1,e2,e3,e4,e5,e6,e7⟩:=K.o _ c5.o.kp;have gl:g<_:=block_lt_of_cell A);simp only[List.append_eq,D3,Dm];go_wp2_with ((first | (go_at_call 26;refine(HT.o _ c5.o.kp).mono ?_) | (go_at_call 27;refine(HN.o _ c5.o.kp).mono ?_) | (go_at_call 25;refine(HO.o _ c5.o.kp).mono ?_) | (go_at_call 28;refine(HV.o _).mono ?_));rintro e w6 ⟨rfl,k6⟩;have c9:=bZ (c5.o.keep k6.o);clear c5 y yl gl A x1 x2 x3 x4 x5 x6 x7 e0 e1 e2 e3 e4 e5 e6 e7;have c5:=c9;clear c9 k6;have y:=c5.o.bk.cell;have yl:=c5.o.bk.lt;obtain⟨A,x1,x2,x3,x4,x5,x6,x7⟩:=J.o _ c5.o.kp;obtain⟨e0,e1,e2,e3,e4,e5,e6,e7⟩:=K.o _ c5.o.kp;have gl:g<_:=block_lt_of_cell A);go_ret;exact⟨by rw[d.o];rfl,bZ c5.o.kp⟩
end Go.Proofs.YtldmkbhgdbafhaaGreat
