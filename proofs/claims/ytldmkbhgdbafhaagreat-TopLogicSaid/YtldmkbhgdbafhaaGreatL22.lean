import Derived.Test.YtldmkbhgdbafhaaGreatL21
namespace Go.Proofs.YtldmkbhgdbafhaaGreat
open Go.RowKit
set_option linter.unusedSimpArgs false
set_option linter.unusedVariables false
set_option maxRecDepth 100000
set_option maxHeartbeats 64000000
theorem bI (w:World) (t:TypeId) (c1 c2:Array Value):Blk ((w.alloc (.cells c1 t)).alloc (.cells c2 t)) w.heap.size t c1/\Blk ((w.alloc (.cells c1 t)).alloc (.cells c2 t)) (w.heap.size+1) t c2/\ad [] w ((w.alloc (.cells c1 t)).alloc (.cells c2 t)):=by
 have a:=Blk.new (w.alloc (.cells c1 t)) t c2;rw[show (w.alloc (.cells c1 t)).heap.size=w.heap.size+1 by simp] at a;exact⟨(Blk.new w t c1).alloc _,a,((ad.refl [] w).alloc _).alloc _⟩
theorem wJ (w:World) (D:Int) (hD:(D==0)=false) (o ix uk un xo xi xk xn yo yi yk yn:Int) (tb nm us tx nx xs ty ny ys:ByteArray) (g k c nl cl mx cx my cy:Nat) (L B B':Option Addr) (ao:c<=maxLen) (hc:2<=c)
 (ap:mx<=cx/\cx<=maxLen) (aq:my<=cy/\cy<=maxLen)
 (a5:Z (∀W,ad [] w W->Calls Tryz.prog 24 #[.agg #[I o,.string tb,.string nm,I ix,I uk,I un,.string us,.slice (some (U g k)) 2 c],I 12] W (RoP W (.bool true))))
 (Xx:Z (∀W,ad [] w W->XCl W g k xo xi xk xn tx nx xs B mx cx)) (Xy:Z (∀W,ad [] w W->XCl W g (k+8) yo yi yk yn ty ny ys B' my cy))
 (OX OY TX TY NX NY:Bool)
 (a6:Z (∀W,ad [] w W->Calls Tryz.prog 25 #[.agg #[I xo,.string tx,.string nx,I xi,I xk,I xn,.string xs,.slice B mx cx],.slice L nl cl] W (RoP W (.bool OX))))
 (a9:Z (∀W,ad [] w W->Calls Tryz.prog 25 #[.agg #[I yo,.string ty,.string ny,I yi,I yk,I yn,.string ys,.slice B' my cy],.slice L nl cl] W (RoP W (.bool OY))))
 (E:Z (∀W,ad [] w W->Calls Tryz.prog 26 #[.agg #[I xo,.string tx,.string nx,I xi,I xk,I xn,.string xs,.slice B mx cx],.slice L nl cl] W (RoP W (.bool TX))))
 (F:Z (∀W,ad [] w W->Calls Tryz.prog 26 #[.agg #[I yo,.string ty,.string ny,I yi,I yk,I yn,.string ys,.slice B' my cy],.slice L nl cl] W (RoP W (.bool TY))))
 (A:Z (∀W,ad [] w W->Calls Tryz.prog 27 #[.agg #[I xo,.string tx,.string nx,I xi,I xk,I xn,.string xs,.slice B mx cx]] W (RoP W (.bool NX))))
 (C:Z (∀W,ad [] w W->Calls Tryz.prog 27 #[.agg #[I yo,.string ty,.string ny,I yi,I yk,I yn,.string ys,.slice B' my cy]] W (RoP W (.bool NY)))) (R:Bool) (ho:10<=o/\o<=15)
 (l:R=(OX && OY && ((!TX && !TY) || (TX || ((xo==1) && NX)) && (TY || ((yo==1) && NY)) && ((xo==1) || (yo==1) || (o==10) || (o==11))))):
 Calls Tryz.prog 7 #[.agg #[I o,.string tb,.string nm,I ix,I uk,I un,.string us,.slice (some (U g k)) 2 c],.slice L nl cl,I D] w (RoP w (.bool R)):=by
  obtain⟨W0,a0⟩:∃W,W=w.alloc (.cells #[I o,.string tb,.string nm,I ix,I uk,I un,.string us,.slice (some (U g k)) 2 c] 26):=⟨_,rfl⟩;obtain⟨gb,a1⟩:∃g,g=w.heap.size:=⟨_,rfl⟩;have c0:Z (CnS w W0 o ix uk un tb nm us (some (U g k)) 2 c gb):=bZ (by rw[a0,a1];exact CnS.new _ _ _ _ _ _ _ _ _ _ _);unfold XCl at Xx Xy;have q1:(o==18)=false:=beq_false_of_ne (by omega);have q2:(o==19)=false:=beq_false_of_ne (by omega);have q3:(o==16)=false:=beq_false_of_ne (by omega);have q4:(o==20)=false:=beq_false_of_ne (by omega);have q5:(o==17)=false:=beq_false_of_ne (by omega);have HP:Z (∀W,Calls Tryz.prog 29 #[I o] W (RoP W (I (o - 10)))):=bZ (fun W=>by have:=qt W o;rw[show plc o=o - 10 by unfold plc;rw[if_pos ho]] at this;exact this);have ak:¬o - 10<0:=by omega
  clear ho;obtain⟨pl,ac⟩:∃p,p=o - 10:=⟨_,rfl⟩;rw[<-ac] at HP ak;clear ac;cases OX
  ·replace l:R=false:=by rw[l];rfl
   replace l:=bZ l;go_enter Tryz.func7,Tryz.ntmps7;go_wp2_with (first | (go_at_call 24;rw[<-a0,<-a1];clear a0 a1;refine(a5.o _ c0.o.kp).mono ?_;rintro e w5 ⟨rfl,k5⟩;have c5:=bZ (c0.o.keep k5.o);have y:=c5.o.bk.cell;have m:=c5.o.bk.lt;obtain⟨H,X,Y,x3,x4,x5,x6,x7⟩:=Xx.o _ c5.o.kp;obtain⟨e0,J,M,N,O,P,Q,T⟩:=Xy.o _ c5.o.kp;have gl:g<_:=block_lt_of_cell H) | (go_at_call 29;refine(HP.o _).mono ?_;rintro e v ⟨rfl,f⟩;have j:=bZ (c5.o.keep f.o);clear y m gl H X Y x3 x4 x5 x6 x7 e0 J M N O P Q T;clear c5;have c5:=j;clear j f;have y:=c5.o.bk.cell;have m:=c5.o.bk.lt;obtain⟨H,X,Y,x3,x4,x5,x6,x7⟩:=Xx.o _ c5.o.kp;obtain⟨e0,J,M,N,O,P,Q,T⟩:=Xy.o _ c5.o.kp;have gl:g<_:=block_lt_of_cell H) | (go_at_call 25;(first | (with_reducible refine(a6.o _ c5.o.kp).mono ?_) | (with_reducible refine(a9.o _ c5.o.kp).mono ?_));rintro e v ⟨rfl,f⟩;have j:=bZ (c5.o.keep f.o);clear y m gl H X Y x3 x4 x5 x6 x7 e0 J M N O P Q T;clear c5;have c5:=j;clear j f;have y:=c5.o.bk.cell;have m:=c5.o.bk.lt;obtain⟨H,X,Y,x3,x4,x5,x6,x7⟩:=Xx.o _ c5.o.kp;obtain⟨e0,J,M,N,O,P,Q,T⟩:=Xy.o _ c5.o.kp;have gl:g<_:=block_lt_of_cell H));go_ret;exact⟨by rw[l.o];rfl,bZ c5.o.kp⟩
  cases OY
  ·replace l:R=false:=by rw[l];rfl
   replace l:=bZ l;go_enter Tryz.func7,Tryz.ntmps7;go_wp2_with (first | (go_at_call 24;rw[<-a0,<-a1];clear a0 a1;refine(a5.o _ c0.o.kp).mono ?_;rintro e w5 ⟨rfl,k5⟩;have c5:=bZ (c0.o.keep k5.o);have y:=c5.o.bk.cell;have m:=c5.o.bk.lt;obtain⟨H,X,Y,x3,x4,x5,x6,x7⟩:=Xx.o _ c5.o.kp;obtain⟨e0,J,M,N,O,P,Q,T⟩:=Xy.o _ c5.o.kp;have gl:g<_:=block_lt_of_cell H) | (go_at_call 29;refine(HP.o _).mono ?_;rintro e v ⟨rfl,f⟩;have j:=bZ (c5.o.keep f.o);clear y m gl H X Y x3 x4 x5 x6 x7 e0 J M N O P Q T;clear c5;have c5:=j;clear j f;have y:=c5.o.bk.cell;have m:=c5.o.bk.lt;obtain⟨H,X,Y,x3,x4,x5,x6,x7⟩:=Xx.o _ c5.o.kp;obtain⟨e0,J,M,N,O,P,Q,T⟩:=Xy.o _ c5.o.kp;have gl:g<_:=block_lt_of_cell H) | (go_at_call 25;(first | (with_reducible refine(a6.o _ c5.o.kp).mono ?_) | (with_reducible refine(a9.o _ c5.o.kp).mono ?_));rintro e v ⟨rfl,f⟩;have j:=bZ (c5.o.keep f.o);clear y m gl H X Y x3 x4 x5 x6 x7 e0 J M N O P Q T;clear c5;have c5:=j;clear j f;have y:=c5.o.bk.cell;have m:=c5.o.bk.lt;obtain⟨H,X,Y,x3,x4,x5,x6,x7⟩:=Xx.o _ c5.o.kp;obtain⟨e0,J,M,N,O,P,Q,T⟩:=Xy.o _ c5.o.kp;have gl:g<_:=block_lt_of_cell H));go_ret;exact⟨by rw[l.o];rfl,bZ c5.o.kp⟩
  rw[Bool.true_and,Bool.true_and] at l;replace l:=bZ l;go_enter Tryz.func7,Tryz.ntmps7;go_wp2_with (first | (go_at_call 24;rw[<-a0,<-a1];clear a0 a1;refine(a5.o _ c0.o.kp).mono ?_;rintro e w5 ⟨rfl,k5⟩;have c5:=bZ (c0.o.keep k5.o);have y:=c5.o.bk.cell;have m:=c5.o.bk.lt;obtain⟨H,X,Y,x3,x4,x5,x6,x7⟩:=Xx.o _ c5.o.kp;obtain⟨e0,J,M,N,O,P,Q,T⟩:=Xy.o _ c5.o.kp;have gl:g<_:=block_lt_of_cell H) | (go_at_call 29;refine(HP.o _).mono ?_;rintro e v ⟨rfl,f⟩;have j:=bZ (c5.o.keep f.o);clear y m gl H X Y x3 x4 x5 x6 x7 e0 J M N O P Q T;clear c5;have c5:=j;clear j f;have y:=c5.o.bk.cell;have m:=c5.o.bk.lt;obtain⟨H,X,Y,x3,x4,x5,x6,x7⟩:=Xx.o _ c5.o.kp;obtain⟨e0,J,M,N,O,P,Q,T⟩:=Xy.o _ c5.o.kp;have gl:g<_:=block_lt_of_cell H) | (go_at_call 25;(first | (with_reducible refine(a6.o _ c5.o.kp).mono ?_) | (with_reducible refine(a9.o _ c5.o.kp).mono ?_));rintro e v ⟨rfl,f⟩;have j:=bZ (c5.o.keep f.o);clear y m gl H X Y x3 x4 x5 x6 x7 e0 J M N O P Q T;clear c5;have c5:=j;clear j f;have y:=c5.o.bk.cell;have m:=c5.o.bk.lt;obtain⟨H,X,Y,x3,x4,x5,x6,x7⟩:=Xx.o _ c5.o.kp;obtain⟨e0,J,M,N,O,P,Q,T⟩:=Xy.o _ c5.o.kp;have gl:g<_:=block_lt_of_cell H));obtain⟨wo,am⟩:∃x,x=v:=⟨_,rfl⟩;subst am;go_cut [7,8] (fun v7 v8 wx=>∃x z,v7=.pointer (V x)/\v8=.pointer (V z)/\Z (Blk wx x 26 #[I xo,.string tx,.string nx,I xi,I xk,I xn,.string xs,.slice B mx cx])/\Z (Blk wx z 26 #[I yo,.string ty,.string ny,I yi,I yk,I yn,.string ys,.slice B' my cy])/\Z (CnS w wx o ix uk un tb nm us (some (U g k)) 2 c gb))
  case first=>
   have y7:wo.cell? (U gb 7)=G (some (U g k)) 2 c:=y 7;have ck:=c5;clear y c5;refine ae (S:=(fun u=>u.cell? (U gb 7)=G (some (U g k)) 2 c/\(u.cell? (U g k)=some (I xo)/\u.cell? (U g (k+1))=some (.string tx)/\u.cell? (U g (k+2))=some (.string nx)/\u.cell? (U g (k+3))=some (I xi)/\u.cell? (U g (k+4))=some (I xk)/\u.cell? (U g (k+5))=some (I xn)/\u.cell? (U g (k+6))=some (.string xs)/\u.cell? (U g (k+7))=G B mx cx)/\(u.cell? (U g (k+8))=some (I yo)/\u.cell? (U g (k+8+1))=some (.string ty)/\u.cell? (U g (k+8+2))=some (.string ny)/\u.cell? (U g (k+8+3))=some (I yi)/\u.cell? (U g (k+8+4))=some (I yk)/\u.cell? (U g (k+8+5))=some (I yn)/\u.cell? (U g (k+8+6))=some (.string ys)/\u.cell? (U g (k+8+7))=G B' my cy))) (n:=11) (by kernel_rfl) ?_;have a4:Z (∀W',ad [] wo W'->(fun u=>u.cell? (U gb 7)=G (some (U g k)) 2 c/\(u.cell? (U g k)=some (I xo)/\u.cell? (U g (k+1))=some (.string tx)/\u.cell? (U g (k+2))=some (.string nx)/\u.cell? (U g (k+3))=some (I xi)/\u.cell? (U g (k+4))=some (I xk)/\u.cell? (U g (k+5))=some (I xn)/\u.cell? (U g (k+6))=some (.string xs)/\u.cell? (U g (k+7))=G B mx cx)/\(u.cell? (U g (k+8))=some (I yo)/\u.cell? (U g (k+8+1))=some (.string ty)/\u.cell? (U g (k+8+2))=some (.string ny)/\u.cell? (U g (k+8+3))=some (I yi)/\u.cell? (U g (k+8+4))=some (I yk)/\u.cell? (U g (k+8+5))=some (I yn)/\u.cell? (U g (k+8+6))=some (.string ys)/\u.cell? (U g (k+8+7))=G B' my cy)) W'):=bZ (fun W' h=>⟨h.cellEq y7 (by simp),⟨h.cellEq H (by simp),h.cellEq X (by simp),h.cellEq Y (by simp),h.cellEq x3 (by simp),h.cellEq x4 (by simp),h.cellEq x5 (by simp),h.cellEq x6 (by simp),h.cellEq x7 (by simp)⟩,h.cellEq e0 (by simp),h.cellEq J (by simp),h.cellEq M (by simp),h.cellEq N (by simp),h.cellEq O (by simp),h.cellEq P (by simp),h.cellEq Q (by simp),h.cellEq T (by simp)⟩);have HS:=a4.o wo.drew (ad.refl [] wo).drew;have a2:=a4.o (wo.alloc (.cells #[I 0,.string .empty,.string .empty,I 0,I 0,I 0,.string .empty,.slice none 0 0] 26)).drew ((ad.refl [] wo).alloc _).drew;have a3:=a4.o ((wo.alloc (.cells #[I 0,.string .empty,.string .empty,I 0,I 0,I 0,.string .empty,.slice none 0 0] 26)).alloc (.cells #[I 0,.string .empty,.string .empty,I 0,I 0,I 0,.string .empty,.slice none 0 0] 26)).drew (((ad.refl [] wo).alloc _).alloc _).drew;have aa:=a4.o ((wo.alloc (.cells #[I xo,.string tx,.string nx,I xi,I xk,I xn,.string xs,.slice B mx cx] 26)).alloc (.cells #[I 0,.string .empty,.string .empty,I 0,I 0,I 0,.string .empty,.slice none 0 0] 26)).drew (((ad.refl [] wo).alloc _).alloc _).drew;have ab:=a4.o ((wo.alloc (.cells #[I 0,.string .empty,.string .empty,I 0,I 0,I 0,.string .empty,.slice none 0 0] 26)).alloc (.cells #[I xo,.string tx,.string nx,I xi,I xk,I xn,.string xs,.slice B mx cx] 26)).drew (((ad.refl [] wo).alloc _).alloc _).drew;dsimp only at HS a2 a3 aa ab;clear y7 H X Y x3 x4 x5 x6 x7 e0 J M N O P Q T
   repeat' first
    |
     refine at_ 8 ?_;dsimp only[Y1,Y2,Y3];go_simp
     first | (refine hK _ _ (.inr a2) ?_;replace HS:=a2) | (refine hK _ _ (.inr a3) ?_;replace HS:=a3)
     clear hK K
     try simp only[PT,Y1,Y2,Y3]
    |
     refine at_ 9 ?_;dsimp only[Y1,Y2,Y3];go_simp
     first | (refine hK _ _ (.inr a2) ?_;replace HS:=a2) | (refine hK _ _ (.inr a3) ?_;replace HS:=a3)
     clear hK K
     try simp only[PT,Y1,Y2,Y3]
    |
     refine at_ 10 ?_;dsimp only[Y1,Y2,Y3];go_simp
     first | (refine hK _ _ (.inr aa) ?_) | (refine hK _ _ (.inr ab) ?_)
     clear hK K
     try simp only[PT,Y1,Y2,Y3]
    |
     refine at_ 11 ?_;dsimp only[Y1,Y2,Y3];go_simp;refine hK _ _ (.inl (by omega)) ?_;clear hK K
     try simp only[PT,Y1,Y2,Y3]
    |
     refine r8 [0,4,8,9] [0,1,2,3,4,5,6,7] ?_
     iterate 8 (refine tq HS ?_;try simp only[PT,Y1,Y2,Y3])
     refine aB ?_
    |
     refine J2 8 9 (fun K hK=>?_) (fun K hK=>?_)
    |
     refine J1' 9 (fun K hK=>?_)
    |
     refine J1' 10 (fun K hK=>?_)
    |
     refine J1' 11 (fun K hK=>?_)
    |
     refine J1' 8 (fun K hK=>?_)
    |
     refine JD ?_;go_wp2_with fail;go_meet
     first | exact⟨_,_,rfl,rfl,bZ (bI _ _ _ _).1.drew,bZ (bI _ _ _ _).2.1.drew,bZ (ck.o.keep (bI _ _ _ _).2.2.drew)⟩ | exact⟨_,_,rfl,rfl,bZ (bI _ _ _ _).2.1.drew,bZ (bI _ _ _ _).1.drew,bZ (ck.o.keep (bI _ _ _ _).2.2.drew)⟩
  obtain⟨x,z,rfl,rfl,i,a,c6⟩:=hcut;clear c5 y m gl H X Y x3 x4 x5 x6 x7 e0 J M N O P Q T;have c5:=c6;clear c6;obtain⟨wx,an⟩:∃x,x=wc:=⟨_,rfl⟩;subst an;have y:=c5.o.bk.cell;have m:=c5.o.bk.lt;have s:=i.o.cell;have q:=i.o.lt;have t:=a.o.cell;have r:=a.o.lt;clear a5 Xx Xy a6 a9 HP c0;replace l:=l.o;cases TX
  ·cases TY
   ·skip;replace l:R=true:=by rw[l];simp[*]
    replace l:=bZ l;go_wp2_with (first | (go_at_call 26;(first | (with_reducible refine(E.o _ c5.o.kp).mono ?_) | (with_reducible refine(F.o _ c5.o.kp).mono ?_));rintro e v ⟨rfl,f⟩;have j:=bZ (c5.o.keep f.o);have b:=bZ (i.o.keep f.o (by simp));have d:=bZ (a.o.keep f.o (by simp));clear c5 i a y m s q t r;have c5:=j;have i:=b;have a:=d;clear j b d f;have y:=c5.o.bk.cell;have m:=c5.o.bk.lt;have s:=i.o.cell;have q:=i.o.lt;have t:=a.o.cell;have r:=a.o.lt) | (go_at_call 27;(first | (with_reducible refine(A.o _ c5.o.kp).mono ?_) | (with_reducible refine(C.o _ c5.o.kp).mono ?_));rintro e v ⟨rfl,f⟩;have j:=bZ (c5.o.keep f.o);have b:=bZ (i.o.keep f.o (by simp));have d:=bZ (a.o.keep f.o (by simp));clear c5 i a y m s q t r;have c5:=j;have i:=b;have a:=d;clear j b d f;have y:=c5.o.bk.cell;have m:=c5.o.bk.lt;have s:=i.o.cell;have q:=i.o.lt;have t:=a.o.cell;have r:=a.o.lt));go_ret;exact⟨by rw[l.o];rfl,bZ c5.o.kp⟩
   cases h1:(xo==1)
   ·skip;replace l:R=false:=by rw[l];simp[*]
    replace l:=bZ l;go_wp2_with (first | (go_at_call 26;(first | (with_reducible refine(E.o _ c5.o.kp).mono ?_) | (with_reducible refine(F.o _ c5.o.kp).mono ?_));rintro e v ⟨rfl,f⟩;have j:=bZ (c5.o.keep f.o);have b:=bZ (i.o.keep f.o (by simp));have d:=bZ (a.o.keep f.o (by simp));clear c5 i a y m s q t r;have c5:=j;have i:=b;have a:=d;clear j b d f;have y:=c5.o.bk.cell;have m:=c5.o.bk.lt;have s:=i.o.cell;have q:=i.o.lt;have t:=a.o.cell;have r:=a.o.lt) | (go_at_call 27;(first | (with_reducible refine(A.o _ c5.o.kp).mono ?_) | (with_reducible refine(C.o _ c5.o.kp).mono ?_));rintro e v ⟨rfl,f⟩;have j:=bZ (c5.o.keep f.o);have b:=bZ (i.o.keep f.o (by simp));have d:=bZ (a.o.keep f.o (by simp));clear c5 i a y m s q t r;have c5:=j;have i:=b;have a:=d;clear j b d f;have y:=c5.o.bk.cell;have m:=c5.o.bk.lt;have s:=i.o.cell;have q:=i.o.lt;have t:=a.o.cell;have r:=a.o.lt));go_ret;exact⟨by rw[l.o];rfl,bZ c5.o.kp⟩
   cases NX
   ·skip;replace l:R=false:=by rw[l];simp[*]
    replace l:=bZ l;go_wp2_with (first | (go_at_call 26;(first | (with_reducible refine(E.o _ c5.o.kp).mono ?_) | (with_reducible refine(F.o _ c5.o.kp).mono ?_));rintro e v ⟨rfl,f⟩;have j:=bZ (c5.o.keep f.o);have b:=bZ (i.o.keep f.o (by simp));have d:=bZ (a.o.keep f.o (by simp));clear c5 i a y m s q t r;have c5:=j;have i:=b;have a:=d;clear j b d f;have y:=c5.o.bk.cell;have m:=c5.o.bk.lt;have s:=i.o.cell;have q:=i.o.lt;have t:=a.o.cell;have r:=a.o.lt) | (go_at_call 27;(first | (with_reducible refine(A.o _ c5.o.kp).mono ?_) | (with_reducible refine(C.o _ c5.o.kp).mono ?_));rintro e v ⟨rfl,f⟩;have j:=bZ (c5.o.keep f.o);have b:=bZ (i.o.keep f.o (by simp));have d:=bZ (a.o.keep f.o (by simp));clear c5 i a y m s q t r;have c5:=j;have i:=b;have a:=d;clear j b d f;have y:=c5.o.bk.cell;have m:=c5.o.bk.lt;have s:=i.o.cell;have q:=i.o.lt;have t:=a.o.cell;have r:=a.o.lt));go_ret;exact⟨by rw[l.o];rfl,bZ c5.o.kp⟩
   skip;replace l:R=true:=by rw[l];simp[*]
   replace l:=bZ l;go_wp2_with (first | (go_at_call 26;(first | (with_reducible refine(E.o _ c5.o.kp).mono ?_) | (with_reducible refine(F.o _ c5.o.kp).mono ?_));rintro e v ⟨rfl,f⟩;have j:=bZ (c5.o.keep f.o);have b:=bZ (i.o.keep f.o (by simp));have d:=bZ (a.o.keep f.o (by simp));clear c5 i a y m s q t r;have c5:=j;have i:=b;have a:=d;clear j b d f;have y:=c5.o.bk.cell;have m:=c5.o.bk.lt;have s:=i.o.cell;have q:=i.o.lt;have t:=a.o.cell;have r:=a.o.lt) | (go_at_call 27;(first | (with_reducible refine(A.o _ c5.o.kp).mono ?_) | (with_reducible refine(C.o _ c5.o.kp).mono ?_));rintro e v ⟨rfl,f⟩;have j:=bZ (c5.o.keep f.o);have b:=bZ (i.o.keep f.o (by simp));have d:=bZ (a.o.keep f.o (by simp));clear c5 i a y m s q t r;have c5:=j;have i:=b;have a:=d;clear j b d f;have y:=c5.o.bk.cell;have m:=c5.o.bk.lt;have s:=i.o.cell;have q:=i.o.lt;have t:=a.o.cell;have r:=a.o.lt));go_ret;exact⟨by rw[l.o];rfl,bZ c5.o.kp⟩
  cases TY
  ·cases h2:(yo==1)
   ·skip;replace l:R=false:=by rw[l];simp[*]
    replace l:=bZ l;go_wp2_with (first | (go_at_call 26;(first | (with_reducible refine(E.o _ c5.o.kp).mono ?_) | (with_reducible refine(F.o _ c5.o.kp).mono ?_));rintro e v ⟨rfl,f⟩;have j:=bZ (c5.o.keep f.o);have b:=bZ (i.o.keep f.o (by simp));have d:=bZ (a.o.keep f.o (by simp));clear c5 i a y m s q t r;have c5:=j;have i:=b;have a:=d;clear j b d f;have y:=c5.o.bk.cell;have m:=c5.o.bk.lt;have s:=i.o.cell;have q:=i.o.lt;have t:=a.o.cell;have r:=a.o.lt) | (go_at_call 27;(first | (with_reducible refine(A.o _ c5.o.kp).mono ?_) | (with_reducible refine(C.o _ c5.o.kp).mono ?_));rintro e v ⟨rfl,f⟩;have j:=bZ (c5.o.keep f.o);have b:=bZ (i.o.keep f.o (by simp));have d:=bZ (a.o.keep f.o (by simp));clear c5 i a y m s q t r;have c5:=j;have i:=b;have a:=d;clear j b d f;have y:=c5.o.bk.cell;have m:=c5.o.bk.lt;have s:=i.o.cell;have q:=i.o.lt;have t:=a.o.cell;have r:=a.o.lt));go_ret;exact⟨by rw[l.o];rfl,bZ c5.o.kp⟩
   cases NY
   ·skip;replace l:R=false:=by rw[l];simp[*]
    replace l:=bZ l;go_wp2_with (first | (go_at_call 26;(first | (with_reducible refine(E.o _ c5.o.kp).mono ?_) | (with_reducible refine(F.o _ c5.o.kp).mono ?_));rintro e v ⟨rfl,f⟩;have j:=bZ (c5.o.keep f.o);have b:=bZ (i.o.keep f.o (by simp));have d:=bZ (a.o.keep f.o (by simp));clear c5 i a y m s q t r;have c5:=j;have i:=b;have a:=d;clear j b d f;have y:=c5.o.bk.cell;have m:=c5.o.bk.lt;have s:=i.o.cell;have q:=i.o.lt;have t:=a.o.cell;have r:=a.o.lt) | (go_at_call 27;(first | (with_reducible refine(A.o _ c5.o.kp).mono ?_) | (with_reducible refine(C.o _ c5.o.kp).mono ?_));rintro e v ⟨rfl,f⟩;have j:=bZ (c5.o.keep f.o);have b:=bZ (i.o.keep f.o (by simp));have d:=bZ (a.o.keep f.o (by simp));clear c5 i a y m s q t r;have c5:=j;have i:=b;have a:=d;clear j b d f;have y:=c5.o.bk.cell;have m:=c5.o.bk.lt;have s:=i.o.cell;have q:=i.o.lt;have t:=a.o.cell;have r:=a.o.lt));go_ret;exact⟨by rw[l.o];rfl,bZ c5.o.kp⟩
   cases h1:(xo==1)
   ·skip;replace l:R=true:=by rw[l];simp[*]
    replace l:=bZ l;go_wp2_with (first | (go_at_call 26;(first | (with_reducible refine(E.o _ c5.o.kp).mono ?_) | (with_reducible refine(F.o _ c5.o.kp).mono ?_));rintro e v ⟨rfl,f⟩;have j:=bZ (c5.o.keep f.o);have b:=bZ (i.o.keep f.o (by simp));have d:=bZ (a.o.keep f.o (by simp));clear c5 i a y m s q t r;have c5:=j;have i:=b;have a:=d;clear j b d f;have y:=c5.o.bk.cell;have m:=c5.o.bk.lt;have s:=i.o.cell;have q:=i.o.lt;have t:=a.o.cell;have r:=a.o.lt) | (go_at_call 27;(first | (with_reducible refine(A.o _ c5.o.kp).mono ?_) | (with_reducible refine(C.o _ c5.o.kp).mono ?_));rintro e v ⟨rfl,f⟩;have j:=bZ (c5.o.keep f.o);have b:=bZ (i.o.keep f.o (by simp));have d:=bZ (a.o.keep f.o (by simp));clear c5 i a y m s q t r;have c5:=j;have i:=b;have a:=d;clear j b d f;have y:=c5.o.bk.cell;have m:=c5.o.bk.lt;have s:=i.o.cell;have q:=i.o.lt;have t:=a.o.cell;have r:=a.o.lt));go_ret;exact⟨by rw[l.o];rfl,bZ c5.o.kp⟩
   skip;replace l:R=true:=by rw[l];simp[*]
   replace l:=bZ l;go_wp2_with (first | (go_at_call 26;(first | (with_reducible refine(E.o _ c5.o.kp).mono ?_) | (with_reducible refine(F.o _ c5.o.kp).mono ?_));rintro e v ⟨rfl,f⟩;have j:=bZ (c5.o.keep f.o);have b:=bZ (i.o.keep f.o (by simp));have d:=bZ (a.o.keep f.o (by simp));clear c5 i a y m s q t r;have c5:=j;have i:=b;have a:=d;clear j b d f;have y:=c5.o.bk.cell;have m:=c5.o.bk.lt;have s:=i.o.cell;have q:=i.o.lt;have t:=a.o.cell;have r:=a.o.lt) | (go_at_call 27;(first | (with_reducible refine(A.o _ c5.o.kp).mono ?_) | (with_reducible refine(C.o _ c5.o.kp).mono ?_));rintro e v ⟨rfl,f⟩;have j:=bZ (c5.o.keep f.o);have b:=bZ (i.o.keep f.o (by simp));have d:=bZ (a.o.keep f.o (by simp));clear c5 i a y m s q t r;have c5:=j;have i:=b;have a:=d;clear j b d f;have y:=c5.o.bk.cell;have m:=c5.o.bk.lt;have s:=i.o.cell;have q:=i.o.lt;have t:=a.o.cell;have r:=a.o.lt));go_ret;exact⟨by rw[l.o];rfl,bZ c5.o.kp⟩
  cases h1:(xo==1)
  ·cases h2:(yo==1)
   ·cases h3:(o==10)
    ·cases h4:(o==11)
     ·skip;replace l:R=false:=by rw[l];simp[*]
      replace l:=bZ l;go_wp2_with (first | (go_at_call 26;(first | (with_reducible refine(E.o _ c5.o.kp).mono ?_) | (with_reducible refine(F.o _ c5.o.kp).mono ?_));rintro e v ⟨rfl,f⟩;have j:=bZ (c5.o.keep f.o);have b:=bZ (i.o.keep f.o (by simp));have d:=bZ (a.o.keep f.o (by simp));clear c5 i a y m s q t r;have c5:=j;have i:=b;have a:=d;clear j b d f;have y:=c5.o.bk.cell;have m:=c5.o.bk.lt;have s:=i.o.cell;have q:=i.o.lt;have t:=a.o.cell;have r:=a.o.lt) | (go_at_call 27;(first | (with_reducible refine(A.o _ c5.o.kp).mono ?_) | (with_reducible refine(C.o _ c5.o.kp).mono ?_));rintro e v ⟨rfl,f⟩;have j:=bZ (c5.o.keep f.o);have b:=bZ (i.o.keep f.o (by simp));have d:=bZ (a.o.keep f.o (by simp));clear c5 i a y m s q t r;have c5:=j;have i:=b;have a:=d;clear j b d f;have y:=c5.o.bk.cell;have m:=c5.o.bk.lt;have s:=i.o.cell;have q:=i.o.lt;have t:=a.o.cell;have r:=a.o.lt));go_ret;exact⟨by rw[l.o];rfl,bZ c5.o.kp⟩
     skip;replace l:R=true:=by rw[l];simp[*]
     replace l:=bZ l;go_wp2_with (first | (go_at_call 26;(first | (with_reducible refine(E.o _ c5.o.kp).mono ?_) | (with_reducible refine(F.o _ c5.o.kp).mono ?_));rintro e v ⟨rfl,f⟩;have j:=bZ (c5.o.keep f.o);have b:=bZ (i.o.keep f.o (by simp));have d:=bZ (a.o.keep f.o (by simp));clear c5 i a y m s q t r;have c5:=j;have i:=b;have a:=d;clear j b d f;have y:=c5.o.bk.cell;have m:=c5.o.bk.lt;have s:=i.o.cell;have q:=i.o.lt;have t:=a.o.cell;have r:=a.o.lt) | (go_at_call 27;(first | (with_reducible refine(A.o _ c5.o.kp).mono ?_) | (with_reducible refine(C.o _ c5.o.kp).mono ?_));rintro e v ⟨rfl,f⟩;have j:=bZ (c5.o.keep f.o);have b:=bZ (i.o.keep f.o (by simp));have d:=bZ (a.o.keep f.o (by simp));clear c5 i a y m s q t r;have c5:=j;have i:=b;have a:=d;clear j b d f;have y:=c5.o.bk.cell;have m:=c5.o.bk.lt;have s:=i.o.cell;have q:=i.o.lt;have t:=a.o.cell;have r:=a.o.lt));go_ret;exact⟨by rw[l.o];rfl,bZ c5.o.kp⟩
    skip;replace l:R=true:=by rw[l];simp[*]
    replace l:=bZ l;go_wp2_with (first | (go_at_call 26;(first | (with_reducible refine(E.o _ c5.o.kp).mono ?_) | (with_reducible refine(F.o _ c5.o.kp).mono ?_));rintro e v ⟨rfl,f⟩;have j:=bZ (c5.o.keep f.o);have b:=bZ (i.o.keep f.o (by simp));have d:=bZ (a.o.keep f.o (by simp));clear c5 i a y m s q t r;have c5:=j;have i:=b;have a:=d;clear j b d f;have y:=c5.o.bk.cell;have m:=c5.o.bk.lt;have s:=i.o.cell;have q:=i.o.lt;have t:=a.o.cell;have r:=a.o.lt) | (go_at_call 27;(first | (with_reducible refine(A.o _ c5.o.kp).mono ?_) | (with_reducible refine(C.o _ c5.o.kp).mono ?_));rintro e v ⟨rfl,f⟩;have j:=bZ (c5.o.keep f.o);have b:=bZ (i.o.keep f.o (by simp));have d:=bZ (a.o.keep f.o (by simp));clear c5 i a y m s q t r;have c5:=j;have i:=b;have a:=d;clear j b d f;have y:=c5.o.bk.cell;have m:=c5.o.bk.lt;have s:=i.o.cell;have q:=i.o.lt;have t:=a.o.cell;have r:=a.o.lt));go_ret;exact⟨by rw[l.o];rfl,bZ c5.o.kp⟩
   skip;replace l:R=true:=by rw[l];simp[*]
   replace l:=bZ l;go_wp2_with (first | (go_at_call 26;(first | (with_reducible refine(E.o _ c5.o.kp).mono ?_) | (with_reducible refine(F.o _ c5.o.kp).mono ?_));rintro e v ⟨rfl,f⟩;have j:=bZ (c5.o.keep f.o);have b:=bZ (i.o.keep f.o (by simp));have d:=bZ (a.o.keep f.o (by simp));clear c5 i a y m s q t r;have c5:=j;have i:=b;have a:=d;clear j b d f;have y:=c5.o.bk.cell;have m:=c5.o.bk.lt;have s:=i.o.cell;have q:=i.o.lt;have t:=a.o.cell;have r:=a.o.lt) | (go_at_call 27;(first | (with_reducible refine(A.o _ c5.o.kp).mono ?_) | (with_reducible refine(C.o _ c5.o.kp).mono ?_));rintro e v ⟨rfl,f⟩;have j:=bZ (c5.o.keep f.o);have b:=bZ (i.o.keep f.o (by simp));have d:=bZ (a.o.keep f.o (by simp));clear c5 i a y m s q t r;have c5:=j;have i:=b;have a:=d;clear j b d f;have y:=c5.o.bk.cell;have m:=c5.o.bk.lt;have s:=i.o.cell;have q:=i.o.lt;have t:=a.o.cell;have r:=a.o.lt));go_ret;exact⟨by rw[l.o];rfl,bZ c5.o.kp⟩
  skip;replace l:R=true:=by rw[l];simp[*]
  replace l:=bZ l;go_wp2_with (first | (go_at_call 26;(first | (with_reducible refine(E.o _ c5.o.kp).mono ?_) | (with_reducible refine(F.o _ c5.o.kp).mono ?_));rintro e v ⟨rfl,f⟩;have j:=bZ (c5.o.keep f.o);have b:=bZ (i.o.keep f.o (by simp));have d:=bZ (a.o.keep f.o (by simp));clear c5 i a y m s q t r;have c5:=j;have i:=b;have a:=d;clear j b d f;have y:=c5.o.bk.cell;have m:=c5.o.bk.lt;have s:=i.o.cell;have q:=i.o.lt;have t:=a.o.cell;have r:=a.o.lt) | (go_at_call 27;(first | (with_reducible refine(A.o _ c5.o.kp).mono ?_) | (with_reducible refine(C.o _ c5.o.kp).mono ?_));rintro e v ⟨rfl,f⟩;have j:=bZ (c5.o.keep f.o);have b:=bZ (i.o.keep f.o (by simp));have d:=bZ (a.o.keep f.o (by simp));clear c5 i a y m s q t r;have c5:=j;have i:=b;have a:=d;clear j b d f;have y:=c5.o.bk.cell;have m:=c5.o.bk.lt;have s:=i.o.cell;have q:=i.o.lt;have t:=a.o.cell;have r:=a.o.lt));go_ret;exact⟨by rw[l.o];rfl,bZ c5.o.kp⟩
theorem sW {l:List Vb} {x:E} (h:bT l x=true):((x.op==1) && x.null)=x.nl:=by
 cases x with
 | z o i v=>
  simp only[opz];show ((o==1) && (decide (o=1) && decide (v.k=0)))=(decide (o=1) && decide (v.k=0));by_cases c:o=1<;>simp[c]
 | a o i v x=>
  have c:o≠1:=by
   rintro rfl;simp[bT,E.nl,E.text,E.int] at h
  simp only[opa];rw[beq_false_of_ne c];rfl
 | b o i v x y=>
  have c:o≠1:=by
   rintro rfl;simp[bT,E.nl,E.text,E.int] at h
  simp only[opb];rw[beq_false_of_ne c];rfl
 | many o i v=>simp[bT,E.nl,E.text,E.int] at h
theorem cmp_eq (l:List Vb) (o:Int) (x y:E):(bT l x && bT l y && kD l o x y)=(bT l x && bT l y && ((!x.text l && !y.text l) || (x.text l || ((x.op==1) && x.null)) && (y.text l || ((y.op==1) && y.null)) && ((x.op==1) || (y.op==1) || (o==10) || (o==11)))):=by
 cases a:bT l x
 ·rfl
 cases b:bT l y
 ·rfl
 rw[sW a,sW b];rfl
theorem yp {l:List Vb} {d:Nat} {e:E} (h:e.short 12=false):ci l (d+1) e=false:=by
 cases e with
 | z=>rfl
 | a o i v x=>rw[ci,h];rfl
 | b o i v x y=>rw[ci,h];rfl
 | many=>rfl
theorem ku (C:Nat->Prop) (L:Option Addr) (D:Nat) (l:List Vb) (u:Nat) (Q:u=l.length):∀(d:Nat) (e:E) (w:World) (J F:ByteArray) (A:Option Addr) (n c:Nat),d<=100->e.rg->aY w C e A n->n<=c->c<=maxLen->bR w L l->
 Calls Tryz.prog 7 #[exV e J F A n c,.slice L u D,I (d:Int)] w (RoP w (.bool (ci l d e)))
 | 0,e,w,J,F,A,n,c,hd,hrg,hA,hnc,hcm,hV=>by
   have:ci l 0 e=false:=by cases e<;>rfl
   rw[this];exact uh w e.op e.ix e.lit.k e.lit.n J F e.lit.s A n c u D L
 | d+1,e,w,J,F,A,n,c,hd,hrg,hA,hnc,hcm,hV=>by
   have N:(((d+1:Nat):Int)==0)=false:=by rw[beq_eq_false_iff_ne];omega
   have a1:IntKind.i64.wrap (((d+1:Nat):Int) - 1)=(d:Int):=by rw[C0 _ (by omega)];omega
   have f:Z (∀W,ad [] w W->Calls Tryz.prog 24 #[exV e J F A n c,I 12] W (RoP W (.bool (e.short 12)))):=bZ (fun W t=>qm C 12 e W J F A n c (by omega) (hA.keep0 t) hnc hcm);cases hs:e.short 12 with
   | false=>
    rw[yp hs];rw[hs] at f;exact rY w _ N e.op e.ix e.lit.k e.lit.n J F e.lit.s A n c u D L f
   | true=>
    rw[hs] at f;have R:=cw hs;have sh:∀x∈e.args,x.short 11=true:=fun x r=>dm hs r;have a2:∀x∈e.args,∀g a q p B m j,XAt w C g a x q p B m j->RdC 7 (ci l d) [.slice L u D,I (d:Int)] x w g a:=fun x r g a q p B m j h=>
     ⟨q,p,B,m,j,fun W t=>(h.keep0 t).cells,fun R=>h.ar.nlen R,fun W t=>ku C L D l u Q d x W q p B m j (by omega) (bX hrg r) ((h.keep0 t).ar) h.mc h.cm (hV.keep0 t)⟩
    have a5:∀x∈e.args,∀g a q p B m j,XAt w C g a x q p B m j->RdC 25 (bT l) [.slice L u D] x w g a:=fun x r g a q p B m j h=>
     ⟨q,p,B,m,j,fun W t=>(h.keep0 t).cells,fun R=>h.ar.nlen R,fun W t=>lm C L D l u Q x W q p B m j ⟨11,by decide,sh x r⟩ (bX hrg r) ((h.keep0 t).ar) h.mc h.cm (hV.keep0 t)⟩
    have Y:∀x∈e.args,∀g a q p B m j,XAt w C g a x q p B m j->Z (∀W,ad [] w W->Calls Tryz.prog 26 #[exV x q p B m j,.slice L u D] W (RoP W (.bool (x.text l)))):=fun x r g a q p B m j h=>
     bZ (fun W t=>oM C x W q p B m j L D l u Q (cT R r) ((h.keep0 t).ar) (hV.keep0 t))
    have a0:∀x∈e.args,∀g a q p B m j,XAt w C g a x q p B m j->Z (∀W,ad [] w W->Calls Tryz.prog 27 #[exV x q p B m j] W (RoP W (.bool x.null))):=fun x r g a q p B m j h=>
     bZ (fun W t=>pq C x W q p B m j (cT R r) ((h.keep0 t).ar) h.mc h.cm)
    have X:∀x∈e.args,∀g a q p B m j,XAt w C g a x q p B m j->Z (∀W,ad [] w W->Calls Tryz.prog 25 #[exV x q p B m j,.slice L u D] W (RoP W (.bool (bT l x)))):=fun x r g a q p B m j h=>
     bZ (fun W t=>lm C L D l u Q x W q p B m j ⟨11,by decide,sh x r⟩ (bX hrg r) ((h.keep0 t).ar) h.mc h.cm (hV.keep0 t))
    cases e with
    | z o i v=>
     obtain⟨rfl,_⟩:=hA;rw[show ci l (d+1) (.z o i v)=false from rfl];unfold exV at f ⊢;simp only[opz,ixz,ltz] at f ⊢;by_cases M:o=16
     ·subst M;exact ol w _ N i v.k v.n J F v.s A 0 c u D L f (by decide)
     exact pP w _ N o i v.k v.n J F v.s A 0 c u D L f (by omega)
    | a o i v x=>
     obtain⟨rfl,g,H,q,p,B,m,j,rfl,hC,hg,r⟩:=hA.get1;have P:x∈(E.a o i v x).args:=by simp[E.args]
     have e1:ci l (d+1) (.a o i v x)=if o=20 then ci l d x else decide (o=17) && bT l x:=by rw[ci,hs];rfl
     rw[e1];unfold exV at f ⊢;simp only[opa,ixa,lta] at f ⊢;by_cases M:o=16
     ·subst M;exact ol w _ N i v.k v.n J F v.s _ 1 c u D L f (by decide)
     by_cases a4:o=20
     ·subst a4;exact yt w _ _ N a1 i v.k v.n J F v.s g H c u D L hcm hg f x (ci l d) (a2 x P _ _ _ _ _ _ _ r) hnc
     rw[if_neg a4];by_cases a3:o=17
     ·subst a3;exact yu w _ _ N a1 i v.k v.n J F v.s g H c u D L hcm hg f x (bT l) (a5 x P _ _ _ _ _ _ _ r) hnc
     rw[decide_eq_false a3,Bool.false_and];exact pP w _ N o i v.k v.n J F v.s _ 1 c u D L f (by omega)
    | b o i v x y=>
     obtain⟨rfl,g,H,q,p,B,m,j,ty,ny,B',T,c2,rfl,hC,hg,r,S⟩:=hA.get2;have P:x∈(E.b o i v x y).args:=by simp[E.args]
     have K:y∈(E.b o i v x y).args:=by simp[E.args]
     have e1:ci l (d+1) (.b o i v x y)=if o=18\/o=19 then ci l d x && ci l d y else if o=16 then cC l x y else decide (10<=o/\o<=15) && bT l x && bT l y && kD l o x y:=by rw[ci,hs];rfl
     rw[e1];have Xx:Z (∀W,ad [] w W->XCl W g H x.op x.ix x.lit.k x.lit.n q p x.lit.s B m j):=bZ (fun W t=>(r.keep0 t).cells);have Xy:Z (∀W,ad [] w W->XCl W g (H+8) y.op y.ix y.lit.k y.lit.n ty ny y.lit.s B' T c2):=bZ (fun W t=>(S.keep0 t).cells);unfold exV at f ⊢;simp only[opb,ixb,ltb] at f ⊢;by_cases h1:o=18\/o=19
     ·rw[if_pos h1];exact wK w _ _ N a1 o i v.k v.n J F v.s g H c u D L hcm hg f x y (ci l d) (a2 x P _ _ _ _ _ _ _ r) (a2 y K _ _ _ _ _ _ _ S) hnc h1
     rw[if_neg h1];by_cases M:o=16
     ·subst M;rw[if_pos rfl];have a6:y.leaf=decide (T=0):=by
       have:=S.ar.nlen (cT R K);cases y with
       | z=>rw[show T=0 from this];rfl
       | a=>rw[show T=1 from this];rfl
       | b=>rw[show T=2 from this];rfl
       | many=>exact absurd (cT R K) (by simp[E.ok2])
      have hR:cC l x y=(decide (T=0) && (x.text l || x.null) && bT l x && decide (y.op=1) && decide (y.lit.k=2) && vOk y.lit && decide (x.op=1\/x.op=2)):=by unfold cC;rw[a6]
      have HV:Z (∀W,Calls Tryz.prog 28 #[.agg #[I y.lit.k,I y.lit.n,.string y.lit.s]] W (RoP W (.bool (vOk y.lit)))):=bZ (fun W=>gP W y.lit (sP (bX hrg K)).2);exact rZ w _ N i v.k v.n x.op x.ix x.lit.k x.lit.n y.op y.ix y.lit.k y.lit.n J F v.s q p x.lit.s ty ny y.lit.s g H c u D m j T c2 L B B' hcm hnc f Xx Xy (x.text l) x.null (bT l x) (vOk y.lit) (Y x P _ _ _ _ _ _ _ r) (a0 x P _ _ _ _ _ _ _ r) (X x P _ _ _ _ _ _ _ r) HV _ hR
     rw[if_neg M];by_cases O:10<=o/\o<=15
     ·rw[decide_eq_true O,Bool.true_and];exact wJ w _ N o i v.k v.n x.op x.ix x.lit.k x.lit.n y.op y.ix y.lit.k y.lit.n J F v.s q p x.lit.s ty ny y.lit.s g H c u D m j T c2 L B B' hcm hnc ⟨r.mc,r.cm⟩ ⟨S.mc,S.cm⟩ f Xx Xy (bT l x) (bT l y) (x.text l) (y.text l) x.null y.null (X x P _ _ _ _ _ _ _ r) (X y K _ _ _ _ _ _ _ S) (Y x P _ _ _ _ _ _ _ r) (Y y K _ _ _ _ _ _ _ S) (a0 x P _ _ _ _ _ _ _ r) (a0 y K _ _ _ _ _ _ _ S) _ O (cmp_eq l o x y)
     rw[decide_eq_false O,Bool.false_and,Bool.false_and,Bool.false_and];exact pP w _ N o i v.k v.n J F v.s _ 2 c u D L f (by omega)
    | many=>exact absurd R (by simp[E.ok2])
end Go.Proofs.YtldmkbhgdbafhaaGreat
