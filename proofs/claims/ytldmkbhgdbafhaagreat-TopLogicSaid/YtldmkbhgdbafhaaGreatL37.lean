import Derived.Test.YtldmkbhgdbafhaaGreatL36
namespace Go.Proofs.YtldmkbhgdbafhaaGreat
open Go.RowKit
set_option linter.unusedSimpArgs false
set_option linter.unusedVariables false
set_option maxRecDepth 100000
set_option maxHeartbeats 64000000
section
def skB (P:List UInt8) (f:Nat->Bool):Nat->Bool
 | 0=>f 0
 | i+1=>f (i+1) || (decide (P[i]? =some 37) && skB P f i)
theorem xd (P S:List UInt8):∀i,i<=P.length->skB P (fun j=>decide (j=0)) i=lkR P S i 0
 | 0,_=>by rw[xQ];simp[skB]
 | i+1,h=>by rw[xO (by omega),skB,xd P S i (by omega)];simp
theorem wZ {P S:List UInt8} {k:Nat} {d:UInt8} (a:S[k]? =some d):∀i,i<=P.length->skB P (fun j=>lkN P S j k d) i=lkR P S i (k+1)
 | 0,_=>(xP a).symm
 | i+1,h=>by rw[xN (by omega) a,skB,wZ a i (by omega)]
def npB (P:List UInt8) (R:Nat->Bool) (d:UInt8) (i j:Nat):Bool:=
 (decide (j<i) && (decide (P[j]? =some 37) && R j)) || (match j with | 0=>false | q+1=>decide (q<i) && (match P[q]? with | some c=>!decide (c=37) && ((c==95 || c==d) && R q) | none=>false))
theorem zb {P:List UInt8} {R:Nat->Bool} {d:UInt8} (j:Nat):npB P R d 0 j=false:=by
 unfold npB;cases j<;>simp
theorem vC {P S:List UInt8} {k:Nat} {d:UInt8} {j:Nat} (a:j<=P.length):npB P (fun i=>lkR P S i k) d P.length j=lkN P S j k d:=by
 unfold npB lkN
 congr 1
 ·by_cases h:j<P.length
  ·rw[decide_eq_true h,Bool.true_and]
  rw[decide_eq_false h,Bool.false_and,decide_eq_false (by rw[D9 (by omega)];simp),Bool.false_and]
 cases j with
 | zero=>rfl
 | succ q=>simp only[decide_eq_true (show q<P.length by omega),Bool.true_and];cases P[q]? <;>rfl
section
variable {P:List UInt8} {R:Nat->Bool} {d c:UInt8} {i:Nat}
theorem ti (a:R i=false) (j:Nat):npB P R d (i+1) j=npB P R d i j:=by
 unfold npB
 congr 1
 ·by_cases h:j=i
  ·subst h;rw[a];simp
  congr 1;exact decide_eq_decide.2 (by omega)
 cases j with
 | zero=>rfl
 | succ q=>
  by_cases h:q=i
  ·subst h;simp only[a];cases P[q]? <;>simp
  simp only[show decide (q<i+1)=decide (q<i) from decide_eq_decide.2 (by omega)]
theorem vD (b:R i=true) (a:P[i]? =some 37) (j:Nat):npB P R d (i+1) j=if j=i then true else npB P R d i j:=by
 by_cases h:j=i
 ·subst h;rw[if_pos rfl];unfold npB;simp[a,b]
 rw[if_neg h];unfold npB
 congr 1
 ·congr 1;exact decide_eq_decide.2 (by omega)
 cases j with
 | zero=>rfl
 | succ q=>
  by_cases h:q=i
  ·subst h;simp[a]
  simp only[show decide (q<i+1)=decide (q<i) from decide_eq_decide.2 (by omega)]
theorem vz (e:R i=true) (b:P[i]? =some c) (a:c≠37) (f:(c==95 || c==d)=true) (j:Nat):npB P R d (i+1) j=if j=i+1 then true else npB P R d i j:=by
 by_cases h:j=i+1
 ·subst h;rw[if_pos rfl];unfold npB;simp[b,e,a,f]
 rw[if_neg h];unfold npB
 congr 1
 ·by_cases h:j=i
  ·subst h;simp[b,a]
  congr 1;exact decide_eq_decide.2 (by omega)
 cases j with
 | zero=>rfl
 | succ q=>simp only[show decide (q<i+1)=decide (q<i) from decide_eq_decide.2 (by omega)]
theorem vB (a:P[i]? =some c) (b:c≠37) (e:(c==95 || c==d)=false) (j:Nat):npB P R d (i+1) j=npB P R d i j:=by
 unfold npB
 congr 1
 ·by_cases h:j=i
  ·subst h;simp[a,b]
  congr 1;exact decide_eq_decide.2 (by omega)
 cases j with
 | zero=>rfl
 | succ q=>
  by_cases h:q=i
  ·subst h;simp only[a,e];simp
  simp only[show decide (q<i+1)=decide (q<i) from decide_eq_decide.2 (by omega)]
end
theorem uW (w:World) (p:ByteArray) (P:List UInt8) (J K g m:Nat) (f:Nat->Bool) (T:m=p.size+1) (hp:p.size<=100000) (N:P=p.data.toList)
 (z:w.cell? (U J 0)=some (.string p)) (B:w.cell? (U K 0)=G (V g) m m) (k:Blk w g 4 (bg f m)) (n1:J≠g) (n2:K≠g):
 Calls Tryz.prog 211 #[.pointer (V J),.pointer (V K)] w fun e W=>e=.returned (.tuple #[])/\Z (Blk W g 4 (bg (skB P f) m))/\Z (ad [g] w W):=by
  have X:Z (P.length=p.size):=bZ (by rw[N,DO];rfl);have O:Z (∀j (h:j<p.size),P[j]? =some (p[j]'h)):=bZ (fun j h=>by rw[N];exact di p h);have k0:=bZ (ad.refl [g] w);have L:Z (Blk w g 4 (bg (fun j=>if j<=0 then skB P f j else f j) m)):=bZ (by
   rw[bB (g:=f)]
   ·exact k
   intro i _;cases i with
   | zero=>rfl
   | succ i=>rw[if_neg (by omega)])
  have A:=bZ z;have C:=bZ B;have r:=bZ T;clear N k T;go_enter Tryz.func211,Tryz.ntmps211;go_wp2_with fail;clear z B;go_loopw [5] (fun R wr=>∃(i:Nat),i<=p.size/\R=I (i:Int)/\Z (Blk wr g 4 (bg (fun j=>if j<=i then skB P f j else f j) m))/\Z (ad [g] w wr)) (fun R _=>p.size - (intOf R).toNat)
  case atStart=>exact⟨0,C3 _,rfl,L,k0⟩
  obtain⟨i,hi,rfl,k,s⟩:=hrel;obtain⟨F,Q⟩:∃x,x=wr:=⟨_,rfl⟩;subst Q;by_cases q:i<p.size
  ·have a0:(i:Int)<(p.size:Int):=by omega
   have wi:IntKind.i64.wrap ((i:Int)+1)=(i:Int)+1:=C0 _ (by omega);obtain⟨c,t⟩:∃c,c=p[i]'q:=⟨_,rfl⟩;have y:Z (P[i]? =some c):=bZ (by rw[O.o i q,t]);have cp:=s.o.cellEq A.o (by simpa using n1);have cv:=s.o.cellEq C.o (by simpa using n2);have Y:(i:Int)<(m:Int):=by have:=r.o;omega
   have S:(i:Int)+1<(m:Int):=by have:=r.o;omega
   have xi:F.cell? (U g i)=some (.bool (skB P f i)):=by rw[k.o.cell,bw (by omega),if_pos (C9 _)]
   have a1:F.cell? (U g (i+1))=some (.bool (f (i+1))):=by rw[k.o.cell,bw (by have:=r.o;omega),if_neg (by omega)]
   have fi:=k.o.frozen (i+1);have li:=k.o.lt;have l:Z (skB P f (i+1)=true->Blk (F.setCell (U g (i+1)) (.bool true)) g 4 (bg (fun j=>if j<=i+1 then skB P f j else f j) m)):=bZ (fun h=>by
    have:=k.o.set_ (i+1) (.bool true);rw[fw] at this;rw[<-bB (f:=fun j=>if j=i+1 then true else if j<=i then skB P f j else f j)]
    ·exact this
    intro j _;by_cases H:j=i+1
    ·subst H;rw[if_pos rfl,if_pos (C9 _),h]
    rw[if_neg H];by_cases u:j<=i
    ·rw[if_pos u,if_pos (by omega)]
    rw[if_neg u,if_neg (by omega)])
   have a:Z (skB P f (i+1)=f (i+1)->Blk F g 4 (bg (fun j=>if j<=i+1 then skB P f j else f j) m)):=bZ (fun h=>by
    rw[<-bB (f:=fun j=>if j<=i then skB P f j else f j)]
    ·exact k.o
    intro j _;by_cases H:j=i+1
    ·subst H;rw[if_neg (by omega),if_pos (C9 _),h]
    by_cases u:j<=i
    ·rw[if_pos u,if_pos (by omega)]
    rw[if_neg u,if_neg (by omega)])
   by_cases b:c=37
   ·have D:(((p[i]'q).toNat:Int)==37)=true:=by rw[<-t,b];rfl
    obtain⟨v,E⟩:∃v,v=skB P f i:=⟨_,rfl⟩;rw[<-E] at xi;have n:decide (P[i]? =some 37)=true:=decide_eq_true (by rw[y.o,b]);cases v
    ·have d:=bZ (a.o (by rw[skB,<-E];simp));clear l a k t b E n;go_wp2_with fail;go_roundw
     case rel=>exact⟨i+1,by omega,by go_num,d,s⟩
     case measure=>simp[intOf];omega
    have d:=bZ (l.o (by rw[skB,<-E,n];simp));have M:=bZ (s.o.setCell (p:=(U g (i+1))) (.inl (by simp)) (.bool true));clear l a k t b E n;go_wp2_with fail;go_roundw
    case rel=>exact⟨i+1,by omega,by go_num,d,M⟩
    case measure=>simp[intOf];omega
   have D:(((p[i]'q).toNat:Int)==37)=false:=by rw[<-t];exact(fp c 37).trans (decide_eq_false b)
   have d:=bZ (a.o (by rw[skB,decide_eq_false (by rw[y.o];exact fun h=>b (Option.some.inj h))];simp));clear l a k t b;go_wp2_with fail;go_roundw
   case rel=>exact⟨i+1,by omega,by go_num,d,s⟩
   case measure=>simp[intOf];omega
  obtain rfl:i=p.size:=by omega
  have d:Z (Blk F g 4 (bg (skB P f) m)):=bZ (by
   rw[<-bB (f:=fun j=>if j<=p.size then skB P f j else f j) (fun j hj=>if_pos (by have:=r.o;omega))];exact k.o)
  clear k;go_wp2_with fail;go_end0;exact⟨rfl,d,s⟩
end
theorem vM (w:World) (s p:ByteArray) (hs:s.size<=100000) (hp:p.size<=100000):Calls Tryz.prog 178 #[.string s,.string p] w (RoP w (.bool (lkB s p))):=by
 obtain⟨S,hS⟩:∃S,S=s.data.toList:=⟨_,rfl⟩;obtain⟨P,hP⟩:∃P,P=p.data.toList:=⟨_,rfl⟩;have bb:Z (S.length=s.size):=bZ (by rw[hS,DO];rfl);have J:Z (P.length=p.size):=bZ (by rw[hP,DO];rfl);have b9:Z (∀j (h:j<s.size),S[j]? =some (s[j]'h)):=bZ (fun j h=>by rw[hS];exact di s h);have b8:Z (∀j (h:j<p.size),P[j]? =some (p[j]'h)):=bZ (fun j h=>by rw[hP];exact di p h);have b1:Z (lkB s p=lkT P S p.size s.size):=bZ (by
  rw[<-J.o,<-bb.o,qK,hS,hP];rfl)
 generalize lkB s p=R at*;obtain⟨m,hm⟩:∃m,m=p.size+1:=⟨_,rfl⟩;have wn:IntKind.i64.wrap ((p.size:Int)+1)=(m:Int):=by rw[C0 _ (by omega)];omega
 have c4:m<=100001:=by omega
 have u:=bZ hm;have b7:=bZ hP;have c3:(0:Int)<(m:Int):=by omega
 clear hS hP hm;obtain⟨W0,a0⟩:∃W,W=w.alloc (.cells #[.string p] 9):=⟨_,rfl⟩;obtain⟨H,ac⟩:∃g,g=w.heap.size:=⟨_,rfl⟩;have b0:Z (Blk W0 H 9 #[.string p]):=bZ (by rw[a0,ac];exact Blk.new w 9 _);have k0:Z (ad [] w W0):=bZ (by rw[a0];exact(ad.refl [] w).alloc _);have bq:Z (w.heap.size<=H):=bZ (by omega);go_enter Tryz.func178,Tryz.ntmps178;go_upto_region 1 with fail;rw[<-a0,<-ac];clear a0 ac;have y:=b0.o.cell;have yl:=b0.o.lt;go_upto_region 2 with (refine eb rfl 121 (.tmp 12) (.tmp 12) rfl 4 (.bool false) 1 1 Tryz.underlying121 qM .i64 .i64 m m rfl rfl (by omega) (by omega) (by omega) ?_;intro w1 B1 k1 z1);obtain⟨t,aa⟩:∃g,g=W0.heap.size:=⟨_,rfl⟩;rw[fU,<-aa] at B1;rw[<-aa];have ap:H≠t:=by omega
 have Q:Z (w.heap.size<=t):=bZ (by have:=k0.o.size;omega);clear aa;obtain⟨X,K⟩:∃W,W=w1.alloc (.cells #[.slice (V t) m m] 121):=⟨_,rfl⟩;obtain⟨A,ak⟩:∃g,g=w1.heap.size:=⟨_,rfl⟩;rw[<-K,<-ak];have b2:Z (Blk X A 121 #[.slice (V t) m m]):=bZ (by rw[K,ak];exact Blk.new w1 121 _);have a2:Z (Blk X H 9 #[.string p]):=bZ (by rw[K];exact(b0.o.keep k1 (by simp)).alloc _);have r2:Z (Blk X t 4 (bg (fun _=>false) m)):=bZ (by rw[K];exact B1.o.alloc _);have k2:Z (ad [] w X):=bZ (by rw[K];exact(k0.o.trans k1).alloc _);have aq:A≠t:=by have:=B1.o.lt;omega
 have bn:H≠A:=by have:=(b0.o.keep k1 (by simp)).lt;omega
 have av:Z (w.heap.size<=A):=bZ (by have:=(k0.o.trans k1).size;omega);clear K ak y yl B1 k1 z1 b0 k0;have y:=a2.o.cell;have yl:=a2.o.lt;have v:=b2.o.cell;have vl:=b2.o.lt;have c0:X.cell? (U t 0)=some (.bool false):=by rw[r2.o.cell];exact bw (by have:=u.o;omega)
 have f0:=r2.o.frozen 0;have l0:=r2.o.lt;go_upto_region 3 with fail;have b3:Z (Blk (X.setCell (U t 0) (.bool true)) A 121 #[.slice (V t) m m]):=bZ (b2.o.far (p:=(U t 0)) aq _);have a3:Z (Blk (X.setCell (U t 0) (.bool true)) H 9 #[.string p]):=bZ (a2.o.far (p:=(U t 0)) ap _);have r3:Z (Blk (X.setCell (U t 0) (.bool true)) t 4 (bg (fun j=>decide (j=0)) m)):=bZ (by
  have:=r2.o.set_ 0 (.bool true);rw[fw] at this;rw[<-bB (f:=fun j=>if j=0 then true else false) (fun j _=>by by_cases h:j=0<;>simp[h])];exact this)
 have k3:Z (ad [] w (X.setCell (U t 0) (.bool true))):=bZ (k2.o.setCell (.inr Q.o) _);generalize X.setCell (U t 0) (.bool true)=w3 at*;clear c0 f0 l0 b2 a2 r2 k2 y yl v vl;have y:=a3.o.cell;have yl:=a3.o.lt;have v:=b3.o.cell;have vl:=b3.o.lt;have HS:Z (∀(W:World) (g:Nat) (f:Nat->Bool),Blk W H 9 #[.string p]->Blk W A 121 #[.slice (V g) m m]->Blk W g 4 (bg f m)->H≠g->A≠g->Calls Tryz.prog 211 #[.pointer (V H),.pointer (V A)] W fun e w'=>e=.returned (.tuple #[])/\Z (Blk w' g 4 (bg (skB P f) m))/\Z (ad [g] W w')):=bZ (fun W g f h1 h2 h3 h4 h5=>uW W p P H A g m f u.o hp b7.o (h1.cell 0) (h2.cell 0) h3 h4 h5);go_wp2_with (go_at_call 211;refine(HS.o w3 t _ a3.o b3.o r3.o ap aq).mono ?_;rintro e w4 ⟨rfl,r4,k4⟩);have a4:=bZ (a3.o.keep k4.o (by simpa using ap));have b4:=bZ (b3.o.keep k4.o (by simpa using aq));have bk:Z (ad [] w w4):=bZ ((k3.o.nil.trans k4.o).mono (fun x hx=>.inr (by rw[CZ.1 hx];exact Q.o)));have bo:Z (Blk w4 t 4 (bg (fun j=>lkR P S j 0) m)):=bZ (by
  rw[<-bB (f:=skB P fun j=>decide (j=0)) (fun j hj=>xd P S j (by rw[J.o];have:=u.o;omega))];exact r4.o)
 clear r4 k4 a3 b3 r3 k3 y yl v vl;go_loopw [21] (fun ar wr=>∃(k g:Nat),k<=s.size/\ar=I (k:Int)/\Z (Blk wr H 9 #[.string p])/\Z (Blk wr A 121 #[.slice (V g) m m])/\Z (Blk wr g 4 (bg (fun j=>lkR P S j k) m))/\Z (w.heap.size<=g)/\Z (ad [] w wr)) (fun ar _=>s.size - (intOf ar).toNat)
 case atStart=>exact⟨0,t,C3 _,rfl,a4,b4,bo,Q,bk⟩
 obtain⟨k,g,hk,rfl,F,B,N,bx,Y⟩:=hrel;obtain⟨wo,bf⟩:∃x,x=wr:=⟨_,rfl⟩;subst bf;have y:=F.o.cell;have yl:=F.o.lt;have v:=B.o.cell;have vl:=B.o.lt;by_cases am:k<s.size
 ·have c2:(k:Int)<(s.size:Int):=by omega
  have wk:IntKind.i64.wrap ((k:Int)+1)=(k:Int)+1:=C0 _ (by omega);obtain⟨d,hd⟩:∃d,d=s[k]'am:=⟨_,rfl⟩;have ba:Z (S[k]? =some d):=bZ (by rw[b9.o k am,hd]);go_upto_region 9 with (refine eb rfl 121 (.tmp 26) (.tmp 26) rfl 4 (.bool false) 1 1 Tryz.underlying121 qM .i64 .i64 m m rfl rfl (by omega) (by omega) (by omega) ?_;intro w5 B5 k5 z5);obtain⟨l,ab⟩:∃g,g=wo.heap.size:=⟨_,rfl⟩;rw[fU,<-ab] at B5;rw[<-ab];have T:Z (w.heap.size<=l):=bZ (by have:=Y.o.size;omega);have a5:=bZ (F.o.keep k5 (by simp));have b5:=bZ (B.o.keep k5 (by simp));have r5:=bZ (N.o.keep k5 (by simp));have bm:=bZ (Y.o.trans k5);have nn:g≠l:=by have:=N.o.lt;omega
  have b6:Z (Blk w5 l 4 (bg (npB P (fun j=>lkR P S j k) d 0) m)):=bZ (by
   rw[<-bB (f:=fun _=>false) (fun j _=>(zb j).symm)];exact B5.o)
  clear y yl v vl F B N Y B5 k5 z5 ab;have y:=a5.o.cell;have yl:=a5.o.lt;go_wp2_with fail;clear y yl;go_loopw [30] (fun au wr=>∃(i:Nat),i<=p.size/\au=I (i:Int)/\Z (Blk wr H 9 #[.string p])/\Z (Blk wr A 121 #[.slice (V g) m m])/\Z (Blk wr g 4 (bg (fun j=>lkR P S j k) m))/\Z (Blk wr l 4 (bg (npB P (fun j=>lkR P S j k) d i) m))/\Z (ad [] w wr)) (fun au _=>p.size - (intOf au).toNat)
  case atStart=>exact⟨0,C3 _,rfl,a5,b5,r5,b6,bm⟩
  obtain⟨i,hi,rfl,F,B,N,D,Y⟩:=hrel;obtain⟨M,bd⟩:∃x,x=wr:=⟨_,rfl⟩;subst bd;have y:=F.o.cell;have yl:=F.o.lt;have v:=B.o.cell;have vl:=B.o.lt;by_cases L:i<p.size
  ·have c1:(i:Int)<(p.size:Int):=by omega
   have c8:IntKind.i64.wrap ((i:Int)+1)=(i:Int)+1:=C0 _ (by omega);have bz:(i:Int)<(m:Int):=by have:=u.o;omega
   have br:(i:Int)+1<(m:Int):=by have:=u.o;omega
   have bs:i<m:=by omega
   have bc:i+1<m:=by omega
   obtain⟨c,hc⟩:∃c,c=p[i]'L:=⟨_,rfl⟩;have a9:Z (P[i]? =some c):=bZ (by rw[b8.o i L,hc]);obtain⟨R0,E⟩:∃v,v=lkR P S i k:=⟨_,rfl⟩;have xr:M.cell? (U g i)=some (.bool R0):=by rw[N.o.cell,bw (by omega),E]
   have c5:=bZ nn;have O:Z (∀j,Blk (M.setCell (U l j) (.bool true)) H 9 #[.string p]/\Blk (M.setCell (U l j) (.bool true)) A 121 #[.slice (V g) m m]/\Blk (M.setCell (U l j) (.bool true)) g 4 (bg (fun j=>lkR P S j k) m)/\ad [] w (M.setCell (U l j) (.bool true))):=bZ (fun j=>
    ⟨F.o.far (p:=(U l j)) (F.o.ne_ D.o (by decide)) _,B.o.far (p:=(U l j)) (B.o.ne_ D.o (by decide)) _,N.o.far (p:=(U l j)) nn _,Y.o.setCell (.inr T.o) _⟩)
   have z:Z (∀j,(∀q,npB P (fun j=>lkR P S j k) d (i+1) q=if q=j then true else npB P (fun j=>lkR P S j k) d i q)->Blk (M.setCell (U l j) (.bool true)) l 4 (bg (npB P (fun j=>lkR P S j k) d (i+1)) m)):=bZ (fun j h=>by
    have:=D.o.set_ j (.bool true);rw[fw] at this;rw[<-bB (f:=fun q=>if q=j then true else npB P (fun j=>lkR P S j k) d i q) (fun q _=>(h q).symm)];exact this)
   have n:Z ((∀q,npB P (fun j=>lkR P S j k) d (i+1) q=npB P (fun j=>lkR P S j k) d i q)->Blk M l 4 (bg (npB P (fun j=>lkR P S j k) d (i+1)) m)):=bZ (fun h=>by
    rw[<-bB (f:=npB P (fun j=>lkR P S j k) d i) (fun q _=>(h q).symm)];exact D.o)
   have xn:M.cell? (U l i)=some (.bool (npB P (fun j=>lkR P S j k) d i i)):=by rw[D.o.cell,bw (by omega)]
   have bp:M.cell? (U l (i+1))=some (.bool (npB P (fun j=>lkR P S j k) d i (i+1))):=by rw[D.o.cell,bw (by omega)]
   generalize npB P (fun j=>lkR P S j k) d i i=V1 at xn;generalize npB P (fun j=>lkR P S j k) d i (i+1)=V2 at bp;have fn:=D.o.frozen i;have bu:=D.o.frozen (i+1);have ln:=D.o.lt;cases R0
   ·have r:=bZ (n.o (fun q=>ti (P:=P) (R:=fun j=>lkR P S j k) (d:=d) E.symm q));clear z n D hc E O hd;go_wp2_with fail;go_roundw
    case rel=>exact⟨i+1,by omega,by go_num,F,B,N,r,Y⟩
    case measure=>simp[intOf];omega
   by_cases C:c=37
   ·have ax:(((p[i]'L).toNat:Int)==37)=true:=by rw[<-hc,C];rfl
    have r:=bZ (z.o i (fun q=>vD (P:=P) (R:=fun j=>lkR P S j k) (d:=d) E.symm (by rw[a9.o,C]) q));have a:=bZ (O.o i);clear z n D hc E O C hd;go_wp2_with fail;go_roundw
    case rel=>exact⟨i+1,by omega,by go_num,bZ a.o.1,bZ a.o.2.1,bZ a.o.2.2.1,r,bZ a.o.2.2.2⟩
    case measure=>simp[intOf];omega
   have ax:(((p[i]'L).toNat:Int)==37)=false:=by rw[<-hc];exact(fp c 37).trans (decide_eq_false C)
   obtain⟨q5,a1⟩:∃b,b=(c==95):=⟨_,rfl⟩;obtain⟨qd,a6⟩:∃b,b=(c==d):=⟨_,rfl⟩;have bt:(((p[i]'L).toNat:Int)==95)=q5:=by rw[<-hc,a1];exact fp c 95
   have c6:(((p[i]'L).toNat:Int)==((s[k]'am).toNat:Int))=qd:=by rw[<-hc,<-hd,a6];exact fp c d
   have an:Z ((q5 || qd)=true->Blk (M.setCell (U l (i+1)) (.bool true)) l 4 (bg (npB P (fun j=>lkR P S j k) d (i+1)) m)):=bZ (fun h=>z.o (i+1) (fun q=>vz (P:=P) (R:=fun j=>lkR P S j k) (d:=d) E.symm a9.o C (by rw[<-a1,<-a6];exact h) q));have ao:Z ((q5 || qd)=false->Blk M l 4 (bg (npB P (fun j=>lkR P S j k) d (i+1)) m)):=bZ (fun h=>n.o (fun q=>vB (P:=P) (R:=fun j=>lkR P S j k) (d:=d) a9.o C (by rw[<-a1,<-a6];exact h) q));have a:=bZ (O.o (i+1));clear z n D hc E O C hd a1 a6;cases q5<;>cases qd
   case false.false=>
    have r:=bZ (ao.o rfl);clear an ao;go_wp2_with fail;go_roundw
    case rel=>exact⟨i+1,by omega,by go_num,F,B,N,r,Y⟩
    case measure=>simp[intOf];omega
   all_goals
    have r:=bZ (an.o rfl);clear an ao;go_wp2_with fail;go_roundw
    case rel=>exact⟨i+1,by omega,by go_num,bZ a.o.1,bZ a.o.2.1,bZ a.o.2.2.1,r,bZ a.o.2.2.2⟩
    case measure=>simp[intOf];omega
  obtain rfl:i=p.size:=by omega
  have vf:=B.o.frozen;have r:Z (Blk M l 4 (bg (fun j=>lkN P S j k d) m)):=bZ (by
   rw[<-bB (f:=npB P (fun j=>lkR P S j k) d p.size) (fun j hj=>by rw[<-J.o];exact vC (by rw[J.o];have:=u.o;omega))];exact D.o)
  have q1:=bZ (F.o.far (p:=(U A 0)) bn (.slice (V l) m m));have q2:=bZ (B.o.set_ 0 (.slice (V l) m m));have q3:=bZ (r.o.far (p:=(U A 0)) (D.o.ne_ B.o (by decide)) (.slice (V l) m m));have q4:=bZ (Y.o.setCell (p:=(U A 0)) (.inr av.o) (.slice (V l) m m));have n1:=q1.o.ne_ q3.o (by decide);have n2:=q2.o.ne_ q3.o (by decide);clear F B N D r Y;go_wp2_with (go_at_call 211;generalize M.setCell (U A 0) (.slice (V l) m m)=w6 at*;refine(HS.o _ l _ q1.o q2.o q3.o n1 n2).mono ?_;rintro e w7 ⟨rfl,r7,k7⟩);go_roundw
  case rel=>exact⟨k+1,l,by omega,by go_num,bZ (q1.o.keep k7.o (by simpa using n1)),bZ (q2.o.keep k7.o (by simpa using n2)),bZ (by
   rw[<-bB (f:=skB P (fun j=>lkN P S j k d)) (fun j hj=>wZ ba.o j (by rw[J.o];have:=u.o;omega))];exact r7.o),T,bZ ((q4.o.nil.trans k7.o).mono (fun x hx=>.inr (by rw[CZ.1 hx];exact T.o)))⟩
  case measure=>simp[intOf];omega
 obtain rfl:k=s.size:=by omega
 have c7:(p.size:Int)<(m:Int):=by have:=u.o;omega
 have xr:wo.cell? (U g p.size)=some (.bool R):=by rw[N.o.cell,bw (by omega),b1.o,<-J.o,vG]
 have lg:=N.o.lt;clear F B N;go_wp2_with fail;go_ret;exact⟨rfl,Y⟩
theorem yy (w:World) (o ix uk un xo xi xk xn yo yi yk yn C J D L:Int) (tb nm us tx nx xs ty ny ys s A:ByteArray) (R B B':Option Addr) (g a c nr cr mx cx my cy:Nat) (ho:10<=o/\o<=16) (hg:g<w.heap.size) (hc:2<=c/\c<=maxLen)
 (hs:o=16->C≠0->D≠0->s.size<=100000/\A.size<=100000)
 (Xx:Z (∀W,ad [] w W->XCl W g a xo xi xk xn tx nx xs B mx cx)) (Xy:Z (∀W,ad [] w W->XCl W g (a+8) yo yi yk yn ty ny ys B' my cy))
 (HX:Z (∀W,ad [] w W->Calls Tryz.prog 32 #[.agg #[I xo,.string tx,.string nx,I xi,I xk,I xn,.string xs,.slice B mx cx],.slice R nr cr] W (RoP W (.agg #[I C,I J,.string s]))))
 (HY:Z (∀W,ad [] w W->Calls Tryz.prog 32 #[.agg #[I yo,.string ty,.string ny,I yi,I yk,I yn,.string ys,.slice B' my cy],.slice R nr cr] W (RoP W (.agg #[I D,I L,.string A])))) (r:Int)
 (X:r=if C=0\/D=0 then 2 else if o=16 then ofB (lkB s A) else ofB (be o (gf ⟨C,J,s⟩ ⟨D,L,A⟩))):
 Calls Tryz.prog 9 #[.agg #[I o,.string tb,.string nm,I ix,I uk,I un,.string us,.slice (some (U g a)) 2 c],.slice R nr cr] w (RoP w (I r)):=by
  obtain⟨W0,O⟩:∃W,W=w.alloc (.cells #[I o,.string tb,.string nm,I ix,I uk,I un,.string us,.slice (some (U g a)) 2 c] 26):=⟨_,rfl⟩;obtain⟨gb,a1⟩:∃g,g=w.heap.size:=⟨_,rfl⟩;have k0:Z (ad [] w W0):=bZ (by rw[O];exact(ad.refl [] w).alloc _);have b0:Z (Blk W0 gb 26 #[I o,.string tb,.string nm,I ix,I uk,I un,.string us,.slice (some (U g a)) 2 c]):=bZ (by rw[O,a1];exact Blk.new w 26 _);unfold XCl at Xx Xy;have E:Z (∀W',ad [] W0 W'->(fun i:World=>i.cell? (U gb 7)=G (some (U g a)) 2 c/\(i.cell? (U g a)=some (I xo)/\i.cell? (U g (a+1))=some (.string tx)/\i.cell? (U g (a+2))=some (.string nx)/\i.cell? (U g (a+3))=some (I xi)/\i.cell? (U g (a+4))=some (I xk)/\i.cell? (U g (a+5))=some (I xn)/\i.cell? (U g (a+6))=some (.string xs)/\i.cell? (U g (a+7))=G B mx cx)/\(i.cell? (U g (a+8))=some (I yo)/\i.cell? (U g (a+8+1))=some (.string ty)/\i.cell? (U g (a+8+2))=some (.string ny)/\i.cell? (U g (a+8+3))=some (I yi)/\i.cell? (U g (a+8+4))=some (I yk)/\i.cell? (U g (a+8+5))=some (I yn)/\i.cell? (U g (a+8+6))=some (.string ys)/\i.cell? (U g (a+8+7))=G B' my cy)) W'):=bZ (fun W' h=>⟨(b0.o.keep h (by simp)).cell 7,Xx.o _ (k0.o.trans h),Xy.o _ (k0.o.trans h)⟩);replace hs:=bZ hs;replace X:=bZ X;have q1:(o==1)=false:=beq_false_of_ne (by omega);have q2:(o==17)=false:=beq_false_of_ne (by omega);have q3:(o==18)=false:=beq_false_of_ne (by omega);have q4:(o==19)=false:=beq_false_of_ne (by omega);have q5:(o==20)=false:=beq_false_of_ne (by omega);replace ho:=bZ ho;go_enter Tryz.func9,Tryz.ntmps9;go_wp2_with fail;rw[<-O,<-a1];clear O a1;obtain⟨wo,an⟩:∃x,x=W0:=⟨_,rfl⟩;subst an;go_cut [9,10] (fun v9 ap wx=>∃x z,v9=.pointer (V x)/\ap=.pointer (V z)/\Z (Blk wx x 23 #[I C,I J,.string s])/\Z (Blk wx z 23 #[I D,I L,.string A])/\Z (ad [] wo wx))
  case first=>
   refine ae (S:=(fun i:World=>i.cell? (U gb 7)=G (some (U g a)) 2 c/\(i.cell? (U g a)=some (I xo)/\i.cell? (U g (a+1))=some (.string tx)/\i.cell? (U g (a+2))=some (.string nx)/\i.cell? (U g (a+3))=some (I xi)/\i.cell? (U g (a+4))=some (I xk)/\i.cell? (U g (a+5))=some (I xn)/\i.cell? (U g (a+6))=some (.string xs)/\i.cell? (U g (a+7))=G B mx cx)/\(i.cell? (U g (a+8))=some (I yo)/\i.cell? (U g (a+8+1))=some (.string ty)/\i.cell? (U g (a+8+2))=some (.string ny)/\i.cell? (U g (a+8+3))=some (I yi)/\i.cell? (U g (a+8+4))=some (I yk)/\i.cell? (U g (a+8+5))=some (I yn)/\i.cell? (U g (a+8+6))=some (.string ys)/\i.cell? (U g (a+8+7))=G B' my cy))) (n:=15) (by kernel_rfl) ?_;have kc:=bZ ((ad.refl [] wo).drew);have l:=E.o wo.drew kc.o
   try dsimp only at l
   obtain⟨wc,k⟩:∃x,x=wo.drew:=⟨_,rfl⟩;rw[<-k] at kc l ⊢;clear k
   repeat' first
    |
     refine at_ 5 ?_;dsimp only[Y1,Y2,Y3];go_simp;refine(HX.o _ (k0.o.trans kc.o)).mono ?_;rintro e M ⟨rfl,kd⟩;have q:=bZ (kc.o.trans kd.o);clear kc;have kc:=q;clear q
     try (have q:=bZ (d.o.keep kd.o (by simp));clear d;have d:=q;clear q)
     try (have q:=bZ (f.o.keep kd.o (by simp));clear f;have f:=q;clear q)
     clear kd;obtain⟨wc,k⟩:∃x,x=M:=⟨_,rfl⟩;subst k;have l:=E.o wc kc.o
     try dsimp only at l
     refine j _ _ (.inr l) ?_;clear j K
     try simp only[PT,Y1,Y2,Y3]
    |
     refine at_ 11 ?_;dsimp only[Y1,Y2,Y3];go_simp;refine(HY.o _ (k0.o.trans kc.o)).mono ?_;rintro e M ⟨rfl,kd⟩;have q:=bZ (kc.o.trans kd.o);clear kc;have kc:=q;clear q
     try (have q:=bZ (d.o.keep kd.o (by simp));clear d;have d:=q;clear q)
     try (have q:=bZ (f.o.keep kd.o (by simp));clear f;have f:=q;clear q)
     clear kd;obtain⟨wc,k⟩:∃x,x=M:=⟨_,rfl⟩;subst k;have l:=E.o wc kc.o
     try dsimp only at l
     refine j _ _ (.inr l) ?_;clear j K
     try simp only[PT,Y1,Y2,Y3]
    |
     refine at_ 12 ?_;dsimp only[Y1,Y2,Y3];go_simp;have d:=bZ (Blk.new wc 23 #[I 0,I 0,.string ⟨#[]⟩]);have kd:=bZ ((ad.refl [] wc).alloc (.cells #[I 0,I 0,.string ⟨#[]⟩] 23));have a5:Z (wo.heap.size<=wc.heap.size):=bZ kc.o.size;have Y:Z (∀g t cs,Blk wc g t cs->g≠wc.heap.size):=bZ (fun g t cs h=>Nat.ne_of_lt h.lt)
     try (have H:=bZ (Y.o _ _ _ f.o))
     clear Y;generalize wc.alloc (.cells #[I 0,I 0,.string ⟨#[]⟩] 23)=M at*;generalize wc.heap.size=g12 at*;have q:=bZ (kc.o.trans kd.o);clear kc;have kc:=q;clear q
     try (have q:=bZ (f.o.keep kd.o (by simp));clear f;have f:=q;clear q)
     clear kd;obtain⟨wc,k⟩:∃x,x=M:=⟨_,rfl⟩;subst k;have l:=E.o wc kc.o
     try dsimp only at l
     refine j _ _ (.inr l) ?_;clear j K
     try simp only[PT,Y1,Y2,Y3]
    |
     refine at_ 13 ?_;dsimp only[Y1,Y2,Y3];go_simp;have f:=bZ (Blk.new wc 23 #[I 0,I 0,.string ⟨#[]⟩]);have kd:=bZ ((ad.refl [] wc).alloc (.cells #[I 0,I 0,.string ⟨#[]⟩] 23));have a6:Z (wo.heap.size<=wc.heap.size):=bZ kc.o.size;have a0:Z (∀g t cs,Blk wc g t cs->g≠wc.heap.size):=bZ (fun g t cs h=>Nat.ne_of_lt h.lt)
     try (have H:=bZ (a0.o _ _ _ d.o))
     clear a0;generalize wc.alloc (.cells #[I 0,I 0,.string ⟨#[]⟩] 23)=M at*;generalize wc.heap.size=g13 at*;have q:=bZ (kc.o.trans kd.o);clear kc;have kc:=q;clear q
     try (have q:=bZ (d.o.keep kd.o (by simp));clear d;have d:=q;clear q)
     clear kd;obtain⟨wc,k⟩:∃x,x=M:=⟨_,rfl⟩;subst k;have l:=E.o wc kc.o
     try dsimp only at l
     refine j _ _ (.inr l) ?_;clear j K
     try simp only[PT,Y1,Y2,Y3]
    |
     refine at_ 14 ?_;dsimp only[Y1,Y2,Y3];have z:=d.o.cell;have zf:=d.o.frozen;have zl:=d.o.lt;go_simp;have q:=bZ (((d.o.set_ 0 (I C)).set_ 1 (I J)).set_ 2 (.string s));have P:g13≠g12:=by first | exact H.o | exact Ne.symm H.o
     have q2:=bZ (((f.o.far (p:=(U g12 0)) P (I C)).far (p:=(U g12 1)) P (I J)).far (p:=(U g12 2)) P (.string s));have q3:=bZ (((kc.o.setCell (p:=(U g12 0)) (.inr a5.o) (I C)).setCell (p:=(U g12 1)) (.inr a5.o) (I J)).setCell (p:=(U g12 2)) (.inr a5.o) (.string s));clear z zf zl P d f kc;have d:=q;have f:=q2;have kc:=q3;clear q q2 q3;generalize ((wc.setCell (U g12 0) (I C)).setCell (U g12 1) (I J)).setCell (U g12 2) (.string s)=M at*;obtain⟨wc,k⟩:∃x,x=M:=⟨_,rfl⟩;subst k;have l:=E.o wc kc.o
     try dsimp only at l
     refine j _ _ (.inr l) ?_;clear j K
     try simp only[PT,Y1,Y2,Y3]
    |
     refine at_ 15 ?_;dsimp only[Y1,Y2,Y3];have z:=f.o.cell;have zf:=f.o.frozen;have zl:=f.o.lt;go_simp;have q:=bZ (((f.o.set_ 0 (I D)).set_ 1 (I L)).set_ 2 (.string A));have P:g12≠g13:=by first | exact H.o | exact Ne.symm H.o
     have q2:=bZ (((d.o.far (p:=(U g13 0)) P (I D)).far (p:=(U g13 1)) P (I L)).far (p:=(U g13 2)) P (.string A));have q3:=bZ (((kc.o.setCell (p:=(U g13 0)) (.inr a6.o) (I D)).setCell (p:=(U g13 1)) (.inr a6.o) (I L)).setCell (p:=(U g13 2)) (.inr a6.o) (.string A));clear z zf zl P f d kc;have f:=q;have d:=q2;have kc:=q3;clear q q2 q3;generalize ((wc.setCell (U g13 0) (I D)).setCell (U g13 1) (I L)).setCell (U g13 2) (.string A)=M at*;obtain⟨wc,k⟩:∃x,x=M:=⟨_,rfl⟩;subst k;refine j _ _ (.inl (by omega)) ?_;clear j K
     try simp only[PT,Y1,Y2,Y3]
    |
     refine r8 [0,4,6,10,12,13] [0,1,2,3,4,6,7,8,9,10] ?_
     iterate 10 (refine tq l ?_;try simp only[PT,Y1,Y2,Y3])
     refine aB ?_
    |
     refine J3 5 12 13 (fun K j=>?_) (fun K j=>?_) (fun K j=>?_)
    |
     refine J3 11 12 13 (fun K j=>?_) (fun K j=>?_) (fun K j=>?_)
    |
     refine J2 12 13 (fun K j=>?_) (fun K j=>?_)
    |
     refine J1' 13 (fun K j=>?_)
    |
     refine J1' 14 (fun K j=>?_)
    |
     refine J1' 15 (fun K j=>?_)
    |
     refine J1' 12 (fun K j=>?_)
    |
     refine J2 11 13 (fun K j=>?_) (fun K j=>?_)
    |
     refine J1' 11 (fun K j=>?_)
    |
     refine J2 11 12 (fun K j=>?_) (fun K j=>?_)
    |
     refine J2 5 13 (fun K j=>?_) (fun K j=>?_)
    |
     refine J1' 5 (fun K j=>?_)
    |
     refine J2 5 12 (fun K j=>?_) (fun K j=>?_)
    |
     refine JD ?_;go_wp2_with fail;go_meet;exact⟨_,_,rfl,rfl,d,f,kc⟩
  obtain⟨x,z,rfl,rfl,bx,bz,kx⟩:=hcut;obtain⟨W1,am⟩:∃x,x=wc:=⟨_,rfl⟩;subst am;have kw:=bZ (k0.o.trans kx.o);have b1:=bZ (b0.o.keep kx.o (by simp));have y:=b1.o.cell;have yl:=b1.o.lt;have v:=bx.o.cell;have vl:=bx.o.lt;have u:=bz.o.cell;have ul:=bz.o.lt;clear E HX HY Xx Xy;by_cases T:C=0
  ·have ac:(C==0)=true:=by simp[T]
   have m:=bZ (X.o.trans (if_pos (.inl T)));clear X T;go_wp2_with fail;go_ret;exact⟨by rw[m.o];rfl,kw⟩
  have ac:(C==0)=false:=beq_false_of_ne T;by_cases h1:D=0
  ·have ak:(D==0)=true:=by simp[h1]
   have m:=bZ (X.o.trans (if_pos (.inr h1)));clear X T h1;go_wp2_with fail;go_ret;exact⟨by rw[m.o];rfl,kw⟩
  have ak:(D==0)=false:=beq_false_of_ne h1;have m:=bZ (X.o.trans (if_neg (fun h=>h.elim T h1)));have Q:=bZ (fun h=>hs.o h T h1);clear X T h1 hs;have a9:Z (∀W b,Calls Tryz.prog 31 #[.bool b] W (RoP W (I (ofB b)))):=bZ (fun W b=>za W b);have aa:Z (∀W,Calls Tryz.prog 33 #[.agg #[I C,I J,.string s],.agg #[I D,I L,.string A]] W (RoP W (I (gf ⟨C,J,s⟩ ⟨D,L,A⟩)))):=bZ (fun W=>vj W ⟨C,J,s⟩ ⟨D,L,A⟩);generalize gf ⟨C,J,s⟩ ⟨D,L,A⟩=N at*;by_cases F:o=16
  ·have a2:=bZ (m.o.trans (if_pos F));have ab:Z (∀W,Calls Tryz.prog 34 #[.string s,.string A] W (RoP W (.bool (lkB s A)))):=bZ (fun W=>xR W s A (Q.o F).1 (Q.o F).2);subst F;clear Q m ho;generalize lkB s A=bb at*;go_wp2_with (first | (go_at_call 33;refine(aa.o _).mono ?_;rintro e w5 ⟨rfl,k5⟩;have a3:=bZ (kw.o.trans k5.o);have b5:=bZ (b1.o.keep k5.o (by simp));have x5:=bZ (bx.o.keep k5.o (by simp));have z5:=bZ (bz.o.keep k5.o (by simp));clear y yl v vl u ul;have y:=b5.o.cell;have yl:=b5.o.lt;have v:=x5.o.cell;have vl:=x5.o.lt;have u:=z5.o.cell;have ul:=z5.o.lt) | (go_at_call 34;refine(ab.o _).mono ?_;rintro e w6 ⟨rfl,k6⟩;have ao:=bZ (a3.o.trans k6.o)) | (go_at_call 31;refine(a9.o _ _).mono ?_;rintro e w7 ⟨rfl,k7⟩;have a4:=bZ (ao.o.trans k7.o)));go_ret;exact⟨by rw[a2.o];rfl,a4⟩
  have a2:=bZ (m.o.trans (if_neg F));rcases(by have:=ho.o;omega:o=10\/o=11\/o=12\/o=13\/o=14\/o=15) with rfl | rfl | rfl | rfl | rfl | rfl
  all_goals
   clear Q m ho F;go_wp2_with (first | (go_at_call 33;refine(aa.o _).mono ?_;rintro e w5 ⟨rfl,k5⟩;have a3:=bZ (kw.o.trans k5.o);have b5:=bZ (b1.o.keep k5.o (by simp));clear y yl v vl u ul;have y:=b5.o.cell;have yl:=b5.o.lt) | (go_at_call 31;refine(a9.o _ _).mono ?_;rintro e w7 ⟨rfl,k7⟩;have a4:=bZ (a3.o.trans k7.o)));go_ret;exact⟨by rw[a2.o];first | rfl | (simp[be,bne];rfl) | simp[be,bne],a4⟩
end Go.Proofs.YtldmkbhgdbafhaaGreat
