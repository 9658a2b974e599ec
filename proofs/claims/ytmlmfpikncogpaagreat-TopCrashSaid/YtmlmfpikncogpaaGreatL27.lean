import Derived.Test.YtmlmfpikncogpaaGreatL24
namespace Go.Proofs.YtmlmfpikncogpaaGreat
open Go.RowKit
set_option linter.unusedSimpArgs false
set_option linter.unusedVariables false
set_option maxRecDepth 100000
set_option maxHeartbeats 16000000
theorem gU {P:Program} {w:World} {b:Array Oper} {rest:List Oper} {o:Oper} {a:Act} {Q:Exit->Act->World->Prop} (l:Region.wanted o (yielded b a.tmps)=true) (s x:Operand) (t v:TypeId)
 (D:o.op=.call { callee:=.builtin .append,args:=#[s,x],argTypes:=#[t,v] }) (e:TypeId) (c:TypeInfo) (z:Value) (size bytes:Nat) (F:P.underlying t=some (.slice e)) (q:P.underlying v=some (.int .i64)) (C:P.info? e=some c) (J:c.zero=some z) (p:c.size=size) (f:c.bytes=bytes) (u:z.cells.size=size) (j:0<size)
 (E:a.eval s=.slice none 0 0) (k:Nat) (H:a.eval x=I k) (A:0<k) (d:bytes<=1000) (n:k<=1000000)
 (h:∀c' w',k<=c'->c'<=maxLen->Z (w'.ownsRow w.heap.size e size (.slice (V w.heap.size) 0 c') 0 [])->Z (aa [] w w')->wpList P b Q rest (a.put o.dst (.slice (V w.heap.size) k c')) w'):
 wpList P b Q (o::rest) a w:=by
  refine aO l fun K B=>?_;have i:Builtin.nextslicecap (0+k) 0*c.bytes<=281474976710656:=by
   have L:=growslice_fits (bytes:=bytes) (need:=0+k) (old:=0) (by omega) (Dc (Nat.mul_le_mul (by omega:0+k<=1000000) d) (by decide));rw[f];omega
  have y:=Lib.run_append_grow_zeros (P:=P) w t v o.type e c z .i64 .i64 F q C J none 0 0 [] (by simp[Builtin.firstCells,loadCells,loadCellsFrom]) k A (by rw[p];exact j) (by omega) (by omega) (by rw[f];exact Dc (Nat.mul_le_mul n d) (by decide)) i;rw[Dl] at y;have m:=grownCap_ge w k 0 e;have g:=grownCap_le_maxLen w k 0 e (by unfold maxLen;omega);have r:z.cells.size=size:=u;unfold Oper.wp execOp;simp only[D,resolve,invoke,builtin,DM,DZ,DH,Eb,D1,Er,E,H,y];refine B _ _ (h _ _ m g (bZ ⟨by simp,.inr ⟨w.heap.size,_,_,rfl,C9 _,heap_alloc_new w.drew _,C3 _,g,?_,by simp⟩⟩) (bZ ((aa.refl [] w).drew.alloc _)));simp only[Array.size_append,Ew,size_zeroCells,D6,r];rw[Dl,<-Nat.add_mul]
  congr 1
  omega
def zz (w:World) (e:Ending) (w':World):Prop:=∃A c,e=.returned (.slice A 0 c)/\Z (w'.ownsRow w.heap.size 60 3 (.slice A 0 c) 0 [])/\Z (aa [] w w')
theorem yC (w:World) (k:Nat) (q:k<=100000):Calls Tryz.prog 106 #[.slice none 0 0,I k] w (zz w):=by
 obtain⟨n,d,a,b,c⟩:=info_parts jP;replace d:=bZ d;replace a:=bZ a;replace b:=bZ b;replace c:=bZ c;have p:IntKind.i64.wrap (k:Int)=(k:Int):=C0 _ (by omega);have f:¬(k:Int)<0:=by omega
 by_cases g:0<k
 ·have h:(0:Int)<(k:Int):=by omega
  go_enter Tryz.func106,Tryz.ntmps106;go_wp2_with (at_builtin;refine gU rfl (.tmp 20) (.tmp 21) 62 3 rfl 60 n (.agg #[I 0,I 0,.string ⟨#[]⟩]) 3 32 Tryz.underlying62 Tryz.underlying3 d.o a.o b.o c.o rfl (by decide) rfl k (by first | rfl | (rw[p];rfl)) g (by omega) (by omega) ?_;intro c1 w1 j l m e);have i:c1≠0:=by omega
  go_ret;exact⟨_,c1,rfl,m,e⟩
 obtain rfl:k=0:=by omega
 go_enter Tryz.func106,Tryz.ntmps106;go_wp2_with fail;go_ret;exact⟨none,0,rfl,bZ ⟨by simp,.inl ⟨rfl,rfl⟩⟩,bZ (aa.refl _ _)⟩
def uY (l:List Val) (w:World) (e:Ending) (w':World):Prop:=∃A n c,e=.returned (.slice A n c)/\l.length=n/\Z (ah w' [] A l)/\Z (aa [] w w')
theorem tt (w:World) (g:Nat) (A B:Option Addr) (l k:List Val) (n c m d:Nat) (s:l.length=n) (v:k.length=m) (H:ah w [] A l) (J:ah w [] B k) (hn:n<=10000) (hm:m<=10000)
 (Y:w.cell? (U g 0)=G A n c) (h1:w.cell? (U g 1)=G B m d):
 Calls Tryz.prog 74 #[.slice (V g) 2 2] w (uY (l++k) w):=by
  obtain⟨Q,E,j,p,r⟩:=info_parts jP;have hG:=bZ (yC w (n+m) (by omega));replace E:=bZ E;replace j:=bZ j;replace p:=bZ p;replace r:=bZ r;replace H:=bZ H;replace J:=bZ J;replace s:=bZ s;replace v:=bZ v;have W:IntKind.i64.wrap (n:Int)=(n:Int):=C0 _ (by omega);have X:IntKind.i64.wrap ((n:Int)+(m:Int))=((n+m:Nat):Int):=by rw[C0 _ (by omega)];rfl
  have R:¬(n:Int)<0:=by omega
  have S:¬((n+m:Nat):Int)<0:=by omega
  have T:¬(n:Int)+(m:Int)<0:=by omega
  go_enter Tryz.func74,Tryz.ntmps74;go_wp2_with fail;go_loopw [3,11] (fun D a wr=>((a=I 0/\D=I 0)\/(a=I 1/\D=I (n:Int))\/(a=I 2/\D=I ((n+m:Nat):Int)))/\w=wr) (fun _ a _=>2 - (intOf a).toNat)
  case atStart=>exact⟨.inl ⟨rfl,rfl⟩,rfl⟩
  obtain⟨⟨rfl,rfl⟩ | ⟨rfl,rfl⟩ | ⟨rfl,rfl⟩,rfl⟩:=hrel
  ·go_wp2_with fail;go_roundw
   case rel=>exact⟨.inr (.inl ⟨rfl,rfl⟩),by trivial⟩
   case measure=>simp[intOf]
  ·go_wp2_with fail;go_roundw
   case rel=>exact⟨.inr (.inr ⟨rfl,by first | rfl | (congr 1;done)⟩),by trivial⟩
   case measure=>simp[intOf]
  go_wp2_with (refine hG.o.mono ?_;rintro e w1 ⟨A1,c1,rfl,t,K⟩);go_loopw [6,27] (fun D a wr=>∃q:Nat,((a=I 0/\0=q)\/(a=I 1/\n=q)\/(a=I 2/\n+m=q))/\Z (wr.ownsRow w.heap.size 60 3 D q (bz ((l++k).take q)))/\Z (aa [] w wr)) (fun _ a _=>2 - (intOf a).toNat)
  case atStart=>exact⟨0,.inl ⟨rfl,rfl⟩,t,K⟩
  obtain⟨q,hq,t,b⟩:=hrel;have y0:=b.o.cellEq Y (by simp);have y1:=b.o.cellEq h1 (by simp);have y:=b.o.size;obtain⟨rfl,rfl⟩ | ⟨rfl,rfl⟩ | ⟨rfl,rfl⟩:=hq
  ·have i:=mp (H.o.keep b.o (by simp));have f:(bz l).length=n*3:=by rw[eY,s.o]
   rw[s.o] at i;replace i:=bZ i;replace f:=bZ f;go_wp2_with (at_builtin;refine ae (by rfl) (.tmp 31) (.tmp 32) 62 rfl w.heap.size 60 Q (.agg #[I 0,I 0,.string ⟨#[]⟩]) 3 32 Tryz.underlying62 E.o j.o p.o r.o rfl (by decide) u6 0 (bz ((l++k).take 0)) (by rfl) t.o A n c (bz l) rfl f.o i.o (gI l) (by unfold maxLen;omega) (by omega) y ?_;intro N w2 z C L M);have F:=bZ (aF b.o (aa.refl [] _) t.o C.o);have u:Z (w2.ownsRow w.heap.size 60 3 N n (bz ((l++k).take n))):=bZ (by
    rw[DS s.o];have:=z.o;simpa [bz] using this)
   clear z C L M;go_wp2_with fail;go_roundw
   case rel=>exact⟨n,.inr (.inl ⟨rfl,rfl⟩),u,F⟩
   case measure=>simp[intOf]
  ·have i:=mp (J.o.keep b.o (by simp));have f:(bz k).length=m*3:=by rw[eY,v.o]
   rw[v.o] at i;replace i:=bZ i;replace f:=bZ f;go_wp2_with (at_builtin;refine ae (by rfl) (.tmp 31) (.tmp 32) 62 rfl w.heap.size 60 Q (.agg #[I 0,I 0,.string ⟨#[]⟩]) 3 32 Tryz.underlying62 E.o j.o p.o r.o rfl (by decide) u6 n (bz ((l++k).take n)) (by rfl) t.o B m d (bz k) rfl f.o i.o (gI k) (by unfold maxLen;omega) (by omega) y ?_;intro N w2 z C L M);have F:=bZ (aF b.o (aa.refl [] _) t.o C.o);have u:Z (w2.ownsRow w.heap.size 60 3 N (n+m) (bz ((l++k).take (n+m)))):=bZ (by
    have:=z.o;rw[DS s.o,<-ij] at this;rwa [C6 (by rw[CU,s.o,v.o];exact C9 _)])
   clear z C L M;go_wp2_with fail;go_roundw
   case rel=>exact⟨n+m,.inr (.inr ⟨rfl,rfl⟩),u,F⟩
   case measure=>simp[intOf]
  have h:(l++k).length=n+m:=by rw[CU,s.o,v.o]
  have u:=t.o;rw[C6 (by rw[h];exact C9 _)] at u;obtain⟨O,P,rfl,_⟩:=aH u;have x:Z (uY (l++k) w (.returned (.slice O (n+m) P)) wr):=bZ ⟨O,n+m,P,rfl,h,bZ (ia u h),b⟩;clear u t h;go_wp2_with fail;go_ret;exact x.o
structure Chg where
 t:Int
 id:Int
 old:List Val
 new:List Val
def Chg.ok (c:Chg):Prop:=(-9223372036854775808<=c.t/\c.t<9223372036854775808)/\(-9223372036854775808<=c.id/\c.id<9223372036854775808)/\c.old.length<=1000/\c.new.length<=1000/\(∀v∈c.old,v.ok)/\(∀v∈c.new,v.ok)
def qB (w:World) (A:Option Addr) (l:List Chg):Prop:=
 ∀i c,l[i]? =some c->∃g off Ao co An cn,A=some (U g off)/\w.cell? (U g (off+i*4))=some (I c.t)/\w.cell? (U g (off+i*4+1))=some (I c.id)/\
  w.cell? (U g (off+i*4+2))=G Ao c.old.length co/\w.cell? (U g (off+i*4+3))=G An c.new.length cn/\ah w [] Ao c.old/\ah w [] An c.new
theorem qB.keep {w w':World} {A:Option Addr} {l:List Chg} (h:qB w A l) (a:aa [] w w'):qB w' A l:=fun i c q=>by
 obtain⟨g,off,d,co,b,e,f,j,k,m,n,o,p⟩:=h i c q;exact⟨g,off,d,co,b,e,f,a.cellEq j (by simp),a.cellEq k (by simp),a.cellEq m (by simp),a.cellEq n (by simp),o.keep a (by simp),p.keep a (by simp)⟩
def jF (c:Chg):List UInt8:=Cod.num c.t++(Cod.num c.id++(dX c.old++dX c.new))
def cI (l:List Chg):List UInt8:=l.flatMap jF
def cM (l:List Chg):List UInt8:=Cod.num (l.length:Nat)++cI l
theorem gL {r:List Val} (h:∀v∈r,v.ok):(dX r).length<=18*r.length+8:=by
 unfold dX;rw[CU,Cod.ag];have:=(fF r h).2;omega
theorem wF {c:Chg} (h:c.ok):(jF c).length<=40000:=by
 obtain⟨_,_,f,g,a,b⟩:=h;unfold jF;have d:=gL a;have e:=gL b;simp only[CU,Cod.ag];omega
theorem fa:∀(l:List Chg),(∀c∈l,c.ok)->(cI l).length<=40000*l.length
 | [],_=>by simp[cI]
 | c::l,h=>by
  have b:=wF (h c (by simp));have d:=fa l (fun x a=>h x (DL _ a));have:cI (c::l)=jF c++cI l:=by simp[cI]
  rw[this,CU,Dj];omega
theorem nT {l:List Chg} {j:Nat} {c:Chg} (h:l[j]? =some c):cI (l.take (j+1))=cI (l.take j)++jF c:=by
 rw[Dq,h];simp[cI]
def im (w:World) (l:List UInt8) (e:Ending) (w':World):Prop:=∃A n c,e=.returned (.slice A n c)/\l.length=n/\Z (Bts w' A l)/\Z (aa [] w w')/\Z (n<=c/\c<=9223372036854775807)
theorem WrS.keeps {b w:World} {p n c:Nat} {A:Option Addr} {L:List UInt8} (h:WrS b p none w A n c L) {a:World} (d:aa [] a b) (f:a.heap.size<=p):aa [] a w:=
 (d.nil.trans h.kp).mono (fun x e=>by
  have:x=p:=by simpa [fb] using e
  exact .inr (by omega))
theorem ta (w:World) (A:Option Addr) (l:List Chg) (m d:Nat) (hl:l.length=m) (hO:qB w A l) (hm:m<=40) (hv:∀c∈l,c.ok):
 Calls Tryz.prog 39 #[.slice A m d] w (im w (cM l)):=by
  replace hO:=bZ hO;replace hv:=bZ hv;replace hl:=bZ hl;obtain⟨p,hp⟩:∃p,p=w.heap.size:=⟨_,rfl⟩;obtain⟨w1,T⟩:∃x,x=w.alloc (.cells #[.slice none 0 0] 162):=⟨_,rfl⟩;have B1:Blk w1 p 162 #[.slice none 0 0]:=by rw[T,hp];exact Blk.new _ _ _
  have k1:aa [] w w1:=by rw[T];exact(aa.refl [] w).alloc _
  have W1:=bZ (WrS.start (L:=[]) B1 (bQ w1 0 5 1));have Q:Z (w.heap.size<=p):=bZ (by omega);have H1:=bZ (fj w1 p none 0 0 [] (m:Int) (by omega) B1 (bQ w1 0 5 1) (by omega));unfold ptr at H1;replace k1:=bZ k1;clear B1;go_enter Tryz.func39,Tryz.ntmps39;go_wp2_with (rw[<-T,<-hp];refine H1.o.mono ?_;rintro e w2 ⟨A2,n2,c2,rfl,b3⟩);have an:Z (WrS w1 p none w2 A2 n2 c2 (Cod.num (m:Int)++cI (l.take 0))):=bZ (by
   have y:=W1.o.then_ b3.o;have h2:cI (l.take 0)=[]:=rfl;rw[h2,DA];rw[Dm] at y;exact y)
  clear b3 H1 W1;clear T;subst hp;go_loopw [14] (fun a8 wr=>∃(j Y:Nat) (A3:Option Addr) (c3:Nat),j<=m/\a8=I (j:Int)/\Z (WrS w1 w.heap.size none wr A3 Y c3 (Cod.num (m:Int)++cI (l.take j)))) (fun a8 _=>m - (intOf a8).toNat)
  case atStart=>exact⟨0,n2,A2,c2,C3 _,rfl,an⟩
  obtain⟨j,Y,A3,c3,hj,rfl,f⟩:=hrel;clear an;by_cases b7:j<m
  ·have bh:(j:Int)<(m:Int):=by omega
   obtain⟨c,N⟩:∃c,l[j]? =some c:=⟨_,CT (by rw[hl.o];exact b7)⟩;have z:=bZ (f.o.keeps k1.o Q.o);obtain⟨g,off,q,co,k,r,rfl,x0,x1,x2,x3,S,R⟩:=hO.o j c N;obtain⟨M,i,a,b⟩:=c;dsimp only at x0 x1 x2 x3 S R;replace x0:=z.o.cellEq x0 (by simp);replace x1:=z.o.cellEq x1 (by simp);replace x2:=z.o.cellEq x2 (by simp);replace x3:=z.o.cellEq x3 (by simp);have b9:=hv.o _ (CW N);obtain⟨O,P,b1,b2,D,H⟩:=b9;dsimp only at O P b1 b2 D H;have a5:=bZ (nT N);have bk:IntKind.i64.wrap ((j:Int)+1)=(j:Int)+1:=C0 _ (by omega);have B:Y<=1700000:=by
    have y:=f.o.len;have h2:=fa (l.take j) (fun x hx=>hv.o x (DD hx));rw[CU,Cod.ag] at y;rw[CY,hl.o] at h2;omega
   obtain⟨t,u⟩:∃x,x=a.length:=⟨_,rfl⟩;obtain⟨s,C⟩:∃x,x=b.length:=⟨_,rfl⟩;rw[<-u] at x2 b1;rw[<-C] at x3 b2;replace u:=bZ u;replace C:=bZ C;replace D:=bZ D;replace H:=bZ H;replace O:=bZ O;replace P:=bZ P;have ka:aa [] wr (wr.alloc (.cells #[I M,I i,.slice q t co,.slice k s r] 64)):=(aa.refl [] wr).alloc _;have J:aa [] wr ((wr.alloc (.cells #[I M,I i,.slice q t co,.slice k s r] 64)).alloc (.cells #[.slice q t co,.slice k s r] 62)):=ka.alloc _;have a4:(wr.alloc (.cells #[I M,I i,.slice q t co,.slice k s r] 64)).heap.size=wr.heap.size+1:=by simp
   have B5:Blk ((wr.alloc (.cells #[I M,I i,.slice q t co,.slice k s r] 64)).alloc (.cells #[.slice q t co,.slice k s r] 62)) wr.heap.size 64 #[I M,I i,.slice q t co,.slice k s r]:=(Blk.new wr 64 _).alloc _;have B6:Blk ((wr.alloc (.cells #[I M,I i,.slice q t co,.slice k s r] 64)).alloc (.cells #[.slice q t co,.slice k s r] 62)) (wr.heap.size+1) 62 #[.slice q t co,.slice k s r]:=by rw[<-a4];exact Blk.new _ _ _
   have a2:Z (∀(W:World) (A4:Option Addr),wr.heap.size<W.heap.size->(∀g∈fb A4,g∈fb A3\/W.heap.size<=g)->wr.heap.size∉w.heap.size::fb A4):=bZ (fun W A4 y h2 hy=>by
    rcases Db.1 hy with hy | hy
    ·have:=f.o.blk.lt;omega
    rcases h2 _ hy with h | h
    ·have:=(aw f.o.own h).2.1;omega
    omega)
   have bi:Z (wr.heap.size<((wr.alloc (.cells #[I M,I i,.slice q t co,.slice k s r] 64)).alloc (.cells #[.slice q t co,.slice k s r] 62)).heap.size):=bZ (B5.lt);have H2:=bZ (tt ((wr.alloc (.cells #[I M,I i,.slice q t co,.slice k s r] 64)).alloc (.cells #[.slice q t co,.slice k s r] 62)) (wr.heap.size+1) q k a b t co s r u.o.symm C.o.symm (S.keep (z.o.trans J) (by simp)) (R.keep (z.o.trans J) (by simp)) (by omega) (by omega) (B6.cell 0) (B6.cell 1));have ak:Z (∀v∈a++b,v.ok):=bZ (fun v hv=>(CX.1 hv).elim (D.o v) (H.o v));have bb:Z (dF (a++b)=true):=bZ (cE.2 ak.o);have b5:Z ((a++b).length<=10000):=bZ (by rw[CU,<-u.o,<-C.o];omega);have ac:Z (∀W A n c L,WrS w1 w.heap.size none W A n c L->ah W [] q a/\ah W [] k b):=bZ (fun W A n c L h=>⟨S.keep (h.keeps k1.o Q.o) (by simp),R.keep (h.keeps k1.o Q.o) (by simp)⟩);have b6:Z ((dX a).length<=18008):=bZ (by have:=gL D.o;rw[<-u.o] at this;omega);replace J:=bZ J;replace B5:=bZ B5;replace a4:=bZ a4;replace B:=bZ B;clear B6 ka S R N;go_wp2_with (first
    | (go_at_call 74;refine H2.o.mono ?_;rintro e w4 ⟨A4,n4,c4,rfl,ap,ba,k4⟩;have H3:=bZ (tm w4 A4 (a++b) n4 c4 ap ba.o (by rw[<-ap];exact b5.o) (fun v hv=>dI (ak.o v hv)));rw[bb.o] at H3)
    | (go_at_call 73;refine H3.o.mono ?_;rintro e w5 ⟨rfl,k5⟩;have bd:=bZ ((J.o.trans k4.o).trans k5.o);have K:=bZ ((B5.o.keep k4.o (by simp)).keep k5.o (by simp));have y1:=K.o.cell 0;have W5:=bZ (f.o.keep bd.o);have a3:Z (wr.heap.size<w5.heap.size):=bZ K.o.lt;have H5:=bZ (fj w5 w.heap.size A3 Y c3 _ M O.o W5.o.blk W5.o.own (by have:=B.o;omega));unfold ptr at H5)
    | (go_at_call 72;refine H5.o.mono ?_;rintro e w6 ⟨A6,n6,c6,rfl,E⟩;have W6:=bZ (W5.o.then_ E.o);have a0:=bZ (K.o.keep E.o.kp (a2.o w5 A3 a3.o (fun g hg=>.inl hg)));have y2:=a0.o.cell 1;have ar:Z (n6=Y+8):=bZ (by have y:=W6.o.len;have h2:=W5.o.len;rw[CU,Cod.ag] at y;omega);have H6:=bZ (fj w6 w.heap.size A6 n6 c6 _ i P.o W6.o.blk W6.o.own (by have:=B.o;have:=ar.o;omega));unfold ptr at H6;clear H5)
    | (go_at_call 72;refine H6.o.mono ?_;rintro e w7 ⟨A7,n7,c7,rfl,X⟩;have W7:=bZ (W6.o.then_ X.o);have a1:=bZ (a0.o.keep X.o.kp (a2.o w5 A6 a3.o (fun g hg=>E.o.nw g hg)));have y3:=a1.o.cell 2;have b0:Z (n7=Y+16):=bZ (by have y:=W7.o.len;have h2:=W6.o.len;have h3:=ar.o;rw[CU,Cod.ag] at y;omega);have H7:=bZ (mI w7 w.heap.size A7 n7 c7 _ q a t co W7.o.blk W7.o.own (by have:=B.o;have:=b0.o;omega) u.o.symm (ac.o _ _ _ _ _ W7.o).1 (by omega) D.o);unfold ptr at H7;clear H6)
    | (go_at_call 77;refine H7.o.mono ?_;rintro e w8 ⟨A8,n8,c8,rfl,a7⟩;have W8:=bZ (W7.o.then_ a7.o);have a9:=bZ (a1.o.keep a7.o.kp (a2.o w5 A7 a3.o (fun g hg=>(X.o.nw g hg).elim (fun h=>E.o.nw g h) (fun h=>.inr (Dc E.o.kp.size h)))));have y4:=a9.o.cell 3;have b8:Z (n8<=Y+18024):=bZ (by have y:=W8.o.len;have h2:=W7.o.len;have h3:=b0.o;have h4:=b6.o;rw[CU] at y;omega);have H8:=bZ (mI w8 w.heap.size A8 n8 c8 _ k b s r W8.o.blk W8.o.own (by have:=B.o;have:=b8.o;omega) C.o.symm (ac.o _ _ _ _ _ W8.o).2 (by omega) H.o);unfold ptr at H8;clear H7)
    | (go_at_call 77;refine H8.o.mono ?_;rintro e w9 ⟨A9,n9,c9,rfl,b4⟩))
   have F:Z (WrS w1 w.heap.size none w9 A9 n9 c9 (Cod.num (m:Int)++cI (l.take (j+1)))):=bZ (by
    have y:=W8.o.then_ b4.o;rw[a5.o];unfold jF;simpa only[Dd] using y)
   clear b4 W8 W7 W6 W5 f a7 X E B5 K a0 a1 a9 H2 H3 H8;go_roundw
   case rel=>exact⟨j+1,n9,A9,c9,by omega,by go_num,F⟩
   case measure=>simp[intOf];omega
  obtain rfl:j=m:=by omega
  have a6:l.take j=l:=C6 (by rw[hl.o];exact C9 _);have x0:=f.o.blk.cell 0;have F:Z (im w (cM l) (.returned (.slice A3 Y c3)) wr):=bZ ⟨A3,Y,c3,rfl,by
   rw[<-f.o.len,a6];unfold cM;rw[hl.o],bZ (by
   have:=(bK f.o.own).1;rw[a6] at this;unfold cM;rw[hl.o];exact this),bZ (f.o.keeps k1.o Q.o),bZ (by have:=bK f.o.own;exact⟨this.2.2.1,by have:=this.2.2.2.1;unfold maxLen at this;omega⟩)⟩
  clear f a6;unfold ptr at*;go_wp2_with fail;go_ret;exact F.o
structure RdS (w:World) (p g o n c:Nat) (L:List UInt8):Prop where
 blk:Blk w p 144 #[.slice (some (U g o)) n c,.bool false]
 bts:Bts w (some (U g o)) L
 len:L.length=n
 cap:n<=c
 ne:g≠p
 lt:g<w.heap.size
theorem Bts.cut {w:World} {g o c k:Nat} {l:List UInt8} (h:Bts w (some (U g o)) l) (f:l.length<=c):Bts w (if c=k then some (U g o) else some (U g (o+k))) (l.drop k):=by
 by_cases b:c=k
 ·exact .inl (D0 (by omega))
 rw[if_neg b];rcases h with rfl | ⟨d,i,e,h⟩
 ·exact .inl (by simp)
 injection e with e;injection e with e1 e2;subst e1 e2;refine .inr ⟨g,o+k,rfl,fun j v a=>?_⟩;rw[DK] at a;have:=h _ v a;rwa [Ej]
theorem RdS.keep {w w':World} {p g o n c:Nat} {L:List UInt8} (h:RdS w p g o n c L) {X:List Nat} (d:aa X w w') (f:p∉X) (e:g∉X):RdS w' p g o n c L:=
 ⟨h.blk.keep d f,h.bts.keep d (fun a b=>by injection b with b;subst b;exact e),h.len,h.cap,h.ne,Dr h.lt d.size⟩
theorem ah.part_ {w w':World} {X Y:List Nat} {A:Option Addr} {l:List Val} (h:ah w X A l) (b:aa Y w w') (j:∀a,A=some a->a.block∉Y):ah w' X A l:=by
 intro i v m;obtain⟨g,off,rfl,k,d,e,f⟩:=h i v m;have c:g∉Y:=j _ rfl;exact⟨g,off,rfl,k,b.cellEq d c,b.cellEq e c,b.cellEq f c⟩
def si (w:World) (p g o n c k:Nat) (L:List UInt8) (e:Ending) (w':World):Prop:=
 e=.returned (.slice (some (U g o)) k c)/\(∃a,Z (RdS w' p g a (n - k) (c - k) (L.drop k)))/\Z (Bts w' (some (U g o)) (L.take k))/\Z (aa [p] w w')
theorem qJ (w:World) (p g o n c k:Nat) (L:List UInt8) (h:RdS w p g o n c L) (C:k<=n) (B:c<=9223372036854775807):Calls Tryz.prog 121 #[ptr p,I (k:Int)] w (si w p g o n c k L):=by
 have D:=h.blk.cell 0;have E:=h.blk.cell 1;have F:=h.blk.frozen 0;have r:=h.cap;have u:k<=c:=by omega
 have x:(k:Int)<=(c:Int):=by omega
 have y:(k:Int)<=(n:Int):=by omega
 have t:¬(k:Int)<0:=by omega
 have v:¬(n:Int)<(k:Int):=by omega
 have d:Z (∀w',w'=w.setCell (U p 0) (.slice (if c=k then some (U g o) else some (U g (o+k))) (n - k) (c - k))->si w p g o n c k L (.returned (.slice (some (U g o)) k c)) w'):=bZ (by
  rintro w' rfl;obtain⟨A,m⟩:∃A,A=(if c=k then some ((U g o):Addr) else some (U g (o+k))):=⟨_,rfl⟩;have f:=h.bts.cut (k:=k) (by rw[h.len];exact h.cap);rw[<-m] at f ⊢;obtain⟨l,z⟩:∃l,A=some (U g l):=by
   by_cases i:c=k
   ·exact⟨o,by rw[m,if_pos i]⟩
   exact⟨o+k,by rw[m,if_neg i]⟩
  subst z;have j:aa [p] w (w.setCell (U p 0) (.slice (some (U g l)) (n - k) (c - k))):=(aa.refl [p] w).setCell (.inl (by simp)) _;have s:g∉[p]:=by simpa using h.ne
  refine⟨rfl,⟨l,bZ ⟨h.blk.set_ 0 _,f.keep j (fun a e=>by injection e with e;subst e;exact s),by rw[Da,h.len],by omega,h.ne,Dr h.lt j.size⟩⟩,bZ ((h.bts.take k).keep j (fun a e=>by injection e with e;subst e;exact s)),bZ j⟩)
 replace h:=bZ h;have b:=d.o _ rfl;clear d;unfold ptr;by_cases i:c=k
 ·subst i;obtain rfl:n=c:=by omega
  rw[if_pos rfl] at b;replace b:=bZ b;go_enter Tryz.func121,Tryz.ntmps121;go_wp2_with fail;go_ret;have q:=b.o;rw[Ez] at q;exact q
 rw[if_neg i] at b;replace b:=bZ b;go_enter Tryz.func121,Tryz.ntmps121;go_wp2_with fail;go_ret;exact b.o
def ss (w:World) (p g n c:Nat) (x:Int) (R:List UInt8) (e:Ending) (w':World):Prop:=
 e=.returned (I x)/\(∃a,Z (RdS w' p g a (n - 8) (c - 8) R))/\Z (aa [p] w w')
theorem fp (w:World) (p g o n c:Nat) (x:Int) (R:List UInt8) (u: -9223372036854775808<=x/\x<9223372036854775808) (h:RdS w p g o n c (Cod.num x++R)) (s:c<=9223372036854775807):Calls Tryz.prog 93 #[ptr p] w (ss w p g n c x R):=by
 have f:=h.len;rw[CU,Cod.ag] at f;have l:=bZ (qJ w p g o n c 8 _ h (by omega) s);have hdr:Z ((Cod.num x++R).drop 8=R/\(Cod.num x++R).take 8=Cod.num x):=bZ ⟨Ei (Cod.ag x),DS (Cod.ag x)⟩;have q:Z (∀W,Calls Tryz.prog 59 #[.string ⟨(Cod.num x).toArray⟩] W fun e w'=>e=.returned (.tuple #[I x,I 0])/\W=w'):=bZ (fun W=>by
  have:=lC W (Cod.num x) (Cod.ag x);rwa [qe x u] at this)
 replace h:=bZ h;unfold ptr at l ⊢;go_enter Tryz.func93,Tryz.ntmps93;go_wp2_with (first
  | (refine l.o.mono ?_;rintro e w1 ⟨rfl,⟨v,b⟩,i,m⟩;rw[hdr.o.1] at b;rw[hdr.o.2] at i;have r:=bZ i.o;have y:=b.o.blk.cell 1;have z:=b.o.blk.frozen 1)
  | (refine br rfl 79 9 (.tmp 7) rfl 5 Tryz.underlying79 Tryz.underlying5 Tryz.underlying9 (some (U g o)) (Cod.num x) 8 c rfl (Cod.ag x) i.o ?_)
  | (refine(q.o _).mono ?_;rintro e w2 ⟨rfl,rfl⟩))
 have d:Z (ss w p g n c x R (.returned (I x)) (w1.setCell (U p 1) (.bool false))):=bZ (by
  have k:aa [p] w1 (w1.setCell (U p 1) (.bool false)):=(aa.refl [p] w1).setCell (.inl (by simp)) _;have t:g∉[p]:=by simpa using b.o.ne
  exact⟨rfl,⟨v,bZ ⟨b.o.blk.set_ 1 _,b.o.bts.keep k (fun a j=>by injection j with j;subst j;exact t),b.o.len,b.o.cap,b.o.ne,Dr b.o.lt k.size⟩⟩,bZ (m.o.trans k)⟩)
 clear b i m;go_ret;exact d.o
def sq (w:World) (p g:Nat) (l:List Val) (R:List UInt8) (n c k:Nat) (e:Ending) (w':World):Prop:=
 ∃A m d,e=.returned (.slice A m d)/\l.length=m/\(∃o',Z (RdS w' p g o' (n - k) (c - k) R))/\Z (aa [p] w w')/\Z (ah w' [] A l)/\Z (lj w.heap.size A)
theorem m9 (w:World) (p g o n c:Nat) (l:List Val) (R:List UInt8) (A:∀v∈l,v.ok) (X:l.length<=10000) (h:RdS w p g o n c (dX l++R)) (S:c<=9223372036854775807):Calls Tryz.prog 94 #[ptr p] w (sq w p g l R n c (dX l).length):=by
 have y:=h.len;have D:=(fF l A).2;obtain⟨q,t⟩:∃q,q=(ca l).length:=⟨_,rfl⟩;have j:(dX l).length=8+q:=by unfold dX;rw[CU,Cod.ag,t]
 have f:dX l++R=Cod.num (q:Int)++(ca l++R):=by unfold dX;rw[Dd,<-t]
 rw[CU,j] at y;rw[<-t] at D;rw[f] at h;rw[j];have J:=bZ (fp w p g o n c (q:Int) (ca l++R) (by omega) h S);have hdr:Z ((ca l++R).drop q=R/\(ca l++R).take q=ca l):=bZ ⟨Ei t.symm,DS t.symm⟩;have F:=bZ t.symm;replace A:=bZ A;replace h:=bZ h;clear t f j;unfold ptr at J ⊢;go_enter Tryz.func94,Tryz.ntmps94;go_wp2_with (refine J.o.mono ?_;rintro e w1 ⟨rfl,⟨N,C⟩,m⟩;have K:=bZ (qJ w1 p g N (n - 8) (c - 8) q _ C.o (by omega) (by omega));unfold ptr at K);go_wp2_with (refine K.o.mono ?_;rintro e w2 ⟨rfl,⟨o2,d⟩,i,r⟩;rw[hdr.o.1] at d;rw[hdr.o.2] at i;have O:=bZ (th w2 (some (U g N)) l q (c - 8) i.o F.o A.o X));go_wp2_with (refine O.o.mono ?_;rintro e w3 ⟨H,M,L,rfl,E,z,k,s⟩;have b:=bZ (d.o.keep s.o (by simp) (by simp));have x1:=b.o.blk.cell 1;have xf:=b.o.blk.frozen 1);have x:Z (sq w p g l R n c (8+q) (.returned (.slice H M L)) (w3.setCell (U p 1) (.bool false))):=bZ (by
  have B:aa [p] w3 (w3.setCell (U p 1) (.bool false)):=(aa.refl [p] w3).setCell (.inl (by simp)) _;have T:g∉[p]:=by simpa using b.o.ne
  have W:aa [p] w w3:=(m.o.trans r.o).trans s.o.nil;have a1:=m.o.size;have a2:=r.o.size;have a0:=d.o.blk.lt;refine⟨H,M,L,rfl,E,⟨o2,bZ ?_⟩,bZ (W.trans B),bZ (z.o.part_ B ?_),bZ (k.o.mono (by omega))⟩
  ·have P:n - 8 - q=n - (8+q):=by omega
   have Q:c - 8 - q=c - (8+q):=by omega
   have:=b.o;rw[P,Q] at this;exact⟨this.blk.set_ 1 _,this.bts.keep B (fun a u=>by injection u with u;subst u;exact T),this.len,this.cap,this.ne,Dr this.lt B.size⟩
  intro a u Y;have:=k.o a u;simp only[CZ] at Y;omega)
 clear b d i s r m z k;go_ret;exact x.o
end Go.Proofs.YtmlmfpikncogpaaGreat
