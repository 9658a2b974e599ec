import Derived.Test.YtmlmfpikncogpaaGreatL42
namespace Go.Proofs.YtmlmfpikncogpaaGreat
open Go.RowKit
set_option linter.unusedSimpArgs false
set_option linter.unusedVariables false
set_option maxRecDepth 100000
set_option maxHeartbeats 16000000
structure DbF (w:World) (x bd bs:Nat) (s:Dk.St) (ts:List TS) (f:Nat->Int) (ep:Nat) (lv:Value) (st:Nat) (F:List Nat):Prop where
 blk:Blk w x 93 (dbV bd st f ep lv)
 sto:cu w st ts F
 nx:x∉F
 nd:bd∉F
 ns:bs∉F
 d:Dk.aZ w bd bs s
theorem DbF.pre {w:World} {x b c:Nat} {s:Dk.St} {ts:List TS} {f:Nat->Int} {ep:Nat} {e:Value} {g:Nat} {F:List Nat} {lo:Nat->Prop} (h:DbF w x b c s ts f ep e g F) (a:∀y∈F,lo y):jH lo w x b c s ts f ep e:=
 ⟨⟨g,F,h.blk,h.sto,h.nx,h.nd,h.ns,a⟩,h.d⟩
theorem DbF.keep {w w':World} {x a b:Nat} {s:Dk.St} {ts:List TS} {f:Nat->Int} {ep:Nat} {c:Value} {e:Nat} {F:List Nat} (h:DbF w x a b s ts f ep c e F) (k:aa [] w w'):DbF w' x a b s ts f ep c e F:=
 ⟨h.blk.keep k (by simp),h.sto.keep k (by simp),h.nx,h.nd,h.ns,h.d.keep k (by simp) (by simp)⟩
theorem qh {lo:Nat->Prop} (w:World) (x i k:Nat) (s:Dk.St) (ts:List TS) (f:Nat->Int) (ep:Nat) (r:Value) (p:r.oneCell'=true) (h:jH lo w x i k s ts f ep r) (A:s.down=false) (b:s.n=60) (c:ep<=1000000) (B:∀j,j<8-> -9223372036854775808<=f j/\f j<9223372036854775808) (g:0<=s.writes) (C:s.writes<=900000)
 (z:(aN ts).length<=1000000) (a:∀t∈ts,t.l.length<=400):Calls Tryz.prog 10 #[.pointer (V x)] w (jq lo w x i k s ts f ep):=by
  have H:=bZ (pU w x i k s ts f ep r p h A b c B g C z a);clear h A b c B g C z a;go_enter Tryz.func10,Tryz.ntmps10;go_wp2_with (go_at_call 25;refine H.o.mono ?_;rintro e w1 ⟨m,q,u,v,rfl,y⟩;have d:Z (jq lo w x i k s ts f ep (.returned (I q.2)) w1):=bZ ⟨m,q,u,v,rfl,y⟩;clear u v y);go_ret;exact d.o
def jw (s:Nat) (a:Int) (l:List Chg):List UInt8:=Cod.num (s:Int)++(Cod.num a++cM l)
theorem ni (s:Nat) (a:Int) (l:List Chg):(jw s a l).length=16+(cM l).length:=by unfold jw;rw[CU,CU,Cod.ag,Cod.ag];omega
def Cz (w:World) (x c d:Nat) (s:Dk.St) (a:List TS) (f:Nat->Int) (ep:Nat) (g:Value) (h:Nat) (F:List Nat) (e:Ending) (w':World):Prop:=
 ∃b,e=.returned (.bool true)/\Z (DbF w' x c d s a f ep g h b)/\Z (aa (x::F) w w')/\Z (∀y∈b,y∈F\/w.heap.size<=y)
theorem Bs (w:World) (x E O:Nat) (s:Dk.St) (ts B:List TS) (f:Nat->Int) (ep:Nat) (lv:Value) (L:Nat) (F:List Nat) (h:DbF w x E O s ts f ep lv L F) (hg:Gd 52 ts) (k:Nat) (hk:k<8) (a:Int) (b6:f k<a) (a8: -9223372036854775808<=a/\a<9223372036854775808)
 (l:List Chg) (hl:l.length<=40) (z:∀c∈l,c.ok) (u:aQ ts l=some B) (A:Option Addr) (m c:Nat) (hB:Bts w A (jw k a l)) (t:(jw k a l).length=m) (a9:m<=c) (Q:c<=9223372036854775807):
 Calls Tryz.prog 32 #[.pointer (V x),.slice A m c] w (Cz w x E O s B (upd f k a) ep lv L F):=by
  have b:=ni k a l;have i:8<=(cM l).length:=by unfold cM;rw[CU,Cod.ag];omega
  have b1:24<=m:=by omega
  obtain⟨g,o,rfl⟩:∃g o,A=some (U g o):=by
   rcases hB with h | ⟨g,o,h,_⟩
   ·rw[h] at b;simp at b;omega
   exact⟨g,o,h⟩
  have H1:=bZ (lp w g o m c (k:Int) (Cod.num a++cM l) (by omega) (by unfold jw at hB;exact hB) (by unfold jw at t;exact t) a9 Q);have y9:∀W,aa [] w W->W.cell? (U x 9)=some (.pointer (V L)):=fun W kk=>(h.blk.keep kk (by simp)).cell 9;have yk:∀W,aa [] w W->W.cell? (U x (10+k))=some (I (f k)):=fun W kk=>by rw[(h.blk.keep kk (by simp)).cell];exact mB hk
  have hF:Z (∀y∈F,y<w.heap.size):=bZ h.sto.lt;replace h:=bZ h;replace hg:=bZ hg;replace z:=bZ z;replace u:=bZ u;replace b:=bZ b;replace y9:=bZ y9;replace yk:=bZ yk;have b4:(k:Int)<8:=by omega
  have b2:((k:Int)<0)=False:=eq_false (by omega);have b3:((8:Int)<=(k:Int))=False:=eq_false (by omega);have b0:(a<=f k)=False:=eq_false (by omega);obtain⟨q,N⟩:∃q,l.length=q:=⟨_,rfl⟩;rw[N] at hl;replace N:=bZ N;clear hB;go_enter Tryz.func32,Tryz.ntmps32;go_wp2_with (first
   | (go_at_call 29;refine H1.o.mono ?_;rintro e w1 ⟨A1,rfl,P,a5,_⟩;obtain⟨g1,o1,rfl⟩:∃g o,A1=some (U g o):=(by
    rcases P.o with h | ⟨g,o,h,_⟩
    ·have:=congrArg List.length h;rw[CU,Cod.ag] at this;simp at this
    exact⟨g,o,h⟩);have H2:=bZ (lp w1 g1 o1 (m - 8) (c - 8) a (cM l) a8 P.o (by have:=b.o;rw[CU,Cod.ag];omega) (by omega) (by omega));clear H1)
   | (go_at_call 29;refine H2.o.mono ?_;rintro e w2 ⟨A2,rfl,H,a6,_⟩;obtain⟨g2,o2,rfl⟩:∃g o,A2=some (U g o):=(by
    rcases H.o with h | ⟨g,o,h,_⟩
    ·rw[h] at i;exact absurd i (by decide)
    ·exact⟨g,o,h⟩);have r:Z (aa [] w w2):=bZ (a5.o.trans a6.o);have z2:=yk.o w2 r.o;have a4:g2<w2.heap.size:=(by
    rcases H.o with h | ⟨g,o,h,Q⟩
    ·rw[h] at i;exact absurd i (by decide)
    cases h;exact block_lt_of_cell (Q 0 _ (CT (by omega))));have H3:=bZ (ti w2 F (fun y p=>Dr (hF.o y p) r.o.size) g2 o2 (m - 8 - 8) (c - 8 - 8) q l H.o (by have:=b.o;omega) (by omega) (by omega) a4 N.o hl z.o);clear H2)
   | (go_at_call 64;refine H3.o.mono ?_;rintro e w3 ⟨A3,n3,c3,rfl,ac,a1,a7⟩;obtain rfl:q=n3:=N.o.symm.trans ac;have j:Z (aa [] w w3):=bZ (r.o.trans a7.o);have z3:=y9.o w3 j.o;have H4:=bZ (ol w3 L ts F (h.o.sto.keep j.o (by simp)) hg.o A3 l q c3 N.o hl a1.o (fun c Q=>by have:=z.o c Q;exact⟨this.2.2.1,this.2.2.2.1,fun v hv=>dI (this.2.2.2.2.1 v hv),fun v hv=>dI (this.2.2.2.2.2 v hv)⟩));clear H3)
   | (go_at_call 37;refine H4.o.mono ?_;rintro e M ⟨S,hr⟩;obtain⟨ar,F4,C,rfl,a2,K⟩:=hr.resolve_left (fun h=>by rw[u.o] at h;cases h.1);obtain rfl:B=ar:=(by have:=u.o;rw[C] at this;injection this with this;exact this.symm);clear C hr H4;have J:Z (Blk M x 93 (dbV E L f ep lv)):=bZ ((h.o.blk.keep j.o (by simp)).keep S.o h.o.nx);have u1:M.cell? (U x (10+k))=some (I (f k)):=(by rw[J.o.cell];exact mB hk);have u2:=J.o.frozen (10+k)))
  have a0:Z (Blk (M.setCell (U x (10+k)) (I a)) x 93 (dbV E L (upd f k a) ep lv)):=bZ (by rw[<-Aw hk];exact J.o.set_ (10+k) (I a));have R:Z (Cz w x E O s B (upd f k a) ep lv L F (.returned (.bool true)) (M.setCell (U x (10+k)) (I a))):=bZ (by
   have X:aa [x] M (M.setCell (U x (10+k)) (I a)):=(aa.refl _ _).setCell (.inl (by simp)) _;have b5:=j.o.size;have b7:=h.o.blk.lt;have D:x∉F4:=fun t=>by
    rcases K.o x t with n | n
    ·exact h.o.nx n
    omega
   obtain⟨an,ap⟩:=(h.o.pre (lo:=fun _=>True) (fun _ _=>trivial)).blks;have T:aa (x::F) w (M.setCell (U x (10+k)) (I a)):=(j.o.nil.trans (S.o.mono (fun y p=>.inl (by simp[p])))).trans (X.mono (fun y p=>.inl (by simp at p;simp[p])));have a3:E∉x::F:=fun t=>by
    rcases Db.1 t with n | n
    ·exact an n.symm
    exact h.o.nd n
   have ak:O∉x::F:=fun t=>by
    rcases Db.1 t with n | n
    ·exact ap n.symm
    exact h.o.ns n
   have Y:∀y,y<w.heap.size->y∉F->y∉F4:=fun y p hn t=>by
    rcases K.o y t with n | n
    ·exact hn n
    omega
   refine⟨F4,rfl,bZ ⟨a0.o,a2.o.keep X (fun y p=>by simp at p;subst p;exact D),D,Y E h.o.d.d.lt h.o.nd,Y O h.o.d.m.lt h.o.ns,h.o.d.keep T a3 ak⟩,bZ T,bZ (fun y p=>by
    rcases K.o y p with n | n
    ·exact .inl n
    exact .inr (by omega))⟩)
  go_ret;exact R.o
theorem Bc:Sn.bP 60=#[I 0,I 1,I 2,I 3,I 17,I 14,I 31,I 29]:=by rfl
def uV (w:World) (a b:Nat) (s:Dk.St) (cols:List Nat) (e:Ending) (w':World):Prop:=
 ∃m q,Wa.em (Wa.lN s 31 29) 1 m/\q=Sn.bG s m (stB (cols.map emp) (fun _=>0))/\e=.returned (I q.2)/\Z (aa [a,b] w w')/\Z (Dk.aZ w' a b q.1)
theorem yL {cols:List Nat} (d:cols.length<=4) (e:∀c∈cols,1<=c/\c<=10):Gd 52 (cols.map emp):=⟨by rw[Df];exact d,fun t f=>by
 obtain⟨c,a,rfl⟩:=Dt.1 f;have:=e c a;exact⟨this,List.Pairwise.nil,(fun x b=>by cases b),⟨Int.le_refl 1,(by show (1:Int)<=4611686018427387905;decide)⟩,(fun x b=>by cases b),C3 _⟩⟩
theorem yF (w:World) (a l:Nat) (s:Dk.St) (v:Dk.aZ w a l s) (hd:s.down=false) (u:s.n=60) (hr:Sn.dt s=([],0,4)) (Y:0<=s.writes) (hw:s.writes<=900000)
 (P:Nat->Prop) (A:Option Addr) (n c:Nat) (O:List (List Value)) (cols:List Nat) (hS:dU w P A O cols) (hn:cols.length=n) (a1:n<=4) (H:∀c∈cols,1<=c/\c<=10):
 Calls Tryz.prog 22 #[.pointer (V a),.slice A n c] w (uV w a l s cols):=by
  have H1:=bZ (Sn.oW w a l s v);rw[hr] at H1;have H2:Z (∀W,aa [] w W->Calls Tryz.prog 28 #[.pointer (V a)] W fun e w'=>e=.returned (I 60)/\W=w'):=bZ (fun W k=>by have:=Dk.cU W a l s (v.keep k (by simp) (by simp));rw[u] at this;exact this);have H3:Z (∀W,Calls Tryz.prog 27 #[I 60] W fun e w'=>e=.returned (.tuple #[.agg #[I 0,I 1,I 2,I 3,I 17,I 14,I 31,I 29],I 0])/\aa [] W w'):=bZ (fun W=>by have:=Sn.ff W 60 (by decide) (by decide);rw[Bc] at this;exact this);have H4:Z (∀W,aa [] w W->Calls Tryz.prog 50 #[.slice A n c] W (qy W cols)):=bZ (fun W k=>ly W A n c P O cols (hS.move k (fun x _ hp=>⟨by simp,hp⟩)) hn (by omega));replace v:=bZ v;clear hS hr;go_enter Tryz.func22,Tryz.ntmps22;go_wp2_with (first
   | (go_at_call 26;refine H1.o.mono ?_;rintro e w1 ⟨A1,c1,rfl,_,h⟩;replace h:=bZ h)
   | (go_at_call 28;refine(H2.o w1 h.o).mono ?_;rintro e w2 ⟨rfl,rfl⟩)
   | (go_at_call 27;refine(H3.o w1).mono ?_;rintro e w3 ⟨rfl,L⟩;have M:Z (aa [] w w3):=bZ (h.o.trans L);clear L))
  refine ad (S:=(fun w':World=>∀i,w'.cell? (U w3.heap.size i)=#[I 0,I 1,I 2,I 3,I 17,I 14,I 31,I 29][i]?)) (n:=8) (by kernel_rfl) ?_;have k4:Z (aa [] w (w3.alloc (.cells #[I 0,I 1,I 2,I 3,I 17,I 14,I 31,I 29] 85)).drew):=bZ (M.o.alloc _).drew;have b:∀i,(w3.alloc (.cells #[I 0,I 1,I 2,I 3,I 17,I 14,I 31,I 29] 85)).drew.cell? (U w3.heap.size i)=#[I 0,I 1,I 2,I 3,I 17,I 14,I 31,I 29][i]?:=(Blk.new w3 85 #[I 0,I 1,I 2,I 3,I 17,I 14,I 31,I 29]).cell;generalize (w3.alloc (.cells #[I 0,I 1,I 2,I 3,I 17,I 14,I 31,I 29] 85)).drew=wd at*;refine ord [0,1,2,4] ?_
  iterate 4 (refine tq b ?_;try simp only[PT,Y1,Y2,Y3])
  refine av ?_;refine J1 3 fun K D=>?_;dsimp only[Y1,Y2,Y3];go_simp;refine(H4.o wd k4.o).mono ?_;rintro e f ⟨B,F,rfl,E,N,C⟩;have g:Z (aa [] w f):=bZ (k4.o.trans N.o);have b:∀i,f.cell? (U w3.heap.size i)=#[I 0,I 1,I 2,I 3,I 17,I 14,I 31,I 29][i]?:=fun i=>by
   have z:w3.heap.size<wd.heap.size:=block_lt_of_cell (b 0);rw[<-b i];exact N.o.cell z (by simp)
  refine D _ _ (.inr b) ?_;clear D K
  try simp only[PT,Y1,Y2,Y3]
  refine ord [5] ?_
  (refine tq b ?_;try simp only[PT,Y1,Y2,Y3])
  refine av ?_;refine J1 6 fun K D=>?_;dsimp only[Y1,Y2,Y3];go_simp;have B6:Z (Blk (f.alloc (.cells (dbV a B (fun _=>0) 0 (.pointer none)) 93)) f.heap.size 93 (dbV a B (fun _=>0) 0 (.pointer none))):=bZ (Blk.new _ _ _);have Q:Z (aa [] f (f.alloc (.cells (dbV a B (fun _=>0) 0 (.pointer none)) 93))):=bZ ((aa.refl [] f).alloc _);have b:∀i,(f.alloc (.cells (dbV a B (fun _=>0) 0 (.pointer none)) 93)).cell? (U w3.heap.size i)=#[I 0,I 1,I 2,I 3,I 17,I 14,I 31,I 29][i]?:=fun i=>by
   have z:w3.heap.size<f.heap.size:=block_lt_of_cell (b 0);rw[<-b i];exact Q.o.cell z (by simp)
  refine D _ _ (.inr b) ?_;clear D K
  try simp only[PT,Y1,Y2,Y3]
  refine ord [7] ?_
  (refine tq b ?_;try simp only[PT,Y1,Y2,Y3])
  refine av ?_;refine JD ?_;have a4:=v.o.d.lt;have a0:=v.o.m.lt;have a2:=g.o.size;have a3:=k4.o.size;have p:jH (fun _=>True) (f.alloc (.cells (dbV a B (fun _=>0) 0 (.pointer none)) 93)) f.heap.size a l s (cols.map emp) (fun _=>0) 0 (.pointer none):=⟨⟨B,F,B6.o,E.o.keep Q.o (by simp),fun r=>by have:=E.o.lt _ r;omega,fun r=>by have:=C.o _ r;omega,fun r=>by have:=C.o _ r;omega,fun _ _=>trivial⟩,(v.o.keep g.o (by simp) (by simp)).keep Q.o (by simp) (by simp)⟩;have T:=yL (cols:=cols) (by omega) H;have H5:=bZ (pU _ f.heap.size a l s (cols.map emp) (fun _=>0) 0 (.pointer none) rfl p hd u (by decide) (fun j _=>⟨by decide,by decide⟩) Y hw (T.enc (by decide)) (fun t ht=>Dc (T.2 t ht).len (by decide)));clear p b T;go_wp2_with (go_at_call 25;refine H5.o.mono ?_;rintro e w7 ⟨m,q,r,hq,rfl,X,R,_⟩;have J:Z (uV w a l s cols (.returned (I q.2)) w7):=bZ ⟨m,q,r,hq,rfl,bZ (aa.more (F:=[a,l]) (g.o.trans Q.o).nil X.o (fun y hy=>by simp at hy;rcases hy with rfl | rfl | rfl;exact .inr (by omega);exact .inl (by simp);exact .inl (by simp))),R⟩;clear r hq);go_ret;exact J.o
structure Cm where
 k:Nat
 txn:Int
 l:List Chg
def Cm.bytes (c:Cm):List UInt8:=jw c.k c.txn c.l
def f9 (f:Nat->Int):Prop:=∀j,j<8->0<=f j/\f j<9223372036854775808
def uU (ts:List TS) (f:Nat->Int) (c:Cm) (a:List TS):Prop:=
 c.k<8/\f c.k<c.txn/\c.txn<9223372036854775808/\c.l.length<=6/\(∀x∈c.l,x.ok)/\aQ ts c.l=some a/\Gd 52 a
def eh:List TS->(Nat->Int)->List Cm->List TS->(Nat->Int)->Prop
 | ts,f,[],ts',f'=>ts=ts'/\f=f'
 | ts,f,c::cs,ts',f'=>∃a,uU ts f c a/\eh a (upd f c.k c.txn) cs ts' f'
theorem eh.snoc:∀ {cs:List Cm} {ts b a:List TS} {f e:Nat->Int} {c:Cm},eh ts f cs b e->uU b e c a->eh ts f (cs++[c]) a (upd e c.k c.txn)
 | [],ts,b,a,f,e,c,h,hs=>by
  obtain⟨rfl,rfl⟩:=h;exact⟨a,hs,rfl,rfl⟩
 | d::cs,ts,b,a,f,e,c,h,hs=>by
  obtain⟨j,g,i⟩:=h;exact⟨j,g,i.snoc hs⟩
theorem f9.upd {f:Nat->Int} (h:f9 f) {k:Nat} {x:Int} (c:f k<x) (b:k<8) (d:x<9223372036854775808):f9 (upd f k x):=fun j a=>by
 unfold Go.Proofs.YtmlmfpikncogpaaGreat.upd
 split
 ·have:=h k b;omega
 exact h j a
theorem eh.nums:∀ {cs:List Cm} {ts b:List TS} {f d:Nat->Int},eh ts f cs b d->f9 f->f9 d
 | [],_,_,_,_,h,hn=>by obtain⟨_,rfl⟩:=h;exact hn
 | c::cs,_,_,_,_,h,hn=>by
  obtain⟨g,a,e⟩:=h;exact e.nums (hn.upd a.2.1 a.1 a.2.2.1)
theorem eh.gd:∀ {cs:List Cm} {ts a:List TS} {f b:Nat->Int},eh ts f cs a b->Gd 52 ts->Gd 52 a
 | [],_,_,_,_,h,hn=>by obtain⟨rfl,_⟩:=h;exact hn
 | c::cs,_,_,_,_,h,hn=>by
  obtain⟨g,d,e⟩:=h;exact e.gd d.2.2.2.2.2.2
theorem eh.cols:∀ {cs:List Cm} {ts a:List TS} {f b:Nat->Int},eh ts f cs a b->a.map (·.cols)=ts.map (·.cols)
 | [],_,_,_,_,h=>by obtain⟨rfl,_⟩:=h;rfl
 | c::cs,_,_,_,_,h=>by
  obtain⟨g,d,e⟩:=h;rw[e.cols,l4 d.2.2.2.2.2.1]
def oy (w:World) (lo b:Nat) (A:Option Addr) (rs:List (List UInt8)):Prop:=
 ∀j r,rs[j]? =some r->∃g B c,A=V g/\lo<=g/\g<b/\w.cell? (U g j)=G B r.length c/\r.length<=c/\c<=maxLen/\Bts w B r/\∀a,B=some a->lo<=a.block/\a.block<b
theorem oy.keep {w w':World} {lo b:Nat} {A:Option Addr} {rs:List (List UInt8)} {Y:List Nat} (h:oy w lo b A rs) (k:aa Y w w') (f:∀y∈Y,y<lo\/b<=y):oy w' lo b A rs:=fun j r u=>by
 obtain⟨g,B,c,i,l,m,n,o,p,q,e⟩:=h j r u;have t:g∉Y:=fun d=>by have:=f g d;omega
 exact⟨g,B,c,i,l,m,k.cellEq n t,o,p,q.keep k (fun a s d=>by have:=f _ d;have:=e a s;omega),e⟩
theorem zR {base:Nat} {w:World} {A:Option Addr} {n c:Nat} {rs:List (List UInt8)} (h:Wa.dY base w (.slice A n c) rs):n=rs.length/\oy w base w.heap.size A rs:=by
 obtain⟨F,f,u⟩:=h;have D:n=rs.length:=by
  rcases f.2 with ⟨b,E⟩ | ⟨g,m,e,b,_⟩
  ·injection b with _ b _;omega
  injection b
 refine⟨D,fun j r i=>?_⟩;have z:=(CV.1 i).1;obtain⟨g,c',b,_,_,x,C,y,_⟩:=ax f (by omega);injection b with hA _ _;obtain⟨B,d,o,p,q,s,t⟩:=u j r i;exact⟨g,B,d,hA,x,C,y j _ o,p,q,s,fun a v=>by obtain⟨k,e,l⟩:=t a v;exact⟨k,l.lt⟩⟩
def dbW (a:Nat) (f:Nat->Int) (ep:Nat):Array Value:=#[.pointer (V a),I 0,I 1,I 2,I 3,I 17,I 14,I 31,I 29,.pointer none,
 I (f 0),I (f 1),I (f 2),I (f 3),I (f 4),I (f 5),I (f 6),I (f 7),.int .u32 (ep:Int),.pointer none]
theorem Av {a:Nat} {f:Nat->Int} {ep:Nat} {s:Nat} (b:s<8):(dbW a f ep)[10+s]? =some (I (f s)):=by
 have h:s=0\/s=1\/s=2\/s=3\/s=4\/s=5\/s=6\/s=7:=by omega
 rcases h with rfl | rfl | rfl | rfl | rfl | rfl | rfl | rfl<;>rfl
theorem Au {a:Nat} {f:Nat->Int} {ep:Nat} {x:Int} {s:Nat} (b:s<8):(dbW a f ep).setIfInBounds (10+s) (I x)=dbW a (upd f s x) ep:=by
 have h:s=0\/s=1\/s=2\/s=3\/s=4\/s=5\/s=6\/s=7:=by omega
 rcases h with rfl | rfl | rfl | rfl | rfl | rfl | rfl | rfl<;>rfl
def iQ (f:Nat->Int) (j:Nat):Nat->Int:=fun k=>if k<j then f k else 0
theorem sY (f:Nat->Int) (j:Nat):upd (iQ f j) j (f j)=iQ f (j+1):=by
 funext k
 unfold upd iQ;by_cases h:k=j
 ·subst h;rw[if_pos rfl,if_pos (by omega)]
 rw[if_neg h];by_cases a:k<j
 ·rw[if_pos a,if_pos (by omega)]
 rw[if_neg a,if_neg (by omega)]
theorem yU {a b:Nat} {f:Nat->Int} {ep:Nat}:(dbW a (iQ f 8) ep).setIfInBounds 9 (.pointer (V b))=dbV a b f ep (.pointer none):=rfl
def iI (f:Nat->Int) (R:List UInt8):Nat->Nat->List UInt8
 | 0,_=>R
 | k+1,j=>Cod.num (f j)++iI f R k (j+1)
theorem vC (f:Nat->Int) (ts:List TS):iI f (aN ts) 8 0=stB ts f:=by
 unfold stB gE;simp[iI,List.range_succ]
theorem BQ (w:World) (A:Option Addr) (n c:Nat) (P:Nat->Prop) (b:List (List Value)) (cols:List Nat) (m:dU w P A b cols) (s:cols.length=n) (j:n<=1000) (B:Option Addr) (f e:Nat) (ts:List TS) (p:ts.map (·.cols)=cols) (u:∀t∈ts,TOk t)
 (d:Bts w B (aN ts)) (q:(aN ts).length=f) (k:f<=e) (h:e<=9223372036854775807):Calls Tryz.prog 30 #[.slice A n c,.slice B f e] w (fM w ts):=by
  by_cases l:ts=[]
  ·subst l;obtain rfl:f=0:=by rw[<-q];rfl
   subst p;obtain rfl:n=0:=s.symm;exact rM w A c P b m B e
  have a:0<(aN ts).length:=by
   cases ts with
   | nil=>exact absurd rfl l
   | cons t r=>
    have:aN (t::r)=fP t++aN r:=by simp[aN]
    rw[this,CU];unfold fP;rw[CU,Cod.ag];omega
  rcases d with d | ⟨g,o,rfl,d⟩
  ·rw[d] at a;simp at a
  have i:=block_lt_of_cell (d 0 _ (CT a));exact rN w A n c P b cols m s j g o f e ts p u (.inr ⟨g,o,rfl,d⟩) q k h i
def qw (w:World) (a b:Nat) (s:Dk.St) (ts:List TS) (f:Nat->Int) (ep:Nat) (e:Ending) (w':World):Prop:=
 ∃m q,Wa.em (Wa.lN s 31 29) (ep+1) m/\q=Sn.bG s m (stB ts f)/\Z (aa [a,b] w w')/\Z (Dk.aZ w' a b q.1)/\
  ((q.2≠0/\e=.returned (.tuple #[.pointer none,I q.2]))\/(q.2=0/\∃x c,e=.returned (.tuple #[.pointer (V x),I 0])/\Z (cx (fun y=>w.heap.size<=y) w' x a b c q.1 ts f m [] 0)/\w.heap.size<=x/\w.heap.size<=c))
theorem By (w:World) (r E:Nat) (s:Dk.St) (hD:Dk.aZ w r E s) (hd:s.down=false) (ar:s.n=60) (a ts:List TS) (u f:Nat->Int) (ep:Nat) (hr:Sn.dt s=(stB a u,ep,0)) (e9:1<=ep) (e5:ep<=1000000) (Q:f9 u) (ac:Gd 52 a)
 (cs:List Cm) (dl:Wa.cg (Wa.cT (Dk.sec s) ep 29 31)=cs.map Cm.bytes) (M:eh a u cs ts f) (e4:cs.length<=100000) (e8:0<=s.writes) (hw:s.writes<=900000)
 (P:Nat->Prop) (A:Option Addr) (n c:Nat) (dr:List (List Value)) (cols:List Nat) (hS:dU w P A dr cols) (hn:cols.length=n) (es:n<=4) (a9:a.map (·.cols)=cols):
 Calls Tryz.prog 11 #[.pointer (V r),.slice A n c] w (qw w r E s ts f ep):=by
  have H1:=bZ (Sn.oW w r E s hD);rw[hr] at H1;have H2:Z (∀W,aa [] w W->Calls Tryz.prog 28 #[.pointer (V r)] W fun e w'=>e=.returned (I 60)/\W=w'):=bZ (fun W k=>by have:=Dk.cU W r E s (hD.keep k (by simp) (by simp));rw[ar] at this;exact this);have H3:Z (∀W,Calls Tryz.prog 27 #[I 60] W fun e w'=>e=.returned (.tuple #[.agg #[I 0,I 1,I 2,I 3,I 17,I 14,I 31,I 29],I 0])/\aa [] W w'):=bZ (fun W=>by have:=Sn.ff W 60 (by decide) (by decide);rw[Bc] at this;exact this);have bt:Z (∀W B nb cb,aa [] w W->Bts W B (aN a)->(aN a).length=nb->nb<=cb->cb<=9223372036854775807->Calls Tryz.prog 30 #[.slice A n c,.slice B nb cb] W (fM W a)):=bZ (fun W B nb cb k a1 a2 a3 a4=>BQ W A n c P dr cols (hS.move k (fun x _ hp=>⟨by simp,hp⟩)) hn (by omega) B nb cb a a9 (fun t ht=>(ac.2 t ht).tok (by decide)) a1 a2 a3 a4);have cr:Z (∀W,Dk.aZ W r E s->Calls Tryz.prog 31 #[.pointer (V r),I 31,I 29,.int .u32 (ep:Int)] W (Wa.sj (cs.map Cm.bytes) W)):=bZ (fun W h=>by have:=Wa.zM W r E s 31 29 ep h hd ⟨by omega,by omega,by rw[ar];omega,by omega⟩ (by omega);rw[dl] at this;exact this);obtain⟨L1,a6⟩:∃L1,(stB a u).length=L1:=⟨_,rfl⟩;have c2:L1=64+(aN a).length:=by rw[<-a6];unfold stB;rw[CU,eX]
  have b7:Z (iI u (aN a) 8 0=stB a u):=bZ (vC u a);have an:=ac.enc (by decide);replace hD:=bZ hD;replace Q:=bZ Q;replace ac:=bZ ac;replace M:=bZ M;replace a6:=bZ a6;replace c2:=bZ c2;replace an:=bZ an;clear hS hr dl a9;go_enter Tryz.func11,Tryz.ntmps11;go_wp2_with (first
   | (go_at_call 26;refine H1.o.mono ?_;rintro e w1 ⟨A1,c1,rfl,b,bi⟩;dsimp only at b;rw[a6.o] at b ⊢;replace bi:=bZ bi;replace b:=bZ b)
   | (go_at_call 28;refine(H2.o w1 bi.o).mono ?_;rintro e w2 ⟨rfl,rfl⟩)
   | (go_at_call 27;refine(H3.o w1).mono ?_;rintro e w3 ⟨rfl,ak⟩;have D:Z (aa [] w w3):=bZ (bi.o.trans ak);replace ak:=bZ ak))
  obtain⟨b1,b2,b3,b4,b5⟩:=bK b.o;have ct:Z (∀y∈fb A1,y<w3.heap.size):=bZ (fun y p=>by have:=(aw b.o p).2.1;have:=ak.o.size;omega);have cq:Z (w.heap.size<=w3.heap.size):=bZ D.o.size;have cv:Z (Bts w3 A1 (stB a u)):=bZ (b1.keep ak.o (by simp));unfold maxLen at b4;clear b1 b2 b5 b;go_loopw [6,42] (fun ds N wr=>∃(j:Nat) (A':Option Addr) (m c':Nat),j<=8/\N=I (j:Int)/\ds=.slice A' m c'/\Z (fb A'=fb A1)/\Z ((iI u (aN a) (8 - j) j).length=m)/\m<=c'/\c'<=9223372036854775807/\Z (Bts wr A' (iI u (aN a) (8 - j) j))/\
   Z (Blk wr (w3.heap.size+1) 93 (dbW r (iQ u j) ep))/\Z (Blk wr w3.heap.size 85 #[I 0,I 1,I 2,I 3,I 17,I 14,I 31,I 29])/\Z (aa [] w3 wr)) (fun _ N _=>8 - (intOf N).toNat)
  case atStart=>
   have ka:∀o1 o2,aa [] w3 ((w3.alloc o1).alloc o2):=fun o1 o2=>((aa.refl [] w3).alloc o1).alloc o2;refine⟨0,A1,L1,c1,C3 _,rfl,rfl,bZ rfl,bZ (by rw[b7.o];exact a6.o),b3,b4,bZ ?_,bZ ?_,bZ ((Blk.new w3 85 _).alloc _),bZ (ka _ _)⟩
   ·rw[b7.o];exact cv.o.keep (ka _ _) (by simp)
   have:=Blk.new (w3.alloc (.cells #[I 0,I 1,I 2,I 3,I 17,I 14,I 31,I 29] 85)) 93 (dbW r (iQ u 0) ep);rw[show (w3.alloc (.cells #[I 0,I 1,I 2,I 3,I 17,I 14,I 31,I 29] 85)).heap.size=w3.heap.size+1 by simp] at this;exact this
  obtain⟨j,A',m,c',hj,rfl,rfl,d7,T,dc,d5,R,b8,b9,hk⟩:=hrel;clear cv;by_cases cn:j<8
  ·have ek:(j:Int)<8:=by omega
   have wj:IntKind.i64.wrap ((j:Int)+1)=(j:Int)+1:=C0 _ (by omega);obtain⟨k,z⟩:∃k,8 - j=k+1:=⟨7 - j,by omega⟩;have v:8 - (j+1)=k:=by omega
   rw[z] at T R;have c6:Z (8+(iI u (aN a) k (j+1)).length=m):=bZ (by have:=T.o;unfold iI at this;rw[CU,Cod.ag] at this;exact this);obtain⟨g,o,rfl⟩:∃g o,A'=some (U g o):=by
    rcases R.o with h | ⟨g,o,h,_⟩
    ·have:=congrArg List.length h;unfold iI at this;rw[CU,Cod.ag] at this;simp at this
    exact⟨g,o,h⟩
   obtain⟨n1,n2⟩:=Q.o j cn;have H4:=bZ (lp wr g o m c' (u j) (iI u (aN a) k (j+1)) (by omega) R.o T.o dc d5);have ec:(u j<0)=False:=eq_false (by omega);have en:8<=m:=by have:=c6.o;omega
   replace v:=bZ v;clear z;go_wp2_with (go_at_call 29;refine H4.o.mono ?_;rintro e w4 ⟨A4,rfl,e0,ck,d6⟩;have J:=b8.o.keep ck.o (by simp);have u1:w4.cell? (U (w3.heap.size+1) (10+j))=some (I (iQ u j j)):=(by rw[J.cell];exact Av cn);have u2:=J.frozen (10+j);replace J:=bZ J);have e1:Z (Blk (w4.setCell (U (w3.heap.size+1) (10+j)) (I (u j))) (w3.heap.size+1) 93 (dbW r (iQ u (j+1)) ep)):=bZ (by rw[<-sY,<-Au cn];exact J.o.set_ (10+j) (I (u j)));have cl:Z (aa [w3.heap.size+1] w4 (w4.setCell (U (w3.heap.size+1) (10+j)) (I (u j)))):=bZ ((aa.refl _ _).setCell (.inl (by simp)) _);go_roundw
   case rel=>exact⟨j+1,A4,m - 8,c' - 8,by omega,by go_num,rfl,bZ (d6.o.trans d7.o),bZ (by rw[v.o];have:=c6.o;omega),by omega,by omega,bZ (by rw[v.o];exact e0.o.kp cl.o (fun y p L=>by simp at p;subst p;rw[d6.o,d7.o] at L;have:=ct.o _ L;omega)),e1,bZ ((b9.o.keep ck.o (by simp)).keep cl.o (by simp)),bZ ((hk.o.trans ck.o).more cl.o (fun y p=>by simp at p;subst p;exact .inr (by omega)))⟩
   case measure=>simp[intOf];omega
  obtain rfl:j=8:=by omega
  have h0:iI u (aN a) (8 - 8) 8=aN a:=rfl;rw[h0] at T R;have HD:=bZ (bt.o wr A' m c' (D.o.trans hk.o) R.o T.o dc d5);have d0:Z (Dk.aZ wr r E s):=bZ (hD.o.keep (D.o.trans hk.o) (by simp) (by simp));have dq:Z (r<w3.heap.size/\E<w3.heap.size):=bZ ⟨Dr hD.o.d.lt D.o.size,Dr hD.o.m.lt D.o.size⟩;clear R T H1 H2 H3 bt ct;go_wp2_with (first
   | (go_at_call 30;refine HD.o.mono ?_;rintro e w5 ⟨st,F,rfl,d3,S,a5⟩;have O:=b8.o.keep S.o (by simp);have u1:w5.cell? (U (w3.heap.size+1) 9)=some (.pointer none):=O.cell 9;have u2:=O.frozen 9;have y6:w5.cell? (U w3.heap.size 6)=some (I 31):=(b9.o.keep S.o (by simp)).cell 6;have y7:w5.cell? (U w3.heap.size 7)=some (I 29):=(b9.o.keep S.o (by simp)).cell 7;have H:Z (DbF (w5.setCell (U (w3.heap.size+1) 9) (.pointer (V st))) (w3.heap.size+1) r E s a u ep (.pointer none) st F):=(bZ (by
    have ev:=b8.o.lt;have bp:=hk.o.size;have hb:=dq.o;have kx:aa [w3.heap.size+1] w5 (w5.setCell (U (w3.heap.size+1) 9) (.pointer (V st))):=(aa.refl _ _).setCell (.inl (by simp)) _;have dn:w3.heap.size+1∉F:=fun L=>by have:=a5.o _ L;omega
    exact⟨by rw[<-yU];exact O.set_ 9 _,d3.o.keep kx (fun y p=>by simp at p;subst p;exact dn),dn,fun L=>by have:=a5.o _ L;omega,fun L=>by have:=a5.o _ L;omega,(d0.o.keep S.o (by simp) (by simp)).keep kx (by simp;omega) (by simp;omega)⟩));have c4:Z (aa [] w3 (w5.setCell (U (w3.heap.size+1) 9) (.pointer (V st)))):=bZ ((hk.o.trans S.o).setCell (.inr (Nat.le_succ _)) _);have d2:Z (∀y∈F,w3.heap.size<=y/\y<(w5.setCell (U (w3.heap.size+1) 9) (.pointer (V st))).heap.size):=bZ (fun y p=>⟨by have:=a5.o y p;have:=hk.o.size;omega,H.o.sto.lt y p⟩);clear O)
   | (go_at_call 31;refine(cr.o _ H.o.d).mono ?_;rintro e w7 ⟨v7,rfl,bb,v⟩;obtain⟨A7,c7,rfl,_⟩:=Wa.dY.slice bb;obtain⟨_,a7⟩:=zR bb;rw[Df] at bb ⊢;replace a7:=bZ a7;replace v:=bZ v;clear bb))
  obtain⟨lo,ap⟩:∃lo,lo=(w5.setCell (U (w3.heap.size+1) 9) (.pointer (V st))).heap.size:=⟨_,rfl⟩;rw[<-ap] at a7 d2;have c0:=bZ (H.o.keep v.o);have c5:=bZ (c4.o.trans v.o);have cd:Z (w3.heap.size+1<lo/\lo<=w7.heap.size):=bZ ⟨by rw[ap];exact H.o.blk.lt,by rw[ap];exact v.o.size⟩;obtain⟨nr,X⟩:∃nr,cs.length=nr:=⟨_,rfl⟩;rw[X] at e4;rw[X];replace X:=bZ X;replace ap:=bZ ap;clear H c4 v cr HD S d3 a5 u1 u2 y6 y7 b8 b9 d0;go_loopw [92] (fun N wr=>∃(i:Nat) (C:List TS) (Y:Nat->Int) (F':List Nat),i<=nr/\N=I (i:Int)/\Z (eh C Y (cs.drop i) ts f)/\Z (Gd 52 C)/\Z (f9 Y)/\Z (DbF wr (w3.heap.size+1) r E s C Y ep (.pointer none) st F')/\
   Z (oy wr lo w7.heap.size A7 (cs.map Cm.bytes))/\Z (∀y∈F',w3.heap.size<=y/\(y<lo\/w7.heap.size<=y))/\Z (aa [] w3 wr)/\Z (w7.heap.size<=wr.heap.size)) (fun N _=>nr - (intOf N).toNat)
  case atStart=>exact⟨0,a,u,F,C3 _,rfl,M,ac,Q,c0,a7,bZ (fun y p=>by have:=d2.o y p;omega),c5,bZ (C9 _)⟩
  obtain⟨i,C,Y,F',hi,rfl,co,bh,bn,H,ch,a0,bk,bp⟩:=hrel;clear c0 a7 c5;by_cases db:i<nr
  ·have eg:(i:Int)<(nr:Int):=by omega
   have wi:IntKind.i64.wrap ((i:Int)+1)=(i:Int)+1:=C0 _ (by omega);obtain⟨cm,a8⟩:∃cm,cs[i]? =some cm:=⟨_,CT (by rw[X.o];exact db)⟩;have hdr:=dS a8;have c8:=co.o;rw[hdr] at c8;obtain⟨t1,⟨s1,s2,s3,s4,s5,s6,s7⟩,b6⟩:=c8;obtain⟨g,B,cc,rfl,_,_,x0,q1,q2,q3,_⟩:=ch.o i cm.bytes (by rw[De,a8];rfl);obtain⟨rl,cp⟩:∃rl,cm.bytes.length=rl:=⟨_,rfl⟩;rw[cp] at x0 q1;unfold maxLen at q2;have er:=bn.o cm.k s1;have H5:=bZ (Bs _ (w3.heap.size+1) r E s C t1 Y ep (.pointer none) st F' H.o bh.o cm.k s1 cm.txn s2 (by omega) cm.l (by omega) s5 s6 B rl cc q3 cp q1 (by omega));have e6:=bZ (bn.o.upd s2 s1 s3);replace b6:=bZ b6;replace s7:=bZ s7;clear q3 cp hdr a8 s5 s6 s4;go_wp2_with (go_at_call 32;refine H5.o.mono ?_;rintro e w8 ⟨F8,rfl,d1,z,e2⟩);go_roundw
   case rel=>exact⟨i+1,t1,upd Y cm.k cm.txn,F8,by omega,by go_num,b6,s7,e6,d1,bZ (ch.o.keep z.o (fun y p=>by
    rcases Db.1 p with rfl | p
    ·exact .inl cd.o.1
    ·exact(a0.o y p).2)),bZ (fun y p=>by
    rcases e2.o y p with h | h
    ·exact a0.o y h
    ·have:=bp.o;have:=cd.o;omega),bZ (bk.o.more z.o (fun y p=>by
    rcases Db.1 p with rfl | p
    ·exact .inr (by omega)
    exact .inr (a0.o y p).1)),bZ (Dc bp.o z.o.size)⟩
   case measure=>simp[intOf];omega
  obtain rfl:i=nr:=by omega
  have c3:=co.o;rw[DB (by rw[X.o];exact C9 _)] at c3;obtain⟨rfl,rfl⟩:=c3;have HR:=bZ (pU wr (w3.heap.size+1) r E s C Y ep (.pointer none) rfl (H.o.pre (lo:=fun y=>w.heap.size<=y) (fun y p=>by have:=(a0.o y p).1;have:=cq.o;omega)) hd ar e5 (fun j hj=>by have:=bn.o j hj;omega) e8 hw (bh.o.enc (by decide)) (fun t ht=>Dc (bh.o.2 t ht).len (by decide)));have da:Z (∀W e,jq (fun y=>w.heap.size<=y) wr (w3.heap.size+1) r E s C Y ep e W->∃m q,Wa.em (Wa.lN s 31 29) (ep+1) m/\q=Sn.bG s m (stB C Y)/\e=.returned (I q.2)/\Z (aa [r,E] w W)/\Z (Dk.aZ W r E q.1)/\(q.2=0->∃bl,Z (cx (fun y=>w.heap.size<=y) W (w3.heap.size+1) r E bl q.1 C Y m [] 0)/\w.heap.size<=bl)):=bZ (fun W e h=>by
   obtain⟨m,q,h1,h2,h3,h4,h5,h6⟩:=h;have ee:=cq.o;refine⟨m,q,h1,h2,h3,bZ (aa.more (F:=[r,E]) (D.o.trans bk.o).nil h4.o (fun y p=>by simp at p;rcases p with rfl | rfl | rfl;exact .inr (by omega);exact .inl (by simp);exact .inl (by simp))),h5,fun h0=>?_⟩;obtain⟨bl,h7,h8⟩:=h6 h0;exact⟨bl,h7,by have:=bk.o.size;omega⟩)
  clear co bh bn H ch a0 bk bp;go_upto_if 104 with (go_at_call 25;refine HR.o.mono ?_;rintro e w8 c9;obtain⟨m,q,L,hq,rfl,z,ba,K⟩:=da.o w8 e c9;clear c9;replace L:=bZ L;replace hq:=bZ hq;replace K:=bZ K);by_cases b0:q.2=0
  ·have e7:(q.2 !=0)=false:=by simp[b0]
   obtain⟨bl,d4,e3⟩:=K.o b0;have cj:Z (qw w r E s C Y ep (.returned (.tuple #[.pointer (V (w3.heap.size+1)),I 0])) w8):=bZ ⟨m,q,L.o,hq.o,z,ba,.inr ⟨b0,w3.heap.size+1,bl,rfl,d4,by have:=cq.o;omega,e3⟩⟩;clear L hq z ba d4;go_wp2_with fail;go_ret2;exact cj.o
  have e7:(q.2 !=0)=true:=by simpa using b0
  have cj:Z (qw w r E s C Y ep (.returned (.tuple #[.pointer none,I q.2])) w8):=bZ ⟨m,q,L.o,hq.o,z,ba,.inl ⟨b0,rfl⟩⟩;clear L hq z ba;go_wp2_with fail;go_ret2;exact cj.o
end Go.Proofs.YtmlmfpikncogpaaGreat
