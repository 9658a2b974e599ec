import Derived.Test.YtmlmfpikncogpaaGreatL31
import Derived.Test.YtmlmfpikncogpaaGreatL32
import Derived.Test.YtmlmfpikncogpaaGreatL33
namespace Go.Proofs.YtmlmfpikncogpaaGreat
open Go.RowKit
set_option linter.unusedSimpArgs false
set_option linter.unusedVariables false
set_option maxRecDepth 100000
set_option maxHeartbeats 16000000
structure TK (N:Nat) (t:TS):Prop where
 hc:1<=t.cols/\t.cols<=10
 asc:fN t.l
 ids:∀x∈t.l,1<=x.1/\x.1<t.next
 nx:1<=t.next/\t.next<=4611686018427387905
 rows:∀x∈t.l,x.2.length=t.cols/\∀v∈x.2,v.ok
 len:t.l.length<=N
def Gd (N:Nat) (ts:List TS):Prop:=ts.length<=4/\∀t∈ts,TK N t
theorem TK.tok {N:Nat} {t:TS} (h:TK N t) (a:N<=400):TOk t:=⟨⟨h.hc.1,by have:=h.hc.2;omega⟩,h.asc,h.ids,h.nx,h.rows,Dc h.len a⟩
theorem TK.mono {N M:Nat} {t:TS} (h:TK N t) (a:N<=M):TK M t:=⟨h.hc,h.asc,h.ids,h.nx,h.rows,Dc h.len a⟩
theorem Gd.mono {N M:Nat} {ts:List TS} (h:Gd N ts) (a:N<=M):Gd M ts:=⟨h.1,fun t b=>(h.2 t b).mono a⟩
theorem zS {N:Nat} {t:TS} (h:TK N t) {id:Int} {old b:List Val} (g:jY t id old b=0):TK (N+1) (eH t id b):=by
 obtain⟨m,n,f⟩:=qg g;unfold eH
 split
 ·have d:∀x∈bS id t.l,x∈t.l:=fun x a=>(eB.1 a).1;exact⟨h.hc,kU h.asc,fun x a=>h.ids x (d x a),h.nx,fun x a=>h.rows x (d x a),Dc (List.length_filter_le _ _) (Nat.le_succ_of_le h.len)⟩
 rename_i hne;obtain⟨j,k⟩:=d8.1 (f hne);have e:∀x∈fu id b t.l,x∈t.l\/x=(id,b):=fun x a=>(kF a).imp_left (fun h=>(eB.1 h).1);have i:=h.nx;refine⟨h.hc,rd h.asc,fun x a=>?_,⟨by dsimp only;omega,by dsimp only;omega⟩,fun x a=>?_,?_⟩
 ·rcases e x a with c | rfl
  ·have:=h.ids x c;dsimp only;omega
  dsimp only;omega
 ·rcases e x a with c | rfl
  ·exact h.rows x c
  exact⟨j,k⟩
 dsimp only;unfold fu;rw[kG (fun x a=>(eB.1 a).2)];exact Nat.succ_le_succ (Dc (List.length_filter_le _ _) h.len)
def apC (ts:List TS) (c:Chg):Option (List TS):=if chk ts c.t c.id c.old c.new=0 then (ts[c.t.toNat]?).map (fun t=>ts.set c.t.toNat (eH t c.id c.new)) else none
def aQ:List TS->List Chg->Option (List TS)
 | ts,[]=>some ts
 | ts,c::l=>match apC ts c with
  | some ts'=>aQ ts' l
  | none=>none
theorem tB {ts:List TS} {tb id:Int} {old a:List Val} (h:chk ts tb id old a=0):∃(i:Nat) (t:TS),tb=(i:Int)/\ts[i]? =some t/\jY t id old a=0:=by
 unfold chk at h
 split at h
 ·omega
 rename_i h0
 split at h
 ·omega
 rename_i t ht;exact⟨tb.toNat,t,by omega,ht,h⟩
theorem kX {ts a:List TS} {c:Chg} (h:apC ts c=some a):∃(i:Nat) (t:TS),c.t=(i:Int)/\ts[i]? =some t/\jY t c.id c.old c.new=0/\a=ts.set i (eH t c.id c.new):=by
 unfold apC at h
 split at h
 ·rename_i h0;obtain⟨i,t,b,d,e⟩:=tB h0;rw[b,EH,d] at h;simp only[EM,Option.some.injEq] at h;exact⟨i,t,b,d,e,h.symm⟩
 cases h
theorem r9 {ts:List TS} {c:Chg}:apC ts c=none↔chk ts c.t c.id c.old c.new≠0:=by
 unfold apC;constructor
 ·intro h a;rw[if_pos a] at h;obtain⟨i,t,b,d,e⟩:=tB a;rw[b,EH,d] at h;cases h
 intro h;rw[if_neg h]
theorem zj {N:Nat} {ts a:List TS} {c:Chg} (b:Gd N ts) (h:apC ts c=some a):Gd (N+1) a:=by
 obtain⟨i,t,_,d,e,rfl⟩:=kX h;refine⟨by rw[Em];exact b.1,fun x f=>?_⟩;rcases List.mem_or_eq_of_mem_set f with h | rfl
 ·exact(b.2 x h).mono (Nat.le_succ N)
 exact zS (b.2 t (CW d)) e
theorem gS:∀ {l:List Chg} {N:Nat} {ts a:List TS},Gd N ts->aQ ts l=some a->Gd (N+l.length) a
 | [],N,ts,a,hg,h=>by
  unfold aQ at h;injection h with h;subst h;exact hg
 | c::l,N,ts,a,hg,h=>by
  unfold aQ at h;cases b:apC ts c with
  | none=>rw[b] at h;cases h
  | some t2=>
   rw[b] at h;have:=gS (zj hg b) h;rw[Dj,Nat.add_comm l.length 1,<-Ej];exact this
theorem om {ts a:List TS}:∀ {l:List Chg},aQ ts l=some a->a.length=ts.length:=by
 intro l
 induction l generalizing ts with
 | nil=>intro h;unfold aQ at h;injection h with h;rw[h]
 | cons c l ih=>
  intro h;unfold aQ at h;cases b:apC ts c with
  | none=>rw[b] at h;cases h
  | some t2=>
   rw[b] at h;obtain⟨i,t,_,_,_,rfl⟩:=kX b;rw[ih h,Em]
theorem l4 {ts a:List TS}:∀ {l:List Chg},aQ ts l=some a->a.map (·.cols)=ts.map (·.cols):=by
 intro l
 induction l generalizing ts with
 | nil=>intro h;unfold aQ at h;injection h with h;rw[h]
 | cons c l ih=>
  intro h;unfold aQ at h;cases b:apC ts c with
  | none=>rw[b] at h;cases h
  | some t2=>
   rw[b] at h;obtain⟨i,t,_,e,_,rfl⟩:=kX b;rw[ih h,EV];have d:(eH t c.id c.new).cols=t.cols:=by unfold eH;split<;>rfl
   refine Ee (fun j=>?_);rw[List.getElem?_set]
   split
   ·rename_i hj;subst hj;rw[De,e,d];simp[(CV.1 e).1]
   rfl
theorem lZ {ts:List TS}:∀ {l:List Chg} {c:Chg} {a:List TS},aQ ts l=some a->aQ ts (l++[c])=apC a c:=by
 intro l
 induction l generalizing ts with
 | nil=>
  intro c a h;unfold aQ at h;injection h with h;subst h;rw[Dm];unfold aQ;cases apC ts c<;>rfl
 | cons d l ih=>
  intro c a h;unfold aQ at h;rw[D3];unfold aQ;cases b:apC ts d with
  | none=>rw[b] at h;cases h
  | some t3=>rw[b] at h;exact ih h
theorem lY {ts b:List TS}:∀ {l r:List Chg} {c:Chg},aQ ts l=some b->apC b c=none->aQ ts (l++c::r)=none:=by
 intro l
 induction l generalizing ts with
 | nil=>
  intro r c h a;unfold aQ at h;injection h with h;subst h;rw[Dm];unfold aQ;rw[a]
 | cons d l ih=>
  intro r c h a;unfold aQ at h;rw[D3];unfold aQ;cases e:apC ts d with
  | none=>rfl
  | some t3=>rw[e] at h;exact ih h a
theorem Ca {ts g:List TS} {c:Chg} {N:Nat} (k:Gd N ts) (h:apC ts c=some g) (p:c.old.length<=1000) (o:c.new.length<=1000):c.ok:=by
 obtain⟨i,t,m,j,a,_⟩:=kX h;obtain⟨u,w,r⟩:=qg a;have n:=(CV.1 j).1;have s:=k.1;have f:=k.2 t (CW j);refine⟨by rw[m];omega,by omega,p,o,fun v d=>?_,fun v d=>?_⟩
 ·have b:c.old≠[]:=fun h=>by rw[h] at d;cases d
  unfold jY at a
  split at a
  ·cases a
  split at a
  ·cases a
  split at a
  ·cases a
  rename_i h6;have e:cJ c.id t.l=some c.old:=Classical.byContradiction (fun q=>h6 ⟨b,q⟩);exact(f.rows _ (p8 e)).2 v d
 have b:c.new≠[]:=fun h=>by rw[h] at d;cases d
 exact(d8.1 (r b)).2 v d
theorem lM {l:List Chg}:∀ {ts b:List TS} {N:Nat},Gd N ts->aQ ts l=some b->(∀c∈l,c.old.length<=1000/\c.new.length<=1000)->∀c∈l,c.ok:=by
 induction l with
 | nil=>intro ts b N _ _ _ c a;cases a
 | cons d l ih=>
  intro ts b N g h f c a;unfold aQ at h;cases e:apC ts d with
  | none=>rw[e] at h;cases h
  | some t3=>
   rw[e] at h;rcases Db.1 a with rfl | a
   ·exact Ca g e (f _ (by simp)).1 (f _ (by simp)).2
   exact ih (zj g e) h (fun c a=>f c (by simp[a])) c a
theorem Aq (x:Int×List Val):16<=(gm x).length:=by
 unfold gm dX;rw[CU,CU,Cod.ag,Cod.ag];omega
theorem uF:∀l:Tab,16*l.length<=(cN l).length
 | []=>by simp[cN]
 | x::l=>by
  have a:=Aq x;have b:=uF l;have:cN (x::l)=gm x++cN l:=by simp[cN]
  rw[this,CU,Dj];omega
theorem yJ {ts:List TS} {t:TS} (h:t∈ts):(fP t).length<=(aN ts).length:=by
 obtain⟨i,b⟩:=DQ h;have a:=qa (ts:=ts) (i+1);rw[jn b,CU] at a;omega
theorem wu {ts:List TS} {b:Nat} (e:(aN ts).length<=b):∀t∈ts,16*t.l.length<=b:=fun t c=>by
 have a:=yJ c;have d:=uF t.l;unfold fP at a;rw[CU,CU,Cod.ag,Cod.ag] at a;omega
theorem Gd.tight {N:Nat} {ts:List TS} (h:Gd N ts) (c:(aN ts).length<=832):Gd 52 ts:=⟨h.1,fun t b=>by
 have a:=h.2 t b;have d:=wu c t b;exact⟨a.hc,a.asc,a.ids,a.nx,a.rows,by omega⟩⟩
theorem Ar {x:Int×List Val} {c:Nat} (h:x.2.length=c) (d:c<=10) (a:∀v∈x.2,v.ok):(gm x).length<=196:=by
 have b:=gL a;unfold gm;rw[CU,Cod.ag];omega
theorem uG {c:Nat} (a:c<=10):∀l:Tab,(∀x∈l,x.2.length=c/\∀v∈x.2,v.ok)->(cN l).length<=196*l.length
 | [],_=>by simp[cN]
 | x::l,h=>by
  have d:=Ar (h x (by simp)).1 a (h x (by simp)).2;have e:=uG a l (fun y b=>h y (by simp[b]));have:cN (x::l)=gm x++cN l:=by simp[cN]
  rw[this,CU,Dj];omega
theorem uE {N:Nat}:∀ts:List TS,(∀t∈ts,TK N t)->(aN ts).length<=(16+196*N)*ts.length
 | [],_=>by simp[aN]
 | t::ts,h=>by
  have a:=h t (by simp);have d:=uG a.hc.2 t.l a.rows;have e:=uE ts (fun y c=>h y (by simp[c]));have f:=a.len;have:aN (t::ts)=fP t++aN ts:=by simp[aN]
  have b:(fP t).length=16+(cN t.l).length:=by unfold fP;rw[CU,CU,Cod.ag,Cod.ag];omega
  rw[this,CU,Dj,b,Nat.mul_succ];omega
theorem Gd.enc {N:Nat} {ts:List TS} (h:Gd N ts) (d:N<=400):(aN ts).length<=1000000:=by
 have b:=uE ts h.2;have a:=h.1;have c:(16+196*N)*ts.length<=(16+196*400)*4:=Nat.mul_le_mul (by omega) a;omega
def stV (A:Option Addr) (n c:Nat) (f:Nat->Int) (a:Int):Array Value:=#[I 60,.slice A n c,I (f 0),I (f 1),I (f 2),I (f 3),I (f 4),I (f 5),I (f 6),I (f 7),I a]
def SSt (w:World) (X:List Nat) (ts:List TS) (f:Nat->Int) (a:Int) (v:Value):Prop:=∃A n c,v=.agg (stV A n c f a)/\ts.length=n/\bY w X A ts
theorem SSt.shift {w w':World} {X Y X':List Nat} {ts:List TS} {f:Nat->Int} {a:Int} {v:Value} (h:SSt w X ts f a v) (j:aa Y w w') (i:∀y∈Y,y∈X\/w.heap.size<=y) (g:∀x∈X',x∈X\/w.heap.size<=x):SSt w' X' ts f a v:=by
 obtain⟨A,n,c,b,d,e⟩:=h;exact⟨A,n,c,b,d,e.shift j i g⟩
theorem bW {A:Option Addr} {n c:Nat} {f:Nat->Int} {a:Int}:∀v∈(stV A n c f a).toList,v.oneCell'=true:=by
 intro v b;simp only[stV,Db,Dw,or_false] at b;rcases b with rfl | rfl | rfl | rfl | rfl | rfl | rfl | rfl | rfl | rfl | rfl<;>rfl
theorem aC {P:Program} {w:World} {c:Array Oper} {rest:List Oper} {o:Oper} {a:Act} {Q:Exit->Act->World->Prop} (d:Region.wanted o (yielded c a.tmps)=true) (e:TypeId) (x y:Operand) (n:o.op=.store e x y)
 (g:Nat) (p:a.eval x=.pointer (V g)) (t:TypeId) (cs b:Array Value) (q:a.eval y=.agg b) (k:Blk w g t cs)
 (l:(P.info? e).map (·.size)=some b.size) (f:b.size=cs.size) (i:∀v∈b.toList,v.oneCell'=true)
 (h:∀w',Z (Blk w' g t b)->Z (aa [g] w w')->wpList P c Q rest (a.put o.dst undef) w'):wpList P c Q (o::rest) a w:=by
  refine gp d e x y n g 0 p t cs.toList b.toList (by rw[q]) (by simpa using k) (by simpa using l) (by simp;omega) i (fun w' j m=>h w' (bZ ?_) (bZ m));have:=j.o;rw[jL _ _ (by simp;omega)] at this;simpa using this
theorem al {P:Program} {w:World} {b:Array Oper} {rest:List Oper} {o:Oper} {a:Act} {Q:Exit->Act->World->Prop} (e:Region.wanted o (yielded b a.tmps)=true) (c:TypeId) (x:Operand) (k:o.op=.load c x)
 (g:Nat) (m:a.eval x=.pointer (V g)) (t:TypeId) (cs:Array Value) (d:TypeDesc) (i:Blk w g t cs)
 (l:P.underlying c=some d) (f:(match d with | .struct _ | .array _ _=>true | _=>false)=true) (j:(P.info? c).map (·.size)=some cs.size)
 (h:wpList P b Q rest (a.put o.dst (.agg cs)) w):wpList P b Q (o::rest) a w:=by
  refine eE e c x k g 0 cs.size m t cs.toList d (by simpa using i) l f j (by simp) ?_;have:((cs.toList.drop 0).take cs.size).toArray=cs:=by rw[EE,C6 (by simp)]
  rw[this];exact h
theorem zN (w:World) (X:List Nat) (P:Nat->Prop) (A:Option Addr) (n c:Nat) (i:List (List Value)) (cols:List Nat) (u:dU w P A i cols) (B:cols.length=n) (q:n<=1000) (z:∀x∈X,x<w.heap.size):
 Calls Tryz.prog 6 #[.slice A n c,I 60] w (fun e w'=>∃v,e=.returned v/\SSt w' X (cols.map emp) (fun _=>0) 0 v/\aa [] w w'):=by
  have h:aa [] w (w.alloc (.cells #[I 0,.slice none 0 0,I 0,I 0,I 0,I 0,I 0,I 0,I 0,I 0,I 0] 36)):=(aa.refl [] w).alloc _;have s:=bZ (Blk.new w 36 #[I 0,.slice none 0 0,I 0,I 0,I 0,I 0,I 0,I 0,I 0,I 0,I 0]);have H:=bZ (xC _ (w.heap.size::X) P A n c i cols (u.move h (fun x _ C=>⟨by simp,C⟩)) B q (fun x d=>by rcases Db.1 d with rfl | d;exact s.o.lt;exact Dr (z x d) h.size));replace h:=bZ h;clear u;go_enter Tryz.func6,Tryz.ntmps6;go_wp2_with (first
   | (go_at_call 20;refine H.o.mono ?_;rintro e w1 ⟨j,r,c1,rfl,p,m,a⟩;have k:=bZ (s.o.keep a.o (by simp)))
   | (refine aC rfl 36 (.tmp 4) (.tmp 8) rfl w.heap.size rfl 36 _ (stV j r c1 (fun _=>0) 0) rfl k.o (by kernel_rfl) rfl bW ?_;intro w2 l b))
  refine bodyPost_ret (v:=.agg (stV j r c1 (fun _=>0) 0)) (jN (g:=w.heap.size) (t:=36) rfl rfl l.o Tryz.underlying36 rfl (by kernel_rfl)) rfl ?_;have D:aa [] w w2:=(h.o.trans a.o).more b.o (fun y f=>by simp at f;subst f;exact .inr (C9 _));refine⟨_,rfl,⟨j,r,c1,rfl,p,?_⟩,D⟩;exact m.o.shift b.o (fun y f=>.inl (by simp at f;simp[f])) (fun x d=>.inl (by simp[d]))
theorem Gd.bytes {N:Nat} {ts:List TS} (h:Gd N ts) (g:N<=400):∀t∈ts,t.l.length<=1000000/\t.cols<=1000/\(-9223372036854775808<=t.next/\t.next<9223372036854775808)/\∀x∈t.l,-9223372036854775808<=x.1/\x.1<9223372036854775808:=fun t b=>by
 have a:=h.2 t b;have d:=a.len;have e:=a.nx;have f:=a.hc;exact⟨by omega,by omega,by omega,fun x c=>by have:=a.ids x c;omega⟩
theorem Bp (w:World) (X:List Nat) (ts:List TS) (f:Nat->Int) (a:Int) (v:Value) (N:Nat) (h:SSt w X ts f a v) (g:Gd N ts) (l:N<=400):Calls Tryz.prog 23 #[v] w fun e w'=>e=.returned (I ((64+(aN ts).length:Nat):Int))/\Z (aa [] w w'):=by
 obtain⟨A,n,c,rfl,s,m⟩:=h;have j:aa [] w (w.alloc (.cells (stV A n c f a) 36)):=(aa.refl [] w).alloc _;have z:=(Blk.new w 36 (stV A n c f a)).cell 1;have p:=g.enc l;have H:=bZ (xF _ X A n c ts (m.shift j (by simp) (fun x t=>.inl t)) s (by have:=g.1;omega) p (g.bytes l));obtain⟨q,i⟩:∃q,(aN ts).length=q:=⟨_,rfl⟩;rw[i] at p ⊢;have r:IntKind.i64.wrap (64+(q:Int))=((64+q:Nat):Int):=by rw[C0 _ (by omega)];omega
 replace j:=bZ j;replace i:=bZ i;clear m g;unfold stV at*;go_enter Tryz.func23,Tryz.ntmps23;go_wp2_with (go_at_call 51;refine H.o.mono ?_;rintro e w1 ⟨u,y,c1,rfl,b⟩;have d:=b.o.len;rw[i.o] at d;subst d;have k:Z (aa [] w w1):=bZ (j.o.trans b.o.kp);clear b);go_ret;exact⟨by first | rfl | (rw[<-r];rfl),k⟩
theorem Bm (w:World) (X:List Nat) (A:Option Addr) (n c:Nat) (l:List Chg) (k:l.length=n) (r:n<=40) (b:∀c∈l,c.ok)
 (j:∀i x,l[i]? =some x->∃g off Ao co An cn,A=some (U g off)/\w.cell? (U g (off+i*4))=some (I x.t)/\w.cell? (U g (off+i*4+1))=some (I x.id)/\
 w.cell? (U g (off+i*4+2))=G Ao x.old.length co/\w.cell? (U g (off+i*4+3))=G An x.new.length cn/\ah w X Ao x.old/\ah w X An x.new):Calls Tryz.prog 34 #[.slice A n c] w fun e w'=>e=.returned (I ((16+(cM l).length:Nat):Int))/\Z (aa [] w w'):=by
  have H:=bZ (Bu w X A n c l k r b j);have p:(cM l).length<=2000000:=by
   have:=fa l b;unfold cM;rw[CU,Cod.ag];omega
  obtain⟨q,f⟩:∃q,(cM l).length=q:=⟨_,rfl⟩;rw[f] at p ⊢;have m:IntKind.i64.wrap (16+(q:Int))=((16+q:Nat):Int):=by rw[C0 _ (by omega)];omega
  replace f:=bZ f;clear j b k;go_enter Tryz.func34,Tryz.ntmps34;go_wp2_with (go_at_call 69;refine H.o.mono ?_;rintro e w1 ⟨s,u,c1,rfl,a⟩;have d:=a.o.len;rw[f.o] at d;subst d;have h:Z (aa [] w w1):=bZ a.o.kp;clear a);go_ret;exact⟨by first | rfl | (rw[<-m];rfl),h⟩
theorem zP (w:World) (A:Option Addr) (n c:Nat) (f:Nat->Int) (a:Int) (l:0<=a) (m:a<=10000000):Calls Tryz.prog 35 #[.agg (stV A n c f a)] w fun e w'=>e=.returned (I (1707 - a))/\Z (aa [] w w'):=by
 have i:aa [] w (w.alloc (.cells (stV A n c f a) 36)):=(aa.refl [] w).alloc _;have g:=bZ (Blk.new w 36 (stV A n c f a));have p:=g.o.cell 0;have H:=bZ (Sn.nj (w.alloc (.cells (stV A n c f a) 36)) 60 (by decide) (by decide));have k:IntKind.i64.wrap (1711 - a)=1711 - a:=C0 _ (by omega);have j:IntKind.i64.wrap (1711 - a - 4)=1707 - a:=by rw[C0 _ (by omega)];omega
 have d:Sn.bP 60=#[I 0,I 1,I 2,I 3,I 17,I 14,I 31,I 29]:=by rfl
 rw[d] at H;replace i:=bZ i;unfold stV at*;go_enter Tryz.func35,Tryz.ntmps35;go_wp2_with (go_at_call 52;refine H.o.mono ?_;rintro e w1 ⟨rfl,b⟩;have q:=(g.o.keep b (by simp)).cell 10;have r:(w1.alloc (.cells #[I 0,I 1,I 2,I 3,I 17,I 14,I 31,I 29] 124)).cell? (U w.heap.size 10)=some (I a):=((g.o.keep b (by simp)).alloc _).cell 10;have h:Z (aa [] w (w1.alloc (.cells #[I 0,I 1,I 2,I 3,I 17,I 14,I 31,I 29] 124))):=bZ ((i.o.trans b).alloc _);clear b);go_ret;exact⟨by first | rfl | (rw[<-j];rfl),h⟩
theorem Bl (w:World) (X:List Nat) (ts:List TS) (f:Nat->Int) (a:Int) (v:Value) (N:Nat) (h:SSt w X ts f a v) (u:Gd N ts) (C:N<=400):Calls Tryz.prog 8 #[v] w fun e w'=>e=.returned (.bool (decide (64+(aN ts).length<=896)))/\Z (aa [] w w'):=by
 obtain⟨A,n,c,rfl,D,t⟩:=h;have s:aa [] w (w.alloc (.cells (stV A n c f a) 36)):=(aa.refl [] w).alloc _;have y:=bZ (Blk.new w 36 (stV A n c f a));obtain⟨q,p⟩:∃q,64+(aN ts).length=q:=⟨_,rfl⟩;have z:Z (∀W,aa [] w W->Calls Tryz.prog 23 #[.agg (stV A n c f a)] W fun e w'=>e=.returned (I ((q:Nat):Int))/\Z (aa [] W w')):=bZ (fun W k=>by rw[<-p];exact Bp W X ts f a _ N ⟨A,n,c,rfl,D,t.shift k (by simp) (fun x F=>.inl F)⟩ u C);have B:Z (∀W,Calls Tryz.prog 24 #[I 60] W fun e w'=>e=.returned (I 896)/\aa [] W w'):=bZ (fun W=>Sn.xE W 60);rw[p];generalize E:w.alloc (.cells (stV A n c f a) 36)=w1 at*;have H:∀i,w1.drew.cell? (U w.heap.size i)=(stV A n c f a)[i]?:=fun i=>y.o.cell i;replace s:=bZ s;replace p:=bZ p;clear t u;unfold stV at*;go_enter Tryz.func8,Tryz.ntmps8;go_wp2_with fail;refine ad (S:=(fun w':World=>∀i,w'.cell? (U w.heap.size i)=#[I 60,.slice A n c,I (f 0),I (f 1),I (f 2),I (f 3),I (f 4),I (f 5),I (f 6),I (f 7),I a][i]?)) (n:=17) (by kernel_rfl) ?_;have m:Z (aa [] w w1.drew):=bZ s.o.drew;have b:=H;generalize w1.drew=wd at*;refine ord [0,1,2,3,4,5,6,7,8,9,11,12] ?_
 iterate 12 (refine tq b ?_;try simp only[PT,Y1,Y2,Y3])
 refine av ?_;refine J1 10 fun K j=>?_;dsimp only[Y1,Y2,Y3];go_simp;refine(z.o wd m.o).mono ?_;rintro e w2 ⟨rfl,l⟩;have b:∀i,w2.cell? (U w.heap.size i)=#[I 60,.slice A n c,I (f 0),I (f 1),I (f 2),I (f 3),I (f 4),I (f 5),I (f 6),I (f 7),I a][i]?:=fun i=>by
  have h:=b i;have g:w.heap.size<wd.heap.size:=block_lt_of_cell (b 0);rw[<-h];exact l.o.cell g (by simp)
 refine j _ _ (.inr b) ?_;clear j K
 try simp only[PT,Y1,Y2,Y3]
 refine J1 13 fun K j=>?_;dsimp only[Y1,Y2,Y3];go_simp;refine(B.o w2).mono ?_;rintro e w3 ⟨rfl,d⟩;have b:∀i,w3.cell? (U w.heap.size i)=#[I 60,.slice A n c,I (f 0),I (f 1),I (f 2),I (f 3),I (f 4),I (f 5),I (f 6),I (f 7),I a][i]?:=fun i=>by
  have h:=b i;have g:w.heap.size<w2.heap.size:=block_lt_of_cell (b 0);rw[<-h];exact d.cell g (by simp)
 replace d:=bZ d;refine j _ _ (.inr b) ?_;clear j K
 try simp only[PT,Y1,Y2,Y3]
 refine ord [14,15,16] ?_
 iterate 3 (refine tq b ?_;try simp only[PT,Y1,Y2,Y3])
 refine av ?_;refine JD ?_;have r:decide ((q:Int)<=896)=decide (q<=896):=decide_eq_decide.2 (by omega);replace r:=bZ r;go_wp2_with fail;go_ret;exact⟨by rw[<-r.o];first | rfl | simp,bZ (m.o.trans (l.o.trans d.o))⟩
end Go.Proofs.YtmlmfpikncogpaaGreat
