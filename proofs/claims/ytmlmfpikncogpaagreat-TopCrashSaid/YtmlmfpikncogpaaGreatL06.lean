import Derived.Lib.AppendStr
import Derived.Lib.ConvBytes
import Derived.Test.YtmlmfpikncogpaaGreatRows
import Derived.Test.YtmlmfpikncogpaaGreatL05
namespace Go.Proofs.YtmlmfpikncogpaaGreat
open Go.RowKit
set_option linter.unusedSimpArgs false
set_option linter.unusedVariables false
set_option maxRecDepth 100000
set_option maxHeartbeats 16000000
def Val.ok (v:Val):Prop:=
 (v.k=0/\v.n=0/\v.s=⟨#[]⟩)\/(v.k=1/\(-9223372036854775808<=v.n/\v.n<9223372036854775808)/\v.s=⟨#[]⟩)\/(v.k=2/\v.n=0/\v.s.size<=16/\∀b∈v.s.data.toList,32<=b.toNat/\b.toNat<=126)
def cP (v:Val):List UInt8:=if v.k=1 then 2::Cod.num v.n else if v.k=2 then 3::(v.s.data.toList++[0]) else [1]
theorem gM {v:Val} (h:v.ok):1<=(cP v).length/\(cP v).length<=18:=by
 unfold cP;rcases h with ⟨h,_⟩ | ⟨h,_⟩ | ⟨h,_,b,_⟩
 ·simp[h]
 ·rw[if_pos h,Dj,Cod.ag];omega
 have a:v.s.data.toList.length=v.s.size:=rfl;rw[if_neg (by omega),if_pos h,Dj,CU,a];simp only[Dj,D6];omega
def ca (r:List Val):List UInt8:=r.flatMap cP
theorem lV (a b:List Val):ca (a++b)=ca a++ca b:=by simp[ca]
theorem yK (v:Val):ca [v]=cP v:=by simp[ca]
theorem fF:∀(r:List Val),(∀v∈r,v.ok)->r.length<=(ca r).length/\(ca r).length<=18*r.length
 | [],_=>by simp[ca]
 | v::r,h=>by
  have b:=gM (h v (by simp));have c:=fF r (fun x a=>h x (DL _ a));have:ca (v::r)=cP v++ca r:=by simp[ca]
  rw[this,CU,Dj];omega
structure bC (w0:World) (A0:Option Addr) (w:World) (A:Option Addr) (n c:Nat) (l:List UInt8):Prop where
 own:w.ownsRow 0 5 1 (.slice A n c) n (l.map bv)
 kp:aa (fb A0) w0 w
 nw:∀g∈fb A,g∈fb A0\/w0.heap.size<=g
 len:l.length=n
theorem bC.start {w:World} {A:Option Addr} {n c:Nat} {l:List UInt8} (h:w.ownsRow 0 5 1 (.slice A n c) n (l.map bv)):bC w A w A n c l:=⟨h,aa.refl _ _,fun g a=>.inl a,by have:=h.1;simpa using this⟩
theorem bC.nil (w:World):bC w none w none 0 0 []:=bC.start (bQ w 0 5 1)
theorem bC.keep {d w w':World} {a A:Option Addr} {n c:Nat} {l:List UInt8} (h:bC d a w A n c l) (b:aa [] w w'):bC d a w' A n c l:=⟨ab h.own b,h.kp.trans b.nil,h.nw,h.len⟩
theorem bC.then_ {i w w1:World} {a A b:Option Addr} {n c f c1:Nat} {l e:List UInt8} (h:bC i a w A n c l) (k:bC w A w1 b f c1 e):bC i a w1 b f c1 e:=by
 have o:=h.kp.size;refine⟨k.own,h.kp.more k.kp (fun y m=>h.nw y m),fun g j=>?_,k.len⟩;rcases k.nw g j with d | d
 ·exact h.nw g d
 exact .inr (by omega)
theorem bC.app {p w d w':World} {e A b:Option Addr} {n c m c':Nat} {l k:List UInt8} (h:bC p e w A n c l) (j:aa [] w d) (f:Z (w'.ownsRow 0 5 1 (.slice b (n+m) c') (n+m) ((l++k).map bv))) (q:Z (d.grownBy w' (Value.slice A n c).ownBlock))
 (r:Z ((Value.slice b (n+m) c').ownBlock=(Value.slice A n c).ownBlock\/(Value.slice b (n+m) c').ownBlock=some d.heap.size)):bC p e w' b (n+m) c' (l++k):=by
  refine h.then_ ⟨f.o,j.nil.trans (aa.grown q.o (fun k t=>cW t)),fun g s=>?_,by have:=f.o.1;simpa using this⟩;have i:(Value.slice b (n+m) c').ownBlock=some g:=by rw[<-D8,iR];exact s
  rcases r.o with a | a
  ·rw[i] at a;exact .inl (cW a.symm)
  rw[i] at a;injection a with a;have:=j.size;exact .inr (by omega)
def bx (w:World) (A:Option Addr) (l:List UInt8) (e:Ending) (w':World):Prop:=∃a n' c',e=.returned (.slice a n' c')/\Z (bC w A w' a n' c' l)
theorem ik {w:World} {a:Nat} {b:UInt8} {v:Value} (f:v=bv b) (d:a=w.heap.size):Bts (w.alloc (.cells #[v] 5)) (V a) [b]:=
 .inr ⟨a,0,rfl,fun j u c=>by
  obtain rfl:j=0:=by have:=(CV.1 c).1;simpa using this
  have e:b=u:=by simpa using c
  rw[d,(Blk.new w 5 #[v]).cell,f,e];rfl⟩
theorem rx (w:World) (e:TypeId) (s:ByteArray):aa [] w (Lib.bytesWorld w e s):=
 ⟨by unfold Lib.bytesWorld;rfl,by unfold Lib.bytesWorld;rfl,by unfold Lib.bytesWorld;rfl,by rw[Lib.bytesWorld_size];omega,fun g a _=>Lib.bytesWorld_at_old w e s g a⟩
theorem qO (s:ByteArray):Lib.strCells s=s.data.toList.map bv:=rfl
theorem mf {P:Program} {w:World} (t u B base:Nat) (e:TypeId) (D:P.underlying t=some (.slice e)) (E:P.underlying u=some .string) (a:(P.info? e).map (fun i=>(i.zero,i.size,i.bytes))=some (some (.int .u8 0),1,1))
 (A:Option Addr) (n c:Nat) (l:List UInt8) (b:w.ownsRow base e 1 (.slice A n c) n (l.map bv)) (s:ByteArray) (z:n+s.size<=140737488355328) (h:base<=w.heap.size):
 ∃r c' w',(Builtin.append_ #[t,u] B #[.slice A n c,.string s]).run P w=.ok (.slice r (n+s.size) c') w'/\w'.ownsRow base e 1 (.slice r (n+s.size) c') (n+s.size) ((l++s.data.toList).map bv)/\
  w.grownBy w' (Value.slice A n c).ownBlock/\((Value.slice r (n+s.size) c').ownBlock=(Value.slice A n c).ownBlock\/(Value.slice r (n+s.size) c').ownBlock=some w.heap.size):=by
 cases v:P.info? e with
 | none=>simp[v] at a
 | some i=>
  simp only[v,EM,Option.some.injEq,Prod.mk.injEq] at a;obtain⟨J,q,k⟩:=a;have y:n+s.size<=maxLen:=by unfold maxLen;omega
  obtain⟨Y,w',o,K,N,O⟩:=Lib.run_append_own_string (P:=P) w base t u B e i D E v J q k (.slice A n c) n (l.map bv) b s y z h;obtain⟨r,c',rfl,_⟩:=aH K;refine⟨r,c',w',o,by rw[DX,<-qO];exact K,N,?_⟩;rcases b.2 with ⟨f,X⟩ | ⟨g,M,x,f,Q,S,W,R,F,H⟩
  ·by_cases T:s.size=0
   ·have C:=O.2 ⟨f,T⟩;rw[C,f];exact .inl rfl
   injection f with f C h8;subst f C h8;have d:=run_append_nil_string (P:=P) w t u B e i (.int .u8 0) D E v J s (by omega) (by omega) (by rw[k];omega);rw[d] at o;injection o with h9 _;injection h9 with h9;right;rw[<-h9];rfl
  injection f with f C h8;subst f;subst h8;have L:x.size=c:=by simpa using F
  by_cases p:n+s.size<=c
  ·have d:=Lib.run_append_room_string (P:=P) w t u B e i D E v q g n c x S s p (by omega);rw[d] at o;injection o with h9 _;injection h9 with h9;left;rw[<-h9];rfl
  have m:∀j u,(l.map bv)[j]? =some u->w.cell? (((U g 0):Addr).add j)=some u:=b.cells (g:=g) rfl;have d:=Lib.run_append_grow_string (P:=P) w t u B e i (.int .u8 0) D E v J (U g 0) n c (l.map bv) (by rw[q];simpa using b.1) m s (by omega) (by unfold maxLen at y;omega) (by rw[k];exact growslice_fits (by omega) (by omega));rw[d] at o;injection o with h9 _;injection h9 with h9;right;rw[<-h9];rfl
theorem fg {P:Program} {w:World} {o:Oper} {a:Act} {K:Act->World->Prop} {Q:Exit->Act->World->Prop} (k x:Operand) (t u:TypeId)
 (r:o.op=.call { callee:=.builtin .append,args:=#[k,x],argTypes:=#[t,u] }) (base:Nat) (e:TypeId)
 (z:P.underlying t=some (.slice e)) (B:P.underlying u=some .string) (d:(P.info? e).map (fun i=>(i.zero,i.size,i.bytes))=some (some (.int .u8 0),1,1))
 (A:Option Addr) (n c:Nat) (l:List UInt8) (y:a.eval k=.slice A n c) (j:w.ownsRow base e 1 (.slice A n c) n (l.map bv)) (s:ByteArray) (C:a.eval x=.string s) (g:n+s.size<=140737488355328) (b:base<=w.heap.size)
 (h:∀f c' w',Z (w'.ownsRow base e 1 (.slice f (n+s.size) c') (n+s.size) ((l++s.data.toList).map bv))->Z (w.grownBy w' (Value.slice A n c).ownBlock)->
  Z ((Value.slice f (n+s.size) c').ownBlock=(Value.slice A n c).ownBlock\/(Value.slice f (n+s.size) c').ownBlock=some w.heap.size)->K (a.put o.dst (.slice f (n+s.size) c')) w'):
 Oper.wp P o a w K Q:=by
  obtain⟨f,c',w',v,m,p,q⟩:=mf (P:=P) (w:=w) t u o.type base e z B d A n c l j s g b;unfold Oper.wp execOp;simp only[r,resolve,invoke,builtin,DM,DZ,DH,Eb,D1,Er,y,C,v];exact h f c' w' (bZ m) (bZ p) (bZ q)
theorem fh {P:Program} {w:World} {f:Array Oper} {rest:List Oper} {o:Oper} {a:Act} {Q:Exit->Act->World->Prop} (m:Region.wanted o (yielded f a.tmps)=true) (p x:Operand) (t u:TypeId)
 (z:o.op=.call { callee:=.builtin .append,args:=#[p,x],argTypes:=#[t,u] }) (base:Nat) (e:TypeId)
 (C:P.underlying t=some (.slice e)) (D:P.underlying u=some .string) (d:(P.info? e).map (fun i=>(i.zero,i.size,i.bytes))=some (some (.int .u8 0),1,1))
 (A:Option Addr) (n c:Nat) (l:List UInt8) (B:a.eval p=.slice A n c) (k:w.ownsRow base e 1 (.slice A n c) n (l.map bv)) (s:ByteArray) (E:a.eval x=.string s) (j:n+s.size<=140737488355328) (b:base<=w.heap.size)
 (h:∀g c' w',Z (w'.ownsRow base e 1 (.slice g (n+s.size) c') (n+s.size) ((l++s.data.toList).map bv))->Z (w.grownBy w' (Value.slice A n c).ownBlock)->
  Z ((Value.slice g (n+s.size) c').ownBlock=(Value.slice A n c).ownBlock\/(Value.slice g (n+s.size) c').ownBlock=some w.heap.size)->wpList P f Q rest (a.put o.dst (.slice g (n+s.size) c')) w'):
 wpList P f Q (o::rest) a w:=
 aO m fun _ y=>fg p x t u z base e C D d A n c l B k s E j b (fun g c' w' q r v=>y _ _ (h g c' w' q r v))
theorem cY:(Tryz.prog.info? 5).map (fun i=>(i.zero,i.size,i.bytes))=some (some (.int .u8 0),1,1):=by kernel_rfl
theorem zl (w:World) (A:Option Addr) (n c:Nat) (l:List UInt8) (e:w.ownsRow 0 5 1 (.slice A n c) n (l.map bv)) (j:n<=1000000):
 Calls Tryz.prog 136 #[.slice A n c,.agg #[I 0,I 0,.string ⟨#[]⟩]] w (bx w A (l++[1])):=by
  have a:=bZ (bC.start e);have i:=a.o.len;subst i;clear e;go_enter Tryz.func136,Tryz.ntmps136;go_wp2_with (at_builtin;(refine ai rfl (.tmp 46) (.tmp 47) 79 rfl 0 5 Tryz.underlying79 cY _ l [1] rfl (ab (ab a.o.own ((aa.refl [] _).alloc _)) ((aa.refl [] _).alloc _)) _ 1 1 rfl rfl (ik (by rfl) (by simp)) (by simp;omega) (C3 _) ?_);intro d c1 w1 f g h);have b:Z (bx w A (l++[1]) (.returned (.slice d (l.length+1) c1)) w1):=bZ ⟨d,_,c1,rfl,bZ (a.o.app (((aa.refl [] w).alloc _).alloc _) f g h)⟩;clear f g h;go_ret;exact b.o
theorem AR (w:World) (A:Option Addr) (n c:Nat) (l:List UInt8) (x:Int) (u: -9223372036854775808<=x/\x<9223372036854775808) (s:w.ownsRow 0 5 1 (.slice A n c) n (l.map bv)) (N:n<=1000000):
 Calls Tryz.prog 136 #[.slice A n c,.agg #[I 1,I x,.string ⟨#[]⟩]] w (bx w A (l++(2::Cod.num x))):=by
  have m:=bZ (bC.start s);have L:=m.o.len;subst L;have p:Z ((⟨(Cod.num x).toArray⟩:ByteArray).size=8):=bZ (by simp[ByteArray.size,Cod.ag]);replace s:=bZ s;replace u:=bZ u;have E:=((aa.refl [] w).alloc (.cells #[I 1,I x,.string ⟨#[]⟩] 60)).drew;have a:=bZ (m.o.keep E);have d:(w.alloc (.cells #[I 1,I x,.string ⟨#[]⟩] 60)).drew.cell? (U w.heap.size 1)=some (I x):=((Blk.new w 60 #[I 1,I x,.string ⟨#[]⟩]).drew).cell 1;obtain⟨t,i⟩:∃g,g=w.heap.size:=⟨_,rfl⟩;rw[<-i] at d;replace i:=bZ i;clear E;go_enter Tryz.func136,Tryz.ntmps136;go_wp2_with fail
  try rw[<-i.o]
  refine ad (S:=(fun w':World=>w'.cell? (U t 1)=some (I x))) (n:=5) (by kernel_rfl) ?_;generalize (w.alloc (.cells #[I 1,I x,.string ⟨#[]⟩] 60)).drew=wd at*;refine ord [0,3,4] ?_
  iterate 3 (refine tq d ?_;try simp only[PT,Y1,Y2,Y3])
  refine av ?_;refine J1 1 fun K b=>?_;dsimp only[Y1,Y2,Y3];go_simp;obtain⟨H,f⟩:∃g,g=wd.heap.size:=⟨_,rfl⟩;have v:aa [] wd (wd.alloc (.cells #[.int .u8 2] 5)):=(aa.refl [] wd).alloc _;have z:Z (Bts (wd.alloc (.cells #[.int .u8 2] 5)) (V H) [2]):=bZ (ik (by rfl) f);replace a:=bZ (a.o.keep v);have d:=v.cellEq d (by simp);refine b _ _ (.inr d) ?_;clear b K v;rw[<-f];clear f;generalize wd.alloc (.cells #[.int .u8 2] 5)=wz at*
  try simp only[PT,Y1,Y2,Y3]
  refine J1 2 fun K b=>?_;dsimp only[Y1,Y2,Y3];refine jy (.tmp 11) (.tmp 12) 79 (by rfl) 0 5 Tryz.underlying79 cY _ l [2] (by rfl) a.o.own _ 1 1 (by rfl) rfl z.o (by simp;omega) (C3 _) ?_;intro F c1 w1 q h r;have C:=bZ (aa.grown (X:=fb A) h.o (fun k J=>cW J));replace a:=bZ (a.o.app (aa.refl [] _) q h r);have d:=C.o.cellEq d (fun M=>by have:=(aw s.o M).2.1;rw[<-i.o] at this;dsimp only at this;omega);refine b _ _ (.inr d) ?_;clear b K q h r C z
  try simp only[PT,Y1,Y2,Y3]
  refine J1 5 fun K b=>?_;dsimp only[Y1,Y2,Y3];go_simp;refine(dB _ x u.o).mono ?_;rintro e w2 ⟨rfl,D⟩;replace a:=bZ (a.o.keep D.o);refine b _ _ (.inl (by omega)) ?_;clear b K D
  try simp only[PT,Y1,Y2,Y3]
  refine J1 6 fun K b=>?_;dsimp only[Y1,Y2,Y3];refine fg (.tmp 13) (.tmp 16) 79 9 (by rfl) 0 5 Tryz.underlying79 Tryz.underlying9 cY F (l.length+1) c1 (l++[2]) (by rfl) a.o.own _ (by rfl) (by rw[p.o];omega) (C3 _) ?_;rw[p.o];intro y B w3 q h r;replace a:=bZ (a.o.app (aa.refl [] _) q h r);refine b _ _ (.inl (by omega)) ?_;clear b K q h r
  try simp only[PT,Y1,Y2,Y3]
  refine JQ 7 ?_
  try simp only[PT,Y1,Y2,Y3]
  refine JD ?_;have j:Z (bx w A (l++(2::Cod.num x)) (.returned (.slice y (l.length+1+8) B)) w3):=bZ ⟨y,_,B,rfl,bZ (by have:=a.o;rw[Dd] at this;exact this)⟩;clear a;go_wp2_with fail;go_ret;exact j.o
theorem j5 {s:ByteArray} {j:Nat} (h:j<s.size):s.data.toList.take (j+1)=s.data.toList.take j++[s[j]'h]:=by
 rw[Dq,CT (by rw[DO];exact h)];rfl
theorem zk (w:World) (A:Option Addr) (n c:Nat) (l:List UInt8) (s:ByteArray) (hs:s.size<=16) (hp:∀b∈s.data.toList,32<=b.toNat/\b.toNat<=126) (hA:w.ownsRow 0 5 1 (.slice A n c) n (l.map bv)) (hb:n<=1000000):
 Calls Tryz.prog 136 #[.slice A n c,.agg #[I 2,I 0,.string s]] w (bx w A (l++(3::(s.data.toList++[0])))):=by
  have a:=bZ (bC.start hA);have hl:=a.o.len;subst hl;clear hA;replace hp:=bZ hp;have T:=(((Blk.new w 60 #[I 2,I 0,.string s]).alloc (.cells #[.int .u8 3] 5)).cell 2);obtain⟨a3,hG⟩:∃g,g=w.heap.size:=⟨_,rfl⟩;have a0:∀w1:World,(convert 9 79 (.string s)).run Tryz.prog w1=.ok (.slice (V w1.heap.size) s.size (grownCap w1 s.size 0 5)) (Lib.bytesWorld w1 5 s)   :=fun w1=>Lib.run_convert_string_bytes w1 9 79 5 s Tryz.underlying9 Tryz.underlying79 Tryz.underlying5;go_enter Tryz.func136,Tryz.ntmps136;go_wp2_with (at_builtin;refine ai rfl (.tmp 20) (.tmp 21) 79 rfl 0 5 Tryz.underlying79 cY _ l [3] rfl (ab (ab a.o.own ((aa.refl [] _).alloc _)) ((aa.refl [] _).alloc _)) _ 1 1 rfl rfl (ik (by rfl) (by simp)) (by simp;omega) (C3 _) ?_;intro A1 c1 w1 v r u;have k1:=bZ (aa.grown (X:=fb A) r.o (fun k hk=>cW hk));have x2:=k1.o.cellEq T (fun D=>by have q:=(aw a.o.own D).2.1;dsimp only at q;omega));have d:=bZ (a.o.app (((aa.refl [] w).alloc _).alloc _) v r u);have kb:=rx w1 5 s;have f:Z (∀j (p:j<s.size),(Lib.bytesWorld w1 5 s).cell? (U w1.heap.size j)=some (.int .u8 ((s[j]'p).toNat:Int))):=bZ (fun j p=>by
   rw[Lib.bytesWorld_cell w1 5 s j p,Ec,CT (by rw[DO];exact p)];rfl)
  have L:=bZ (d.o.keep kb);have i:Z (∀y∈fb A1,y≠w1.heap.size):=bZ (fun y hy D=>by have q:=(aw d.o.own hy).2.1;omega);obtain⟨cs,N⟩:∃x,x=grownCap w1 s.size 0 5:=⟨_,rfl⟩;rw[<-N];clear v r u k1 T a d N kb a0 x2;generalize Lib.bytesWorld w1 5 s=wb at*;obtain⟨H,P⟩:∃g,g=w1.heap.size:=⟨_,rfl⟩;rw[<-P] at f i ⊢;clear P hG;go_loopw [0,27] (fun W B wr=>∃(j t:Nat) (E:Option Addr) (Y:Nat),j<=s.size/\B=I (j:Int)/\W=.slice E t Y/\Z (bC w A wr E t Y (l++3::s.data.toList.take j))/\Z (∀j (p:j<s.size),wr.cell? (U H j)=some (.int .u8 ((s[j]'p).toNat:Int)))/\Z (∀y∈fb E,y≠H)) (fun _ B _=>s.size - (intOf B).toNat)
  case atStart=>exact⟨0,_,A1,c1,C3 _,rfl,rfl,by simpa using L,f,i⟩
  clear f i L;obtain⟨j,t,E,Y,p,rfl,rfl,d,f,i⟩:=hrel;have Q:=d.o.len;rw[CU,Dj,CY] at Q;have a2:t<=2000000:=by have:s.data.toList.length=s.size:=rfl;omega
  clear Q;by_cases h:j<s.size
  ·have a7:(j:Int)<(s.size:Int):=by omega
   have hc:=f.o j h;have a:=j5 h;have S:=hp.o (s[j]'h) (by have q:s[j]'h=s.data.toList[j]'(by rw[DO];exact h):=rfl;rw[q];exact List.getElem_mem _);obtain⟨b,J⟩:∃b,b=s[j]'h:=⟨_,rfl⟩;rw[<-J] at hc a S;have a4:((b.toNat:Int)<=1)=False:=eq_false (by omega);have a5:decide ((b.toNat:Int)<=1)=false:=decide_eq_false (by omega);have a6:(b.toNat<=1)=False:=eq_false (by omega);replace a:=bZ a;have a1:Z (H<wr.heap.size):=bZ (by have:=block_lt_of_cell hc;simpa using this);have m:=bZ (d.o.keep ((aa.refl [] wr).alloc (.cells #[.int .u8 (b.toNat:Int)] 5)));have e:Z ((l++3::s.data.toList.take j).length=t):=bZ d.o.len;have wj:IntKind.i64.wrap ((j:Int)+1)=(j:Int)+1:=C0 _ (by omega);clear J S;go_wp2_with (at_builtin;go_loud (refine ai rfl (.tmp 38) (.tmp 40) 79 rfl 0 5 Tryz.underlying79 cY _ (l++3::s.data.toList.take j) [b] rfl (by rw[e.o];exact m.o.own) _ 1 1 rfl rfl (ik (by rfl) (by simp)) (by rw[e.o];simp;omega) (C3 _) ?_;rw[e.o]);intro C F w3 v r u);have k3:=bZ (((aa.refl [] wr).alloc (.cells #[.int .u8 (b.toNat:Int)] 5)).nil.trans (aa.grown (X:=fb E) r.o (fun k hk=>cW hk)));have K:=bZ (m.o.app (aa.refl [] _) v r u);have R:Z (∀y∈fb C,y≠H):=bZ (fun y hy D=>by
    have h4:(Value.slice C (t+1) F).ownBlock=some y:=by rw[<-D8,iR];exact hy
    rcases u.o with z | z
    ·rw[h4] at z;exact i.o y (cW z.symm) D
    rw[h4] at z;injection z with z;have:=a1.o;simp at z;omega)
   have M:Z (∀j (p:j<s.size),w3.cell? (U H j)=some (.int .u8 ((s[j]'p).toNat:Int))):=bZ (fun j p=>k3.o.cellEq (f.o j p) (fun D=>i.o _ D rfl));clear v r u k3;go_wp2_with fail;go_roundw
   case rel=>exact⟨j+1,t+1,C,F,by omega,by go_num,rfl,bZ (by rw[a.o];have q:=K.o;rw[Dd,D3] at q;exact q),M,R⟩
   case measure=>simp[intOf];omega
  obtain rfl:j=s.size:=by omega
  have m:=bZ (d.o.keep ((aa.refl [] wr).alloc (.cells #[.int .u8 0] 5)));have e:Z ((l++3::s.data.toList.take s.size).length=t):=bZ d.o.len;go_wp2_with (at_builtin;refine ai rfl (.tmp 43) (.tmp 44) 79 rfl 0 5 Tryz.underlying79 cY _ (l++3::s.data.toList.take s.size) [0] rfl (by rw[e.o];exact m.o.own) _ 1 1 rfl rfl (ik (by rfl) (by simp)) (by rw[e.o];simp;omega) (C3 _) ?_;rw[e.o];intro C F w3 v r u);have O:Z (bx w A (l++(3::(s.data.toList++[0]))) (.returned (.slice C (t+1) F)) w3):=bZ ⟨C,_,F,rfl,bZ (by have q:=m.o.app (aa.refl [] _) v r u;rw[Dd,D3,C6 (by rw[DO];exact C9 _)] at q;exact q)⟩;clear v r u;go_wp2_with fail;go_ret;exact O.o
def jJ (v:Val):Value:=.agg #[I v.k,I v.n,.string v.s]
theorem qr (w:World) (A:Option Addr) (n c:Nat) (l:List UInt8) (v:Val) (g:v.ok) (a:w.ownsRow 0 5 1 (.slice A n c) n (l.map bv)) (b:n<=1000000):
 Calls Tryz.prog 136 #[.slice A n c,jJ v] w (bx w A (l++cP v)):=by
  obtain⟨k,m,s⟩:=v;unfold jJ cP;rcases g with ⟨rfl,rfl,rfl⟩ | ⟨rfl,d,rfl⟩ | ⟨rfl,rfl,f,e⟩
  ·exact zl w A n c l a b
  ·exact AR w A n c l m d a b
  exact zk w A n c l s f e a b
namespace Dk
structure St where
 n:Nat
 mem:List UInt8
 down:Bool
 left:Int
 bytes:Int
 writes:Int
structure aZ (w:World) (bd bs:Nat) (s:St):Prop where
 d:Blk w bd 78 #[.slice (V bs) s.n s.n,.bool s.down,I s.left,I s.bytes,I s.writes]
 m:Blk w bs 187 (s.mem.map bv).toArray
 ne:bd≠bs
 len:s.mem.length=64*s.n
 n:s.n<=65536
 b0:0<=s.bytes
 b1:s.bytes<=64
 l0:0<=s.left
 l1:s.left<=9223372036854775807
theorem aZ.keep {w w':World} {a b:Nat} {s:St} {X:List Nat} (h:aZ w a b s) (c:aa X w w') (e:a∉X) (f:b∉X):aZ w' a b s:=
 ⟨h.d.keep c e,h.m.keep c f,h.ne,h.len,h.n,h.b0,h.b1,h.l0,h.l1⟩
def cKd (s:St) (i:Int):Int:=if s.down then 15 else if i<0\/(s.n:Int)<=i then 1 else 0
theorem dD (w:World) (f h:Nat) (s:St) (i:Int) (b:aZ w f h s):
 Calls Tryz.prog 91 #[.pointer (V f),I i] w fun e w'=>e=.returned (I (cKd s i))/\w=w':=by
  have k:=b.d.cell;have l:=b.n;obtain⟨n,c,down,left,bytes,writes⟩:=s;obtain⟨r,a⟩:∃r,r=cKd ⟨n,c,down,left,bytes,writes⟩ i:=⟨_,rfl⟩;rw[<-a];clear b;simp only[cKd] at a;have a:=bZ a;cases down
  ·by_cases g:i<0
   ·go_enter Tryz.func91,Tryz.ntmps91;go_wp2;go_ret;have:=a.o;exact⟨by simp[this,g],rfl⟩
   by_cases j:(n:Int)<=i
   all_goals
    go_enter Tryz.func91,Tryz.ntmps91;go_wp2;go_ret;have:=a.o;exact⟨by simp[this,g,j],rfl⟩
  go_enter Tryz.func91,Tryz.ntmps91;go_wp2;go_ret;have:=a.o;exact⟨by simp[this],rfl⟩
theorem cU (w:World) (a b:Nat) (s:St) (c:aZ w a b s):
 Calls Tryz.prog 28 #[.pointer (V a)] w fun e w'=>e=.returned (I s.n)/\w=w':=by
  have f:=c.d.cell;go_enter Tryz.func28,Tryz.ntmps28;go_wp2;go_ret;exact⟨rfl,rfl⟩
theorem eb (w:World) (a b:Nat) (s:St) (c:aZ w a b s):
 Calls Tryz.prog 62 #[.pointer (V a)] w fun e w'=>e=.returned (.bool s.down)/\w=w':=by
  have f:=c.d.cell;go_enter Tryz.func62,Tryz.ntmps62;go_wp2;go_ret;exact⟨rfl,rfl⟩
def fail (s:St):St:= { s with down:=true,left:=0 }
def bB (s:St):St:= { s with down:=false }
def arm (s:St) (k b:Int):St:=if s.down then s else { s with left:=max k 0,bytes:=min (max b 0) 64 }
theorem nS (w:World) (b c:Nat) (s:St) (a:aZ w b c s):
 Calls Tryz.prog 12 #[.pointer (V b)] w fun e w'=>e=.returned (.tuple #[])/\aZ w' b c (fail s)/\aa [b] w w':=by
  have f:=a.d.cell;have g:=a.d.frozen;go_enter Tryz.func12,Tryz.ntmps12;go_wp2;go_end0;refine⟨rfl,⟨?_,?_,a.ne,a.len,a.n,a.b0,a.b1,by simp[fail],by simp[fail]⟩,?_⟩
  ·exact(a.d.set_ 1 _).set_ 2 _
  ·exact(a.m.far (fun h=>a.ne h.symm) _).far (fun h=>a.ne h.symm) _
  exact((aa.refl _ _).setCell (by simp) _).setCell (by simp) _
theorem iH (w:World) (b c:Nat) (s:St) (a:aZ w b c s):
 Calls Tryz.prog 17 #[.pointer (V b)] w fun e w'=>e=.returned (.tuple #[])/\aZ w' b c (bB s)/\aa [b] w w':=by
  have f:=a.d.cell;have g:=a.d.frozen;go_enter Tryz.func17,Tryz.ntmps17;go_wp2;go_end0;refine⟨rfl,⟨?_,?_,a.ne,a.len,a.n,a.b0,a.b1,a.l0,a.l1⟩,?_⟩
  ·exact a.d.set_ 1 _
  ·exact a.m.far (fun h=>a.ne h.symm) _
  exact(aa.refl _ _).setCell (by simp) _
theorem AM (w:World) (c f:Nat) (s:St) (k b:Int) (a:aZ w c f s) (q:k<=9223372036854775807):
 Calls Tryz.prog 9 #[.pointer (V c),I k,I b] w fun e w'=>e=.returned (.tuple #[])/\aZ w' c f (arm s k b)/\aa [c] w w':=by
  have o:=a.d.cell;have p:=a.d.frozen;obtain⟨n,g,down,left,bytes,writes⟩:=s;cases down
  ·by_cases i:k<0<;>by_cases j:b<0<;>by_cases l:64<b
   all_goals first | omega | skip
   all_goals
    go_enter Tryz.func9,Tryz.ntmps9;go_wp2;go_end0;refine⟨rfl,⟨?_,?_,a.ne,a.len,a.n,?_,?_,?_,?_⟩,?_⟩
    ·have:=(a.d.set_ 2 (I (max k 0))).set_ 3 (I (min (max b 0) 64));simp only[arm,EW,if_false]
     revert this
     rw[show max k 0=_ from by first | exact Int.max_eq_left (by omega) | exact Int.max_eq_right (by omega)];rw[show min (max b 0) 64=_ from by first | exact Int.min_eq_right (by omega) | exact(Int.min_eq_left (by omega)).trans (by first | exact Int.max_eq_left (by omega) | exact Int.max_eq_right (by omega))];exact id
    ·exact(a.m.far (fun h=>a.ne h.symm) _).far (fun h=>a.ne h.symm) _
    ·simp only[arm,EW,if_false];omega
    ·simp only[arm,EW,if_false];omega
    ·simp only[arm,EW,if_false];omega
    ·simp only[arm,EW,if_false];omega
    exact((aa.refl _ _).setCell (by simp) _).setCell (by simp) _
  go_enter Tryz.func9,Tryz.ntmps9;go_wp2;go_end0;exact⟨rfl,a,aa.refl _ _⟩
def wr (s:St) (i:Int) (b:List UInt8):St×Int:=
 if cKd s i≠0 then (s,cKd s i)
 else if b.length≠64 then (s,1)
 else if s.left=1 then (fail { s with mem:=splice s.mem (64*i.toNat) (b.take s.bytes.toNat) },15)
 else ({ s with mem:=splice s.mem (64*i.toNat) b,left:=if 1<s.left then s.left - 1 else s.left,writes:=s.writes+1 },0)
theorem vh (w:World) (a d:Nat) (s:St) (i:Int) (A:Option Addr) (b:List UInt8) (c:Nat) (f:aZ w a d s) (g:cKd s i≠0):
 Calls Tryz.prog 79 #[.pointer (V a),I i,.slice A b.length c] w fun e w'=>e=.returned (I (cKd s i))/\w=w':=by
  have h:(cKd s i !=0)=true:=by simpa using g
  clear g;have H:=dD w a d s i f;clear f;have H:=bZ H;go_enter Tryz.func79,Tryz.ntmps79;go_wp2_with (go_at_call 91;refine H.o.mono ?_;rintro e w' ⟨rfl,rfl⟩);go_ret;exact⟨rfl,rfl⟩
theorem wV (w:World) (u z:Nat) (s:St) (i:Nat) (A:Option Addr) (b:List UInt8) (c:Nat) (x:aZ w u z s) (M:cKd s i=0) (hi:i<s.n)
 (J:Bts w A b) (H:∀a,A=some a->a.block≠u) (K:b.length=64) (L:s.left≠1) (W:0<=s.writes) (hw:s.writes<=1000000):
  Calls Tryz.prog 79 #[.pointer (V u),I i,.slice A b.length c] w fun e w'=>e=.returned (I 0)/\ 
   aZ w' u z { s with mem:=splice s.mem (64*i) b,left:=if 1<s.left then s.left - 1 else s.left,writes:=s.writes+1 }/\aa [u,z] w w':=by
 have T:(cKd s i !=0)=false:=by simpa using M
 clear M
 have F:=bZ (dD w u z s i x)
 have Y:=x.d.cell
 have hf:=x.d.frozen
 have Q:=x.l0
 have R:=x.l1
 have hn:=x.n
 have f:=bZ x
 have E:=bZ J
 have N:=bZ H
 have B:=bZ K
 clear x J H K
 have P:((b.length:Int) !=64)=false:=by rw[B.o];rfl
 have S:(s.left==1)=false:=by simpa using L
 clear L
 by_cases X:1<s.left
 ·have v:aa [u] w (w.setCell (U u 2) (I (s.left - 1))):=(aa.refl _ _).setCell (by simp) _;have q:=E.o.keep v (by intro a O;simpa using N.o a O);have t:=f.o.m.far (p:=(U u 2)) (fun h=>f.o.ne h.symm) (I (s.left - 1));have r:=f.o.d.set_ 2 (I (s.left - 1));replace q:=bZ q;replace t:=bZ t;replace r:=bZ r;replace v:=bZ v;go_enter Tryz.func79,Tryz.ntmps79;go_wp2_with (first 
   | (go_at_call 91;refine F.o.mono ?_;rintro e w' ⟨rfl,rfl⟩)
   | (refine dx rfl (.tmp 56) (.tmp 57) 79 79 rfl 5 Tryz.underlying79 (by kernel_rfl) z (i*64) 64 64 A b b.length c rfl rfl rfl q.o s.mem 187 t.o (by have:=f.o.len;omega) ?_;intro w1 y j;have g:=r.o.keep j (by simpa using f.o.ne);have C:=g.cell;have D:=g.frozen;replace g:=bZ g;replace j:=bZ j))
  go_ret;have l:(splice s.mem (i*64) (b.take 64)).length=s.mem.length:=length_splice _ _ _ (by have:=f.o.len;rw[CY];omega);have k:b.take 64=b:=C6 (by rw[B.o];omega);refine⟨rfl,⟨?_,?_,f.o.ne,?_,f.o.n,f.o.b0,f.o.b1,?_,?_⟩,?_⟩
  ·exact g.o.set_ 4 _
  ·have:=y.o.far (p:=(U u 4)) (fun h=>f.o.ne h.symm) (I (s.writes+1));rw[k,EJ] at this;exact this
  ·rw[k] at l;show (splice s.mem (64*i) b).length=_;rw[EJ 64 i,l];exact f.o.len
  ·show 0<=s.left - 1;omega
  ·show s.left - 1<=_;omega
  exact((v.o.mono (by simp)).trans (j.o.mono (by simp))).setCell (by simp) _
 ·have q:=E.o;have t:=f.o.m;have r:=f.o.d;replace q:=bZ q;replace t:=bZ t;replace r:=bZ r;go_enter Tryz.func79,Tryz.ntmps79;go_wp2_with (first 
   | (go_at_call 91;refine F.o.mono ?_;rintro e w' ⟨rfl,rfl⟩)
   | (refine dx rfl (.tmp 56) (.tmp 57) 79 79 rfl 5 Tryz.underlying79 (by kernel_rfl) z (i*64) 64 64 A b b.length c rfl rfl rfl q.o s.mem 187 t.o (by have:=f.o.len;omega) ?_;intro w1 y j;have g:=r.o.keep j (by simpa using f.o.ne);have C:=g.cell;have D:=g.frozen;replace g:=bZ g;replace j:=bZ j))
  go_ret;have l:(splice s.mem (i*64) (b.take 64)).length=s.mem.length:=length_splice _ _ _ (by have:=f.o.len;rw[CY];omega);have k:b.take 64=b:=C6 (by rw[B.o];omega);refine⟨rfl,⟨?_,?_,f.o.ne,?_,f.o.n,f.o.b0,f.o.b1,?_,?_⟩,?_⟩
  ·exact g.o.set_ 4 _
  ·have:=y.o.far (p:=(U u 4)) (fun h=>f.o.ne h.symm) (I (s.writes+1));rw[k,EJ] at this;exact this
  ·rw[k] at l;show (splice s.mem (64*i) b).length=_;rw[EJ 64 i,l];exact f.o.len
  ·exact f.o.l0
  ·exact f.o.l1
  exact(j.o.mono (by simp)).setCell (by simp) _
theorem vg (w:World) (a d:Nat) (s:St) (i:Int) (A:Option Addr) (b:List UInt8) (c:Nat) (f:aZ w a d s) (g:cKd s i=0) (h:b.length≠64):
 Calls Tryz.prog 79 #[.pointer (V a),I i,.slice A b.length c] w fun e w'=>e=.returned (I 1)/\w=w':=by
  have k:(cKd s i !=0)=false:=by simpa using g
  have j:((b.length:Int) !=64)=true:=by rw[bne_iff_ne];omega
  clear g h;have H:=dD w a d s i f;clear f;have H:=bZ H;go_enter Tryz.func79,Tryz.ntmps79;go_wp2_with (go_at_call 91;refine H.o.mono ?_;rintro e w' ⟨rfl,rfl⟩);go_ret;exact⟨rfl,rfl⟩
theorem sx (w:World) (h k:Nat) (s:St) (i:Nat) (A:Option Addr) (b:List UInt8) (c:Nat) (l:aZ w h k s) (F:cKd s i=0) (W:i<s.n)
 (B:Bts w A b) (z:∀a,A=some a->a.block≠h) (C:b.length=64) (E:s.left=1) (D:b.length<=c):
  Calls Tryz.prog 79 #[.pointer (V h),I i,.slice A b.length c] w fun e w'=>e=.returned (I 15)/\ 
   aZ w' h k (fail { s with mem:=splice s.mem (64*i) (b.take s.bytes.toNat) })/\aa [h,k] w w':=by
 have Q:(cKd s i !=0)=false:=by simpa using F
 clear F
 have J:=bZ (dD w h k s i l)
 have S:=l.d.cell
 have T:=l.d.frozen
 have L:=l.b0
 have M:=l.b1
 have X:=l.n
 have f:=bZ l
 have H:=bZ B
 have R:=bZ z
 have x:=bZ C
 have N:((b.length:Int) !=64)=false:=by rw[x.o];rfl
 have P:(s.left==1)=true:=by simpa using E
 have O:s.bytes<=(c:Int):=by have:=x.o;omega
 clear l B z C E
 go_enter Tryz.func79,Tryz.ntmps79
 go_wp2_with (first 
  | (go_at_call 91;refine J.o.mono ?_;rintro e w' ⟨rfl,rfl⟩))
 go_still_tail 13,(by kernel_rfl)
 change wpList _ _ _ _ _ w.drew
 have j:(b.take s.bytes.toNat).length=s.bytes.toNat:=by rw[CY];have:=x.o;omega
 refine dx rfl (.tmp 28) (.tmp 34) 79 79 rfl 5 Tryz.underlying79 (by kernel_rfl) k (i*64) 64 64 A (b.take s.bytes.toNat) s.bytes.toNat c rfl rfl j (H.o.take _).drew_ s.mem 187 f.o.m (by have:=f.o.len;omega) ?_
 intro w1 u t
 have g:(splice s.mem (i*64) ((b.take s.bytes.toNat).take 64)).length=s.mem.length:=length_splice _ _ _ (by have:=f.o.len;rw[CY,j];omega)
 have p:(b.take s.bytes.toNat).take 64=b.take s.bytes.toNat:=C6 (by rw[j];omega)
 rw[p] at u g
 have v:aZ w1 h k { s with mem:=splice s.mem (64*i) (b.take s.bytes.toNat) }:= 
  ⟨f.o.d.drew.keep t (by simpa using f.o.ne),by rw[EJ];exact u.o,f.o.ne,by rw[EJ 64 i];exact g.trans f.o.len,f.o.n,f.o.b0,f.o.b1,f.o.l0,f.o.l1⟩
 have K:=bZ (nS w1 h k _ v)
 have y:aa [h,k] w w1:=((aa.refl _ w).drew.trans (t.mono (by simp)))
 replace y:=bZ y
 clear g p u t v j
 go_wp2_with (first 
  | (go_at_call 12;refine K.o.mono ?_;rintro e w' ⟨rfl,q,r⟩;replace q:=bZ q;replace r:=bZ r))
 go_ret
 exact⟨rfl,q.o,y.o.trans (r.o.mono (by simp))⟩
def sec (s:St) (i:Nat):List UInt8:=(s.mem.drop (i*64)).take 64
theorem fU (w:World) (g h:Nat) (s:St) (i:Nat) (c:aZ w g h s) (k:cKd s i=0) (r:i<s.n):
 Calls Tryz.prog 57 #[.pointer (V g),I i] w fun e w'=> 
  e=.returned (.tuple #[.slice (V w.heap.size) 64 64,I 0])/\Blk w' w.heap.size 187 ((sec s i).map bv).toArray/\aa [] w w':=by
 have p:(cKd s i !=0)=false:=by simpa using k
 clear k
 have H:=bZ (dD w g h s i c)
 have q:=c.d.cell
 have t:=c.n
 have j:=bZ c
 have a:(sec s i).length=64:=by unfold sec;rw[CY,Da,c.len];omega
 replace a:=bZ a
 have l:=bZ (show ((s.mem.map bv).drop (i*64)).take 64=(sec s i).map bv by simp[sec,En,El])
 clear c
 go_enter Tryz.func57,Tryz.ntmps57
 go_wp2_with (first
  | (go_at_call 91;refine H.o.mono ?_;rintro e w' ⟨rfl,rfl⟩)
  | (refine eE rfl 187 (.tmp 19) rfl h (i*64) 64 rfl 187 (s.mem.map bv) (.array 64 5) j.o.m Tryz.underlying187 rfl (by kernel_rfl) (by rw[Df];have:=j.o.len;omega) ?_;rw[l.o])
  | (refine gp rfl 187 (.tmp 7) (.tmp 20) rfl w.heap.size 0 rfl 187 _ ((sec s i).map bv) rfl (Blk.new _ _ _) (by rw[Df,a.o];kernel_rfl) (by rw[Df,a.o];decide) (by simp[BY]) ?_;intro w1 f b;rw[jL _ _ (by rw[Df,a.o];rfl)] at f;replace b:=bZ b))
 go_ret2
 exact⟨rfl,f.o,((aa.refl [w.heap.size] w).alloc _ |>.trans b.o).mono (by simp)⟩
def st0 (n:Nat):St:=⟨n,List.replicate (64*n) 0,false,0,0,0⟩
theorem BB (w:World) (n:Nat) (h:1<=n) (g:n<=65536):
 Calls Tryz.prog 21 #[I n] w fun e w'=>∃b f,e=.returned (.tuple #[.pointer (V b),I 0])/\aZ w' b f (st0 n)/\w.heap.size<=b/\w.heap.size<=f/\aa [] w w':=by
  go_enter Tryz.func21,Tryz.ntmps21;go_wp2_with (first
   | (refine fR rfl 76 (.tmp 10) (.tmp 10) rfl 187 (.agg (Array.replicate 64 (bv 0))) 64 64 Tryz.underlying76 (by kernel_rfl) .i64 .i64 n n rfl rfl (by omega) (by omega) (by omega) ?_;intro w1 c a d;replace a:=bZ a))
  go_ret2;refine⟨_,_,rfl,⟨Blk.new _ _ _,?_,?_,?_,g,?_,?_,?_,?_⟩,a.o.size,C9 _,a.o.alloc _⟩
  ·have:=c.o.alloc (.cells #[.slice (V w.heap.size) n n,.bool false,I 0,I 0,I 0] 78);rw[show (Value.agg (Array.replicate 64 (bv 0))).cells=Array.replicate 64 (bv 0) from rfl,dK _ _ _ (by decide)] at this;simpa [st0,EJ] using this
  ·have:=d.o;omega
  ·simp[st0]
  all_goals simp[st0]
end Dk
end Go.Proofs.YtmlmfpikncogpaaGreat
