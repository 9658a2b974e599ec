import Derived.ChangeKeysEq
import Derived.MapKept
import Derived.Test.YtmlmfpikncogpaaGreatProg
import Derived.Test.YtmlmfpikncogpaaGreatL01
namespace Go.Proofs.YtmlmfpikncogpaaGreat
open Go.RowKit
set_option linter.unusedSimpArgs false
set_option linter.unusedVariables false
set_option maxRecDepth 100000
set_option maxHeartbeats 16000000
theorem Y1 {α:Type} {l:List α} {i:Nat} {h:i<l.toArray.size}:l.toArray[i]'h=l[i]'(by simpa using h):=rfl
theorem Y2 {α:Type} {a:α} {l:List α} {i:Nat} {h:i+1<(a::l).length}:(a::l)[i+1]'h=l[i]'(by simpa using h):=rfl
theorem Y3 {α:Type} {a:α} {l:List α} {h:0<(a::l).length}:(a::l)[0]'h=a:=rfl
theorem PT:(∀(a:Act) (i:Nat) (v:Value),a.put (some i) v= { a with tmps:=a.tmps.setIfInBounds i v })/\(∀(a:Act) (v:Value),a.put none v=a)/\(∀(l:List Value) (i:Nat) (v:Value),l.toArray.setIfInBounds i v=(l.set i v).toArray)/\
 (∀(x v:Value) (l:List Value),(x::l).set 0 v=v::l)/\(∀(x v:Value) (l:List Value) (i:Nat),(x::l).set (i+1) v=x::l.set i v):=
 ⟨fun _ _ _=>rfl,fun _ _=>rfl,fun _ _ _=>EK ..,fun _ _ _=>rfl,fun _ _ _ _=>rfl⟩
section
variable {P:Program} {ops:Array Oper} {Q:Exit->Act->World->Prop} {md:Region.Mode} {S:World->Prop} {n:Nat}
theorem tq {i:Nat} {l:List Nat} {e:Oper} {v:Value} {d:Nat} {b:Array Bool} {a:Act} {w:World} (g:S w)
 (h:Ord l (bU P md ops Q S n d (b.setIfInBounds i true) (a.put e.dst v) w)) (j:Az md ops n b i=true:=by kernel_rfl) (k:ops[i]? =some e:=by exact rfl) (m:Region.wanted e (yielded ops a.tmps)=true:=by rfl)
 (o:∀w,S w->(execOp a.eval e).run P w=.ok (.value v) w:=by(intro w h;go_simp;try with_reducible rfl))
 (f:∀c a w,Q (.panic c) (a.put e.dst v) w->Q (.panic c) a w:=by exact fun _ _ _ h=>h):Ord (i::l) (bU P md ops Q S n (d+1) b a w):=tk j k f g (.inl ⟨m,o⟩) h
theorem JQ (i:Nat) {o:Oper} {c:Nat} {b:Array Bool} {a f:Act} {w w':World} (h:bU P md ops Q S n c (b.setIfInBounds i true) f w')
 (g:ops[i]? =some o:=by exact rfl) (k:Region.ready md ops b=[i]:=by kernel_rfl) (j:n<=i:=by omega)
 (l:∀d:Act->World->Prop,d f w'->if Region.wanted o (yielded ops a.tmps)=true then Oper.wp P o a w d Q else d (a.put o.dst undef) w:=by(intro K e;try dsimp only[Y1,Y2,Y3];go_simp;exact e)):bU P md ops Q S n (c+1) b a w:=
 mL g k fun K e=>l K (e _ _ (.inl j) h)
theorem JW (i:Nat) {e:Oper} {v:Value} {d:Nat} {b:Array Bool} {a:Act} {w:World} (h:wpAny P md ops Q d (b.setIfInBounds i true) (a.put e.dst v) w) (j:ops[i]? =some e:=by exact rfl)
 (l:Region.noSelect ops=true:=by kernel_rfl) (g:Region.free md ops b i=true:=by kernel_rfl) (k:(Region.ready md ops b).contains i=true:=by kernel_rfl) (m:Region.wanted e (yielded ops a.tmps)=true:=by rfl)
 (n:∀w,(execOp a.eval e).run P w=.ok (.value v) w:=by(intro w;go_simp;try with_reducible rfl)) (f:∀c a w,Q (.panic c) (a.put e.dst v) w->Q (.panic c) a w:=by exact fun _ _ _ h=>h):wpAny P md ops Q (d+1) b a w:=
 wpAny_take j l g k f (.inl ⟨m,n⟩) h
theorem tu {i:Nat} {l:List Nat} {e:Oper} {d:Nat} {b:Array Bool} {a:Act} {w:World} (g:S w)
 (h:Ord l (bU P md ops Q S n d (b.setIfInBounds i true) (a.put e.dst undef) w)) (j:Az md ops n b i=true:=by kernel_rfl) (k:ops[i]? =some e:=by exact rfl) (m:Region.wanted e (yielded ops a.tmps)=false:=by rfl)
 (f:∀c a w,Q (.panic c) (a.put e.dst undef) w->Q (.panic c) a w:=by exact fun _ _ _ h=>h):Ord (i::l) (bU P md ops Q S n (d+1) b a w):=tk j k f g (.inr ⟨m,rfl⟩) h
theorem J1 (i:Nat) {o:Oper} {c:Nat} {b:Array Bool} {a:Act} {w:World}
 (h:∀d:Act->World->Prop,(∀a w,(n<=i\/S w)->bU P md ops Q S n c (b.setIfInBounds i true) a w->d a w)->if Region.wanted o (yielded ops a.tmps)=true then Oper.wp P o a w d Q else d (a.put o.dst undef) w)
 (e:ops[i]? =some o:=by exact rfl) (f:Region.ready md ops b=[i]:=by kernel_rfl):bU P md ops Q S n (c+1) b a w:=mL e f h
theorem JD {b:Array Bool} {a:Act} {w:World} {c:Nat} (h:Q .normal a w) (d:Region.ready md ops b=[]:=by kernel_rfl):bU P md ops Q S n c b a w:=qF d h _
end
theorem info5:(Tryz.prog.info? 5).map (fun i=>(i.zero,i.size,i.bytes))=some (some (.int .u8 0),1,1):=by kernel_rfl
theorem vX {l:List UInt8} {j:Nat} (b:l.length=8) (a:j<8):(((l.take j).map bv++List.replicate (8 - j) (Value.int .u8 0)).toArray)[j]? =some (.int .u8 0):=by
 rw[DW,Dv (by rw[Df,CY];omega),Df,CY,List.getElem?_replicate,if_pos (by omega)]
theorem vW {l:List UInt8} {j:Nat} {b:UInt8} {v:Value} (e:l.length=8) (d:j<8) (a:l[j]? =some b) (c:v=bv b):
 (((l.take j).map bv++List.replicate (8 - j) (Value.int .u8 0)).toArray).setIfInBounds j v=(((l.take (j+1)).map bv++List.replicate (8 - (j+1)) (Value.int .u8 0)).toArray):=by
  rw[EK,EL _ _ (by rw[Df,CY];omega),Df,CY,show j - min j l.length=0 by omega,show 8 - j=(8 - (j+1))+1 by omega,List.replicate_succ,List.set_cons_zero,Dq,a,c];simp
theorem uq (n:Int) (h: -9223372036854775808<=n/\n<9223372036854775808):bits .xor .u64 (IntKind.u64.wrap n) 9223372036854775808=((Cod.un n:Nat):Int):=by
 obtain⟨a,b⟩:∃a:Nat,IntKind.u64.wrap n=(a:Int)/\a<2^64/\(a:Int)=n%18446744073709551616:=by
  refine⟨(n%18446744073709551616).toNat,?_,by omega,by omega⟩;rw[IntKind.wrap_u64];omega
 rw[b.1,show (9223372036854775808:Int)=((2^63:Nat):Int) from rfl,u64_xor_nat a (2^63) (by omega) (by omega),Cod.tN b.2.1];unfold Cod.un;omega
theorem dB (w:World) (n:Int) (P: -9223372036854775808<=n/\n<9223372036854775808):Calls Tryz.prog 38 #[I n] w fun e w'=>e=.returned (.string ⟨(Cod.num n).toArray⟩)/\Z (aa [] w w'):=by
 have R:=uq n P;obtain⟨a,m⟩:∃a,a=Cod.un n:=⟨_,rfl⟩;rw[<-m] at R;have M:a<18446744073709551616:=by rw[m];exact Cod.tQ n
 replace m:=bZ m;have l:Z (aa [] w w.drew):=bZ (aa.refl [] w).drew;have t:True:=trivial;go_enter Tryz.func38,Tryz.ntmps38;go_wp2_with fail;refine ad (S:=(fun _:World=>True)) (n:=6) (by kernel_rfl) ?_;generalize w.drew=wd at*;refine ord [0,1,2,4] ?_
 iterate 4 (refine tq t ?_;try simp only[PT,Y1,Y2,Y3])
 refine av ?_;refine J1 3 fun K C=>?_;dsimp only[Y1,Y2,Y3];refine tP 79 (.const (I 8)) (.const (I 8)) (by rfl) 5 (.int .u8 0) 1 1 Tryz.underlying79 info5 .i64 .i64 8 8 (by rfl) (by rfl) (by omega) (by omega) (by omega) ?_;intro w1 f F _;refine C _ _ (.inr t) ?_;clear C K
 try simp only[PT,Y1,Y2,Y3]
 refine ord [5] ?_
 (refine tq t ?_;try simp only[PT,Y1,Y2,Y3])
 refine av ?_;refine JD ?_;obtain⟨g,x⟩:∃g,g=wd.heap.size:=⟨_,rfl⟩;rw[<-x] at f ⊢;have A:Z (aa [] w w1):=bZ (l.o.trans F);have u:Z (Blk w1 g 5 (((Cod.num n).take 0).map bv++List.replicate (8 - 0) (Value.int .u8 0)).toArray):=bZ (by have:=f.o;rw[show (Value.int .u8 0).cells=Array.replicate 1 (Value.int .u8 0) from rfl,dK 1 _ _ (by omega)] at this;simpa using this);have y:Z (w.heap.size<=g):=bZ (by rw[x];exact l.o.size);clear f F x l;go_wp2_with fail;go_loopw [5,12] (fun _ k wr=>∃j:Nat,j<=8/\k=I (j:Int)/\Z (Blk wr g 5 (((Cod.num n).take j).map bv++List.replicate (8 - j) (Value.int .u8 0)).toArray)/\Z (aa [] w wr)) (fun _ k _=>8 - (intOf k).toNat)
 case atStart=>exact⟨0,by omega,rfl,u,A⟩
 obtain⟨j,W,rfl,s,D⟩:=hrel;by_cases h:j<8
 ·obtain⟨i,z⟩:∃i:Nat,8 - 1 - j=i:=⟨_,rfl⟩;have O:(j:Int)<8:=by omega
  have H:IntKind.i64.wrap (8*(j:Int))=8*(j:Int):=C0 _ (by omega);have J:IntKind.i64.wrap (56 - 8*(j:Int))=8*(i:Int):=by rw[C0 _ (by omega)];omega
  have L:(56:Int) - 8*(j:Int)=8*(i:Int):=by omega
  have c:=Cod.oe 8 a j h;rw[z] at c;have r:=Cod.nZ a i;have N:=s.o.cell j;rw[vX (by rw[Cod.ag]) h] at N;have T:=s.o.frozen j;have d:=s.o.set_ j (.int .u8 ((a:Int)/2^(8*i)%256));rw[vW (b:=UInt8.ofNat (a/256^i)) (by rw[Cod.ag]) h (by rw[<-c,m.o];rfl) (by unfold bv;rw[<-r])] at d;replace d:=bZ d;have B:=bZ (D.o.setCell (p:=(U g j)) (.inr y.o) (.int .u8 ((a:Int)/2^(8*i)%256)));have X:IntKind.i64.wrap ((j:Int)+1)=(j:Int)+1:=C0 _ (by omega);replace z:=bZ z;clear c r;go_wp2_with fail;go_roundw
  case rel=>exact⟨j+1,by omega,by go_num,d,B⟩
  case measure=>simp[intOf];omega
 obtain rfl:j=8:=by omega
 have v:Z (Bts wr (V g) (Cod.num n)):=bZ (.inr ⟨g,0,rfl,fun q b E=>by
  rw[Dl,s.o.cell];have Q:q<(Cod.num n).length:=(CV.1 E).1;rw[C6 (by rw[Cod.ag];exact C9 _)];simp[E]⟩)
 go_wp2_with (refine br rfl 79 9 (.tmp 25) rfl 5 Tryz.underlying79 Tryz.underlying5 Tryz.underlying9 (V g) (Cod.num n) 8 8 rfl (Cod.ag n) v.o ?_);go_ret;exact⟨rfl,D⟩
theorem mN {l:List UInt8} {i:Nat} {v:UInt8} (h:l[i]? =some v):val (l.take (i+1))=256*val (l.take i)+v.toNat:=by
 have a:i<l.length:=(CV.1 h).1;have b:l[i]=v:=(CV.1 h).2;rw[ER a,j1,b]
def dec (b:List UInt8):Int:=wrap64 (((val b^^^2^63:Nat)):Int)
theorem qe (n:Int) (h: -9223372036854775808<=n/\n<9223372036854775808):dec (Cod.num n)=n:=by
 unfold dec;rw[Cod.zW,Cod.tN (Cod.tQ n)];unfold Cod.un wrap64;omega
theorem lC (w:World) (b:List UInt8) (c:b.length=8):Calls Tryz.prog 59 #[.string ⟨b.toArray⟩] w fun e w'=>e=.returned (.tuple #[I (dec b),I 0])/\w=w':=by
 have i:(⟨b.toArray⟩:ByteArray).size=8:=by simp[ByteArray.size,c]
 obtain⟨s,h⟩:∃s:ByteArray,s=⟨b.toArray⟩:=⟨_,rfl⟩;rw[<-h] at i ⊢;replace h:=bZ h;replace c:=bZ c;go_enter Tryz.func59,Tryz.ntmps59;go_wp2_with fail;go_loopw [4,5,9] (fun y _ f wr=>∃j:Nat,j<=8/\f=I (j:Int)/\y=.int .u64 (val (b.take j):Nat)/\w=wr) (fun _ _ f _=>8 - (intOf f).toNat)
 case atStart=>exact⟨0,by omega,rfl,rfl,rfl⟩
 obtain⟨j,z,rfl,rfl,rfl⟩:=hrel;by_cases k:j<8
 ·obtain⟨v,m⟩:∃v,b[j]? =some v:=⟨_,CT (by rw[c.o];exact k)⟩;have u:(j:Int)<8:=by omega
  have r:j<s.size:=by omega
  have g:(s[j]'r)=v:=by
   have t:=h.o;subst t;exact(CV.1 m).2
  have a:=mN m;have x:=jI j (b.take j) (by rw[CY,c.o];omega);have l:(256:Nat)^j<=72057594037927936:=Dc (E3 (by decide) (by omega:j<=7)) (by decide);have n:=v.toNat_lt;have d:bits .or .u64 (IntKind.u64.wrap ((val (b.take j):Int)*256)) (IntKind.u64.wrap ((s[j]'r).toNat:Int))=((val (b.take (j+1)):Nat):Int):=by
   rw[g,a];generalize val (b.take j)=q at*;generalize v.toNat=V00 at*;rw[EZ _ (by omega),EZ _ (by omega),show (q:Int)*256=((q*256:Nat):Int) by omega,u64_or_nat _ _ (by omega) (by omega),nat_join 8 _ _ (by omega) (by omega)]
   congr 1
   omega
  replace d:=bZ d;clear a x l n m g;have B:IntKind.i64.wrap ((j:Int)+1)=(j:Int)+1:=C0 _ (by omega);go_wp2_with fail;rw[d.o];go_roundw
  case rel=>exact⟨j+1,by omega,by go_num,rfl,trivial⟩
  case measure=>simp[intOf];omega
 obtain rfl:j=8:=by omega
 have A:=jI 8 b c.o;have p:bits .xor .u64 (val (b.take 8):Int) 9223372036854775808=((val b^^^2^63:Nat):Int):=by
  rw[C6 (by rw[c.o];exact C9 _),show (9223372036854775808:Int)=((2^63:Nat):Int) from rfl,u64_xor_nat _ _ (by omega) (by decide)]
 replace p:=bZ p;go_wp2_with fail;rw[p.o];go_ret2;exact⟨rfl,rfl⟩
section
variable {P:Program} {ops:Array Oper} {Q:Exit->Act->World->Prop} {md:Region.Mode} {S:World->Prop} {n:Nat}
theorem oJ (hn:ops.size<=n) {i:Nat} {u:Oper} {v:Value} (M:ops[i]? =some u) (r:∀(j:Nat) (o:Oper) cs b,ops[j]? =some o->o.op≠.select cs b)
 (Y:∀c a w,Q (.panic c) (a.put u.dst v) w->Q (.panic c) a w):
 ∀(f:Nat) (d:Array Bool) (a:Act) (w:World),
  (∀j x,ops[j]? =some x->j≠i->d.getD j true=false->(∀e∈x.after,Region.binds md e=true->e.on≠i)->u.apart ops x=true)->
  i∈Region.ready md ops d->YieldsIf P ops S u v a->S w->
  dZ P md ops Q S n f (d.setIfInBounds i true) (a.put u.dst v) w->dZ P md ops Q S n (f+1) d a w:=by
 intro f
 induction f with
 | zero=>
  intro d a w _ t F y H;refine⟨fun h=>(by rw[h] at t;cases t),fun j hj=>?_⟩;by_cases g:j=i
  ·subst g;exact F.wpOp M y ⟨.inr y,H⟩
  have:=ready_mono hj g;rw[H.1] at this;cases this
 | succ f ih=>
  intro d a w l t F y H;refine⟨fun h=>(by rw[h] at t;cases t),fun j hj=>?_⟩;by_cases g:j=i
  ·subst g;exact F.wpOp M y ⟨.inr y,H⟩
  have s:=H.2 j (ready_mono hj g);obtain⟨q,x,p,A⟩:=mem_ready.1 hj;have N:j≠n:=by
   rintro rfl;have:=(Dy.1 p).1;omega
  have C:∀e∈x.after,Region.binds md e=true->e.on≠i:=fun e he hb L=>by
   have s:=A e he hb;have T:=(mem_ready.1 t).1;rw[L] at s;rcases DR i d.size with J | J
   ·simp[J] at T s;rw[T] at s;cases s
   simp[Fk J] at s
  have X:=wpOp_putIf p (l j x p g q C) (fun cs b=>r i u cs b M) (fun cs b=>r j x cs b p) Y F s;have m:∀k E,ops[k]? =some E->k≠i->(d.setIfInBounds j true).getD k true=false->
   (∀e∈E.after,Region.binds md e=true->e.on≠i)->u.apart ops E=true:=fun k E hk O D R=>by
   refine l k E hk O ?_ R
   by_cases B:j=k
   ·subst B;exact q
   ·rw[getD_set_ne true B] at D;exact D
  refine wpOp_mono (fun W w' K=>?_) X;have z:S w':=K.2.1.resolve_left N;refine⟨.inr z,ih (d.setIfInBounds j true) W w' m (ready_mono t (Ne.symm g)) K.1 z ?_⟩;rw[Array.setIfInBounds_comm _ _ g];exact K.2.2
theorem az {i:Nat} {e:Oper} {v:Value} {d:Nat} {b:Array Bool} {a:Act} {w:World} (l:decide (ops.size<=n)=true) (f:ops[i]? =some e)
 (o:Region.noSelect ops=true) (k:Region.free md ops b i=true) (m:(Region.ready md ops b).contains i=true)
 (g:∀c a w,Q (.panic c) (a.put e.dst v) w->Q (.panic c) a w) (j:S w) (p:YieldsIf P ops S e v a) 
 (h:dZ P md ops Q S n d (b.setIfInBounds i true) (a.put e.dst v) w):dZ P md ops Q S n (d+1) b a w:=
 oJ (of_decide_eq_true l) f (Region.noSelect_spec o) g d b a w (Region.free_spec f k) (by simpa using m) p j h
end
section
variable {P:Program} {ops:Array Oper} {Q:Exit->Act->World->Prop} {md:Region.Mode} {S:World->Prop} {n:Nat}
theorem mM {i j:Nat} {h l:Oper} {d:Nat} {b:Array Bool} {a:Act} {w:World} (q:ops[i]? =some h) (r:ops[j]? =some l) (o:Region.ready md ops b=[i,j])
 (e:∀c:Act->World->Prop,(∀a w,(i=n\/S w)->dZ P md ops Q S n d (b.setIfInBounds i true) a w->c a w)->if Region.wanted h (yielded ops a.tmps)=true then Oper.wp P h a w c Q else c (a.put h.dst undef) w)
 (f:∀c:Act->World->Prop,(∀a w,(j=n\/S w)->dZ P md ops Q S n d (b.setIfInBounds j true) a w->c a w)->if Region.wanted l (yielded ops a.tmps)=true then Oper.wp P l a w c Q else c (a.put l.dst undef) w):
 dZ P md ops Q S n (d+1) b a w:=
 ⟨fun p=>absurd (o▸p) (by simp),fun k g=>by
  rw[o] at g;rcases Db.1 g with rfl | g
  ·exact wpOp_step q (fun c m=>e c (fun a w e f=>m a w ⟨e,f⟩))
  obtain rfl:k=j:=by simpa using g
  exact wpOp_step r (fun c m=>f c (fun a w e f=>m a w ⟨e,f⟩))⟩
end
theorem bJ {P:Program} {w:World} {o:Oper} {a:Act} {K:Act->World->Prop} {Q:Exit->Act->World->Prop} (e:TypeId) (x y:Operand) (n:o.op=.store e x y)
 (g:Nat) (q:a.eval x=.pointer (V g)) (t:TypeId) (cs b:List Value) (r:a.eval y=.agg b.toArray) (k:Blk w g t cs.toArray)
 (l:(P.info? e).map (·.size)=some b.length) (c:b.length=cs.length) (m:∀v∈b,v.oneCell'=true)
 (h:∀w',Z (Blk w' g t b.toArray)->aa [g] w w'->K (a.put o.dst undef) w'):Oper.wp P o a w K Q:=by
  have j:=run_storeCells_at P g 0 t b 0 cs.toArray w k (by simp;omega) m;have d:(storeVar e (U g 0) (.agg b.toArray)).run P w=.ok () (w.setRow g (splice cs 0 b).toArray):=by
   cases f:P.info? e with
   | none=>simp[f] at l
   | some i=>
    have p:i.size=b.length:=by simpa [f] using l
    simp[storeVar,DM,sizeOf,typeInfo,f,p,Value.cells,j,splice]
  unfold Oper.wp execOp;simp only[n,q,r,Instr.storeAt,Instr.sureAddr,DM,DZ,DH,d];refine h _ (bZ ?_) ((aa.refl [g] w).setRow (g:=g) (.inl (CZ.2 rfl)) _);have:=setRow_heap w g _ (splice cs 0 b).toArray t _ k;rw[jL cs b c.symm] at this ⊢;exact this
structure Val where
 k:Int
 n:Int
 s:ByteArray
deriving DecidableEq
def ah (w:World) (X:List Nat) (A:Option Addr) (l:List Val):Prop:=
 ∀i v,l[i]? =some v->∃g off,A=some (U g off)/\g∉X/\w.cell? (U g (off+i*3))=some (I v.k)/\w.cell? (U g (off+i*3+1))=some (I v.n)/\w.cell? (U g (off+i*3+2))=some (.string v.s)
theorem ah.nil (w:World) (X:List Nat) (A:Option Addr):ah w X A []:=fun i v h=>by simp at h
theorem ah.keep {w w':World} {X Y:List Nat} {A:Option Addr} {l:List Val} (h:ah w X A l) (a:aa Y w w') (k:∀y∈Y,y∈X\/w.heap.size<=y):ah w' X A l:=by
 intro i v m;obtain⟨g,off,rfl,e,c,f,j⟩:=h i v m;have b:g∉Y:=fun n=>by
  rcases k g n with d | d
  ·exact e d
  have:=block_lt_of_cell c;simp at this;omega
 exact⟨g,off,rfl,e,a.cellEq c b,a.cellEq f b,a.cellEq j b⟩
theorem ah.other {w:World} {X Y:List Nat} {A:Option Addr} {l:List Val} (h:ah w X A l) (e:∀y∈Y,y∈X\/w.heap.size<=y):ah w Y A l:=by
 intro i v j;obtain⟨g,off,rfl,f,a,c,d⟩:=h i v j;refine⟨g,off,rfl,fun k=>?_,a,c,d⟩;rcases e g k with b | b
 ·exact f b
 have:=block_lt_of_cell a;simp at this;omega
def bz:List Val->List Value
 | []=>[]
 | v::r=>I v.k::I v.n:: .string v.s::bz r
theorem eY:∀l,(bz l).length=l.length*3
 | []=>rfl
 | v::r=>by
  show (bz r).length+1+1+1=(r.length+1)*3;rw[eY];omega
theorem lI:∀(l:List Val) (i:Nat) (v:Val),l[i]? =some v->(bz l)[i*3]? =some (I v.k)/\(bz l)[i*3+1]? =some (I v.n)/\(bz l)[i*3+2]? =some (.string v.s)
 | [],i,v,h=>by cases h
 | x::r,0,v,h=>by
  obtain rfl:x=v:=by simpa using h
  exact⟨rfl,rfl,rfl⟩
 | x::r,i+1,v,h=>by
  have a:=lI r i v (by simpa using h);rw[show (i+1)*3=i*3+1+1+1 by omega];exact a
theorem gI:∀(l:List Val),∀u∈bz l,u.oneCell'=true
 | [],u,h=>by cases h
 | v::r,u,h=>by
  simp only[bz,Db] at h;rcases h with rfl | rfl | rfl | h
  ·rfl
  ·rfl
  ·rfl
  exact gI r u h
theorem vR (l:List Val) (j:Nat) (u:Value) (h:(bz l)[j]? =some u):∃i v,l[i]? =some v/\((j=i*3/\u=I v.k)\/(j=i*3+1/\u=I v.n)\/(j=i*3+2/\u=.string v.s)):=by
 have f:j<l.length*3:=by rw[<-eY];exact(CV.1 h).1
 obtain⟨v,e⟩:∃v,l[j/3]? =some v:=⟨l[j/3]'(by omega),CT _⟩;obtain⟨b,c,d⟩:=lI l _ v e;refine⟨j/3,v,e,?_⟩;have a:j=j/3*3\/j=j/3*3+1\/j=j/3*3+2:=by omega
 rcases a with a | a | a
 ·rw[<-a] at b;rw[b] at h;cases h;exact .inl ⟨a,rfl⟩
 ·rw[<-a] at c;rw[c] at h;cases h;exact .inr (.inl ⟨a,rfl⟩)
 rw[<-a] at d;rw[d] at h;cases h;exact .inr (.inr ⟨a,rfl⟩)
theorem jP:(Tryz.prog.info? 60).map (fun i=>(i.zero,i.size,i.bytes))=some (some (.agg #[I 0,I 0,.string ⟨#[]⟩]),3,32):=by kernel_rfl
theorem mp {w:World} {X:List Nat} {A:Option Addr} {l:List Val} (h:ah w X A l):bm w A l.length (bz l):=by
 cases l with
 | nil=>exact .inl rfl
 | cons x r=>
  obtain⟨g,off,rfl,_⟩:=h 0 x rfl;refine .inr ⟨g,off,rfl,fun j u f=>?_⟩;obtain⟨i,v,k,e⟩:=vR _ j u f;obtain⟨m,b,a,_,c,c1,d⟩:=h i v k;simp only[Option.some.injEq,Addr.mk.injEq] at a;obtain⟨rfl,rfl,_⟩:=a;rcases e with ⟨rfl,rfl⟩ | ⟨rfl,rfl⟩ | ⟨rfl,rfl⟩
  ·exact c
  ·rw[<-Ej];exact c1
  rw[<-Ej];exact d
def lj (b:Nat) (A:Option Addr):Prop:=∀a,A=some a->b<=a.block
theorem ia {w:World} {base e n c:Nat} {A:Option Addr} {l:List Val} (h:w.ownsRow base e 3 (.slice A n c) n (bz l)) (o:l.length=n):ah w [] A l:=by
 intro i v b;have k:i<l.length:=(CV.1 b).1;obtain⟨g,c',m,_,_,_,_,a,_⟩:=ax h (by omega);injection m with hA _ _;obtain⟨d,f,j⟩:=lI l i v b;exact⟨g,0,hA,by simp,by rw[Dl];exact a _ _ d,by rw[Dl];exact a _ _ f,by rw[Dl];exact a _ _ j⟩
theorem ii {w:World} {base e size n c:Nat} {A:Option Addr} {j:List Value} (h:w.ownsRow base e size (.slice A n c) n j):lj base A:=by
 rintro a rfl;rcases h.2 with ⟨b,_⟩ | ⟨g,d,f,b,i,_⟩
 ·simp at b
 injection b with hA _ _;cases hA;exact i
theorem ah.fresh {w:World} {X Y:List Nat} {A:Option Addr} {l:List Val} {b:Nat} (h:ah w X A l) (j:lj b A) (e:∀y∈Y,y<b):ah w Y A l:=by
 intro i v k;obtain⟨g,off,rfl,n,a,c,d⟩:=h i v k;have f:=j _ rfl;exact⟨g,off,rfl,fun m=>by have:=e g m;dsimp only at f;omega,a,c,d⟩
theorem lj.mono {b c:Nat} {A:Option Addr} (h:lj b A) (e:c<=b):lj c A:=fun a d=>Dc e (h a d)
def mD (w:World) (l:List Val) (n:Nat) (e:Ending) (w':World):Prop:=∃A c,e=.returned (.slice A n c)/\Z (ah w' [] A l)/\Z (lj w.heap.size A)/\Z (aa [] w w')
theorem pz (w:World) (X:List Nat) (A:Option Addr) (l:List Val) (n c:Nat) (j:l.length=n) (m:ah w X A l) (L:n<=1000000):
 Calls Tryz.prog 82 #[.slice A n c] w (mD w l n):=by
  cases A with
  | none=>
   have t:l=[]:=by
    cases l with
    | nil=>rfl
    | cons x r=>obtain⟨g,off,D,_⟩:=m 0 x rfl;cases D
   subst t;obtain rfl:0=n:=j;have E:∀w':World,(binOp .eql 62 (.slice none 0 c) (.slice none 0 0)).run Tryz.prog w'=.ok (.bool true) w':=fun w'=>Dz w' 62 60 none 0 c 0 0 Tryz.underlying62;have b:mD w [] 0 (.returned (.slice none 0 0)) w:=⟨none,0,rfl,bZ (ah.nil _ _ _),bZ (fun a h=>by cases h),bZ (aa.refl _ _)⟩;replace b:=bZ b;clear m;go_enter Tryz.func82,Tryz.ntmps82;go_wp2_with fail;go_ret;exact b.o
  | some a=>
   obtain⟨F,s,e,f,i⟩:=info_parts jP;have E:∀w':World,(binOp .eql 62 (.slice (some a) n c) (.slice none 0 0)).run Tryz.prog w'=.ok (.bool false) w':=fun w'=>Dz w' 62 60 (some a) n c 0 0 Tryz.underlying62;have d:=mp (m.keep ((aa.refl [] w).alloc (.cells #[] 60)) (by simp));rw[j] at d;have q:Z ((bz l).length=n*3):=bZ (by rw[eY,j]);replace d:=bZ d;have u:=bZ (bD w 60 3);have k:w.heap.size<=(w.alloc (.cells #[] 60)).heap.size:=(aa.alloc (aa.refl [] w) _).size;replace s:=bZ s;replace e:=bZ e;replace f:=bZ f;replace i:=bZ i;replace j:=bZ j;clear m;go_enter Tryz.func82,Tryz.ntmps82;go_wp2_with (at_builtin;refine ae (by rfl) (.tmp 5) (.tmp 6) 62 rfl w.heap.size 60 F (.agg #[I 0,I 0,.string ⟨#[]⟩]) 3 32 Tryz.underlying62 s.o e.o f.o i.o rfl (by decide) _ 0 [] rfl u.o (some a) n c (bz l) rfl q.o d.o (gI l) (by unfold maxLen;omega) (by omega) k ?_;intro K w1 B C H J);have y:=bZ (aF ((aa.refl [] w).alloc _) (aa.refl [] _) u.o C.o);have p:Z (w1.ownsRow w.heap.size 60 3 K n (bz l)):=bZ (by have:=B.o;rw[Dm,Dl] at this;exact this);clear B C H J d u k;obtain⟨v,z,rfl,_⟩:=aH p.o;have b:Z (mD w l n (.returned (.slice v n z)) w1):=bZ ⟨v,z,rfl,bZ (ia p.o j.o),bZ (ii p.o),y⟩;clear p y;go_ret;exact b.o
def ay (p:Nat) (kA vA cA:Option Addr):List Nat:=p::(fb kA++(fb vA++fb cA))
structure aU (T:BTy) (w:World) (p:Nat) (kA:Option Addr) (kc:Nat) (vA:Option Addr) (vc:Nat) (cA:Option Addr) (cc:Nat) (ks vs:List Value) (cs:List Nat):Prop where
 blk:Blk w p T.tn #[.slice kA ks.length kc,.slice vA vs.length vc,.slice cA cs.length cc]
 rk:w.ownsRow 0 T.tk 1 (.slice kA ks.length kc) ks.length ks
 rv:w.ownsRow 0 T.tv 1 (.slice vA vs.length vc) vs.length vs
 rc:w.ownsRow 0 T.tp 1 (.slice cA cs.length cc) cs.length (cs.map ptr)
 nd:(ay p kA vA cA).Nodup
section
variable {T:BTy} {w w' w1 w2:World} {p:Nat} {kA vA cA:Option Addr} {kc vc cc:Nat} {ks vs:List Value} {cs:List Nat}
theorem aU.at_ (h:aU T w p kA kc vA vc cA cc ks vs cs):aX T w p ks vs cs (ay p kA vA cA):=⟨kA,kc,vA,vc,cA,cc,h.blk,h.rk,h.rv,h.rc,rfl⟩
theorem aX.c {F:List Nat} (h:aX T w p ks vs cs F) (f:F.Nodup):∃kA kc vA vc cA cc,aU T w p kA kc vA vc cA cc ks vs cs/\F=ay p kA vA cA:=by
 obtain⟨kA,kc,vA,vc,cA,cc,e,a,b,d,rfl⟩:=h;exact⟨kA,kc,vA,vc,cA,cc,⟨e,a,b,d,f⟩,rfl⟩
theorem aU.keep {Y:List Nat} (h:aU T w p kA kc vA vc cA cc ks vs cs) (d:aa Y w w') (c:∀y∈Y,y∉ay p kA vA cA):aU T w' p kA kc vA vc cA cc ks vs cs:=
 ⟨h.blk.keep d (fun a=>c p a (by simp[ay])),aq h.rk d (fun y b a=>c y b (by simp[ay,a])),aq h.rv d (fun y b a=>c y b (by simp[ay,a])),aq h.rc d (fun y b a=>c y b (by simp[ay,a])),h.nd⟩
theorem aU.lt (h:aU T w p kA kc vA vc cA cc ks vs cs):∀x∈ay p kA vA cA,x<w.heap.size:=h.at_.lt
theorem nR (A:Option Addr):(fb A).Nodup:=by cases A<;>simp[fb]
theorem aW {p:Nat} {kA vA cA:Option Addr}:(ay p kA vA cA).Nodup↔(p∉fb kA/\p∉fb vA/\p∉fb cA)/\(∀x∈fb kA,x∉fb vA/\x∉fb cA)/\(∀x∈fb vA,x∉fb cA):=by
 unfold ay;rw[E7,Dp,Dp];constructor
 ·rintro⟨c,_,⟨_,_,f⟩,g⟩;simp only[CX,not_or] at c;refine⟨⟨c.1,c.2.1,c.2.2⟩,fun x a=>⟨fun d=>g x a x (by simp[d]) rfl,fun d=>g x a x (by simp[d]) rfl⟩,fun x a d=>f x a x d rfl⟩
 rintro⟨⟨c,h,i⟩,f,g⟩;refine⟨by simp[c,h,i],nR _,⟨nR _,nR _,fun x a y b e=>g x a (e▸b)⟩,fun x a y b e=>?_⟩;subst e;rcases CX.1 b with b | b
 ·exact(f x a).1 b
 exact(f x a).2 b
theorem aU.two (h:aU T w p kA kc vA vc cA cc ks vs cs) {c d:Option Addr} {e f n':Nat} {ks' vs':List Value} (A:ks'.length=n') (o:vs'.length=n')
 (K:w1.ownsRow 0 T.tk 1 (.slice c n' e) n' ks') (r:aa (fb kA) w w1) (t:∀g∈fb c,g∈fb kA\/w.heap.size<=g)
 (O:w2.ownsRow 0 T.tv 1 (.slice d n' f) n' vs') (q:aa (fb vA) w1 w2) (u:∀g∈fb d,g∈fb vA\/w1.heap.size<=g):
 aU T ((w2.setCell (U p 0) (.slice c n' e)).setCell (U p 1) (.slice d n' f)) p c e d f cA cc ks' vs' cs/\
  aa (p::(fb kA++fb vA)) w ((w2.setCell (U p 0) (.slice c n' e)).setCell (U p 1) (.slice d n' f))/\
  (∀x∈ay p c d cA,x∈ay p kA vA cA\/w.heap.size<=x):=by
 subst A
 obtain⟨⟨E,F,H⟩,v,J⟩:=aW.1 h.nd
 have j:=h.lt
 have P:p<w.heap.size:=j p (by simp[ay])
 have M:=r.size
 have N:=q.size
 have m:p∉fb c:=fun b=>(t p b).elim E (fun h=>by omega)
 have n:p∉fb d:=fun b=>(u p b).elim F (fun h=>by omega)
 have C:∀x∈fb c,x<w1.heap.size:=fun x a=>(aw K a).2.1
 have k:∀x∈fb c,x∉fb vA:=fun x a b=>(t x a).elim (fun h=>(v x h).1 b) (fun z=>by have:=j x (by simp[ay,b]);omega)
 have l:∀x∈fb c,x∉fb d:=fun x a b=>(u x b).elim (k x a) (fun z=>by have:=C x a;omega)
 have B:∀x∈fb c,x∉fb cA:=fun x a b=>(t x a).elim (fun h=>(v x h).2 b) (fun z=>by have:=j x (by simp[ay,b]);omega)
 have D:∀x∈fb d,x∉fb cA:=fun x a b=>(u x a).elim (fun h=>J x h b) (fun z=>by have:=j x (by simp[ay,b]);omega)
 have L:Blk w2 p T.tn #[.slice kA ks.length kc,.slice vA vs.length vc,.slice cA cs.length cc]:=(h.blk.keep r E).keep q F
 have s:aa [p] w2 ((w2.setCell (U p 0) (.slice c ks'.length e)).setCell (U p 1) (.slice d ks'.length f)):=((aa.refl [p] w2).setCell (p:=(U p 0)) (.inl (by simp)) _).setCell (p:=(U p 1)) (.inl (by simp)) _
 refine⟨⟨?_,?_,?_,?_,aW.2 ⟨⟨m,n,H⟩,fun x a=>⟨l x a,B x a⟩,D⟩⟩,?_,?_⟩
 ·have:=(L.set_ 0 (.slice c ks'.length e)).set_ 1 (.slice d ks'.length f);rw[o];simpa using this
 ·exact aq (aq K q (fun y i b=>k y b i)) s (fun y i b=>by rw[CZ.1 i] at b;exact m b)
 ·rw[o];exact aq O s (fun y i b=>by rw[CZ.1 i] at b;exact n b)
 ·exact aq (aq (aq h.rc r (fun y i b=>(v y i).2 b)) q (fun y i b=>J y i b)) s (fun y i b=>by rw[CZ.1 i] at b;exact H b)
 ·exact((r.mono (fun x a=>.inl (by simp[a]))).trans (q.mono (fun x a=>.inl (by simp[a])))).trans (s.mono (fun x a=>.inl (by simp at a;simp[a])))
 ·intro x a;simp only[ay,Db,CX] at a ⊢;rcases a with a | a | a | a
  ·exact .inl (.inl a)
  ·exact(t x a).imp (fun h=>.inr (.inl h)) id
  ·exact(u x a).imp (fun h=>.inr (.inr (.inl h))) (fun h=>by omega)
  exact .inl (.inr (.inr (.inr a)))
theorem aU.kids (h:aU T w p kA kc vA vc cA cc ks vs cs) {b:Option Addr} {d n':Nat} {cs':List Nat} (n:cs'.length=n')
 (z:w1.ownsRow 0 T.tp 1 (.slice b n' d) n' (cs'.map ptr)) (j:aa (fb cA) w w1) (l:∀g∈fb b,g∈fb cA\/w.heap.size<=g):
 aU T (w1.setCell (U p 2) (.slice b n' d)) p kA kc vA vc b d ks vs cs'/\aa (p::fb cA) w (w1.setCell (U p 2) (.slice b n' d))/\(∀x∈ay p kA vA b,x∈ay p kA vA cA\/w.heap.size<=x):=by
  subst n;obtain⟨⟨r,s,t⟩,m,u⟩:=aW.1 h.nd;have f:=h.lt;have A:p<w.heap.size:=f p (by simp[ay]);have i:p∉fb b:=fun c=>(l p c).elim t (fun h=>by omega);have o:∀x∈fb kA,x∉fb b:=fun x a c=>(l x c).elim (m x a).2 (fun v=>by have:=f x (by simp[ay,a]);omega);have q:∀x∈fb vA,x∉fb b:=fun x a c=>(l x c).elim (u x a) (fun v=>by have:=f x (by simp[ay,a]);omega);have k:aa [p] w1 (w1.setCell (U p 2) (.slice b cs'.length d)):=(aa.refl [p] w1).setCell (p:=(U p 2)) (.inl (by simp)) _;refine⟨⟨?_,?_,?_,?_,aW.2 ⟨⟨r,s,i⟩,fun x a=>⟨(m x a).1,o x a⟩,q⟩⟩,?_,?_⟩
  ·have:=(h.blk.keep j t).set_ 2 (.slice b cs'.length d);simpa using this
  ·exact aq (aq h.rk j (fun y e c=>(m y c).2 e)) k (fun y e c=>by rw[CZ.1 e] at c;exact r c)
  ·exact aq (aq h.rv j (fun y e c=>u y c e)) k (fun y e c=>by rw[CZ.1 e] at c;exact s c)
  ·exact aq z k (fun y e c=>by rw[CZ.1 e] at c;exact i c)
  ·exact(j.mono (fun x a=>.inl (by simp[a]))).trans (k.mono (fun x a=>.inl (by simp at a;simp[a])))
  intro x a;simp only[ay,Db,CX] at a ⊢;rcases a with a | a | a | a
  ·exact .inl (.inl a)
  ·exact .inl (.inr (.inl a))
  ·exact .inl (.inr (.inr (.inl a)))
  exact(l x a).imp (fun h=>.inr (.inr (.inr h))) id
theorem aU.make {q s n:Nat} (m:w.ownsRow q T.tk 1 (.slice kA n kc) n ks) (o:w.ownsRow s T.tv 1 (.slice vA n vc) n vs) (t:∀x∈fb kA,x∉fb vA) (i:ks.length=n) (j:vs.length=n):
 aU T (w.alloc (.cells #[.slice kA n kc,.slice vA n vc,.slice none 0 0] T.tn)) w.heap.size kA kc vA vc none 0 ks vs []:=by
  have k:aa [] w (w.alloc (.cells #[.slice kA n kc,.slice vA n vc,.slice none 0 0] T.tn)):=(aa.refl [] w).alloc _;have lo:∀ {e n:Nat} {A:Option Addr} {c b:Nat} {p:List Value},w.ownsRow b e 1 (.slice A n c) n p->w.ownsRow 0 e 1 (.slice A n c) n p:=fun h=>by
   refine⟨h.1,?_⟩;rcases h.2 with h | ⟨g,a,d,u,_,r⟩
   ·exact .inl h
   exact .inr ⟨g,a,d,u,C3 _,r⟩
  refine⟨?_,?_,?_,bQ _ _ _ _,aW.2 ⟨⟨fun f=>?_,fun f=>?_,by simp[fb]⟩,fun x l=>⟨t x l,by simp[fb]⟩,fun x l=>by simp[fb]⟩⟩
  ·rw[i,j];exact Blk.new w T.tn _
  ·rw[i];exact ab (lo m) k
  ·rw[j];exact ab (lo o) k
  ·have:=(aw m f).2.1;omega
  have:=(aw o f).2.1;omega
end
theorem mv {w:World} {b e n c:Nat} {A:Option Addr} {f:List Value} (h:w.ownsRow b e 1 (.slice A n c) n f):w.ownsRow 0 e 1 (.slice A n c) n f:=by
 refine⟨h.1,?_⟩;rcases h.2 with h | ⟨g,a,d,i,_,r⟩
 ·exact .inl h
 exact .inr ⟨g,a,d,i,C3 _,r⟩
theorem bf {p:Nat} {kA vA cA:Option Addr} {x:Nat}:x∈ay p kA vA cA↔x=p\/x∈fb kA\/x∈fb vA\/x∈fb cA:=by simp[ay]
end Go.Proofs.YtmlmfpikncogpaaGreat
