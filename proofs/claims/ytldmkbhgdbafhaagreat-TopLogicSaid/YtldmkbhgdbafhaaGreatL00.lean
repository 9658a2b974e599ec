import Derived.BigQuiet
import Derived.Deep.AppendLies
import Derived.Deep.DrawnRows
import Derived.Deep.QuietTactic
import Derived.Deep.RegionHeld3
import Derived.Laws.CopyOwn
import Derived.Lib.Hide
import Derived.StillTailTactics
import Derived.WalkKit
import Derived.WalkLawsBesides
import Derived.WalkSpells
namespace Go.Proofs.YtldmkbhgdbafhaaGreat
open Go.RowKit
set_option linter.unusedSimpArgs false
set_option linter.unusedVariables false
set_option maxRecDepth 100000
set_option maxHeartbeats 64000000
def Z (p:Prop):Prop:=p
theorem Z.o {p:Prop} (h:Z p):p:=h
theorem bZ {p:Prop} (h:p):Z p:=h
abbrev U (g i:Nat):Addr:=⟨g,i,none⟩
abbrev V (g:Nat):Option Addr:=some ⟨g,0,none⟩
@[match_pattern] abbrev I (x:Int):Value:=.int .i64 x
abbrev G (a:Option Addr) (n c:Nat):Option Value:=some (.slice a n c)
abbrev CT:= @List.getElem?_eq_getElem
abbrev CU:= @List.length_append
abbrev CV:= @List.getElem?_eq_some_iff
abbrev CW:= @List.mem_of_getElem?
abbrev CX:= @List.mem_append
abbrev CY:= @List.length_take
abbrev CZ:= @List.mem_singleton
abbrev C0:= @IntWalk.i64_in
abbrev C3:= @Nat.zero_le
abbrev C6:= @List.take_of_length_le
abbrev C9:= @Nat.le_refl
abbrev Da:= @List.length_drop
abbrev Db:= @List.mem_cons
abbrev Dc:= @Nat.le_trans
abbrev Dd:= @List.append_assoc
abbrev De:= @List.getElem?_map
abbrev Df:= @List.length_map
abbrev Dg:= @List.mem_append_right
abbrev Dh:= @List.eq_nil_of_length_eq_zero
abbrev Di:= @List.mem_append_left
abbrev Dj:= @List.length_cons
abbrev Dl:= @Nat.zero_add
abbrev Dm:= @List.nil_append
abbrev Do:= @List.nodup_iff_count
abbrev Dp:= @List.nodup_append
abbrev Dq:= @List.take_add_one
abbrev Dr:= @Nat.lt_of_lt_of_le
abbrev Dt:= @List.mem_map
abbrev Du:= @List.take_append_drop
abbrev Dv:= @List.getElem?_append_right
abbrev Dw:= @List.not_mem_nil
abbrev Dx:= @List.getElem?_take
abbrev Dy:= @Array.getElem?_eq_some_iff
abbrev Dz:= @Lib.run_eql_slice_nil
abbrev DA:= @List.append_nil
abbrev DB:= @List.drop_of_length_le
abbrev DC:= @List.getElem?_append_left
abbrev DD:= @List.mem_of_mem_take
abbrev DE:= @List.length_singleton
abbrev DF:= @List.filter_cons
abbrev DG:= @List.length_replicate
abbrev DH:= @Result.andThen_ok
abbrev DI:= @List.drop_append_of_le_length
abbrev DJ:= @List.pairwise_cons
abbrev DK:= @List.getElem?_drop
abbrev DL:= @List.mem_cons_of_mem
abbrev DM:= @Sem.run_bind
abbrev DN:= @List.count_append
abbrev DO:= @Array.length_toList
abbrev DP:= @List.drop_eq_getElem_cons
abbrev DQ:= @List.getElem?_of_mem
abbrev DR:= @Nat.lt_or_ge
abbrev DS:= @List.take_left'
abbrev DT:= @List.length_eraseIdx
abbrev DU:= @List.eraseIdx_eq_take_drop_succ
abbrev DV:= @List.take_append_of_le_length
abbrev DW:= @List.getElem?_toArray
abbrev DX:= @List.map_append
abbrev DY:= @Nat.eq_zero_or_pos
abbrev DZ:= @Sem.run_pure
abbrev D0:= @List.drop_eq_nil_of_le
abbrev D1:= @List.map_cons
abbrev D3:= @List.cons_append
abbrev D4:= @List.count_pos_iff
abbrev D5:= @List.getElem?_cons_zero
abbrev D6:= @List.length_nil
abbrev D7:= @Array.getElem?_setIfInBounds
abbrev D8:= @Option.mem_toList
abbrev D9:= @List.getElem?_eq_none
abbrev Ea:= @List.mem_flatMap
abbrev Eb:= @List.map_toArray
abbrev Ec:= @List.getD_eq_getElem?_getD
abbrev Ed:= @List.flatten_cons
abbrev Ee:= @List.ext_getElem?
abbrev Ef:= @List.mem_of_mem_drop
abbrev Eg:= @UInt8.toNat_ofNat'
abbrev Eh:= @List.filter_append
abbrev Ei:= @List.drop_left'
abbrev Ej:= @Nat.add_assoc
abbrev Ek:= @List.filter_eq_self
abbrev El:= @List.map_take
abbrev Em:= @List.length_set
abbrev En:= @List.map_drop
abbrev Eo:= @List.drop_drop
abbrev Ep:= @Option.isSome_iff_exists
abbrev Er:= @List.map_nil
abbrev Es:= @Nat.min_eq_left
abbrev Et:= @Calls.mono
abbrev Eu:= @List.take_take
abbrev Ew:= @List.size_toArray
abbrev Ex:= @List.pairwise_iff_getElem
abbrev Ey:= @Or.inl
abbrev Ez:= @Nat.sub_self
abbrev EE:= @List.drop_zero
abbrev EF:= @List.pairwise_append
abbrev EG:= @And.intro
abbrev EH:= @Int.toNat_natCast
abbrev EI:= @List.getElem?_cons_succ
abbrev EJ:= @Nat.mul_comm
abbrev EK:= @List.setIfInBounds_toArray
abbrev EL:= @List.set_append_right
abbrev EM:= @Option.map_some
abbrev EO:= @Value.slice.injEq
abbrev EP:= @List.any_eq_false
abbrev EQ:= @Nat.le_one_iff_eq_zero_or_eq_one
abbrev ER:= @List.take_succ_eq_append_getElem
abbrev ET:= @List.take_left
abbrev EU:= @Nat.mul_one
abbrev EV:= @List.map_set
abbrev EW:= @Bool.false_eq_true
abbrev EX:= @World.ownsRow_nil
abbrev EY:= @List.take_zero
abbrev EZ:= @IntWalk.u64_in
abbrev E3:= @Nat.pow_le_pow_right
abbrev E4:= @List.mem_of_getLast?
abbrev E5:= @List.length_pos_iff
abbrev E6:= @UInt8.toNat_inj
abbrev E7:= @List.nodup_cons
abbrev E8:= @List.any_append
abbrev Fd:= @World.ownsRow_made
abbrev Fe:= @List.find?_eq_none
abbrev Ff:= @Nat.add_sub_cancel_left
abbrev Fg:= @Nat.add_zero
abbrev Fh:= @Nat.div_div_eq_div_mul
abbrev Fk:= @Array.getElem?_eq_none
abbrev Fl:= @World.size_alloc
abbrev Fm:= @List.mem_flatten
abbrev Fo:= @List.any_eq_true
abbrev Fq:= @Below.heap_alloc
abbrev Fr:= @Nat.not_lt_zero
section
def Blk (w:World) (g:Nat) (t:TypeId) (cs:Array Value):Prop:=w.heap[g]? =some (.cells cs t (0,0))
structure ad (X:List Nat) (w w':World):Prop where
 os:w'.os=w.os
 tape:w'.tape=w.tape
 output:w'.output=w.output
 size:w.heap.size<=w'.heap.size
 block:∀g,g<w.heap.size->g∉X->w'.heap[g]? =w.heap[g]?
section
variable {w w' w1 w2:World} {X Y:List Nat} {g:Nat} {t:TypeId} {cs:Array Value}
theorem Blk.lt (h:Blk w g t cs):g<w.heap.size:=by
 rcases DR g w.heap.size with b | a
 ·exact b
 unfold Blk at h;rw[Fk a] at h;cases h
theorem Blk.cell (h:Blk w g t cs) (i:Nat):w.cell? (U g i)=cs[i]?:=cell_of_row w g i cs t (0,0) h
theorem Blk.frozen (h:Blk w g t cs) (i:Nat):w.frozen? (U g i)=false:=by
 unfold Blk at h;simp[World.frozen?,h]
theorem Blk.new (w:World) (t:TypeId) (cs:Array Value):Blk (w.alloc (.cells cs t)) w.heap.size t cs:=heap_alloc_new w _
theorem Blk.drew (h:Blk w g t cs):Blk w.drew g t cs:=h
theorem Blk.alloc (h:Blk w g t cs) (o:Obj):Blk (w.alloc o) g t cs:=(Fq w o g h.lt).trans h
theorem Blk.set_ (h:Blk w g t cs) (i:Nat) (u:Value):Blk (w.setCell (U g i) u) g t (cs.setIfInBounds i u):=by
 unfold Blk at h ⊢;simp[World.setCell,Array.getElem?_modify,h]
theorem Blk.far (h:Blk w g t cs) {p:Addr} (a:g≠p.block) (u:Value):Blk (w.setCell p u) g t cs:=(Below.heap_setCell w p u g a).trans h
theorem Blk.keep (h:Blk w g t cs) (b:ad X w w') (a:g∉X):Blk w' g t cs:=(b.block g h.lt a).trans h
theorem ad.refl (X:List Nat) (w:World):ad X w w:=⟨rfl,rfl,rfl,C9 _,fun _ _ _=>rfl⟩
theorem ad.trans (h:ad X w w1) (k:ad X w1 w2):ad X w w2:=
 ⟨k.os.trans h.os,k.tape.trans h.tape,k.output.trans h.output,Dc h.size k.size,
  fun g a b=>(k.block g (Dr a h.size) b).trans (h.block g a b)⟩
theorem ad.mono (h:ad X w w') (d:∀x∈X,x∈Y\/w.heap.size<=x):ad Y w w':=
 ⟨h.os,h.tape,h.output,h.size,fun g c e=>h.block g c fun b=>by
  rcases d g b with a | a
  ·exact e a
  omega⟩
theorem ad.nil (h:ad [] w w'):ad X w w':=h.mono (by simp)
theorem ad.drew (h:ad X w w'):ad X w w'.drew:=⟨h.os,h.tape,h.output,h.size,h.block⟩
theorem ad.alloc (h:ad X w w') (o:Obj):ad X w (w'.alloc o):=
 h.trans ⟨rfl,rfl,rfl,by simp,fun g a _=>Fq _ _ _ a⟩
theorem ad.setCell (h:ad X w w') {p:Addr} (a:p.block∈X\/w.heap.size<=p.block) (u:Value):ad X w (w'.setCell p u):=
 ⟨h.os,h.tape,h.output,by simpa [World.setCell] using h.size,fun g c b=>(Below.heap_setCell w' p u g (by
  rintro rfl;rcases a with a | a
  ·exact b a
  omega)).trans (h.block g c b)⟩
theorem ad.setRow (h:ad X w w') {g:Nat} (a:g∈X\/w.heap.size<=g) (cs:Array Value):ad X w (w'.setRow g cs):=
 ⟨h.os,h.tape,h.output,by simpa [World.setRow] using h.size,fun k c b=>(setRow_other w' g k cs (by
  rintro rfl;rcases a with a | a
  ·exact b a
  omega)).trans (h.block k c b)⟩
theorem ad.below (h:ad [] w w'):Below w.heap.size w w':=⟨h.os,h.tape,h.output,h.size,fun g a=>h.block g a (by simp)⟩
theorem ad.of_below {B:Nat} (h:Below B w w') (d:∀g,B<=g->g<w.heap.size->g∈X):ad X w w':=
 ⟨h.os,h.tape,h.output,h.size,fun g b c=>h.block g (by
  rcases DR g B with a | a
  ·exact a
  exact absurd (d g a b) c)⟩
theorem ad.grown {a:Option Nat} (h:w.grownBy w' a) (d:∀k,a=some k->k∈X):ad X w w':=
 ⟨h.os,h.tape,h.output,h.size,fun g b c=>h.block g b fun e=>c (d g e.symm)⟩
theorem Blk.ne_ {b:Nat} {c:TypeId} {cs':Array Value} (h:Blk w g t cs) (a:Blk w b c cs') (d:t≠c):g≠b:=by
 rintro rfl;unfold Blk at h a;rw[h] at a;injection a with a;injection a with _ a;exact d a
theorem ad.cell (h:ad X w w') {p:Addr} (a:p.block<w.heap.size) (b:p.block∉X):w'.cell? p=w.cell? p:=
 World.cell?_of_block (h.block _ a b)
theorem ad.frozen (h:ad X w w') {p:Addr} (a:p.block<w.heap.size) (b:p.block∉X):w'.frozen? p=w.frozen? p:=
 World.frozen?_of_block (h.block _ a b)
theorem ad.cellEq (h:ad X w w') {p:Addr} {v:Value} (a:w.cell? p=some v) (b:p.block∉X):w'.cell? p=some v:=(h.cell (block_lt_of_cell a) b).trans a
end
theorem ad.drewN {X:List Nat} {w w':World} (h:ad X w w') (n:Nat):ad X w (w'.drewN n):=⟨h.os,h.tape,h.output,h.size,h.block⟩
def bv (b:UInt8):Value:=.int .u8 (b.toNat:Int)
def Bts (w:World) (A:Option Addr) (l:List UInt8):Prop:=
 l=[]\/∃g o,A=some (U g o)/\∀j v,l[j]? =some v->w.cell? (U g (o+j))=some (bv v)
section
variable {w w':World} {X:List Nat} {A:Option Addr} {l:List UInt8}
theorem Bts.nil:Bts w A []:=.inl rfl
theorem Bts.lt (h:Bts w A l) (a:l≠[]):∃g o,A=some (U g o)/\g<w.heap.size:=by
 rcases h with rfl | ⟨g,o,rfl,h⟩
 ·exact absurd rfl a
 cases l with
 | nil=>exact absurd rfl a
 | cons x l=>exact⟨g,o,rfl,block_lt_of_cell (h 0 x rfl)⟩
theorem Bts.keep (h:Bts w A l) (c:ad X w w') (d:∀a,A=some a->a.block∉X):Bts w' A l:=by
 rcases h with rfl | ⟨g,o,rfl,h⟩
 ·exact .inl rfl
 refine .inr ⟨g,o,rfl,fun j v b=>?_⟩;have:=h j v b;rw[c.cell (p:=(U g (o+j))) (block_lt_of_cell this) (d (U g o) rfl)];exact this
theorem Bts.take (h:Bts w A l) (k:Nat):Bts w A (l.take k):=by
 rcases h with rfl | ⟨g,o,rfl,h⟩
 ·exact .inl (by simp)
 refine .inr ⟨g,o,rfl,fun j v a=>h j v ?_⟩;rw[Dx] at a
 split at a
 ·exact a
 cases a
end
theorem cR {P:Program} {w:World} {b:Array Oper} {rest:List Oper} {o:Oper} {a:Act} {Q:Exit->Act->World->Prop} (d:Region.wanted o (yielded b a.tmps)=true)
 (h:∀K:Act->World->Prop,(∀a w,wpList P b Q rest a w->K a w)->o.wp P a w K Q):wpList P b Q (o::rest) a w:=
 wpList_step fun K c=>by rw[if_pos d];exact h K c
theorem oQ {α:Type} (L a:List α) (h:L.length=a.length):splice L 0 a=a:=by
 simp[splice,<-h]
theorem j3 (m k:Nat) (v:Value) (c:0<m):madeCells (Array.replicate m v) k=(List.replicate k v).toArray:=by
 apply Array.ext';apply Ee;intro j;by_cases a:j<k
 ·have b:j%m<m:=Nat.mod_lt _ c;simp[madeCells,a,b]
 simp[madeCells,a]
theorem uN {P:Program} {w:World} {o:Oper} {a:Act} {Q:Exit->Act->World->Prop} {K:Act->World->Prop} (t:TypeId) (x y:Operand) (m:o.op=.makeSlice t x y)
 (e:TypeId) (z:Value) (size bytes:Nat) (p:P.underlying t=some (.slice e)) (b:(P.info? e).map (fun i=>(i.zero,i.size,i.bytes))=some (some z,size,bytes))
 (j kc:IntKind) (n c:Nat) (q:a.eval x=.int j (n:Int)) (r:a.eval y=.int kc (c:Int)) (l:n<=c) (u:bytes*c<=281474976710656) (k:c<=9223372036854775807)
 (h:∀w',Z (Blk w' w.heap.size e (madeCells z.cells (c*size)))->ad [] w w'->Z (w'.heap.size=w.heap.size+1)->K (a.put o.dst (.slice (V w.heap.size) n c)) w'):
 o.wp P a w K Q:=by
  cases g:P.info? e with
  | none=>simp[g] at b
  | some i=>
   simp only[g,EM,Option.some.injEq,Prod.mk.injEq] at b;obtain⟨s,rfl,rfl⟩:=b;have f:(i.bytes:Int)*(c:Int)<=281474976710656:=by
    have h:((i.bytes*c:Nat):Int)<=281474976710656:=by omega
    rwa [Int.natCast_mul] at h
   have d:=run_make (P:=P) w t e i z p g s j kc n c (by omega) (by omega) f (by omega);simp only[EH] at d;unfold Oper.wp execOp;simp only[m,q,r,DM,DZ,DH,d];exact h _ (bZ (Blk.new _ _ _)) ((ad.refl _ _).alloc _) (bZ (by simp))
theorem eb {P:Program} {w:World} {d:Array Oper} {rest:List Oper} {o:Oper} {a:Act} {Q:Exit->Act->World->Prop} (g:Region.wanted o (yielded d a.tmps)=true) (t:TypeId) (x y:Operand) (s:o.op=.makeSlice t x y)
 (e:TypeId) (z:Value) (size bytes:Nat) (u:P.underlying t=some (.slice e)) (b:(P.info? e).map (fun i=>(i.zero,i.size,i.bytes))=some (some z,size,bytes))
 (k kc:IntKind) (n c:Nat) (v:a.eval x=.int k (n:Int)) (A:a.eval y=.int kc (c:Int)) (j:n<=c) (r:bytes*c<=281474976710656) (f:c<=9223372036854775807)
 (h:∀w',Z (Blk w' w.heap.size e (madeCells z.cells (c*size)))->ad [] w w'->Z (w'.heap.size=w.heap.size+1)->wpList P d Q rest (a.put o.dst (.slice (V w.heap.size) n c)) w'):
 wpList P d Q (o::rest) a w:=
 cR g fun _ q=>uN t x y s e z size bytes u b k kc n c v A j r f (fun w' l m p=>q _ _ (h w' l m p))
theorem dE {w w':World} {X:List Nat} {a:Nat} {e:TypeId} {size:Nat} {v:Value} {n:Nat} {xs:List Value} (h:w.ownsRow a e size v n xs) (j:ad X w w') (f:∀g,v.ownBlock=some g->g∉X):w'.ownsRow a e size v n xs:=by
 refine⟨h.1,?_⟩;rcases h.2 with k | ⟨g,c,d,rfl,i,b,rest⟩
 ·exact .inl k
 refine .inr ⟨g,c,d,rfl,i,?_,rest⟩;exact(j.block g (Dy.1 b).1 (f g rfl)).trans b
theorem jy {w:World} {a:Nat} {e:TypeId} {size:Nat} {v:Value} {n:Nat} {xs:List Value} (h:w.ownsRow a e size v n xs) {g:Nat} (c:v.ownBlock=some g):a<=g/\∃b,Blk w g e b:=by
 rcases h.2 with ⟨rfl,_⟩ | ⟨j,f,b,rfl,i,d,rest⟩
 ·simp[Value.ownBlock] at c
 simp[Value.ownBlock] at c;subst c;exact⟨i,b,d⟩
end
section
section
variable {P:Program} {ops:Array Oper} {Q:Exit->Act->World->Prop} {md:Region.Mode} {S:World->Prop} {n:Nat}
end
end
section
section
variable {P:Program} {ops:Array Oper} {Q:Exit->Act->World->Prop} {md:Region.Mode} {S:World->Prop} {n:Nat}
def aR (P:Program) (md:Region.Mode) (ops:Array Oper) (Q:Exit->Act->World->Prop) (S:World->Prop) (n:Nat):Nat->Array Bool->Act->World->Prop
 | 0,listed,a,w=>Region.ready md ops listed=[]/\Q .normal a w
 | fuel+1,listed,a,w=>
  (Region.ready md ops listed=[]->Q .normal a w)/\
  ∀i∈Region.ready md ops listed,wpOp P ops Q i (fun a' w'=>(n<=i\/S w')/\aR P md ops Q S n fuel (listed.setIfInBounds i true) a' w') a w
theorem jL:∀(b:Nat) (c:Array Bool) (a:Act) (w:World),aR P md ops Q S n b c a w->wpAny P md ops Q b c a w
 | 0,_,_,_,h=>h
 | b+1,_,_,_,h=>⟨h.1,fun i f=>wpOp_mono (fun d g e=>jL b _ d g e.2) (h.2 i f)⟩
theorem jM {i:Nat} {o:Oper} {c:Nat} {b:Array Bool} {a:Act} {w:World} (p:ops[i]? =some o) (f:Region.ready md ops b=[i])
 (h:∀d:Act->World->Prop,(∀a w,(n<=i\/S w)->aR P md ops Q S n c (b.setIfInBounds i true) a w->d a w)->if Region.wanted o (yielded ops a.tmps)=true then Oper.wp P o a w d Q else d (a.put o.dst undef) w):
 aR P md ops Q S n (c+1) b a w:=
 ⟨fun g=>absurd (f▸g) (by simp),fun j e=>by
  rw[f] at e;obtain rfl:j=i:=by simpa using e
  exact wpOp_step p (fun d m=>h d (fun a w k l=>m a w ⟨k,l⟩))⟩
theorem mL {b:Array Bool} {a:Act} {w:World} (d:Region.ready md ops b=[]) (h:Q .normal a w):
 ∀c,aR P md ops Q S n c b a w
 | 0=>⟨d,h⟩
 | _+1=>⟨fun _=>h,by rw[d];simp⟩
theorem ae {c:Nat} {a:Act} {w:World} (b:P.follows .mixedOrders=true)
 (h:aR P .any ops Q S n ops.size (Array.replicate ops.size false) a w.drew):(Code.region c ops true).wp P Q a w:=
 wp_region_any b (jL _ _ _ _ h)
theorem a7 {i j:Nat} {h l:Oper} {d:Nat} {b:Array Bool} {a:Act} {w:World} (q:ops[i]? =some h) (r:ops[j]? =some l) (o:Region.ready md ops b=[i,j])
 (e:∀c:Act->World->Prop,(∀a w,(n<=i\/S w)->aR P md ops Q S n d (b.setIfInBounds i true) a w->c a w)->if Region.wanted h (yielded ops a.tmps)=true then Oper.wp P h a w c Q else c (a.put h.dst undef) w)
 (f:∀c:Act->World->Prop,(∀a w,(n<=j\/S w)->aR P md ops Q S n d (b.setIfInBounds j true) a w->c a w)->if Region.wanted l (yielded ops a.tmps)=true then Oper.wp P l a w c Q else c (a.put l.dst undef) w):
 aR P md ops Q S n (d+1) b a w:=
 ⟨fun p=>absurd (o▸p) (by simp),fun k g=>by
  rw[o] at g;rcases Db.1 g with rfl | g
  ·exact wpOp_step q (fun c m=>e c (fun a w e f=>m a w ⟨e,f⟩))
  obtain rfl:k=j:=by simpa using g
  exact wpOp_step r (fun c m=>f c (fun a w e f=>m a w ⟨e,f⟩))⟩
end
end
section
section
variable {P:Program} {ops:Array Oper} {Q:Exit->Act->World->Prop} {md:Region.Mode} {S:World->Prop} {n:Nat}
def iW (md:Region.Mode) (ops:Array Oper) (i:Nat) (m:List Nat) (k:Nat):List Nat:=
 match ops[k]? with
 | some o=>bif o.after.any (fun e=>Region.binds md e && (e.on==i || m.contains e.on)) then k::m else m
 | none=>m
def zg (md:Region.Mode) (ops:Array Oper) (i:Nat):List Nat:=(List.range ops.size).foldl (iW md ops i) []
def jI (md:Region.Mode) (ops:Array Oper) (n i:Nat):Bool:=(List.range ops.size).all fun j=>decide (j<n) || (zg md ops i).contains j
def Cl (md:Region.Mode) (ops:Array Oper) (a:Array Bool):Prop:=
 ∀k o,ops[k]? =some o->a.getD k false=true->∀e∈o.after,Region.binds md e=true->a.getD e.on false=true
def pR (md:Region.Mode) (ops:Array Oper) (a:Array Bool):Bool:=
 (List.range ops.size).all fun k=>match ops[k]? with
  | some o=>bif a.getD k false then o.after.all (fun e=>!Region.binds md e || a.getD e.on false) else true
  | none=>true
theorem oD {a:Array Bool} (h:pR md ops a=true):Cl md ops a:=by
 intro k o c i e g f;have b:=List.all_eq_true.1 h k (List.mem_range.2 (Dy.1 c).1);simp only[c,i,cond_true] at b;have d:=Array.all_eq_true'.1 b e g;simpa [f] using d
theorem unl {a:Array Bool} {i:Nat} (h:a.getD i true=false):a.getD i false=false:=by
 rcases DR i a.size with b | b
 ·simp[b] at h ⊢;exact h
 simp[Fk b]
theorem nS {a:Array Bool} {j k:Nat} (h:a.getD k false=true):(a.setIfInBounds j true).getD k false=true:=by
 by_cases b:j=k
 ·subst b;rcases DR j a.size with c | c
  ·simp[c]
  simp[Fk c] at h
 rw[getD_set_ne false b];exact h
theorem Cl.set {a:Array Bool} (h:Cl md ops a) {j:Nat} (m:j∈Region.ready md ops a):Cl md ops (a.setIfInBounds j true):=by
 intro k o d l e i g;refine nS ?_;obtain⟨_,n,f,b⟩:=mem_ready.1 m;by_cases c:j=k
 ·subst c;rw[f] at d;cases d;exact b e i g
 rw[getD_set_ne false c] at l;exact h k o d l e i g
theorem lw {a:Array Bool} {i:Nat} (j:Cl md ops a) (p:a.getD i true=false):
 ∀(l:List Nat) (m:List Nat),(∀k∈m,a.getD k false=false/\k∉Region.ready md ops a)->∀k∈l.foldl (iW md ops i) m,a.getD k false=false/\k∉Region.ready md ops a
 | [],m,hm=>hm
 | x::l,m,hm=>by
   refine lw j p l _ ?_;unfold iW
   split
   ·rename_i o ho;cases q:o.after.any (fun e=>Region.binds md e && (e.on==i || m.contains e.on)) with
    | false=>simpa using hm
    | true=>
     simp only[cond_true];obtain⟨e,n,d⟩:=Array.any_eq_true'.1 q;simp only[Bool.and_eq_true,Bool.or_eq_true,beq_iff_eq,List.contains_iff_mem] at d;have f:a.getD e.on false=false:=by
      rcases d.2 with h | h
      ·rw[h];exact unl p
      exact(hm _ h).1
     intro k g;rcases Db.1 g with rfl | g
     ·constructor
      ·cases r:a.getD k false with
       | false=>rfl
       | true=>rw[j k o ho r e n d.1] at f;cases f
      intro s;obtain⟨_,t,c,b⟩:=mem_ready.1 s;rw[ho] at c;cases c;rw[b e n d.1] at f;cases f
     exact hm k g
   exact hm
theorem mz {i j:Nat} {a:Array Bool} (h:jI md ops n i=true) (d:j<ops.size) (e:n<=j) (b:Cl md ops a) (c:a.getD i true=false):j∉Region.ready md ops a:=by
 have:=List.all_eq_true.1 h j (List.mem_range.2 d);rw[decide_eq_false (by omega)] at this;exact(lw b c _ [] (by simp) j (by have h:=this;simp at h;exact h)).2
theorem kM {i:Nat} (hl:jI md ops n i=true) {t:Oper} {v:Value} (M:ops[i]? =some t) (s:∀(j:Nat) (o:Oper) cs b,ops[j]? =some o->o.op≠.select cs b)
 (Y:∀c a w,Q (.panic c) (a.put t.dst v) w->Q (.panic c) a w):
 ∀(f:Nat) (d:Array Bool) (a:Act) (w:World),
  (∀j u,ops[j]? =some u->j≠i->d.getD j true=false->(∀e∈u.after,Region.binds md e=true->e.on≠i)->t.apart ops u=true)->Cl md ops d->
  i∈Region.ready md ops d->YieldsIf P ops S t v a->S w->
  aR P md ops Q S n f (d.setIfInBounds i true) (a.put t.dst v) w->aR P md ops Q S n (f+1) d a w:=by
 intro f
 induction f with
 | zero=>
  intro d a w _ _ r J x H;refine⟨fun h=>(by rw[h] at r;cases r),fun j hj=>?_⟩;by_cases g:j=i
  ·subst g;exact J.wpOp M x ⟨.inr x,H⟩
  have:=ready_mono hj g;rw[H.1] at this;cases this
 | succ f ih=>
  intro d a w l A r J x H;refine⟨fun h=>(by rw[h] at r;cases r),fun j hj=>?_⟩;by_cases g:j=i
  ·subst g;exact J.wpOp M x ⟨.inr x,H⟩
  have F:=H.2 j (ready_mono hj g);obtain⟨q,u,p,z⟩:=mem_ready.1 hj;have N:¬n<=j:=fun h=>mz hl (Dy.1 p).1 h A (mem_ready.1 r).1 hj;have C:∀e∈u.after,Region.binds md e=true->e.on≠i:=fun e he hb L=>by
   have F:=z e he hb;rw[L,unl (mem_ready.1 r).1] at F;cases F
  have X:=wpOp_putIf p (l j u p g q C) (fun cs b=>s i t cs b M) (fun cs b=>s j u cs b p) Y J F;have m:∀k E,ops[k]? =some E->k≠i->(d.setIfInBounds j true).getD k true=false->
   (∀e∈E.after,Region.binds md e=true->e.on≠i)->t.apart ops E=true:=fun k E hk O D R=>by
   refine l k E hk O ?_ R
   by_cases B:j=k
   ·subst B;exact q
   ·rw[getD_set_ne true B] at D;exact D
  refine wpOp_mono (fun W T K=>?_) X;have y:S T:=K.2.1.resolve_left N;refine⟨.inr y,ih (d.setIfInBounds j true) W T m (A.set hj) (ready_mono r (Ne.symm g)) K.1 y ?_⟩;rw[Array.setIfInBounds_comm _ _ g];exact K.2.2
theorem lR {i:Nat} {e:Oper} {v:Value} {d:Nat} {b:Array Bool} {a:Act} {w:World} (g:(pR md ops b && jI md ops n i)=true) (f:ops[i]? =some e)
 (o:Region.noSelect ops=true) (l:Region.free md ops b i=true) (m:(Region.ready md ops b).contains i=true)
 (j:∀c a w,Q (.panic c) (a.put e.dst v) w->Q (.panic c) a w) (k:S w) (p:YieldsIf P ops S e v a) 
 (h:aR P md ops Q S n d (b.setIfInBounds i true) (a.put e.dst v) w):aR P md ops Q S n (d+1) b a w:=
 kM (Bool.and_eq_true_iff.1 g).2 f (Region.noSelect_spec o) j d b a w (Region.free_spec f l) (oD (Bool.and_eq_true_iff.1 g).1) (by simpa using m) p k h
end
end
section
section
variable {P:Program} {ops:Array Oper} {Q:Exit->Act->World->Prop} {md:Region.Mode} {S:World->Prop} {n:Nat}
def Ord (_:List Nat) (p:Prop):Prop:=p
theorem ord (l:List Nat) {p:Prop} (h:Ord l p):p:=h
theorem aB {p:Prop} (h:p):Ord [] p:=h
def wN (md:Region.Mode) (ops:Array Oper) (n:Nat) (a:Array Bool) (i:Nat):Bool:=
 pR md ops a && jI md ops n i && Region.noSelect ops && Region.free md ops a i && (Region.ready md ops a).contains i
theorem tk {i:Nat} {l:List Nat} {f:Oper} {v:Value} {d:Nat} {b:Array Bool} {a:Act} {w:World} (e:wN md ops n b i=true) (k:ops[i]? =some f)
 (g:∀c a w,Q (.panic c) (a.put f.dst v) w->Q (.panic c) a w) (j:S w) (m:YieldsIf P ops S f v a)
 (h:Ord l (aR P md ops Q S n d (b.setIfInBounds i true) (a.put f.dst v) w)):Ord (i::l) (aR P md ops Q S n (d+1) b a w):=by
  unfold wN at e;simp only[Bool.and_eq_true] at e;exact lR (by rw[Bool.and_eq_true];exact e.1.1.1) k e.1.1.2 e.1.2 e.2 g j m h
end
end
section
theorem Y1 {α:Type} {l:List α} {i:Nat} {h:i<l.toArray.size}:l.toArray[i]'h=l[i]'(by simpa using h):=rfl
theorem Y2 {α:Type} {a:α} {l:List α} {i:Nat} {h:i+1<(a::l).length}:(a::l)[i+1]'h=l[i]'(by simpa using h):=rfl
theorem Y3 {α:Type} {a:α} {l:List α} {h:0<(a::l).length}:(a::l)[0]'h=a:=rfl
theorem PT:(∀(a:Act) (i:Nat) (v:Value),a.put (some i) v= { a with tmps:=a.tmps.setIfInBounds i v })/\(∀(a:Act) (v:Value),a.put none v=a)/\(∀(l:List Value) (i:Nat) (v:Value),l.toArray.setIfInBounds i v=(l.set i v).toArray)/\
 (∀(x v:Value) (l:List Value),(x::l).set 0 v=v::l)/\(∀(x v:Value) (l:List Value) (i:Nat),(x::l).set (i+1) v=x::l.set i v):=
 ⟨fun _ _ _=>rfl,fun _ _=>rfl,fun _ _ _=>EK ..,fun _ _ _=>rfl,fun _ _ _ _=>rfl⟩
section
variable {P:Program} {ops:Array Oper} {Q:Exit->Act->World->Prop} {md:Region.Mode} {S:World->Prop} {n:Nat}
theorem tq {i:Nat} {l:List Nat} {e:Oper} {v:Value} {d:Nat} {b:Array Bool} {a:Act} {w:World} (g:S w)
 (h:Ord l (aR P md ops Q S n d (b.setIfInBounds i true) (a.put e.dst v) w)) (j:wN md ops n b i=true:=by kernel_rfl) (k:ops[i]? =some e:=by exact rfl) (m:Region.wanted e (yielded ops a.tmps)=true:=by rfl)
 (o:∀w,S w->(execOp a.eval e).run P w=.ok (.value v) w:=by(intro w h;go_simp;try with_reducible rfl))
 (f:∀c a w,Q (.panic c) (a.put e.dst v) w->Q (.panic c) a w:=by exact fun _ _ _ h=>h):Ord (i::l) (aR P md ops Q S n (d+1) b a w):=tk j k f g (.inl ⟨m,o⟩) h
theorem JQ (i:Nat) {o:Oper} {c:Nat} {b:Array Bool} {a f:Act} {w g:World} (h:aR P md ops Q S n c (b.setIfInBounds i true) f g)
 (j:ops[i]? =some o:=by exact rfl) (l:Region.ready md ops b=[i]:=by kernel_rfl) (k:n<=i:=by omega)
 (m:∀d:Act->World->Prop,d f g->if Region.wanted o (yielded ops a.tmps)=true then Oper.wp P o a w d Q else d (a.put o.dst undef) w:=by(intro K e;try dsimp only[Y1,Y2,Y3];go_simp;exact e)):aR P md ops Q S n (c+1) b a w:=
 jM j l fun K e=>m K (e _ _ (.inl k) h)
theorem tu {i:Nat} {l:List Nat} {e:Oper} {d:Nat} {b:Array Bool} {a:Act} {w:World} (g:S w)
 (h:Ord l (aR P md ops Q S n d (b.setIfInBounds i true) (a.put e.dst undef) w)) (j:wN md ops n b i=true:=by kernel_rfl) (k:ops[i]? =some e:=by exact rfl) (m:Region.wanted e (yielded ops a.tmps)=false:=by rfl)
 (f:∀c a w,Q (.panic c) (a.put e.dst undef) w->Q (.panic c) a w:=by exact fun _ _ _ h=>h):Ord (i::l) (aR P md ops Q S n (d+1) b a w):=tk j k f g (.inr ⟨m,rfl⟩) h
theorem J1 (i:Nat) {o:Oper} {c:Nat} {b:Array Bool} {a:Act} {w:World}
 (h:∀d:Act->World->Prop,(∀a w,(n<=i\/S w)->aR P md ops Q S n c (b.setIfInBounds i true) a w->d a w)->if Region.wanted o (yielded ops a.tmps)=true then Oper.wp P o a w d Q else d (a.put o.dst undef) w)
 (e:ops[i]? =some o:=by exact rfl) (f:Region.ready md ops b=[i]:=by kernel_rfl):aR P md ops Q S n (c+1) b a w:=jM e f h
theorem JD {b:Array Bool} {a:Act} {w:World} {c:Nat} (h:Q .normal a w) (d:Region.ready md ops b=[]:=by kernel_rfl):aR P md ops Q S n c b a w:=mL d h _
end
end
section
section
variable {P:Program} {ops:Array Oper} {Q:Exit->Act->World->Prop} {md:Region.Mode} {S:World->Prop} {n:Nat}
theorem gK {i j k:Nat} {l o p:Oper} {d:Nat} {b:Array Bool} {a:Act} {w:World} (t:ops[i]? =some l) (u:ops[j]? =some o) (v:ops[k]? =some p) (q:Region.ready md ops b=[i,j,k])
 (e:∀c:Act->World->Prop,(∀a w,(n<=i\/S w)->aR P md ops Q S n d (b.setIfInBounds i true) a w->c a w)->if Region.wanted l (yielded ops a.tmps)=true then Oper.wp P l a w c Q else c (a.put l.dst undef) w)
 (f:∀c:Act->World->Prop,(∀a w,(n<=j\/S w)->aR P md ops Q S n d (b.setIfInBounds j true) a w->c a w)->if Region.wanted o (yielded ops a.tmps)=true then Oper.wp P o a w c Q else c (a.put o.dst undef) w)
 (s:∀c:Act->World->Prop,(∀a w,(n<=k\/S w)->aR P md ops Q S n d (b.setIfInBounds k true) a w->c a w)->if Region.wanted p (yielded ops a.tmps)=true then Oper.wp P p a w c Q else c (a.put p.dst undef) w):
 aR P md ops Q S n (d+1) b a w:=
 ⟨fun r=>absurd (q▸r) (by simp),fun m g=>by
  rw[q] at g;rcases Db.1 g with rfl | g
  ·exact wpOp_step t (fun c h=>e c (fun a w e f=>h a w ⟨e,f⟩))
  rcases Db.1 g with rfl | g
  ·exact wpOp_step u (fun c h=>f c (fun a w e f=>h a w ⟨e,f⟩))
  obtain rfl:m=k:=by simpa using g
  exact wpOp_step v (fun c h=>s c (fun a w e f=>h a w ⟨e,f⟩))⟩
structure At (i:Nat) (p:Prop):Prop where
 mk::
 o:p
theorem at_ (i:Nat) {p:Prop} (h:p):At i p:=⟨h⟩
theorem r8 (d l:List Nat) {c:Nat} {b:Array Bool} {a:Act} {w:World} (h:Ord l (aR P md ops Q S n c b a w)) (e:Region.ready md ops b=d:=by decide+kernel):aR P md ops Q S n c b a w:=h
theorem J1' (i:Nat) {d:Oper} {c:Nat} {b:Array Bool} {a:Act} {w:World}
 (f:∀e:Act->World->Prop,(∀a w,(n<=i\/S w)->aR P md ops Q S n c (b.setIfInBounds i true) a w->e a w)->At i (if Region.wanted d (yielded ops a.tmps)=true then Oper.wp P d a w e Q else e (a.put d.dst undef) w))
 (h:ops[i]? =some d:=by exact rfl) (j:Region.ready md ops b=[i]:=by decide+kernel):aR P md ops Q S n (c+1) b a w:=jM h j fun K g=>(f K g).o
theorem J2 (i j:Nat) {e f:Oper} {c:Nat} {b:Array Bool} {a:Act} {w:World}
 (h:∀d:Act->World->Prop,(∀a w,(n<=i\/S w)->aR P md ops Q S n c (b.setIfInBounds i true) a w->d a w)->At i (if Region.wanted e (yielded ops a.tmps)=true then Oper.wp P e a w d Q else d (a.put e.dst undef) w))
 (k:∀d:Act->World->Prop,(∀a w,(n<=j\/S w)->aR P md ops Q S n c (b.setIfInBounds j true) a w->d a w)->At j (if Region.wanted f (yielded ops a.tmps)=true then Oper.wp P f a w d Q else d (a.put f.dst undef) w))
 (l:ops[i]? =some e:=by exact rfl) (m:ops[j]? =some f:=by exact rfl) (p:Region.ready md ops b=[i,j]:=by decide+kernel):aR P md ops Q S n (c+1) b a w:=a7 l m p (fun K g=>(h K g).o) fun K g=>(k K g).o
theorem J3 (i j k:Nat) {f g h:Oper} {c:Nat} {b:Array Bool} {a:Act} {w:World}
 (l:∀d:Act->World->Prop,(∀a w,(n<=i\/S w)->aR P md ops Q S n c (b.setIfInBounds i true) a w->d a w)->At i (if Region.wanted f (yielded ops a.tmps)=true then Oper.wp P f a w d Q else d (a.put f.dst undef) w))
 (m:∀d:Act->World->Prop,(∀a w,(n<=j\/S w)->aR P md ops Q S n c (b.setIfInBounds j true) a w->d a w)->At j (if Region.wanted g (yielded ops a.tmps)=true then Oper.wp P g a w d Q else d (a.put g.dst undef) w))
 (p:∀d:Act->World->Prop,(∀a w,(n<=k\/S w)->aR P md ops Q S n c (b.setIfInBounds k true) a w->d a w)->At k (if Region.wanted h (yielded ops a.tmps)=true then Oper.wp P h a w d Q else d (a.put h.dst undef) w))
 (q:ops[i]? =some f:=by exact rfl) (r:ops[j]? =some g:=by exact rfl) (s:ops[k]? =some h:=by exact rfl) (t:Region.ready md ops b=[i,j,k]:=by decide+kernel):aR P md ops Q S n (c+1) b a w:=gK q r s t (fun K e=>(l K e).o) (fun K e=>(m K e).o) fun K e=>(p K e).o
end
end
end Go.Proofs.YtldmkbhgdbafhaaGreat
