/- Small words for memory: a block known whole, a frame that names the blocks that may have turned, bytes behind a slice. -/
import Derived.WalkKit
import Derived.WalkSpells
import Derived.WalkLawsBesides
import Derived.Laws.CopyOwn
import Derived.Deep.QuietTactic
import Derived.BigQuiet
import Derived.Lib.Hide
import Derived.StillTailTactics
import Derived.Deep.RegionHeld3
import Derived.Deep.AppendLies
import Derived.Deep.DrawnRows
namespace Go.Proofs.Ytmclfbhcddcebaa
open Go.RowKit

/-- Block g is just the cells cs of element type t, none frozen. -/
def Blk (w : World) (g : Nat) (t : TypeId) (cs : Array Value) : Prop := w.heap[g]? = some (.cells cs t (0, 0))

/-- Behind the step only the blocks of X, and new ones, may have turned. -/
structure Keeps (X : List Nat) (w w' : World) : Prop where
  os : w'.os = w.os
  tape : w'.tape = w.tape
  output : w'.output = w.output
  size : w.heap.size ≤ w'.heap.size
  block : ∀ g, g < w.heap.size → g ∉ X → w'.heap[g]? = w.heap[g]?

section
variable {w w' w1 w2 : World} {X Y : List Nat} {g : Nat} {t : TypeId} {cs : Array Value}

theorem Blk.lt (h : Blk w g t cs) : g < w.heap.size := by
  rcases Nat.lt_or_ge g w.heap.size with hlt | hge
  · exact hlt
  · unfold Blk at h; rw [Array.getElem?_eq_none hge] at h; cases h
theorem Blk.cell (h : Blk w g t cs) (i : Nat) : w.cell? ⟨g, i, none⟩ = cs[i]? := cell_of_row w g i cs t (0, 0) h
theorem Blk.frozen (h : Blk w g t cs) (i : Nat) : w.frozen? ⟨g, i, none⟩ = false := by
  unfold Blk at h
  simp [World.frozen?, h]
theorem Blk.new (w : World) (t : TypeId) (cs : Array Value) : Blk (w.alloc (.cells cs t)) w.heap.size t cs := heap_alloc_new w _
theorem Blk.drew (h : Blk w g t cs) : Blk w.drew g t cs := h
theorem Blk.alloc (h : Blk w g t cs) (o : Obj) : Blk (w.alloc o) g t cs := (Below.heap_alloc w o g h.lt).trans h
theorem Blk.set_ (h : Blk w g t cs) (i : Nat) (u : Value) : Blk (w.setCell ⟨g, i, none⟩ u) g t (cs.setIfInBounds i u) := by
  unfold Blk at h ⊢
  simp [World.setCell, Array.getElem?_modify, h]
theorem Blk.far (h : Blk w g t cs) {p : Addr} (hp : g ≠ p.block) (u : Value) : Blk (w.setCell p u) g t cs := (Below.heap_setCell w p u g hp).trans h
theorem Blk.keep (h : Blk w g t cs) (hk : Keeps X w w') (hg : g ∉ X) : Blk w' g t cs := (hk.block g h.lt hg).trans h

theorem Keeps.refl (X : List Nat) (w : World) : Keeps X w w := ⟨rfl, rfl, rfl, Nat.le_refl _, fun _ _ _ => rfl⟩
theorem Keeps.trans (h : Keeps X w w1) (k : Keeps X w1 w2) : Keeps X w w2 :=
  ⟨k.os.trans h.os, k.tape.trans h.tape, k.output.trans h.output, Nat.le_trans h.size k.size,
   fun g hg hx => (k.block g (Nat.lt_of_lt_of_le hg h.size) hx).trans (h.block g hg hx)⟩
theorem Keeps.mono (h : Keeps X w w') (hs : ∀ x ∈ X, x ∈ Y ∨ w.heap.size ≤ x) : Keeps Y w w' :=
  ⟨h.os, h.tape, h.output, h.size, fun g hg hx => h.block g hg fun hX => by
    rcases hs g hX with h1 | h1
    · exact hx h1
    · omega⟩
theorem Keeps.nil (h : Keeps [] w w') : Keeps X w w' := h.mono (by simp)
theorem Keeps.drew (h : Keeps X w w') : Keeps X w w'.drew := ⟨h.os, h.tape, h.output, h.size, h.block⟩
theorem Keeps.alloc (h : Keeps X w w') (o : Obj) : Keeps X w (w'.alloc o) :=
  h.trans ⟨rfl, rfl, rfl, by simp, fun g hg _ => Below.heap_alloc _ _ _ hg⟩
theorem Keeps.setCell (h : Keeps X w w') {p : Addr} (hp : p.block ∈ X ∨ w.heap.size ≤ p.block) (u : Value) : Keeps X w (w'.setCell p u) :=
  ⟨h.os, h.tape, h.output, by simpa [World.setCell] using h.size, fun g hg hx => (Below.heap_setCell w' p u g (by
    rintro rfl
    rcases hp with hp | hp
    · exact hx hp
    · omega)).trans (h.block g hg hx)⟩
theorem Keeps.setRow (h : Keeps X w w') {g : Nat} (hp : g ∈ X ∨ w.heap.size ≤ g) (cs : Array Value) : Keeps X w (w'.setRow g cs) :=
  ⟨h.os, h.tape, h.output, by simpa [World.setRow] using h.size, fun k hk hx => (setRow_other w' g k cs (by
    rintro rfl
    rcases hp with hp | hp
    · exact hx hp
    · omega)).trans (h.block k hk hx)⟩
theorem Keeps.below (h : Keeps [] w w') : Below w.heap.size w w' := ⟨h.os, h.tape, h.output, h.size, fun g hg => h.block g hg (by simp)⟩
theorem Keeps.of_below {B : Nat} (h : Below B w w') (hx : ∀ g, B ≤ g → g < w.heap.size → g ∈ X) : Keeps X w w' :=
  ⟨h.os, h.tape, h.output, h.size, fun g hg hn => h.block g (by
    rcases Nat.lt_or_ge g B with h1 | h1
    · exact h1
    · exact absurd (hx g h1 hg) hn)⟩
theorem Keeps.grown {row : Option Nat} (h : w.grownBy w' row) (hx : ∀ k, row = some k → k ∈ X) : Keeps X w w' :=
  ⟨h.os, h.tape, h.output, h.size, fun g hg hn => h.block g hg fun e => hn (hx g e.symm)⟩
theorem Blk.ne_ {g' : Nat} {t' : TypeId} {cs' : Array Value} (h : Blk w g t cs) (h' : Blk w g' t' cs') (ht : t ≠ t') : g ≠ g' := by
  rintro rfl
  unfold Blk at h h'
  rw [h] at h'
  injection h' with h'
  injection h' with _ h'
  exact ht h'
theorem Keeps.cell (h : Keeps X w w') {p : Addr} (hp : p.block < w.heap.size) (hx : p.block ∉ X) : w'.cell? p = w.cell? p :=
  World.cell?_of_block (h.block _ hp hx)
theorem Keeps.frozen (h : Keeps X w w') {p : Addr} (hp : p.block < w.heap.size) (hx : p.block ∉ X) : w'.frozen? p = w.frozen? p :=
  World.frozen?_of_block (h.block _ hp hx)
theorem Keeps.cellEq (h : Keeps X w w') {p : Addr} {v : Value} (hc : w.cell? p = some v) (hx : p.block ∉ X) : w'.cell? p = some v := (h.cell (block_lt_of_cell hc) hx).trans hc
theorem Keeps.frozenEq (h : Keeps X w w') {p : Addr} {v : Value} (hc : w.cell? p = some v) (hf : w.frozen? p = false) (hx : p.block ∉ X) : w'.frozen? p = false := (h.frozen (block_lt_of_cell hc) hx).trans hf
end

theorem Keeps.drewN {X : List Nat} {w w' : World} (h : Keeps X w w') (n : Nat) : Keeps X w (w'.drewN n) := ⟨h.os, h.tape, h.output, h.size, h.block⟩

/-- A callee that leaves the world alone, met in a quiet region. -/
theorem quiet_left {P : Program} {f : FuncId} {args : Array Value} {w : World} {n : Nat} {v : Value}
    (h : Calls P f args (w.drewN n) fun e w' => e = .returned v ∧ w.drewN n = w') : Calls P f args (w.drewN n) fun e w'' => e = .returned v ∧ ∃ m, w'' = w.drewN m :=
  h.mono fun _ _ ⟨he, hm⟩ => ⟨he, n, hm.symm⟩

/-- A byte as the memory holds it. -/
def bv (b : UInt8) : Value := .int .u8 (b.toNat : Int)

/-- Behind the address A lie the bytes l (nothing is said of A if there are none). -/
def Bts (w : World) (A : Option Addr) (l : List UInt8) : Prop :=
  l = [] ∨ ∃ g o, A = some ⟨g, o, none⟩ ∧ ∀ j v, l[j]? = some v → w.cell? ⟨g, o + j, none⟩ = some (bv v)

section
variable {w w' : World} {X : List Nat} {A : Option Addr} {l : List UInt8}
theorem Bts.nil : Bts w A [] := .inl rfl
theorem Bts.lt (h : Bts w A l) (hl : l ≠ []) : ∃ g o, A = some ⟨g, o, none⟩ ∧ g < w.heap.size := by
  rcases h with rfl | ⟨g, o, rfl, h⟩
  · exact absurd rfl hl
  · cases l with
    | nil => exact absurd rfl hl
    | cons x l => exact ⟨g, o, rfl, block_lt_of_cell (h 0 x rfl)⟩
theorem Bts.keep (h : Bts w A l) (hk : Keeps X w w') (hx : ∀ a, A = some a → a.block ∉ X) : Bts w' A l := by
  rcases h with rfl | ⟨g, o, rfl, h⟩
  · exact .inl rfl
  · refine .inr ⟨g, o, rfl, fun j v hj => ?_⟩
    have := h j v hj
    rw [hk.cell (p := ⟨g, o + j, none⟩) (block_lt_of_cell this) (hx ⟨g, o, none⟩ rfl)]
    exact this
theorem Bts.take (h : Bts w A l) (k : Nat) : Bts w A (l.take k) := by
  rcases h with rfl | ⟨g, o, rfl, h⟩
  · exact .inl (by simp)
  · refine .inr ⟨g, o, rfl, fun j v hj => h j v ?_⟩
    rw [List.getElem?_take] at hj
    split at hj
    · exact hj
    · cases hj
theorem Bts.cut0 {g c k : Nat} (h : Bts w (some ⟨g, 0, none⟩) l) (hl : l.length ≤ c) : Bts w (if c = k then some ⟨g, 0, none⟩ else some ⟨g, k, none⟩) (l.drop k) := by
  by_cases hc : c = k
  · exact .inl (List.drop_eq_nil_of_le (by omega))
  · rw [if_neg hc]
    rcases h with rfl | ⟨g', o, e, h⟩
    · exact .inl (by simp)
    · injection e with e
      injection e with e1 e2
      subst e1 e2
      refine .inr ⟨g, k, rfl, fun j v hj => ?_⟩
      rw [List.getElem?_drop] at hj
      have := h _ v hj
      simpa using this
theorem Bts.drew_ (h : Bts w A l) : Bts w.drew A l := h
theorem bv_one (b : UInt8) : (bv b).oneCell' = true := rfl
end

/-- An operation that is carried out: it has no guard, or its guard says yes. -/
theorem wpList_wanted {P : Program} {w : World} {ops : Array Oper} {rest : List Oper} {o : Oper} {a : Act} {Q : Exit → Act → World → Prop} (hw : Region.wanted o (yielded ops a.tmps) = true)
    (h : ∀ K : Act → World → Prop, (∀ a w, wpList P ops Q rest a w → K a w) → o.wp P a w K Q) : wpList P ops Q (o :: rest) a w :=
  wpList_step fun K hK => by rw [if_pos hw]; exact h K hK

theorem splice_all {α : Type} (L new : List α) (h : L.length = new.length) : splice L 0 new = new := by
  simp [splice, ← h]

/-- copy, from bytes into a block of bytes known whole. -/
theorem run_copy_bts {P : Program} {w : World} (dT sT ty elem : TypeId) (hu : P.underlying dT = some (.slice elem)) (hsz : (P.info? elem).map (·.size) = some 1)
    (g off dLen dCap : Nat) (A : Option Addr) (l : List UInt8) (sLen sCap : Nat) (hl : l.length = sLen) (hB : Bts w A l)
    (cur : List UInt8) (t : TypeId) (hg : Blk w g t (cur.map bv).toArray) (hfit : off + dLen ≤ cur.length) :
    ∃ w', (Builtin.copy_ #[dT, sT] ty #[.slice (some ⟨g, off, none⟩) dLen dCap, .slice A sLen sCap]).run P w = .ok (goInt ((min sLen dLen : Nat) : Int)) w' ∧
      Blk w' g t ((splice cur off (l.take dLen)).map bv).toArray ∧ Keeps [g] w w' := by
  subst hl
  have hlen : (l.take dLen).length = min l.length dLen := by rw [List.length_take]; omega
  by_cases h0 : min l.length dLen = 0
  · have hrun := run_copy_none (P := P) w dT sT ty elem (some ⟨g, off, none⟩) A dLen dCap l.length sCap hu hsz h0
    have hnil : l.take dLen = [] := List.eq_nil_of_length_eq_zero (by omega)
    refine ⟨w, by rw [hrun, h0]; rfl, ?_, Keeps.refl _ _⟩
    rw [hnil]
    simpa [splice] using hg
  · rcases hB with rfl | ⟨sg, so, rfl, hc⟩
    · simp at h0
    · have hcs : ((l.take dLen).map bv).length = min l.length dLen := by rw [List.length_map, hlen]
      have hrun := run_copy_row (P := P) w dT sT ty elem g off dLen dCap ⟨sg, so, none⟩ l.length sCap _ t ((l.take dLen).map bv) hu hsz hg hcs
        (by
          intro j v hj
          rw [List.getElem?_map] at hj
          cases hx : (l.take dLen)[j]? with
          | none => rw [hx] at hj; simp at hj
          | some x =>
            rw [hx] at hj
            simp only [Option.map_some, Option.some.injEq] at hj
            subst hj
            have := hc j x (by
              rw [List.getElem?_take] at hx
              split at hx
              · exact hx
              · simp at hx)
            rw [Go.WideShapes.add_plain]
            exact this)
        (by rw [hcs]; simp; omega)
        (by
          intro v hv
          obtain ⟨b, _, rfl⟩ := List.mem_map.1 hv
          rfl)
      rw [hcs] at hrun
      refine ⟨_, hrun, ?_, (Keeps.refl [g] w).setRow (g := g) (.inl (List.mem_singleton.2 rfl)) _⟩
      refine Eq.trans (setRow_heap w g _ _ t _ hg) ?_
      simp only [splice, List.map_append, List.map_take, List.map_drop, hlen, List.append_assoc]

theorem wpList_copy_bts {P : Program} {w : World} {ops : Array Oper} {rest : List Oper} {o : Oper} {a : Act} {Q : Exit → Act → World → Prop} (hgd : Region.wanted o (yielded ops a.tmps) = true) (d s : Operand) (dT sT : TypeId)
    (ho : o.op = .call { callee := .builtin .copy, args := #[d, s], argTypes := #[dT, sT] }) (elem : TypeId) (hu : P.underlying dT = some (.slice elem)) (hsz : (P.info? elem).map (·.size) = some 1)
    (g off dLen dCap : Nat) (A : Option Addr) (l : List UInt8) (sLen sCap : Nat) (hd : a.eval d = .slice (some ⟨g, off, none⟩) dLen dCap) (hs : a.eval s = .slice A sLen sCap) (hl : l.length = sLen) (hB : Bts w A l)
    (cur : List UInt8) (t : TypeId) (hg : Blk w g t (cur.map bv).toArray) (hfit : off + dLen ≤ cur.length)
    (h : ∀ w', Hid (Blk w' g t ((splice cur off (l.take dLen)).map bv).toArray) → Keeps [g] w w' → wpList P ops Q rest (a.put o.dst (goInt ((min sLen dLen : Nat) : Int))) w') :
    wpList P ops Q (o :: rest) a w := by
  refine wpList_wanted hgd fun K hK => ?_
  obtain ⟨w', hr, h1, h2⟩ := run_copy_bts (P := P) (w := w) dT sT o.type elem hu hsz g off dLen dCap A l sLen sCap hl hB cur t hg hfit
  unfold Oper.wp execOp
  simp only [ho, resolve, invoke, builtin, Sem.run_bind, Sem.run_pure, Result.andThen_ok, List.map_toArray, List.map_cons, List.map_nil, hd, hs, hr]
  exact hK _ _ (h w' (Lib.hid h1) h2)

/-- A whole array or struct is loaded out of the middle of a block. -/
theorem wpList_load_mid {P : Program} {w : World} {ops : Array Oper} {rest : List Oper} {o : Oper} {a : Act} {Q : Exit → Act → World → Prop} (hgd : Region.wanted o (yielded ops a.tmps) = true) (ty : TypeId) (x : Operand) (ho : o.op = .load ty x)
    (g off n : Nat) (hx : a.eval x = .pointer (some ⟨g, off, none⟩)) (t : TypeId) (cs : List Value) (d : TypeDesc) (hg : Blk w g t cs.toArray)
    (hu : P.underlying ty = some d) (hd : (match d with | .struct _ | .array _ _ => true | _ => false) = true) (hi : (P.info? ty).map (·.size) = some n) (hfit : off + n ≤ cs.length)
    (h : wpList P ops Q rest (a.put o.dst (.agg ((cs.drop off).take n).toArray)) w) : wpList P ops Q (o :: rest) a w := by
  refine wpList_wanted hgd fun K hK => ?_
  have hlen : ((cs.drop off).take n).length = n := by rw [List.length_take, List.length_drop]; omega
  have hl := run_loadCells_list (P := P) w ⟨g, off, none⟩ ((cs.drop off).take n) (fun j v hv => by
    rw [Go.WideShapes.add_plain, hg.cell]
    rw [List.getElem?_take] at hv
    split at hv
    · rw [List.getElem?_drop] at hv
      simpa using hv
    · simp at hv)
  rw [hlen] at hl
  have hrun : (loadVar ty ⟨g, off, none⟩).run P w = .ok (.agg ((cs.drop off).take n).toArray) w := by
    cases hq : P.info? ty with
    | none => simp [hq] at hi
    | some i =>
      have hs : i.size = n := by simpa [hq] using hi
      have hagg : (isAgg ty).run P w = .ok true w := by
        unfold isAgg
        rw [Sem.run_bind, run_underlying hu w]
        cases d <;> simp_all
      simp [loadVar, Sem.run_bind, hagg, sizeOf, typeInfo, hq, hs, hl]
  unfold Oper.wp execOp
  simp only [ho, hx, Instr.loadAt, Instr.sureAddr, Sem.run_bind, Sem.run_pure, Result.andThen_ok, hrun]
  exact hK _ _ h

/-- A whole array or struct is stored into the middle of a block. -/
theorem wpList_store_mid {P : Program} {w : World} {ops : Array Oper} {rest : List Oper} {o : Oper} {a : Act} {Q : Exit → Act → World → Prop} (hgd : Region.wanted o (yielded ops a.tmps) = true) (ty : TypeId) (x y : Operand) (ho : o.op = .store ty x y)
    (g off : Nat) (hx : a.eval x = .pointer (some ⟨g, off, none⟩)) (t : TypeId) (cs new : List Value) (hy : a.eval y = .agg new.toArray) (hg : Blk w g t cs.toArray)
    (hi : (P.info? ty).map (·.size) = some new.length) (hfit : off + new.length ≤ cs.length) (h1 : ∀ v ∈ new, v.oneCell' = true)
    (h : ∀ w', Hid (Blk w' g t (splice cs off new).toArray) → Keeps [g] w w' → wpList P ops Q rest (a.put o.dst undef) w') : wpList P ops Q (o :: rest) a w := by
  refine wpList_wanted hgd fun K hK => ?_
  have hst := run_storeCells_at P g off t new 0 cs.toArray w hg (by simpa using hfit) h1
  have hrun : (storeVar ty ⟨g, off, none⟩ (.agg new.toArray)).run P w = .ok () (w.setRow g (splice cs off new).toArray) := by
    cases hq : P.info? ty with
    | none => simp [hq] at hi
    | some i =>
      have hs : i.size = new.length := by simpa [hq] using hi
      simp [storeVar, Sem.run_bind, sizeOf, typeInfo, hq, hs, Value.cells, hst, splice]
  unfold Oper.wp execOp
  simp only [ho, hx, hy, Instr.storeAt, Instr.sureAddr, Sem.run_bind, Sem.run_pure, Result.andThen_ok, hrun]
  exact hK _ _ (h _ (Lib.hid (setRow_heap w g _ _ t _ hg)) ((Keeps.refl [g] w).setRow (g := g) (.inl (List.mem_singleton.2 rfl)) _))

theorem madeCells_same (m k : Nat) (v : Value) (hm : 0 < m) : madeCells (Array.replicate m v) k = (List.replicate k v).toArray := by
  apply Array.ext'
  apply List.ext_getElem?
  intro j
  by_cases hj : j < k
  · have h2 : j % m < m := Nat.mod_lt _ hm
    simp [madeCells, hj, h2]
  · simp [madeCells, hj]

/-- make([]T, n, c). -/
theorem wp_make {P : Program} {w : World} {o : Oper} {a : Act} {Q : Exit → Act → World → Prop} {K : Act → World → Prop} (t : TypeId) (x y : Operand) (ho : o.op = .makeSlice t x y)
    (e : TypeId) (z : Value) (size bytes : Nat) (ht : P.underlying t = some (.slice e)) (hinfo : (P.info? e).map (fun i => (i.zero, i.size, i.bytes)) = some (some z, size, bytes))
    (kl kc : IntKind) (n c : Nat) (hx : a.eval x = .int kl (n : Int)) (hy : a.eval y = .int kc (c : Int)) (hnc : n ≤ c) (hb : bytes * c ≤ 281474976710656) (h63 : c ≤ 9223372036854775807)
    (h : ∀ w', Hid (Blk w' w.heap.size e (madeCells z.cells (c * size))) → Keeps [] w w' → Hid (w'.heap.size = w.heap.size + 1) → K (a.put o.dst (.slice (some ⟨w.heap.size, 0, none⟩) n c)) w') :
    o.wp P a w K Q := by
  cases hq : P.info? e with
  | none => simp [hq] at hinfo
  | some i =>
    simp only [hq, Option.map_some, Option.some.injEq, Prod.mk.injEq] at hinfo
    obtain ⟨hz, rfl, rfl⟩ := hinfo
    have hb' : (i.bytes : Int) * (c : Int) ≤ 281474976710656 := by
      have h : ((i.bytes * c : Nat) : Int) ≤ 281474976710656 := by omega
      rwa [Int.natCast_mul] at h
    have hrun := run_make (P := P) w t e i z ht hq hz kl kc n c (by omega) (by omega) hb' (by omega)
    simp only [Int.toNat_natCast] at hrun
    unfold Oper.wp execOp
    simp only [ho, hx, hy, Sem.run_bind, Sem.run_pure, Result.andThen_ok, hrun]
    exact h _ (Lib.hid (Blk.new _ _ _)) ((Keeps.refl _ _).alloc _) (Lib.hid (by simp))

theorem wpList_make {P : Program} {w : World} {ops : Array Oper} {rest : List Oper} {o : Oper} {a : Act} {Q : Exit → Act → World → Prop} (hgd : Region.wanted o (yielded ops a.tmps) = true) (t : TypeId) (x y : Operand) (ho : o.op = .makeSlice t x y)
    (e : TypeId) (z : Value) (size bytes : Nat) (ht : P.underlying t = some (.slice e)) (hinfo : (P.info? e).map (fun i => (i.zero, i.size, i.bytes)) = some (some z, size, bytes))
    (kl kc : IntKind) (n c : Nat) (hx : a.eval x = .int kl (n : Int)) (hy : a.eval y = .int kc (c : Int)) (hnc : n ≤ c) (hb : bytes * c ≤ 281474976710656) (h63 : c ≤ 9223372036854775807)
    (h : ∀ w', Hid (Blk w' w.heap.size e (madeCells z.cells (c * size))) → Keeps [] w w' → Hid (w'.heap.size = w.heap.size + 1) → wpList P ops Q rest (a.put o.dst (.slice (some ⟨w.heap.size, 0, none⟩) n c)) w') :
    wpList P ops Q (o :: rest) a w :=
  wpList_wanted hgd fun _ hK => wp_make t x y ho e z size bytes ht hinfo kl kc n c hx hy hnc hb h63 (fun w' h1 h2 h3 => hK _ _ (h w' h1 h2 h3))

theorem own_keep {w w' : World} {X : List Nat} {base : Nat} {e : TypeId} {size : Nat} {v : Value} {n : Nat} {xs : List Value} (h : w.ownsRow base e size v n xs) (hk : Keeps X w w') (hX : ∀ g, v.ownBlock = some g → g ∉ X) : w'.ownsRow base e size v n xs := by
  refine ⟨h.1, ?_⟩
  rcases h.2 with hn | ⟨g, cap, cur, rfl, hb, hgg, rest⟩
  · exact .inl hn
  · refine .inr ⟨g, cap, cur, rfl, hb, ?_, rest⟩
    exact (hk.block g (Array.getElem?_eq_some_iff.1 hgg).1 (hX g rfl)).trans hgg

theorem own_blk {w : World} {base : Nat} {e : TypeId} {size : Nat} {v : Value} {n : Nat} {xs : List Value} (h : w.ownsRow base e size v n xs) {g : Nat} (hg : v.ownBlock = some g) : base ≤ g ∧ ∃ cur, Blk w g e cur := by
  rcases h.2 with ⟨rfl, _⟩ | ⟨g', cap, cur, rfl, hb, hgg, rest⟩
  · simp [Value.ownBlock] at hg
  · simp [Value.ownBlock] at hg
    subst hg
    exact ⟨hb, cur, hgg⟩

/-- The bytes behind a slice that the call owns. -/
theorem own_bts {w : World} {base : Nat} {e : TypeId} {A : Option Addr} {n c : Nat} {l : List UInt8} (h : w.ownsRow base e 1 (.slice A n c) n (l.map bv)) :
    Bts w A l ∧ l.length = n ∧ n ≤ c ∧ c ≤ maxLen ∧ ∀ a, A = some a → base ≤ a.block ∧ a.block < w.heap.size ∧ ∃ cur, Blk w a.block e cur := by
  have hl : l.length = n := by have := h.1; simpa using this
  rcases h.2 with ⟨h1, h2⟩ | ⟨g, cap, cur, hv, hb, hg, hc, hm, hs, ht⟩
  · injection h1 with h1 h3 h4
    subst h1 h2 h4
    exact ⟨.inl (List.eq_nil_of_length_eq_zero hl), hl, Nat.le_refl _, by simp [maxLen], fun a ha => by cases ha⟩
  · injection hv with hA _ hcap
    subst hA hcap
    have hcell := h.cells (g := g) rfl
    refine ⟨.inr ⟨g, 0, rfl, fun j v hj => ?_⟩, hl, hc, hm, fun a ha => ?_⟩
    · have := hcell j (bv v) (by simp [hj])
      rwa [Go.WideShapes.add_plain] at this
    · cases ha
      exact ⟨hb, Blk.lt (cs := cur) (t := e) hg, cur, hg⟩

theorem run_append_bts {P : Program} {w : World} (t ty base : Nat) (e : TypeId) (ht : P.underlying t = some (.slice e)) (hinfo : (P.info? e).map (fun i => (i.zero, i.size, i.bytes)) = some (some (.int .u8 0), 1, 1))
    (v : Value) (l k : List UInt8) (hown : w.ownsRow base e 1 v l.length (l.map bv)) (A : Option Addr) (m c : Nat) (hm : k.length = m) (hB : Bts w A k) (hmax : l.length + k.length ≤ 140737488355328) (hbase : base ≤ w.heap.size) :
    ∃ A' c' w', (Builtin.append_ #[t, t] ty #[v, .slice A m c]).run P w = .ok (.slice A' (l.length + m) c') w' ∧ w'.ownsRow base e 1 (.slice A' (l.length + m) c') (l.length + m) ((l ++ k).map bv) ∧
      w.grownBy w' v.ownBlock ∧ ((Value.slice A' (l.length + m) c').ownBlock = v.ownBlock ∨ (Value.slice A' (l.length + m) c').ownBlock = some w.heap.size) := by
  subst hm
  cases hq : P.info? e with
  | none => simp [hq] at hinfo
  | some i =>
    simp only [hq, Option.map_some, Option.some.injEq, Prod.mk.injEq] at hinfo
    obtain ⟨hz, hsz, hby⟩ := hinfo
    rcases hB with rfl | ⟨g, o, rfl, hc⟩
    · -- nothing is appended
      have key : ∃ A' c', v = .slice A' l.length c' ∧ l.length ≤ c' := by
        rcases hown.2 with ⟨h1, h2⟩ | ⟨g, cap, cur, hv, hb, hg, hc, _⟩
        · exact ⟨none, 0, by rw [h1, h2], by omega⟩
        · exact ⟨_, cap, hv, hc⟩
      obtain ⟨A', c', rfl, hle⟩ := key
      refine ⟨A', c', w, ?_, by simpa using hown, ⟨rfl, rfl, rfl, Nat.le_refl _, fun _ _ _ => rfl⟩, .inl rfl⟩
      have hf : ∀ (x : Option Addr) (c : Nat), (Builtin.firstCells 1 0 (.slice x 0 c)).run P w = .ok #[] w := by
        intro x c
        cases x <;> simp [Builtin.firstCells, loadCells, loadCellsFrom]
      cases A' <;> simp [Builtin.append_, run_underlying ht, sizeOf, typeInfo, hq, hsz, Builtin.lenOf, hle, hf, storeCells]
    · have hm : k.length + l.length ≤ 9223372036854775807 := by omega
      obtain ⟨v', w', hr, h2, h3, _, h5⟩ := run_append_own_at (P := P) w base t ty e i (.int .u8 0) 1 1 ht hq hz hsz hby rfl (by decide) v l.length (l.map bv) hown ⟨g, o, none⟩ k.length c (k.map bv) (by simp)
        (fun j u hu => by
          rw [Go.WideShapes.add_plain]
          rw [List.getElem?_map] at hu
          cases hk : k[j]? with
          | none => rw [hk] at hu; simp at hu
          | some x => rw [hk] at hu; simp at hu; subst hu; exact hc j x hk)
        (fun u hu => by obtain ⟨b, _, rfl⟩ := List.mem_map.1 hu; rfl) (by unfold maxLen; omega) (by omega) hbase
      have key : ∃ A' c', v' = .slice A' (l.length + k.length) c' := by
        rcases h2.2 with ⟨h1, h2⟩ | ⟨g, cap, cur, hv, _⟩
        · exact ⟨none, 0, by rw [h1, h2]⟩
        · exact ⟨_, cap, hv⟩
      obtain ⟨A', c', rfl⟩ := key
      exact ⟨A', c', w', hr, by rw [List.map_append]; exact h2, h3, h5⟩

/-- append of bytes: at the list of a plain region. -/
theorem wpList_append_bts {P : Program} {w : World} {ops : Array Oper} {rest : List Oper} {o : Oper} {a : Act} {Q : Exit → Act → World → Prop} (hgd : Region.wanted o (yielded ops a.tmps) = true) (s x : Operand) (t : TypeId)
    (ho : o.op = .call { callee := .builtin .append, args := #[s, x], argTypes := #[t, t] }) (base : Nat) (e : TypeId)
    (ht : P.underlying t = some (.slice e)) (hinfo : (P.info? e).map (fun i => (i.zero, i.size, i.bytes)) = some (some (.int .u8 0), 1, 1))
    (v : Value) (l k : List UInt8) (hs : a.eval s = v) (hown : w.ownsRow base e 1 v l.length (l.map bv)) (A : Option Addr) (m c : Nat) (hx : a.eval x = .slice A m c) (hm : k.length = m) (hB : Bts w A k)
    (hmax : l.length + k.length ≤ 140737488355328) (hbase : base ≤ w.heap.size)
    (h : ∀ A' c' w', Hid (w'.ownsRow base e 1 (.slice A' (l.length + m) c') (l.length + m) ((l ++ k).map bv)) → Hid (w.grownBy w' v.ownBlock) → 
      Hid ((Value.slice A' (l.length + m) c').ownBlock = v.ownBlock ∨ (Value.slice A' (l.length + m) c').ownBlock = some w.heap.size) → wpList P ops Q rest (a.put o.dst (.slice A' (l.length + m) c')) w') : wpList P ops Q (o :: rest) a w := by
  refine wpList_wanted hgd fun K hK => ?_
  obtain ⟨A', c', w', hr, h2, h3, h4⟩ := run_append_bts (P := P) (w := w) t o.type base e ht hinfo v l k hown A m c hm hB hmax hbase
  unfold Oper.wp execOp
  simp only [ho, resolve, invoke, builtin, Sem.run_bind, Sem.run_pure, Result.andThen_ok, List.map_toArray, List.map_cons, List.map_nil, hs, hx, hr]
  exact hK _ _ (h A' c' w' (Lib.hid h2) (Lib.hid h3) (Lib.hid h4))

/-- append of bytes: at the operation. -/
theorem wp_append_bts {P : Program} {w : World} {o : Oper} {a : Act} {K : Act → World → Prop} {Q : Exit → Act → World → Prop} (s x : Operand) (t : TypeId)
    (ho : o.op = .call { callee := .builtin .append, args := #[s, x], argTypes := #[t, t] }) (base : Nat) (e : TypeId)
    (ht : P.underlying t = some (.slice e)) (hinfo : (P.info? e).map (fun i => (i.zero, i.size, i.bytes)) = some (some (.int .u8 0), 1, 1))
    (v : Value) (l k : List UInt8) (hs : a.eval s = v) (hown : w.ownsRow base e 1 v l.length (l.map bv)) (A : Option Addr) (m c : Nat) (hx : a.eval x = .slice A m c) (hm : k.length = m) (hB : Bts w A k)
    (hmax : l.length + k.length ≤ 140737488355328) (hbase : base ≤ w.heap.size)
    (h : ∀ A' c' w', Hid (w'.ownsRow base e 1 (.slice A' (l.length + m) c') (l.length + m) ((l ++ k).map bv)) → Hid (w.grownBy w' v.ownBlock) → 
      Hid ((Value.slice A' (l.length + m) c').ownBlock = v.ownBlock ∨ (Value.slice A' (l.length + m) c').ownBlock = some w.heap.size) → K (a.put o.dst (.slice A' (l.length + m) c')) w') :
    Oper.wp P o a w K Q := by
  obtain ⟨A', c', w', hr, h2, h3, h4⟩ := run_append_bts (P := P) (w := w) t o.type base e ht hinfo v l k hown A m c hm hB hmax hbase
  unfold Oper.wp execOp
  simp only [ho, resolve, invoke, builtin, Sem.run_bind, Sem.run_pure, Result.andThen_ok, List.map_toArray, List.map_cons, List.map_nil, hs, hx, hr]
  exact h A' c' w' (Lib.hid h2) (Lib.hid h3) (Lib.hid h4)

/-- append of bytes: at a step of a region that draws its order. -/
theorem step_append_bts {P : Program} {w : World} {ops : Array Oper} {o : Oper} {a : Act} {K : Act → World → Prop} {Q : Exit → Act → World → Prop} {E : Prop} (hgd : Region.wanted o (yielded ops a.tmps) = true) (s x : Operand) (t : TypeId)
    (ho : o.op = .call { callee := .builtin .append, args := #[s, x], argTypes := #[t, t] }) (base : Nat) (e : TypeId)
    (ht : P.underlying t = some (.slice e)) (hinfo : (P.info? e).map (fun i => (i.zero, i.size, i.bytes)) = some (some (.int .u8 0), 1, 1))
    (v : Value) (l k : List UInt8) (hs : a.eval s = v) (hown : w.ownsRow base e 1 v l.length (l.map bv)) (A : Option Addr) (m c : Nat) (hx : a.eval x = .slice A m c) (hm : k.length = m) (hB : Bts w A k)
    (hmax : l.length + k.length ≤ 140737488355328) (hbase : base ≤ w.heap.size)
    (h : ∀ A' c' w', Hid (w'.ownsRow base e 1 (.slice A' (l.length + m) c') (l.length + m) ((l ++ k).map bv)) → Hid (w.grownBy w' v.ownBlock) → 
      Hid ((Value.slice A' (l.length + m) c').ownBlock = v.ownBlock ∨ (Value.slice A' (l.length + m) c').ownBlock = some w.heap.size) → K (a.put o.dst (.slice A' (l.length + m) c')) w') :
    if Region.wanted o (yielded ops a.tmps) = true then Oper.wp P o a w K Q else E := by
  rw [if_pos hgd]
  obtain ⟨A', c', w', hr, h2, h3, h4⟩ := run_append_bts (P := P) (w := w) t o.type base e ht hinfo v l k hown A m c hm hB hmax hbase
  unfold Oper.wp execOp
  simp only [ho, resolve, invoke, builtin, Sem.run_bind, Sem.run_pure, Result.andThen_ok, List.map_toArray, List.map_cons, List.map_nil, hs, hx, hr]
  exact h A' c' w' (Lib.hid h2) (Lib.hid h3) (Lib.hid h4)

/-- string(b). -/
theorem run_convert_bts {P : Program} {w : World} (src dst e : TypeId) (hs : P.underlying src = some (.slice e)) (he : P.underlying e = some (.int .u8)) (hd : P.underlying dst = some .string)
    (A : Option Addr) (l : List UInt8) (n c : Nat) (hn : l.length = n) (hB : Bts w A l) : (convert src dst (.slice A n c)).run P w = .ok (.string ⟨l.toArray⟩) w := by
  subst hn
  rcases hB with rfl | ⟨g, o, rfl, h⟩
  · simp only [List.length_nil]
    rw [run_convert_bytes_string w src dst e A 0 c hs he hd]
    cases A with
    | none => simp [Conv.bytesToString]; rfl
    | some a =>
      have := run_bytesToString (P := P) w a 0 c [] (by simp [loadCells, loadCellsFrom])
      exact this
  · have := run_convert_bytes_arg (P := P) w src e hs he g o l.length c (l.map fun b => (b.toNat : Int)) (by simp) (fun i hi => by
      have := h i l[i] (List.getElem?_eq_getElem hi)
      rw [this]
      simp [bv, hi]) dst hd
    rw [this]
    simp [strOfNums, Function.comp_def]

theorem wpList_convert_bts {P : Program} {w : World} {ops : Array Oper} {rest : List Oper} {o : Oper} {a : Act} {Q : Exit → Act → World → Prop} (hgd : Region.wanted o (yielded ops a.tmps) = true) (src dst : TypeId) (x : Operand) (ho : o.op = .convert src dst x) (e : TypeId)
    (hs : P.underlying src = some (.slice e)) (he : P.underlying e = some (.int .u8)) (hd : P.underlying dst = some .string)
    (A : Option Addr) (l : List UInt8) (n c : Nat) (hx : a.eval x = .slice A n c) (hn : l.length = n) (hB : Bts w A l)
    (h : wpList P ops Q rest (a.put o.dst (.string ⟨l.toArray⟩)) w) : wpList P ops Q (o :: rest) a w := by
  refine wpList_wanted hgd fun K hK => ?_
  unfold Oper.wp execOp
  simp only [ho, hx, Sem.run_bind, Sem.run_pure, Result.andThen_ok, run_convert_bts src dst e hs he hd A l n c hn hB]
  exact hK _ _ h
end Go.Proofs.Ytmclfbhcddcebaa
