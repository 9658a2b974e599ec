/- DeleteFunc at 'old equals new', on a row of changes that the call owns. -/
import Derived.Test.YtmclfbhcddcebaaU12
namespace Go.Proofs.Ytmclfbhcddcebaa
open Go.RowKit Go.Shelf
set_option linter.unusedSimpArgs false
set_option linter.unusedVariables false

abbrev PQ := Raw × Chg
def pq0 : PQ := (raw0, chg0)
instance : Inhabited PQ := ⟨pq0⟩
def rows (P : List PQ) : List Value := flatC (P.map (·.1))
theorem rows_len (P : List PQ) : (rows P).length = P.length * 4 := by unfold rows; rw [flatC_len, List.length_map]
theorem rows_append (P Q : List PQ) : rows (P ++ Q) = rows P ++ rows Q := by unfold rows; rw [List.map_append, flatC_append]
/-- What is known of a row of changes. -/
def PIs (w : World) (X : List Nat) (P : List PQ) : Prop := ∀ p ∈ P, RawIs w X p.1 p.2
theorem PIs.keep {w w' : World} {X Y : List Nat} {P : List PQ} (h : PIs w X P) (hk : Keeps Y w w') (hY : ∀ y ∈ Y, y ∈ X ∨ w.heap.size ≤ y) : PIs w' X P := fun p hp => (h p hp).keep hk hY
theorem cells_len (r : Raw) : r.cells.length = 4 := rfl
theorem cells_one (r : Raw) : ∀ v ∈ r.cells, v.oneCell' = true := by
  intro v hv
  simp [Raw.cells] at hv
  rcases hv with rfl | rfl | rfl | rfl <;> rfl

/-- The change is one. -/
def full (p : PQ) : Bool := !decide (p.2.old = p.2.new)
theorem splice_rows : ∀ (P : List PQ) (i : Nat) (x : PQ) (tail : List Value), i < P.length → splice (rows P ++ tail) (i * 4) x.1.cells = rows (P.set i x) ++ tail
  | y :: P, 0, x, tail, _ => rfl
  | y :: P, i + 1, x, tail, h => by
    have ih := splice_rows P i x tail (by simpa using h)
    have e : splice (rows (y :: P) ++ tail) ((i + 1) * 4) x.1.cells = .int .i64 y.1.t :: .int .i64 y.1.id :: .slice y.1.Ao y.1.no y.1.co :: .slice y.1.An y.1.nn y.1.cn :: splice (rows P ++ tail) (i * 4) x.1.cells := by
      unfold splice
      rw [show (i + 1) * 4 = i * 4 + 1 + 1 + 1 + 1 by omega, show i * 4 + 1 + 1 + 1 + 1 + x.1.cells.length = (i * 4 + x.1.cells.length) + 1 + 1 + 1 + 1 by omega]
      rfl
    rw [e, ih]
    rfl

def zc : Value := .agg #[.int .i64 0, .int .i64 0, .slice none 0 0, .slice none 0 0]
/-- clear of a row of changes, in the middle of a block. -/
theorem run_clear_four (w : World) (ty g off n c : Nat) (cur : List Value) (hg : Blk w g 35 cur.toArray) (hfit : off + n * 4 ≤ cur.length) :
    ∃ (w' : World) (new : List Value), (Builtin.clear_ #[28] ty #[.slice (some ⟨g, off, none⟩) n c]).run Try.prog w = .ok (.tuple #[]) w' ∧ Blk w' g 35 new.toArray ∧ new.length = cur.length ∧ new.take off = cur.take off ∧ Keeps [g] w w' := by
  cases n with
  | zero => exact ⟨w, cur, by simp [Builtin.clear_, run_underlying Try.underlying28], hg, rfl, rfl, Keeps.refl _ _⟩
  | succ n =>
    have hz : (Builtin.zeroCells (Value.cells zc) (n + 1)).toList.length = (n + 1) * 4 := by simp [Builtin.zeroCells, Value.cells, zc]
    have h1 : ∀ v ∈ (Builtin.zeroCells (Value.cells zc) (n + 1)).toList, v.oneCell' = true := by
      intro v hv
      simp [Builtin.zeroCells, Value.cells, zc] at hv
      obtain ⟨a, _, rfl⟩ := hv
      have : a % 4 < 4 := Nat.mod_lt _ (by decide)
      rcases (by omega : a % 4 = 0 ∨ a % 4 = 1 ∨ a % 4 = 2 ∨ a % 4 = 3) with h | h | h | h <;> rw [h] <;> rfl
    obtain ⟨Z, hZ⟩ : ∃ Z, Z = (Builtin.zeroCells (Value.cells zc) (n + 1)).toList := ⟨_, rfl⟩
    rw [← hZ] at hz h1
    unfold zc at hZ
    have hst : (storeCells ⟨g, off, none⟩ Z 0).run Try.prog w = .ok () (w.setRow g (cur.take off ++ Z ++ cur.drop (off + Z.length)).toArray) := run_storeCells_at Try.prog g off 35 Z 0 cur.toArray w hg (by rw [hz]; simpa using hfit) h1
    refine ⟨w.setRow g (cur.take off ++ Z ++ cur.drop (off + Z.length)).toArray, cur.take off ++ Z ++ cur.drop (off + Z.length), ?_, setRow_heap w g _ _ 35 _ hg, ?_, ?_, (Keeps.refl [g] w).setRow (g := g) (.inl (List.mem_singleton.2 rfl)) _⟩
    · simp [Builtin.clear_, run_underlying Try.underlying28, Try.zeroValue35, ← hZ, hst]
    · rw [List.length_append, List.length_append, List.length_take, List.length_drop, hz]; omega
    · rw [List.append_assoc, List.take_append_of_le_length (by rw [List.length_take]; omega), List.take_take, Nat.min_self]

/-- The row through DeleteFunc: i kept, then what is left over, then what was not looked at. -/
structure DelAt (l : List PQ) (i j : Nat) (L : List PQ) : Prop where
  keep : (l.take j).filter full = L.take i
  len : ((l.take j).filter full).length = i
  rest : L.drop j = l.drop j
  all : L.length = l.length
  lt : i < j
theorem del_skip {l L : List PQ} {i j : Nat} {x : PQ} (h : DelAt l i j L) (hx : l[j]? = some x) (hf : full x = false) : DelAt l i (j + 1) L := by
  have e : (l.take (j + 1)).filter full = (l.take j).filter full := by
    rw [List.take_add_one, hx, List.filter_append]
    simp [hf]
  refine ⟨by rw [e]; exact h.keep, by rw [e]; exact h.len, ?_, h.all, by have := h.lt; omega⟩
  rw [← List.drop_drop, h.rest, List.drop_drop]
theorem del_take {l L : List PQ} {i j : Nat} {x : PQ} (h : DelAt l i j L) (hx : l[j]? = some x) (hf : full x = true) : DelAt l (i + 1) (j + 1) (L.set i x) := by
  have hjl : j < l.length := (List.getElem?_eq_some_iff.1 hx).1
  have hlt := h.lt
  have hall := h.all
  have e : (l.take (j + 1)).filter full = (l.take j).filter full ++ [x] := by
    rw [List.take_add_one, hx, List.filter_append]
    simp [hf]
  refine ⟨?_, by rw [e, List.length_append, h.len]; rfl, ?_, by rw [List.length_set]; exact hall, by omega⟩
  · rw [e, h.keep, List.take_add_one, List.take_set_of_le (Nat.le_refl i), List.getElem?_set_self (by omega)]
    rfl
  · rw [List.drop_set_of_lt (by omega), ← List.drop_drop, h.rest, List.drop_drop]
theorem del_get {l L : List PQ} {i j : Nat} {x : PQ} (h : DelAt l i j L) (hx : l[j]? = some x) : L[j]? = some x := by
  have : (L.drop j)[0]? = some x := by rw [h.rest, List.getElem?_drop]; exact hx
  rw [List.getElem?_drop] at this
  exact this

theorem enter35 : ∀ args w, (callFunc 35 args).run Try.prog w = .ok (.enter 35 args) w := enters_of Try.func35 (by kernel_rfl) rfl
set_option maxHeartbeats 800000 in
theorem closure35 (W : World) (X : List Nat) (p : PQ) (h : RawIs W X p.1 p.2) (hs : Small p.2) : Calls Try.prog 35 #[.agg p.1.cells.toArray] W fun e w' => e = .returned (.bool (!full p)) ∧ Keeps [] W w' := by
  obtain ⟨⟨t, id, Ao, no, co, An, nn, cn⟩, c⟩ := p
  obtain ⟨ht, hid, hno, hnn, hO, hN⟩ := h
  dsimp only at ht hid hno hnn hO hN hs
  have ka : Keeps [] W (W.alloc (.cells #[.int .i64 t, .int .i64 id, .slice Ao no co, .slice An nn cn] 35)) := (Keeps.refl [] W).alloc _
  have HE := Lib.hid (equal_any (W.alloc (.cells #[.int .i64 t, .int .i64 id, .slice Ao no co, .slice An nn cn] 35)) X X Ao An c.old c.new no co nn cn hno hnn (hO.keep ka (by simp)) (hN.keep ka (by simp)) (by have := hs.1; omega))
  replace ka := Lib.hid ka
  unfold full
  dsimp only [Raw.cells]
  rw [Bool.not_not]
  generalize decide (c.old = c.new) = b at *
  clear ht hid hno hnn hO hN hs
  go_enter Try.func35, Try.ntmps35
  go_wp2_with fail
  refine HE.out.mono ?_
  rintro e w2 ⟨rfl, k2⟩
  have kk := Lib.hid (ka.out.trans k2)
  clear HE k2 ka
  go_wp2_with fail
  go_ret
  exact ⟨rfl, kk.out⟩

theorem first_from {α : Type} (q : α → Bool) (d : α) : ∀ (l : List α) (k : Nat), (Lib.idxByFrom (fun _ y => q y) d l k = -1 ∧ ∀ x ∈ l, q x = false) ∨ (∃ i, Lib.idxByFrom (fun _ y => q y) d l k = ((k + i : Nat) : Int) ∧ i < l.length ∧ (∀ x ∈ l.take i, q x = false) ∧ ∃ x, l[i]? = some x ∧ q x = true)
  | [], k => .inl ⟨rfl, fun x h => by cases h⟩
  | y :: r, k => by
    by_cases hy : q y = true
    · exact .inr ⟨0, by simp [Lib.idxByFrom, hy], by simp, fun x hx => by simp at hx, y, rfl, hy⟩
    · have hy' : q y = false := by simpa using hy
      rcases first_from q d r (k + 1) with ⟨h1, h2⟩ | ⟨i, h1, h2, h3, h4⟩
      · refine .inl ⟨by simp [Lib.idxByFrom, hy', h1], fun x hx => ?_⟩
        rcases List.mem_cons.1 hx with rfl | hx
        · exact hy'
        · exact h2 x hx
      · refine .inr ⟨i + 1, by simp [Lib.idxByFrom, hy', h1]; omega, by simp; omega, fun x hx => ?_, by simpa using h4⟩
        rw [List.take_succ_cons] at hx
        rcases List.mem_cons.1 hx with rfl | hx
        · exact hy'
        · exact h3 x hx
def pAt (P : List PQ) (k : Nat) : PQ := (P[k]?).getD pq0
theorem PIs.at_ {w : World} {X : List Nat} {P : List PQ} (h : PIs w X P) (k : Nat) : RawIs w X (pAt P k).1 (pAt P k).2 := by
  unfold pAt
  cases hp : P[k]? with
  | none => exact raw0_is _ _
  | some p => exact h p (List.mem_of_getElem? hp)
/-- IndexFunc at 'old equals new'. -/
theorem idx50 (w : World) (X : List Nat) (g n c : Nat) (P : List PQ) (hl : P.length = n) (hg : g < w.heap.size) (hP : PIs w X P) (hs : ∀ p ∈ P, Small p.2) (hn : n ≤ 1000000)
    (hc : ∀ j p, P[j]? = some p → w.cell? ⟨g, j * 4, none⟩ = some (.int .i64 p.1.t) ∧ w.cell? ⟨g, j * 4 + 1, none⟩ = some (.int .i64 p.1.id) ∧ w.cell? ⟨g, j * 4 + 2, none⟩ = some (.slice p.1.Ao p.1.no p.1.co) ∧ w.cell? ⟨g, j * 4 + 3, none⟩ = some (.slice p.1.An p.1.nn p.1.cn)) :
    Calls Try.prog 50 #[.slice (some ⟨g, 0, none⟩) n c, .func (.func 35) #[] #[]] w fun e w' => Keeps [] w w' ∧
      ((e = .returned (.int .i64 (-1)) ∧ ∀ p ∈ P, full p = true) ∨ ∃ i : Nat, e = .returned (.int .i64 (i : Int)) ∧ i < n ∧ (∀ p ∈ P.take i, full p = true) ∧ ∃ p, P[i]? = some p ∧ full p = false) := by
  have hsm : ∀ k, Small (pAt P k).2 := fun k => by
    unfold pAt
    cases hp : P[k]? with
    | none => exact ⟨Nat.zero_le _, Nat.zero_le _⟩
    | some p => exact hs p (List.mem_of_getElem? hp)
  have hp : PredBelow Try.prog 35 #[] (fun x : Nat => .agg (pAt P x).1.cells.toArray) (fun x => !full (pAt P x)) w := by
    intro W x hW
    have hk := Keeps.of_below (X := []) hW (fun y h1 h2 => absurd h2 (by omega))
    refine (closure35 W X (pAt P x) ((hP.at_ x).keep hk (by simp)) (hsm x)).mono ?_
    rintro e w' ⟨he, k⟩
    exact ⟨he, (hk.trans k).below⟩
  have HI := Try.slices_IndexFunc_f50 (α := Nat) 4 Try.isAgg35 Try.sizeOf35 (fun x => (pAt P x).1.cells) (fun _ => rfl) (fun x => !full (pAt P x)) 35 #[] enter35 g 0 n c (List.range n) w hp (by simp) (by omega) hg (fun j hj i v hv => by
    have hj' : j < n := by simpa using hj
    obtain ⟨p, hp⟩ : ∃ p, P[j]? = some p := ⟨P[j]'(by omega), List.getElem?_eq_getElem _⟩
    have hpa : pAt P j = p := by unfold pAt; rw [hp]; rfl
    obtain ⟨h0, h1, h2, h3⟩ := hc j p hp
    rw [getElem!_pos _ j (by simpa using hj'), List.getElem_range, hpa] at hv
    rw [Nat.zero_add]
    match i, hv with
    | 0, hv => simp [Raw.cells] at hv; rw [← hv]; exact h0
    | 1, hv => simp [Raw.cells] at hv; rw [← hv]; exact h1
    | 2, hv => simp [Raw.cells] at hv; rw [← hv]; exact h2
    | 3, hv => simp [Raw.cells] at hv; rw [← hv]; exact h3)
  rw [List.take_of_length_le (by simp)] at HI
  refine HI.mono ?_
  rintro e w' ⟨he, hb⟩
  refine ⟨Keeps.of_below (X := []) hb (fun z h1 h2 => absurd h2 (by omega)), ?_⟩
  have hfe := first_from (fun x => !full (pAt P x)) default (List.range n) 0
  have he0 : Lib.idxBy (fun _ y => !full (pAt P y)) (List.range n) default = Lib.idxByFrom (fun _ y => !full (pAt P y)) default (List.range n) 0 := rfl
  rw [he0] at he
  have hget : ∀ j, j < n → ∃ p, P[j]? = some p ∧ pAt P j = p := fun j hj => by
    obtain ⟨p, hp⟩ : ∃ p, P[j]? = some p := ⟨P[j]'(by omega), List.getElem?_eq_getElem _⟩
    exact ⟨p, hp, by unfold pAt; rw [hp]; rfl⟩
  rcases hfe with ⟨h1, h2⟩ | ⟨i, h1, h2, h3, x, hx, hx2⟩
  · rw [h1] at he
    refine .inl ⟨he, fun p hp => ?_⟩
    obtain ⟨j, hj⟩ := List.mem_iff_getElem?.1 hp
    have hjn : j < n := by rw [← hl]; exact (List.getElem?_eq_some_iff.1 hj).1
    have := h2 j (by simpa using hjn)
    unfold pAt at this
    rw [hj] at this
    simpa using this
  · rw [h1, Nat.zero_add] at he
    have hin : i < n := by simpa using h2
    rw [List.getElem?_range hin] at hx
    cases hx
    obtain ⟨p, hp, hpa⟩ := hget i hin
    refine .inr ⟨i, he, hin, fun q hq => ?_, p, hp, by rw [hpa] at hx2; simpa using hx2⟩
    obtain ⟨j, hj⟩ := List.mem_iff_getElem?.1 hq
    rw [List.getElem?_take] at hj
    split at hj
    · rename_i hji
      have := h3 j (by rw [List.mem_iff_getElem?]; exact ⟨j, by rw [List.getElem?_take, if_pos hji, List.getElem?_range (by omega)]⟩)
      unfold pAt at this
      rw [hj] at this
      simpa using this
    · cases hj
end Go.Proofs.Ytmclfbhcddcebaa
