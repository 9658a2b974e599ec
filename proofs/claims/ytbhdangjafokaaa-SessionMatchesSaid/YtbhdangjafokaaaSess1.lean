/- Rows of statements and of pairs; the law's functions example and script. -/
import Derived.Test.YtbhdangjafokaaaMem
import Derived.Test.YtbhdangjafokaaaPlain
import Derived.Test.YtbhdangjafokaaaRows
namespace Go.Proofs.Ytbhdangjafokaaa
open Go.RowKit
set_option linter.unusedSimpArgs false
set_option linter.unusedVariables false

/-- A statement of kind k whose Limit is i, cell by cell. -/
def stm (k i : Int) : List Value :=
  [.int .i64 k, .string ⟨#[]⟩, .slice none 0 0, .slice none 0 0, .slice none 0 0, .slice none 0 0, .slice none 0 0, .slice none 0 0, .slice none 0 0, .slice none 0 0, .int .i64 0, .string ⟨#[]⟩, .string ⟨#[]⟩, .int .i64 0,
    .int .i64 0, .int .i64 0, .string ⟨#[]⟩, .slice none 0 0, .slice none 0 0, .slice none 0 0, .int .i64 i, .string ⟨#[]⟩]

theorem stm_len (k i : Int) : (stm k i).length = 22 := rfl

theorem stm_one (k i : Int) : ∀ u ∈ stm k i, u.oneCell' = true := by
  intro u hu
  simp only [stm, List.mem_cons, List.not_mem_nil, or_false] at hu
  rcases hu with rfl | rfl | rfl | rfl | rfl | rfl | rfl | rfl | rfl | rfl | rfl | rfl | rfl | rfl | rfl | rfl | rfl | rfl | rfl | rfl | rfl | rfl <;> rfl

/-- The statements of the kinds ks, the first one with Limit i. -/
def stmsFrom : Nat → List Int → List Value
  | _, [] => []
  | i, k :: ks => stm k i ++ stmsFrom (i + 1) ks
def stms (ks : List Int) : List Value := stmsFrom 0 ks

theorem stmsFrom_len : ∀ i ks, (stmsFrom i ks).length = ks.length * 22
  | _, [] => rfl
  | i, k :: ks => by
    show (stm k i ++ stmsFrom (i + 1) ks).length = (ks.length + 1) * 22
    rw [List.length_append, stm_len, stmsFrom_len]
    omega
theorem stms_len (ks : List Int) : (stms ks).length = ks.length * 22 := stmsFrom_len 0 ks

theorem stmsFrom_snoc : ∀ i ks k, stmsFrom i (ks ++ [k]) = stmsFrom i ks ++ stm k (i + ks.length : Nat)
  | i, [], k => by simp [stmsFrom]
  | i, x :: ks, k => by
    show stm x i ++ stmsFrom (i + 1) (ks ++ [k]) = (stm x i ++ stmsFrom (i + 1) ks) ++ _
    rw [stmsFrom_snoc (i + 1) ks k, List.append_assoc]
    congr 3
    simp only [List.length_cons]
    omega
theorem stms_snoc (ks : List Int) (k : Int) : stms (ks ++ [k]) = stms ks ++ stm k (ks.length : Nat) := by
  unfold stms
  rw [stmsFrom_snoc, Nat.zero_add]

theorem stmsFrom_get : ∀ i ks (n : Nat) (k : Int) (j : Nat), ks[n]? = some k → j < 22 → (stmsFrom i ks)[n * 22 + j]? = (stm k (i + n : Nat))[j]?
  | i, [], n, k, j, h, _ => by cases h
  | i, x :: ks, 0, k, j, h, hj => by
    have : x = k := by simpa using h
    subst this
    show (stm x i ++ stmsFrom (i + 1) ks)[0 * 22 + j]? = _
    rw [List.getElem?_append_left (by rw [stm_len]; omega)]
    simp
  | i, x :: ks, n + 1, k, j, h, hj => by
    show (stm x i ++ stmsFrom (i + 1) ks)[(n + 1) * 22 + j]? = _
    rw [List.getElem?_append_right (by rw [stm_len]; omega), stm_len, show (n + 1) * 22 + j - 22 = n * 22 + j by omega,
      stmsFrom_get (i + 1) ks n k j (by simpa using h) hj]
    congr 2
    omega
theorem stms_get {ks : List Int} {n : Nat} {k : Int} (h : ks[n]? = some k) {j : Nat} (hj : j < 22) : (stms ks)[n * 22 + j]? = (stm k (n : Nat))[j]? := by
  have := stmsFrom_get 0 ks n k j h hj
  rw [Nat.zero_add] at this
  exact this

/-- The pairs, flat. -/
def flat : List (Nat × Nat) → List Value
  | [] => []
  | p :: ps => .int .i64 p.1 :: .int .i64 p.2 :: flat ps
theorem flat_len : ∀ ps, (flat ps).length = ps.length * 2
  | [] => rfl
  | p :: ps => by
    show (flat ps).length + 1 + 1 = (ps.length + 1) * 2
    rw [flat_len]
    omega
theorem flat_append : ∀ ps qs, flat (ps ++ qs) = flat ps ++ flat qs
  | [], _ => rfl
  | p :: ps, qs => by
    show _ :: _ :: flat (ps ++ qs) = _ :: _ :: (flat ps ++ flat qs)
    rw [flat_append]
theorem flat_get : ∀ (ps : List (Nat × Nat)) (n : Nat) (p : Nat × Nat), ps[n]? = some p → (flat ps)[n * 2]? = some (.int .i64 p.1) ∧ (flat ps)[n * 2 + 1]? = some (.int .i64 p.2)
  | [], n, p, h => by cases h
  | x :: ps, 0, p, h => by
    have : x = p := by simpa using h
    subst this
    exact ⟨rfl, rfl⟩
  | x :: ps, n + 1, p, h => by
    have ih := flat_get ps n p (by simpa using h)
    rw [show (n + 1) * 2 = n * 2 + 1 + 1 by omega]
    exact ih

/-- What an owned row says of the cells. -/
theorem own_row {w : World} {base : Nat} {e : TypeId} {size n : Nat} {v : Value} {xs : List Value} (h : w.ownsRow base e size v n xs) (hn : 0 < n) :
    ∃ g c, v = .slice (some ⟨g, 0, none⟩) n c ∧ n ≤ c ∧ c ≤ maxLen ∧ base ≤ g ∧ g < w.heap.size ∧ ∀ j u, xs[j]? = some u → w.cell? ⟨g, j, none⟩ = some u := by
  rcases h.2 with ⟨_, h2⟩ | ⟨g, cap, cur, hv, hb, hg, hc, hm, hs, ht⟩
  · omega
  · refine ⟨g, cap, hv, hc, hm, hb, Blk.lt (cs := cur) (t := e) hg, fun j u hj => ?_⟩
    rw [Blk.cell (cs := cur) (t := e) hg]
    rw [← ht, List.getElem?_take] at hj
    split at hj
    · simpa using hj
    · cases hj
theorem own_slice {w : World} {base : Nat} {e : TypeId} {size n : Nat} {v : Value} {xs : List Value} (h : w.ownsRow base e size v n xs) : ∃ A c, v = .slice A n c ∧ n ≤ c ∧ c ≤ maxLen := by
  rcases h.2 with ⟨rfl, rfl⟩ | ⟨g, cap, cur, hv, hb, hg, hc, hm, hs, ht⟩
  · exact ⟨none, 0, rfl, Nat.le_refl _, by simp [maxLen]⟩
  · exact ⟨_, cap, hv, hc, hm⟩
theorem own_keep0 {w w' : World} {base : Nat} {e : TypeId} {size n : Nat} {v : Value} {xs : List Value} (h : w.ownsRow base e size v n xs) (hk : Keeps [] w w') : w'.ownsRow base e size v n xs :=
  own_keep h hk (by simp)

/-- Behind an append to an owned row nothing that was there has turned. -/
theorem keeps_append {w wr w1 : World} {e : TypeId} {size n : Nat} {v : Value} {xs : List Value} (hk : Keeps [] w wr) (o : Obj) (hown : wr.ownsRow w.heap.size e size v n xs)
    (hg : (wr.alloc o).grownBy w1 v.ownBlock) : Keeps [] w w1 := by
  have h3 : Keeps v.ownBlock.toList (wr.alloc o) w1 := Keeps.grown hg (by intro g h; rw [h]; simp)
  refine ((hk.alloc o).nil.trans h3).mono ?_
  intro y hy
  right
  simp only [Option.mem_toList] at hy
  exact (own_blk hown hy).1

/-- Integers behind an address, below block B. -/
def IntsAt (w : World) (B : Nat) (A : Option Addr) (ks : List Int) : Prop :=
  ∀ i k, ks[i]? = some k → ∃ g off, A = some ⟨g, off, none⟩ ∧ g < B ∧ w.cell? ⟨g, off + i, none⟩ = some (.int .i64 k)

theorem IntsAt.keep {w w' : World} {B : Nat} {A : Option Addr} {ks : List Int} {X : List Nat} (h : IntsAt w B A ks) (hk : Keeps X w w') (hX : ∀ x ∈ X, B ≤ x) : IntsAt w' B A ks := by
  intro i k hi
  obtain ⟨g, off, rfl, hg, hc⟩ := h i k hi
  exact ⟨g, off, rfl, hg, hk.cellEq hc (fun hx => by have := hX g hx; omega)⟩

theorem info57 : (Try.prog.info? 57).map (fun i => (i.zero, i.size, i.bytes)) = some (some (.agg (stm 0 0).toArray), 22, 392) := by kernel_rfl
theorem info31 : (Try.prog.info? 31).map (fun i => (i.zero, i.size, i.bytes)) = some (some (.agg #[.int .i64 0, .int .i64 0]), 2, 16) := by kernel_rfl

/-- A row of statements is handed back. -/
def RowPost (e : TypeId) (size n : Nat) (xs : List Value) (w : World) (en : Ending) (w' : World) : Prop :=
  ∃ v, en = .returned v ∧ w'.ownsRow w.heap.size e size v n xs ∧ (v = .slice none 0 0 ↔ n = 0) ∧ Keeps [] w w'

set_option maxHeartbeats 1600000 in
theorem script_any (w : World) (B : Nat) (A : Option Addr) (ks : List Int) (n c : Nat) (hn : ks.length = n) (hnc : n ≤ c) (hB : B ≤ w.heap.size) (hO : IntsAt w B A ks) (h60 : n ≤ 1048576) :
    Calls Try.prog 12 #[.slice A n c] w (RowPost 57 22 n (stms ks) w) := by
  obtain ⟨i0, hi, hz0, hz1, hz2⟩ := info_parts info57
  have HO := Lib.hid hO
  have Hn := Lib.hid hn
  replace hi := Lib.hid hi
  replace hz0 := Lib.hid hz0
  replace hz1 := Lib.hid hz1
  replace hz2 := Lib.hid hz2
  clear hO hn
  go_enter Try.func12, Try.ntmps12
  go_wp2_with fail
  go_loopw [3, 8] (fun out i wr => ∃ k : Nat, k ≤ n ∧ i = .int .i64 k ∧ Keeps [] w wr ∧ wr.ownsRow w.heap.size 57 22 out k (stms (ks.take k)) ∧ (out = .slice none 0 0 ↔ k = 0)) (fun _ i _ => n - (intOf i).toNat)
  case atStart => exact ⟨0, Nat.zero_le _, rfl, Keeps.refl _ _, ⟨rfl, .inl ⟨rfl, rfl⟩⟩, by simp⟩
  case round =>
    obtain ⟨k, hk, rfl, hkw, hown, hnil⟩ := hrel
    have hOk := HO.out.keep hkw (by simp)
    replace hkw := Lib.hid hkw
    replace hown := Lib.hid hown
    replace hnil := Lib.hid hnil
    by_cases hlt : k < n
    · have hkl : k < ks.length := by rw [Hn.out]; exact hlt
      obtain ⟨x, hx⟩ : ∃ o, ks[k]? = some o := ⟨ks[k], List.getElem?_eq_getElem hkl⟩
      obtain ⟨g, off, rfl, hg, c0⟩ := hOk k x hx
      have hsn : stms (ks.take (k + 1)) = stms (ks.take k) ++ stm x (k : Nat) := by
        rw [List.take_add_one, hx]
        show stms (ks.take k ++ [x]) = _
        rw [stms_snoc, List.length_take, Nat.min_eq_left (by omega)]
      replace hsn := Lib.hid hsn
      replace hx := Lib.hid hx
      clear hOk
      go_wp2_with (first
        | (at_builtin; refine wpList_append_own _ rfl (.tmp 13) (.tmp 17) 27 rfl w.heap.size 57 i0 (.agg (stm 0 0).toArray) 22 392 Try.underlying27 hi.out hz0.out hz1.out hz2.out rfl (by decide) u3 k (stms (ks.take k)) rfl (hown.out.alloc _) ⟨wr.heap.size, 0, none⟩ 1 1 (stm x k) rfl rfl (World.news_of_block (cs := (stm x k).toArray) (t := 57) (fr := (0, 0)) (heap_alloc_new wr _)) (stm_one x k) (by unfold maxLen; omega) (by omega) (by have := hkw.out.size; simp; omega) ?_; intro v' w1 ho1 hg1 hn1; replace ho1 := Lib.hid ho1; replace hg1 := Lib.hid hg1; replace hn1 := Lib.hid hn1))
      go_roundw
      case rel =>
        have hk1 : Keeps [] w w1 := keeps_append hkw.out _ hown.out hg1.out
        exact ⟨k + 1, by omega, by go_num, hk1, by rw [hsn.out]; exact ho1.out, ⟨fun h => by have := (hn1.out.1 h).2; omega, fun h => by omega⟩⟩
      case measure => simp [intOf]; omega
    · obtain rfl : k = n := by omega
      go_wp2_with fail
      go_ret
      exact ⟨_, rfl, by have := hown.out; rwa [List.take_of_length_le (by rw [Hn.out]; exact Nat.le_refl _)] at this, hnil.out, hkw.out⟩
end Go.Proofs.Ytbhdangjafokaaa
