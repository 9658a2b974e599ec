/- Rows of values in memory; Rows of the reference and slices.Equal. -/
import Derived.Test.YtmclfbhcddcebaaMem
import Derived.Test.YtmclfbhcddcebaaUP
import Derived.Test.YtmclfbhcddcebaaProg
import Derived.Deep.QuietTactic
import Derived.BigQuiet
import Derived.MapKept
import Derived.ChangeKeysEq
namespace Go.Proofs.Ytmclfbhcddcebaa
open Go.RowKit
set_option linter.unusedSimpArgs false
set_option linter.unusedVariables false

/-- A row of values behind an address, in a block that is none of X. -/
def RowAt (w : World) (X : List Nat) (A : Option Addr) (l : List Val) : Prop :=
  ∀ i v, l[i]? = some v → ∃ g off, A = some ⟨g, off, none⟩ ∧ g ∉ X ∧ w.cell? ⟨g, off + i * 3, none⟩ = some (.int .i64 v.k) ∧ w.cell? ⟨g, off + i * 3 + 1, none⟩ = some (.int .i64 v.n) ∧ w.cell? ⟨g, off + i * 3 + 2, none⟩ = some (.string v.s)
theorem RowAt.nil (w : World) (X : List Nat) (A : Option Addr) : RowAt w X A [] := fun i v h => by simp at h
theorem RowAt.keep {w w' : World} {X Y : List Nat} {A : Option Addr} {l : List Val} (h : RowAt w X A l) (hk : Keeps Y w w') (hY : ∀ y ∈ Y, y ∈ X ∨ w.heap.size ≤ y) : RowAt w' X A l := by
  intro i v hi
  obtain ⟨g, off, rfl, hg, h1, h2, h3⟩ := h i v hi
  have hn : g ∉ Y := fun hy => by
    rcases hY g hy with h4 | h4
    · exact hg h4
    · have := block_lt_of_cell h1
      simp at this
      omega
  exact ⟨g, off, rfl, hg, hk.cellEq h1 hn, hk.cellEq h2 hn, hk.cellEq h3 hn⟩
/-- The blocks that may turn: others, if they are new. -/
theorem RowAt.other {w : World} {X Y : List Nat} {A : Option Addr} {l : List Val} (h : RowAt w X A l) (hY : ∀ y ∈ Y, y ∈ X ∨ w.heap.size ≤ y) : RowAt w Y A l := by
  intro i v hi
  obtain ⟨g, off, rfl, hg, h1, h2, h3⟩ := h i v hi
  refine ⟨g, off, rfl, fun hy => ?_, h1, h2, h3⟩
  rcases hY g hy with h4 | h4
  · exact hg h4
  · have := block_lt_of_cell h1
    simp at this
    omega
theorem bytes_list {a b : ByteArray} (h : ¬ a = b) : ¬ a.data = b.data := fun e => h (by cases a; cases b; simpa using e)
theorem bytes_ne {a b : ByteArray} (h : ¬ a = b) : (a == b) = false := by
  obtain ⟨x⟩ := a
  obtain ⟨y⟩ := b
  have e : ¬ x = y := fun e => h (by rw [e])
  have : (x == y) = false := by simpa using e
  exact this
theorem take_eq_val {l1 l2 : List Val} {k : Nat} {x : Val} (h1 : l1[k]? = some x) (h2 : l2[k]? = some x) (h : l1.take k = l2.take k) : l1.take (k + 1) = l2.take (k + 1) := by
  rw [List.take_add_one, List.take_add_one, h1, h2, h]

set_option maxHeartbeats 3200000 in
theorem rows_any (w : World) (X1 X2 : List Nat) (A1 A2 : Option Addr) (l1 l2 : List Val) (n c m d : Nat) (hl1 : l1.length = n) (hl2 : l2.length = m) (hO1 : RowAt w X1 A1 l1) (hO2 : RowAt w X2 A2 l2) (hn : n ≤ 9000000000) :
    Calls Try.prog 32 #[.slice A1 n c, .slice A2 m d] w fun e w' => e = .returned (.bool (decide (l1 = l2))) ∧ Keeps [] w w' := by
  replace hO1 := Lib.hid hO1
  replace hO2 := Lib.hid hO2
  by_cases hnm : n = m
  · subst hnm
    replace hl1 := Lib.hid hl1
    replace hl2 := Lib.hid hl2
    go_enter Try.func32, Try.ntmps32
    go_wp2_with fail
    go_loopw [5] (fun i wr => ∃ k : Nat, k ≤ n ∧ i = .int .i64 k ∧ (∃ q, wr = w.drewN q) ∧ Hid (l1.take k = l2.take k)) (fun i _ => n - (intOf i).toNat)
    case atStart => exact ⟨0, Nat.zero_le _, rfl, ⟨0, rfl⟩, Lib.hid rfl⟩
    case round =>
      obtain ⟨k, hk, rfl, ⟨q, rfl⟩, hsame⟩ := hrel
      by_cases hlt : k < n
      · obtain ⟨⟨xk, xn, xs⟩, hx⟩ : ∃ x, l1[k]? = some x := ⟨l1[k]'(by rw [hl1.out]; exact hlt), List.getElem?_eq_getElem _⟩
        obtain ⟨⟨yk, yn, ys⟩, hy⟩ : ∃ x, l2[k]? = some x := ⟨l2[k]'(by rw [hl2.out]; exact hlt), List.getElem?_eq_getElem _⟩
        obtain ⟨g1, o1, rfl, _, c1, c2, c3⟩ := hO1.out k _ hx
        obtain ⟨g2, o2, rfl, _, c4, c5, c6⟩ := hO2.out k _ hy
        replace hx := Lib.hid hx
        replace hy := Lib.hid hy
        dsimp only at c1 c2 c3 c4 c5 c6
        by_cases he : xk = yk ∧ xn = yn ∧ xs = ys
        · obtain ⟨rfl, rfl, rfl⟩ := he
          go_wp2_with fail
          go_quiet (fail)
          go_wp2_with fail
          go_roundw
          case rel => exact ⟨k + 1, by omega, by go_num, ⟨_, rfl⟩, Lib.hid (take_eq_val hx.out hy.out hsame.out)⟩
          case measure => simp [intOf]; omega
        · have hne : l1 ≠ l2 := fun h => he (by rw [h, hy.out] at hx; have := hx.out; simp at this; exact ⟨this.1.symm, this.2.1.symm, this.2.2.symm⟩)
          have hf : decide (l1 = l2) = false := decide_eq_false hne
          replace hne := Lib.hid hne
          by_cases e1 : xk = yk
          · subst e1
            by_cases e2 : xn = yn
            · subst e2
              have hb' : ¬ xs = ys := fun h => he ⟨rfl, rfl, h⟩
              have hb : (xs == ys) = false := bytes_ne hb'
              have hbl : ¬ xs.toList = ys.toList := fun e => bytes_list hb' (by simpa [ByteArray.toList_eq] using e)
              have hb2 : (xs.toList == ys.toList) = false := by simpa using hbl
              replace he := Lib.hid he
              go_wp2_with fail
              go_quiet (fail)
              go_wp2_with fail
              go_ret
              exact ⟨by first | rfl | (rw [hf]; rfl), ((Keeps.refl [] w).drewN _).drewN _⟩
            · have hb : (xn == yn) = false := by simpa using e2
              replace he := Lib.hid he
              replace e2 := Lib.hid e2
              go_wp2_with fail
              go_quiet (fail)
              go_wp2_with fail
              go_ret
              exact ⟨by first | rfl | (rw [hf]; rfl), ((Keeps.refl [] w).drewN _).drewN _⟩
          · have hb : (xk == yk) = false := by simpa using e1
            replace he := Lib.hid he
            replace e1 := Lib.hid e1
            go_wp2_with fail
            go_quiet (fail)
            go_wp2_with fail
            go_ret
            exact ⟨by first | rfl | (rw [hf]; rfl), ((Keeps.refl [] w).drewN _).drewN _⟩
      · obtain rfl : k = n := by omega
        have ht : decide (l1 = l2) = true := decide_eq_true (by
          have := hsame.out
          rwa [List.take_of_length_le (by rw [hl1.out]; exact Nat.le_refl _), List.take_of_length_le (by rw [hl2.out]; exact Nat.le_refl _)] at this)
        go_wp2_with fail
        go_ret
        exact ⟨by first | rfl | (rw [ht]; rfl), (Keeps.refl [] w).drewN _⟩
  · have hne : decide (l1 = l2) = false := decide_eq_false (fun h => hnm (by rw [← hl1, ← hl2, h]))
    replace hl1 := Lib.hid hl1
    replace hl2 := Lib.hid hl2
    have hb : ((n : Int) == (m : Int)) = false := by simpa using (by omega : ¬ (n : Int) = m)
    replace hnm : ¬ (n : Int) = m := by omega
    go_enter Try.func32, Try.ntmps32
    go_wp2_with fail
    go_ret
    exact ⟨by rw [hne]; simp [hb], Keeps.refl _ _⟩

set_option maxHeartbeats 3200000 in
theorem equal_any (w : World) (X1 X2 : List Nat) (A1 A2 : Option Addr) (l1 l2 : List Val) (n c m d : Nat) (hl1 : l1.length = n) (hl2 : l2.length = m) (hO1 : RowAt w X1 A1 l1) (hO2 : RowAt w X2 A2 l2) (hn : n ≤ 9000000000) :
    Calls Try.prog 30 #[.slice A1 n c, .slice A2 m d] w fun e w' => e = .returned (.bool (decide (l1 = l2))) ∧ Keeps [] w w' := by
  replace hO1 := Lib.hid hO1
  replace hO2 := Lib.hid hO2
  by_cases hnm : n = m
  · subst hnm
    replace hl1 := Lib.hid hl1
    replace hl2 := Lib.hid hl2
    go_enter Try.func30, Try.ntmps30
    go_wp2_with fail
    go_loopw [13] (fun i wr => ∃ k : Nat, k ≤ n ∧ i = .int .i64 k ∧ (∃ q, wr = w.drewN q) ∧ Hid (l1.take k = l2.take k)) (fun i _ => n - (intOf i).toNat)
    case atStart => exact ⟨0, Nat.zero_le _, rfl, ⟨0, rfl⟩, Lib.hid rfl⟩
    case round =>
      obtain ⟨k, hk, rfl, ⟨q, rfl⟩, hsame⟩ := hrel
      by_cases hlt : k < n
      · obtain ⟨⟨xk, xn, xs⟩, hx⟩ : ∃ x, l1[k]? = some x := ⟨l1[k]'(by rw [hl1.out]; exact hlt), List.getElem?_eq_getElem _⟩
        obtain ⟨⟨yk, yn, ys⟩, hy⟩ : ∃ x, l2[k]? = some x := ⟨l2[k]'(by rw [hl2.out]; exact hlt), List.getElem?_eq_getElem _⟩
        obtain ⟨g1, o1, rfl, _, c1, c2, c3⟩ := hO1.out k _ hx
        obtain ⟨g2, o2, rfl, _, c4, c5, c6⟩ := hO2.out k _ hy
        replace hx := Lib.hid hx
        replace hy := Lib.hid hy
        dsimp only at c1 c2 c3 c4 c5 c6
        by_cases he : xk = yk ∧ xn = yn ∧ xs = ys
        · obtain ⟨rfl, rfl, rfl⟩ := he
          go_wp2_with fail
          go_quiet (fail)
          go_wp2_with fail
          go_roundw
          case rel => exact ⟨k + 1, by omega, by go_num, ⟨_, rfl⟩, Lib.hid (take_eq_val hx.out hy.out hsame.out)⟩
          case measure => simp [intOf]; omega
        · have hne : l1 ≠ l2 := fun h => he (by rw [h, hy.out] at hx; have := hx.out; simp at this; exact ⟨this.1.symm, this.2.1.symm, this.2.2.symm⟩)
          have hf : decide (l1 = l2) = false := decide_eq_false hne
          replace hne := Lib.hid hne
          by_cases e1 : xk = yk
          · subst e1
            by_cases e2 : xn = yn
            · subst e2
              have hb' : ¬ xs = ys := fun h => he ⟨rfl, rfl, h⟩
              have hb : (xs == ys) = false := bytes_ne hb'
              have hbl : ¬ xs.toList = ys.toList := fun e => bytes_list hb' (by simpa [ByteArray.toList_eq] using e)
              have hb2 : (xs.toList == ys.toList) = false := by simpa using hbl
              replace he := Lib.hid he
              go_wp2_with fail
              go_quiet (fail)
              go_wp2_with fail
              go_ret
              exact ⟨by first | rfl | (rw [hf]; rfl), ((Keeps.refl [] w).drewN _).drewN _⟩
            · have hb : (xn == yn) = false := by simpa using e2
              replace he := Lib.hid he
              replace e2 := Lib.hid e2
              go_wp2_with fail
              go_quiet (fail)
              go_wp2_with fail
              go_ret
              exact ⟨by first | rfl | (rw [hf]; rfl), ((Keeps.refl [] w).drewN _).drewN _⟩
          · have hb : (xk == yk) = false := by simpa using e1
            replace he := Lib.hid he
            replace e1 := Lib.hid e1
            go_wp2_with fail
            go_quiet (fail)
            go_wp2_with fail
            go_ret
            exact ⟨by first | rfl | (rw [hf]; rfl), ((Keeps.refl [] w).drewN _).drewN _⟩
      · obtain rfl : k = n := by omega
        have ht : decide (l1 = l2) = true := decide_eq_true (by
          have := hsame.out
          rwa [List.take_of_length_le (by rw [hl1.out]; exact Nat.le_refl _), List.take_of_length_le (by rw [hl2.out]; exact Nat.le_refl _)] at this)
        go_wp2_with fail
        go_ret
        exact ⟨by first | rfl | (rw [ht]; rfl), (Keeps.refl [] w).drewN _⟩
  · have hne : decide (l1 = l2) = false := decide_eq_false (fun h => hnm (by rw [← hl1, ← hl2, h]))
    replace hl1 := Lib.hid hl1
    replace hl2 := Lib.hid hl2
    have hb : ((n : Int) == (m : Int)) = false := by simpa using (by omega : ¬ (n : Int) = m)
    replace hnm : ¬ (n : Int) = m := by omega
    go_enter Try.func30, Try.ntmps30
    go_wp2_with fail
    go_ret
    exact ⟨by rw [hne]; simp [hb], Keeps.refl _ _⟩
end Go.Proofs.Ytmclfbhcddcebaa
