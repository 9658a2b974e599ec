/- The contracts of the small functions: few, Same, Contains of the reference, empty, touches, cmp. -/
import Derived.Test.YthmnolpamllabaaIv0
import Derived.Deep.QuietTactic
import Derived.BigQuiet
namespace Go.Proofs.Ythmnolpamllabaa
open Go.RowKit
set_option linter.unusedSimpArgs false
set_option linter.unusedVariables false

theorem few_any (w : World) (A : Option Addr) (n c : Nat) : Calls Try.prog 21 #[.slice A n c] w fun e w' => e = .returned (.bool (decide (n ≤ 30))) ∧ w = w' := by
  go_enter Try.func21, Try.ntmps21
  go_wp2
  go_ret
  exact ⟨by simp; omega, rfl⟩

set_option maxHeartbeats 800000 in
theorem empty_any (w : World) (a b : Int) : Calls Try.prog 35 #[.agg #[.int .i64 a, .int .i64 b]] w fun e w' => e = .returned (.bool (decide (b < a))) ∧ Keeps [] w w' := by
  have k1 := Lib.hid ((Keeps.refl [] w).alloc (.cells #[.int .i64 a, .int .i64 b] 39))
  go_enter Try.func35, Try.ntmps35
  go_wp2
  go_ret
  exact ⟨rfl, k1.out⟩

set_option maxHeartbeats 800000 in
theorem touches_any (w : World) (a b c d : Int) (hb : In64 b) (hc : In64 c) : Calls Try.prog 47 #[.agg #[.int .i64 a, .int .i64 b], .agg #[.int .i64 c, .int .i64 d]] w fun e w' => e = .returned (.bool (decide (c ≤ b + 1))) ∧ Keeps [] w w' := by
  have k1 := Lib.hid (((Keeps.refl [] w).alloc (.cells #[.int .i64 a, .int .i64 b] 39)).alloc (.cells #[.int .i64 c, .int .i64 d] 39))
  obtain ⟨hb0, hb1⟩ := hb
  obtain ⟨hc0, hc1⟩ := hc
  by_cases h : b = 9223372036854775807
  · subst h
    have hd : decide (c ≤ 9223372036854775807 + 1) = true := decide_eq_true (by omega)
    rw [hd]
    go_enter Try.func47, Try.ntmps47
    go_wp2
    go_ret
    exact ⟨rfl, k1.out⟩
  · have hw : IntKind.i64.wrap (b + 1) = b + 1 := IntWalk.i64_in _ (by omega)
    have h' : (b == 9223372036854775807) = false := by simpa using h
    go_enter Try.func47, Try.ntmps47
    go_wp2
    go_ret
    exact ⟨rfl, k1.out⟩

def cmpI (a b : Int) : Int := if a < b then -1 else if b < a then 1 else 0
set_option maxHeartbeats 800000 in
theorem cmp_any (w : World) (a b : Int) : Calls Try.prog 46 #[.int .i64 a, .int .i64 b] w fun e w' => e = .returned (.int .i64 (cmpI a b)) ∧ w = w' := by
  unfold cmpI
  by_cases h1 : a < b
  · rw [if_pos h1]
    go_enter Try.func46, Try.ntmps46
    go_wp2
    all_goals (go_ret; exact ⟨rfl, rfl⟩)
  · rw [if_neg h1]
    by_cases h2 : b < a
    · rw [if_pos h2]
      go_enter Try.func46, Try.ntmps46
      go_wp2
      all_goals (go_ret; exact ⟨rfl, rfl⟩)
    · rw [if_neg h2]
      go_enter Try.func46, Try.ntmps46
      go_wp2
      all_goals (go_ret; exact ⟨rfl, rfl⟩)

theorem take_eq_of {l1 l2 : List Iv} {k : Nat} {x : Iv} (h1 : l1[k]? = some x) (h2 : l2[k]? = some x) (h : l1.take k = l2.take k) : l1.take (k + 1) = l2.take (k + 1) := by
  rw [List.take_add_one, List.take_add_one, h1, h2, h]

set_option maxHeartbeats 3200000 in
theorem same_any (w : World) (B1 B2 : Nat) (A1 A2 : Option Addr) (l1 l2 : List Iv) (n c m d : Nat) (hl1 : l1.length = n) (hl2 : l2.length = m) (hO1 : IvAt w B1 A1 l1) (hO2 : IvAt w B2 A2 l2) (hn : n ≤ 9000000000) :
    Calls Try.prog 16 #[.slice A1 n c, .slice A2 m d] w fun e w' => e = .returned (.bool (decide (l1 = l2))) ∧ Keeps [] w w' := by
  replace hO1 := Lib.hid hO1
  replace hO2 := Lib.hid hO2
  by_cases hnm : n = m
  · subst hnm
    replace hl1 := Lib.hid hl1
    replace hl2 := Lib.hid hl2
    go_enter Try.func16, Try.ntmps16
    go_wp2_with fail
    go_loopw [5] (fun i wr => ∃ k : Nat, k ≤ n ∧ i = .int .i64 k ∧ (∃ q, wr = w.drewN q) ∧ Hid (l1.take k = l2.take k)) (fun i _ => n - (intOf i).toNat)
    case atStart => exact ⟨0, Nat.zero_le _, rfl, ⟨0, rfl⟩, Lib.hid rfl⟩
    case round =>
      obtain ⟨k, hk, rfl, ⟨q, rfl⟩, hsame⟩ := hrel
      by_cases hlt : k < n
      · obtain ⟨⟨x1, x2⟩, hx⟩ : ∃ x, l1[k]? = some x := ⟨l1[k]'(by rw [hl1.out]; exact hlt), List.getElem?_eq_getElem _⟩
        obtain ⟨⟨y1, y2⟩, hy⟩ : ∃ x, l2[k]? = some x := ⟨l2[k]'(by rw [hl2.out]; exact hlt), List.getElem?_eq_getElem _⟩
        obtain ⟨g1, o1, rfl, _, c1, c2⟩ := hO1.out k _ hx
        obtain ⟨g2, o2, rfl, _, c3, c4⟩ := hO2.out k _ hy
        replace hx := Lib.hid hx
        replace hy := Lib.hid hy
        dsimp only at c1 c2 c3 c4
        by_cases he : x1 = y1 ∧ x2 = y2
        · obtain ⟨rfl, rfl⟩ := he
          go_wp2_with fail
          go_quiet (fail)
          go_wp2_with fail
          go_roundw
          case rel => exact ⟨k + 1, by omega, by go_num, ⟨_, rfl⟩, Lib.hid (take_eq_of hx.out hy.out hsame.out)⟩
          case measure => simp [intOf]; omega
        · have hne : l1 ≠ l2 := fun h => he (by rw [h, hy.out] at hx; have := hx.out; simp at this; exact ⟨this.1.symm, this.2.symm⟩)
          have hf : decide (l1 = l2) = false := decide_eq_false hne
          replace hne := Lib.hid hne
          by_cases e1 : x1 = y1
          · have hb : (x2 == y2) = false := by simpa using fun h => he ⟨e1, h⟩
            subst e1
            replace he := Lib.hid he
            go_wp2_with fail
            go_quiet (fail)
            go_wp2_with fail
            go_ret
            exact ⟨by first | rfl | (rw [hf]; rfl), ((Keeps.refl [] w).drewN _).drewN _⟩
          · have hb : (x1 == y1) = false := by simpa using e1
            replace he := Lib.hid he
            replace e1 := Lib.hid e1
            go_wp2_with fail
            go_quiet (fail)
            go_wp2_with fail
            go_ret
            exact ⟨by first | rfl | (rw [hf]; rfl), ((Keeps.refl [] w).drewN _).drewN _⟩
      · obtain rfl : k = n := by omega
        have ht : decide (l1 = l2) = true := decide_eq_true (by
          have := hsame.out
          rwa [List.take_of_length_le (by rw [hl1.out]; exact Nat.le_refl _), List.take_of_length_le (by rw [hl2.out]; exact Nat.le_refl _)] at this)
        go_wp2_with fail
        go_ret
        exact ⟨by first | rfl | (rw [ht]; rfl), (Keeps.refl [] w).drewN _⟩
  · have hne : decide (l1 = l2) = false := decide_eq_false (fun h => hnm (by rw [← hl1, ← hl2, h]))
    replace hl1 := Lib.hid hl1
    replace hl2 := Lib.hid hl2
    have hb : ((n : Int) == (m : Int)) = false := by simpa using (by omega : ¬ (n : Int) = m)
    replace hnm : ¬ (n : Int) = m := by omega
    go_enter Try.func16, Try.ntmps16
    go_wp2_with fail
    go_ret
    exact ⟨by rw [hne]; simp [hb], Keeps.refl _ _⟩

def anyIn (l : List Iv) (z : Int) : Bool := l.any fun x => decide (x.1 ≤ z ∧ z ≤ x.2)
set_option maxHeartbeats 1600000 in
theorem rcontains_any (w : World) (B : Nat) (A : Option Addr) (l : List Iv) (n c : Nat) (z : Int) (hl : l.length = n) (hO : IvAt w B A l) (hn : n ≤ 9000000000) :
    Calls Try.prog 24 #[.slice A n c, .int .i64 z] w fun e w' => e = .returned (.bool (anyIn l z)) ∧ w = w' := by
  replace hO := Lib.hid hO
  replace hl := Lib.hid hl
  go_enter Try.func24, Try.ntmps24
  go_wp2_with fail
  go_loop [5] (fun i => ∃ k : Nat, k ≤ n ∧ i = .int .i64 k ∧ Hid (anyIn (l.take k) z = false)) (fun i => n - (intOf i).toNat)
  case atStart => exact ⟨0, Nat.zero_le _, rfl, Lib.hid rfl⟩
  case round =>
    obtain ⟨k, hk, rfl, hno⟩ := hrel
    by_cases hlt : k < n
    · obtain ⟨⟨x1, x2⟩, hx⟩ : ∃ x, l[k]? = some x := ⟨l[k]'(by rw [hl.out]; exact hlt), List.getElem?_eq_getElem _⟩
      obtain ⟨g, o, rfl, _, c1, c2⟩ := hO.out k _ hx
      dsimp only at c1 c2
      have hstep : anyIn (l.take (k + 1)) z = decide (x1 ≤ z ∧ z ≤ x2) := by
        have := hno.out; unfold anyIn at *; rw [List.take_add_one, hx, List.any_append, this]; simp
      have hin : (⟨x1, x2⟩ : Iv) ∈ l := List.mem_of_getElem? hx
      replace hx := Lib.hid hx
      replace hstep := Lib.hid hstep
      replace hin := Lib.hid hin
      by_cases h1 : x1 ≤ z
      · by_cases h2 : z ≤ x2
        · have ht : (anyIn l z) = true := List.any_eq_true.2 ⟨_, hin.out, decide_eq_true ⟨h1, h2⟩⟩
          go_wp2_with fail
          go_ret
          exact ⟨by first | rfl | (rw [ht]; rfl), rfl⟩
        · go_wp2_with fail
          go_round
          case rel => exact ⟨k + 1, by omega, by go_num, Lib.hid (by rw [hstep.out]; exact decide_eq_false (by omega))⟩
          case measure => simp [intOf]; omega
      · go_wp2_with fail
        go_round
        case rel => exact ⟨k + 1, by omega, by go_num, Lib.hid (by rw [hstep.out]; exact decide_eq_false (by omega))⟩
        case measure => simp [intOf]; omega
    · obtain rfl : k = n := by omega
      have ht := hno.out
      rw [List.take_of_length_le (by rw [hl.out]; exact Nat.le_refl _)] at ht
      go_wp2_with fail
      go_ret
      exact ⟨by first | rfl | (rw [ht]; rfl), rfl⟩
end Go.Proofs.Ythmnolpamllabaa
