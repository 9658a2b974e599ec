/- The walks of the statements IntervalOf, IntervalContains. -/
import Derived.Test.YthmnolpamllabaaIvArgs
namespace Go.Proofs.Ythmnolpamllabaa
open Go.RowKit
set_option linter.unusedSimpArgs false
set_option linter.unusedVariables false

theorem anyIn_inn (l : List Iv) (z : Int) : anyIn l z = true ↔ inn l z := by
  unfold anyIn inn
  rw [List.any_eq_true]
  constructor
  · rintro ⟨x, hx, h⟩
    have := of_decide_eq_true h
    exact ⟨x, hx, this.1, this.2⟩
  · rintro ⟨x, hx, h1, h2⟩
    exact ⟨x, hx, decide_eq_true ⟨h1, h2⟩⟩
theorem anyIn_congr {l m : List Iv} {z : Int} (h : inn l z ↔ inn m z) : anyIn l z = anyIn m z := by
  rw [Bool.eq_iff_iff, anyIn_inn, anyIn_inn, h]

set_option maxHeartbeats 3200000 in
set_option maxRecDepth 100000 in
theorem law_of (w : World) (A : Option Addr) (c : Nat) (l : List Iv) (hO : IvAt w w.heap.size A l) (h64 : All64 l) :
    Calls Try.prog 8 #[.slice A l.length c] w fun e w' => e = .returned (.bool true) ∧ Keeps [] w w' := by
  replace hO := Lib.hid hO
  replace h64 := Lib.hid h64
  by_cases hn : l.length ≤ 30
  · have hd : decide (l.length ≤ 30) = true := decide_eq_true hn
    go_enter Try.func8, Try.ntmps8
    go_wp2_with fail
    refine (awake_any w).mono ?_
    rintro e w1 ⟨rfl, k1⟩
    replace k1 := Lib.hid k1
    go_wp2_with fail
    refine (few_any w1 A l.length c).mono ?_
    rintro e w2 ⟨rfl, rfl⟩
    rw [hd]
    go_wp2_with fail
    refine (to_got w1 w.heap.size A c l k1.out.size (hO.out.keep k1.out (by simp)) (by omega)).mono ?_
    rintro e w2 ⟨A2, c2, rfl, o2, n2, k2⟩
    replace k2 := Lib.hid (k1.out.trans k2.out)
    clear k1 n2
    go_wp2_with fail
    refine (of2_got w2 _ A2 c2 l o2.out h64.out (by omega)).mono ?_
    rintro e w3 ⟨out, hi, A3, c3, rfl, o3, n3, k3⟩
    replace k3 := Lib.hid (k2.out.trans k3.out)
    have hf : Hid (out.length ≤ 30) := Lib.hid (by have := hi.out.few; omega)
    clear o2 k2 n3
    go_wp2_with fail
    refine (of_got w3 _ A3 c3 out o3.out (by have := hf.out; omega)).mono ?_
    rintro e w4 ⟨A4, c4, rfl, o4, n4, k4⟩
    replace k4 := Lib.hid (k3.out.trans k4.out)
    clear o3 k3 n4
    go_wp2_with fail
    refine (rof_got w4 w.heap.size A c l k4.out.size (hO.out.keep k4.out (by simp)) h64.out (by omega)).mono ?_
    rintro e w5 ⟨out', hi', A5, c5, rfl, o5, n5, k5⟩
    obtain rfl : out' = out := hi'.out.unique hi.out (fun _ => Iff.rfl)
    replace o4 := Lib.hid (own_keep0 o4.out k5.out)
    replace k5 := Lib.hid (k4.out.trans k5.out)
    clear n5 k4
    go_wp2_with fail
    refine (same_got w5 _ _ _ _ A4 A5 c4 c5 out' out' o4.out o5.out (by have := hf.out; omega)).mono ?_
    rintro e w6 ⟨rfl, k6⟩
    replace k6 := Lib.hid (k5.out.trans k6.out)
    rw [decide_eq_true (rfl : out' = out')]
    clear o4 o5 k5 hi'
    go_wp2_with fail
    refine (to_got w6 w.heap.size A c l k6.out.size (hO.out.keep k6.out (by simp)) (by omega)).mono ?_
    rintro e w7 ⟨A7, c7, rfl, o7, n7, k7⟩
    replace k7 := Lib.hid (k6.out.trans k7.out)
    clear k6 n7
    go_wp2_with fail
    refine (valid_got w7 _ A7 c7 l o7.out h64.out (by omega)).mono ?_
    rintro e w8 ⟨b, rfl, hb, k8⟩
    replace k8 := Lib.hid (k7.out.trans k8.out)
    clear o7 k7
    go_wp2_with fail
    refine (rvalid_any w8 w.heap.size A l l.length c rfl k8.out.size (hO.out.keep k8.out (by simp)) h64.out (by omega)).mono ?_
    rintro e w9 ⟨b', rfl, hb', k9⟩
    obtain rfl : b' = b := by rw [Bool.eq_iff_iff, hb', hb.out]
    replace k9 := Lib.hid (k8.out.trans k9)
    clear hb hb' k8
    cases b'
    all_goals (
      go_wp2_with fail
      refine (to_got w9 w.heap.size A c l k9.out.size (hO.out.keep k9.out (by simp)) (by omega)).mono ?_
      rintro e w10 ⟨A10, c10, rfl, o10, n10, k10⟩
      replace k10 := Lib.hid (k9.out.trans k10.out)
      clear k9 n10
      go_wp2_with fail
      refine (of2_got w10 _ A10 c10 l o10.out h64.out (by omega)).mono ?_
      rintro e w11 ⟨out2, hi2, A11, c11, rfl, o11, n11, k11⟩
      replace k11 := Lib.hid (k10.out.trans k11.out)
      clear o10 k10 n11
      go_wp2_with fail
      refine (valid_got w11 _ A11 c11 out2 o11.out (hi2.out.all64 h64.out) (by have := hi2.out.few; omega)).mono ?_
      rintro e w12 ⟨b2, rfl, hb2, k12⟩
      obtain rfl : b2 = true := hb2.out.2 hi2.out.can
      replace k12 := Lib.hid (k11.out.trans k12.out)
      clear o11 k11 hb2
      go_wp2_with fail
      go_ret
      exact ⟨rfl, k12.out⟩)
  · have hd : decide (l.length ≤ 30) = false := decide_eq_false hn
    go_enter Try.func8, Try.ntmps8
    go_wp2_with fail
    refine (awake_any w).mono ?_
    rintro e w1 ⟨rfl, k1⟩
    replace k1 := Lib.hid k1
    go_wp2_with fail
    refine (few_any w1 A l.length c).mono ?_
    rintro e w2 ⟨rfl, rfl⟩
    rw [hd]
    go_wp2_with fail
    go_ret
    exact ⟨rfl, k1.out⟩

set_option maxHeartbeats 3200000 in
set_option maxRecDepth 100000 in
theorem law_contains (w : World) (A : Option Addr) (c : Nat) (l : List Iv) (z : Int) (hO : IvAt w w.heap.size A l) (h64 : All64 l) :
    Calls Try.prog 6 #[.slice A l.length c, .int .i64 z] w fun e w' => e = .returned (.bool true) ∧ Keeps [] w w' := by
  replace hO := Lib.hid hO
  replace h64 := Lib.hid h64
  by_cases hn : l.length ≤ 30
  · have hd : decide (l.length ≤ 30) = true := decide_eq_true hn
    go_enter Try.func6, Try.ntmps6
    go_wp2_with fail
    refine (awake_any w).mono ?_
    rintro e w1 ⟨rfl, k1⟩
    replace k1 := Lib.hid k1
    go_wp2_with fail
    refine (few_any w1 A l.length c).mono ?_
    rintro e w2 ⟨rfl, rfl⟩
    rw [hd]
    go_wp2_with fail
    refine (to_got w1 w.heap.size A c l k1.out.size (hO.out.keep k1.out (by simp)) (by omega)).mono ?_
    rintro e w2 ⟨A2, c2, rfl, o2, n2, k2⟩
    replace k2 := Lib.hid (k1.out.trans k2.out)
    clear k1 n2
    go_wp2_with fail
    refine (of2_got w2 _ A2 c2 l o2.out h64.out (by omega)).mono ?_
    rintro e w3 ⟨out, hi, A3, c3, rfl, o3, n3, k3⟩
    replace k3 := Lib.hid (k2.out.trans k3.out)
    have hf : Hid (out.length ≤ 30) := Lib.hid (by have := hi.out.few; omega)
    clear o2 k2 n3
    go_wp2_with fail
    refine (pcontains_any w3 _ out.length c3 A3 z out rfl o3.out (by have := hf.out; omega)).mono ?_
    rintro e w4 ⟨rfl, k4⟩
    rw [anyIn_congr (hi.out.same z)]
    replace k4 := Lib.hid (k3.out.trans k4)
    clear o3 k3 hi hf
    go_wp2_with fail
    refine (rcontains_any w4 w.heap.size A l l.length c z rfl (hO.out.keep k4.out (by simp)) (by omega)).mono ?_
    rintro e w5 ⟨rfl, rfl⟩
    generalize anyIn l z = b
    cases b
    all_goals (
      go_wp2_with fail
      go_ret
      exact ⟨rfl, k4.out⟩)
  · have hd : decide (l.length ≤ 30) = false := decide_eq_false hn
    go_enter Try.func6, Try.ntmps6
    go_wp2_with fail
    refine (awake_any w).mono ?_
    rintro e w1 ⟨rfl, k1⟩
    replace k1 := Lib.hid k1
    go_wp2_with fail
    refine (few_any w1 A l.length c).mono ?_
    rintro e w2 ⟨rfl, rfl⟩
    rw [hd]
    go_wp2_with fail
    go_ret
    exact ⟨rfl, k1.out⟩
end Go.Proofs.Ythmnolpamllabaa
