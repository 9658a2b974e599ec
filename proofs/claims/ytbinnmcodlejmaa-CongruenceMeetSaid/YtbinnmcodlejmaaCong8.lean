/- Contracts of the reference's own functions: LCM, Met, Add, Mul, Solvable, Solves. -/
import Derived.Test.YtbinnmcodlejmaaCong6
namespace Go.Proofs.Ytbinnmcodlejmaa
open Go.RowKit
set_option linter.unusedSimpArgs false
set_option linter.unusedVariables false

/-- LCM's results. -/
def lcmV (a n : Int) : Value := if a * n ≤ 4611686018427387904 then .tuple #[.int .i64 (a * n), .bool true] else .tuple #[.int .i64 0, .bool false]

set_option maxHeartbeats 800000 in
theorem lcm_any (a b : Int) (w : World) (ha : 1 ≤ a) (ha' : a ≤ 4611686018427387904) (hb : 1 ≤ b) (hb' : b ≤ 4611686018427387904) :
    Calls Try.prog 20 #[.int .i64 a, .int .i64 b] w (Still (lcmV a (b / (Int.gcd a b : Int))) w) := by
  have G := fun w => rgcd_any a b w (by omega) (by omega) (by omega) (by omega)
  rw [ab_nn (by omega), ab_nn (by omega)] at G
  have hg := gcd_pos_l (b := b) ha
  have e2 := mul_div_gcd_r a b
  generalize (Int.gcd a b : Int) = g at *
  have hn := div_bd hg hb e2
  have hgb : g ≤ b := Int.le_of_dvd (by omega) ⟨_, (by rw [Int.mul_comm]; exact e2.symm)⟩
  generalize hN : b / g = n at *
  replace e2 := Lib.hid e2
  replace G := Lib.hid G
  by_cases hL : 4611686018427387904 / n < a
  · have hL2 : ¬ a * n ≤ 4611686018427387904 := by
      rw [Int.ediv_lt_iff_lt_mul (by omega)] at hL
      omega
    have hV : lcmV a n = .tuple #[.int .i64 0, .bool false] := if_neg hL2
    rw [hV]
    clear hV hL2
    go_enter Try.func20, Try.ntmps20
    go_wp2_with fail
    refine (G.out _).mono ?_
    rintro e w' ⟨rfl, nn, rfl⟩
    go_wp2_with fail
    refine (limit_any _).mono ?_
    rintro e w' ⟨rfl, rfl⟩
    go_wp2_with fail
    go_ret2
    exact Still.mk rfl
  · have hL2 : a * n ≤ 4611686018427387904 := by
      rw [Int.ediv_lt_iff_lt_mul (by omega)] at hL
      omega
    have hL0 : 0 ≤ a * n := Int.mul_nonneg (by omega) (by omega)
    have hV : lcmV a n = .tuple #[.int .i64 (a * n), .bool true] := if_pos hL2
    rw [hV]
    clear hV
    go_enter Try.func20, Try.ntmps20
    go_wp2_with fail
    refine (G.out _).mono ?_
    rintro e w' ⟨rfl, nn, rfl⟩
    go_wp2_with fail
    refine (limit_any _).mono ?_
    rintro e w' ⟨rfl, rfl⟩
    go_wp2_with fail
    go_ret2
    exact Still.mk rfl

theorem add_math {a b m : Int} (hm : 1 ≤ m) : (a - (m - b)) % m = (a + b) % m := by
  rw [show a - (m - b) = a + b + m * (-1) by omega, Int.add_mul_emod_self_left]

set_option maxHeartbeats 800000 in
theorem add_any (a b m : Int) (w : World) (ha : 0 ≤ a) (ha' : a < m) (hb : 0 ≤ b) (hb' : b < m) (hm : m ≤ 4611686018427387904) :
    Calls Try.prog 43 #[.int .i64 a, .int .i64 b, .int .i64 m] w fun e w' => e = .returned (.int .i64 ((a + b) % m)) ∧ w = w' := by
  have M := fun w => rmod_any (a - (m - b)) m w (by omega) (by omega) (by omega) (by omega)
  rw [add_math (by omega)] at M
  replace M := Lib.hid M
  go_enter Try.func43, Try.ntmps43
  go_wp2_with fail
  refine (M.out _).mono ?_
  rintro e w' ⟨rfl, rfl⟩
  go_wp2_with fail
  go_ret
  exact ⟨rfl, rfl⟩

theorem mul_step {s a b m : Int} : ((s + a * (b % 2)) % m + (a + a) % m * (b / 2)) % m = (s + a * b) % m := by
  obtain ⟨t1, e1⟩ := mod_as (s + a * (b % 2)) m
  obtain ⟨t2, e2⟩ := mod_as (a + a) m
  have hb := Int.mul_ediv_add_emod b 2
  rw [e1, e2]
  have e3 : s + a * (b % 2) + m * t1 + (a + a + m * t2) * (b / 2) = s + a * b + m * (t1 + t2 * (b / 2)) := by
    have : a * b = a * (2 * (b / 2) + b % 2) := by rw [hb]
    rw [this]
    grind
  rw [e3, Int.add_mul_emod_self_left]

set_option maxHeartbeats 800000 in
theorem mul_any (a b m : Int) (w : World) (h0 : -9223372036854775808 ≤ a) (h1 : a ≤ 9223372036854775807) (h2 : -9223372036854775808 ≤ b) (h3 : b ≤ 9223372036854775807) (hm0 : 1 ≤ m) (hm : m ≤ 4611686018427387904) :
    Calls Try.prog 39 #[.int .i64 a, .int .i64 b, .int .i64 m] w (Still (.int .i64 ((a * b) % m)) w) := by
  have M1 := fun w => rmod_any a m w (by omega) (by omega) (by omega) (by omega)
  have M2 := fun w => rmod_any b m w (by omega) (by omega) (by omega) (by omega)
  have ra := emod_bd a m (by omega)
  have rb := emod_bd b m (by omega)
  have e : a * b % m = (a % m) * (b % m) % m := Int.mul_emod a b m
  rw [e]
  clear e
  generalize a % m = A at *
  generalize b % m = B at *
  replace M1 := Lib.hid M1
  replace M2 := Lib.hid M2
  go_enter Try.func39, Try.ntmps39
  go_wp2_with fail
  refine (M1.out _).mono ?_
  rintro e w' ⟨rfl, rfl⟩
  go_wp2_with fail
  refine (M2.out _).mono ?_
  rintro e w' ⟨rfl, rfl⟩
  go_wp2_with fail
  go_loop [0, 1, 7] (fun p q t => ∃ x y z : Int, 0 ≤ x ∧ x < m ∧ 0 ≤ y ∧ y ≤ 4611686018427387904 ∧ 0 ≤ z ∧ z < m ∧ Hid ((z + x * y) % m = A * B % m) ∧ p = .int .i64 x ∧ q = .int .i64 y ∧ t = .int .i64 z)
    (fun _ q _ => (intOf q).toNat)
  case atStart => exact ⟨A, B, 0, by omega, by omega, by omega, by omega, by omega, by omega, Lib.hid (by rw [Int.zero_add]), rfl, rfl, rfl⟩
  case round =>
    obtain ⟨x, y, z, hx0, hx1, hy0, hy1, hz0, hz1, hI, rfl, rfl, rfl⟩ := hrel
    by_cases hy : y = 0
    · subst hy
      go_wp2_with fail
      go_ret
      have hI := hI.out
      rw [Int.mul_zero, Int.add_zero, Int.emod_eq_of_lt hz0 hz1] at hI
      exact ⟨ret_int hI, 0, rfl⟩
    · have hy2 : 0 < y := by omega
      have hst := mul_step (s := z) (a := x) (b := y) (m := m)
      rw [hI.out] at hst
      have ax := emod_bd (x + x) m (by omega)
      have C2 := Lib.hid (fun w => add_any x x m w hx0 hx1 hx0 hx1 hm)
      rcases Int.emod_two_eq y with h2 | h2
      · have hy3 : (y % 2 == 1) = false := by simp; omega
        rw [h2, Int.mul_zero, Int.add_zero, Int.emod_eq_of_lt hz0 hz1] at hst
        generalize (x + x) % m = x2 at *
        replace hst := Lib.hid hst
        clear hy h2
        go_wp2_with fail
        refine (C2.out _).mono ?_
        rintro e w' ⟨rfl, rfl⟩
        go_wp2_with fail
        go_round
        case rel => exact ⟨x2, y / 2, z, by omega, by omega, by omega, by omega, hz0, hz1, hst, rfl, rfl, rfl⟩
        case measure => simp [intOf]; omega
      · have hy3 : (y % 2 == 1) = true := by simp; omega
        have az := emod_bd (z + x) m (by omega)
        have C1 := Lib.hid (fun w => add_any z x m w hz0 hz1 hx0 hx1 hm)
        rw [h2, Int.mul_one] at hst
        generalize (x + x) % m = x2 at *
        generalize (z + x) % m = z2 at *
        replace hst := Lib.hid hst
        clear hy h2
        go_wp2_with fail
        refine (C1.out _).mono ?_
        rintro e w' ⟨rfl, rfl⟩
        go_wp2_with fail
        refine (C2.out _).mono ?_
        rintro e w' ⟨rfl, rfl⟩
        go_wp2_with fail
        go_round
        case rel => exact ⟨x2, y / 2, z2, by omega, by omega, by omega, by omega, by omega, by omega, hst, rfl, rfl, rfl⟩
        case measure => simp [intOf]; omega
end Go.Proofs.Ytbinnmcodlejmaa
