/- The walk of the law CongruenceExtended: it returns true, and of what was there nothing has turned. -/
import Derived.Test.YtbinnmcodlejmaaCong7
namespace Go.Proofs.Ytbinnmcodlejmaa
open Go.RowKit
set_option linter.unusedSimpArgs false
set_option linter.unusedVariables false

theorem ab_le {x M : Int} (h : -M ≤ x ∧ x ≤ M) (hM : M ≤ 9223372036854775807) : 0 ≤ ab x ∧ ab x ≤ M := by
  unfold ab
  rw [if_neg (by omega)]
  by_cases hx : x < 0
  · rw [if_pos hx]; omega
  · rw [if_neg hx]; omega
theorem gcd_pos_of {a b : Int} (h : ¬ (a = 0 ∧ b = 0)) : 0 < (Int.gcd (ab a) (ab b) : Int) := by
  have hz : ∀ c : Int, ab c = 0 → c = 0 := fun c hc => by
    unfold ab at hc
    by_cases h1 : c = -9223372036854775808
    · rw [if_pos h1] at hc; omega
    · rw [if_neg h1] at hc
      by_cases h2 : c < 0
      · rw [if_pos h2] at hc; omega
      · rw [if_neg h2] at hc; omega
  by_cases ha : ab a = 0
  · by_cases hb : ab b = 0
    · exact absurd ⟨hz a ha, hz b hb⟩ h
    · have := Int.gcd_pos_of_ne_zero_right (ab a) hb; omega
  · have := Int.gcd_pos_of_ne_zero_left (ab b) ha; omega
theorem wrap_sum {P Q x y g : Int} (h : P * x + Q * y = g) (h0 : 0 ≤ g) (h1 : g ≤ 9223372036854775807) : wrap64 (wrap64 (P * x) + wrap64 (Q * y)) = g := by
  unfold wrap64
  generalize P * x = X at *
  generalize Q * y = Y at *
  omega
theorem pm_min {a : Int} (h : a = -9223372036854775808) : pm a = a + 1 := by subst h; decide
theorem pm_same {a : Int} (h : a ≠ -9223372036854775808) : pm a = a := by
  unfold pm ab
  rw [if_neg h]
  by_cases h2 : a < 0
  · rw [if_pos h2]; simp [h2]
  · rw [if_neg h2, if_neg h2]

set_option maxHeartbeats 400000 in
theorem ext_zero (w : World) : Calls Try.prog 31 #[.int .i64 0, .int .i64 0] w fun e w' => e = .returned (.tuple #[.int .i64 0, .int .i64 0, .int .i64 0]) ∧ w = w' := by
  go_enter Try.func31, Try.ntmps31
  go_wp2_with fail
  go_ret3
  exact ⟨rfl, rfl⟩

set_option maxHeartbeats 1600000 in
theorem law_ext (a b : Int) (w : World) (h0 : -9223372036854775808 ≤ a) (h1 : a ≤ 9223372036854775807) (h2 : -9223372036854775808 ≤ b) (h3 : b ≤ 9223372036854775807) :
    Calls Try.prog 9 #[.int .i64 a, .int .i64 b] w (Gives (.bool true) w) := by
  by_cases hz : a = 0 ∧ b = 0
  · obtain ⟨rfl, rfl⟩ := hz
    have G1 := fun w => rgcd_any 0 0 w (by omega) (by omega) (by omega) (by omega)
    have G2 := fun w => gcd_any 0 0 w (by omega) (by omega) (by omega) (by omega)
    rw [show (Int.gcd (ab 0) (ab 0) : Int) = 0 by decide] at G1 G2
    replace G1 := Lib.hid G1
    replace G2 := Lib.hid G2
    go_enter Try.func9, Try.ntmps9
    go_wp2_with fail
    refine (awake_any _).mono ?_
    rintro e w1 ⟨rfl, k1⟩
    replace k1 := Lib.hid k1
    go_wp2_with fail
    refine (ext_zero _).mono ?_
    rintro e w2 ⟨rfl, rfl⟩
    go_wp2_with fail
    refine (G1.out _).mono ?_
    rintro e w2 ⟨rfl, n, rfl⟩
    go_wp2_with fail
    refine (G2.out _).mono ?_
    rintro e w2 ⟨rfl, n2, rfl⟩
    go_wp2_with fail
    go_ret
    exact ⟨rfl, k1.out.drewN _⟩
  · go_enter Try.func9, Try.ntmps9
    go_wp2_with fail
    refine (awake_any _).mono ?_
    rintro e w1 ⟨rfl, k1⟩
    replace k1 := Lib.hid k1
    go_wp2_with fail
    refine (ext_any a b _ h0 h1 h2 h3 hz).mono ?_
    rintro e w2 ⟨g, x, y, rfl, hE, rfl⟩
    obtain ⟨hg, he, U, V, hU, hV, e1, e2, bx, bY⟩ := hE
    have G1 := fun w => rgcd_any a b w h0 h1 h2 h3
    have G2 := fun w => gcd_any a b w h0 h1 h2 h3
    rw [← hg] at G1 G2
    replace G1 := Lib.hid G1
    replace G2 := Lib.hid G2
    replace he := Lib.hid he
    have hgp : 0 < g := by rw [hg]; exact gcd_pos_of hz
    have c1 : (g == 0) = false := by simp; omega
    have ba := ab_bd a h0 h1
    have bb := ab_bd b h2 h3
    have hgl : g ≤ 9223372036854775807 := by
      by_cases hU1 : U = 0
      · by_cases hV1 : V = 0
        · rw [hU1] at e1; rw [hV1] at e2
          rw [← e1, ← e2] at hg
          simp at hg
          omega
        · have := Int.mul_le_mul_of_nonneg_right (show 1 ≤ V by omega) (show 0 ≤ g by omega); omega
      · have := Int.mul_le_mul_of_nonneg_right (show 1 ≤ U by omega) (show 0 ≤ g by omega); omega
    clear hg hz
    go_wp2_with fail
    refine (G1.out _).mono ?_
    rintro e w2 ⟨rfl, n, rfl⟩
    go_wp2_with fail
    refine (G2.out _).mono ?_
    rintro e w2 ⟨rfl, n2, rfl⟩
    go_wp2_with fail
    have hUb : U ≤ ab b := by have := Int.mul_le_mul_of_nonneg_left (show 1 ≤ g by omega) hU; omega
    have hVb : V ≤ ab a := by have := Int.mul_le_mul_of_nonneg_left (show 1 ≤ g by omega) hV; omega
    have eU : ab b / g = U := by rw [← e1]; exact Int.mul_ediv_cancel _ (by omega)
    have eV : ab a / g = V := by rw [← e2]; exact Int.mul_ediv_cancel _ (by omega)
    have px := ab_le bx (by omega)
    have py := ab_le bY (by omega)
    replace e1 := Lib.hid e1
    replace e2 := Lib.hid e2
    refine (rabs_any x _ (by omega) (by omega)).mono ?_
    rintro e w2 ⟨rfl, rfl⟩
    go_wp2_with fail
    refine (rabs_any b _ h2 h3).mono ?_
    rintro e w2 ⟨rfl, rfl⟩
    go_wp2_with fail
    refine (rabs_any y _ (by omega) (by omega)).mono ?_
    rintro e w2 ⟨rfl, rfl⟩
    go_wp2_with fail
    refine (rabs_any a _ h0 h1).mono ?_
    rintro e w2 ⟨rfl, rfl⟩
    have da : ((a == -9223372036854775808) = true ∧ a ≤ -9223372036854775808 ∧ Hid (pm a = a + 1)) ∨ ((a == -9223372036854775808) = false ∧ Hid (pm a = a)) := by
      by_cases ma : a = -9223372036854775808
      · exact .inl ⟨by simpa using ma, by omega, Lib.hid (pm_min ma)⟩
      · exact .inr ⟨by simpa using ma, Lib.hid (pm_same ma)⟩
    have db : ((b == -9223372036854775808) = true ∧ b ≤ -9223372036854775808 ∧ Hid (pm b = b + 1)) ∨ ((b == -9223372036854775808) = false ∧ Hid (pm b = b)) := by
      by_cases ma : b = -9223372036854775808
      · exact .inl ⟨by simpa using ma, by omega, Lib.hid (pm_min ma)⟩
      · exact .inr ⟨by simpa using ma, Lib.hid (pm_same ma)⟩
    rcases da with ⟨ta, la, pa⟩ | ⟨ta, pa⟩ <;> rcases db with ⟨tb, lb, pb⟩ | ⟨tb, pb⟩
    all_goals
      have hw := wrap_sum he.out (by omega) hgl
      rw [pa.out, pb.out] at hw
      go_wp2_with fail
      go_ret
      exact ⟨by simp, k1.out.drewN _⟩
end Go.Proofs.Ytbinnmcodlejmaa
