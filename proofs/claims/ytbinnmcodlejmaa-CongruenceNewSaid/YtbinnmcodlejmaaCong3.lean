/- Contracts: the product modulo m; the constructors; membership; the next element; the count. -/
import Derived.Test.YtbinnmcodlejmaaCong2
import Derived.Test.YtbinnmcodlejmaaDiv1
import Derived.Deep.RegionWith
import Derived.RegionTactic
namespace Go.Proofs.Ytbinnmcodlejmaa
open Go.RowKit
set_option linter.unusedSimpArgs false
set_option linter.unusedVariables false

set_option maxHeartbeats 400000 in
theorem product_any (a b m : Int) (w : World) (ha : 0 ≤ a) (ha' : a < m) (hb : 0 ≤ b) (hb' : b < m) (hm : m ≤ 4611686018427387904) :
    Calls Try.prog 38 #[.int .i64 a, .int .i64 b, .int .i64 m] w (Still (.int .i64 (a * b % m)) w) := by
  have hm0 : 0 < m := by omega
  have hlt : a * b < m * m := by
    have h1 : a * b ≤ a * m := Int.mul_le_mul_of_nonneg_left (by omega) ha
    have h2 : a * m < m * m := Int.mul_lt_mul_of_pos_right ha' hm0
    omega
  have hmm : m * m ≤ 4611686018427387904 * m := Int.mul_le_mul_of_nonneg_right hm (by omega)
  have hab : 0 ≤ a * b := Int.mul_nonneg ha hb
  have hr := emod_bd (a * b) m hm0
  obtain ⟨x, rfl⟩ := Int.eq_ofNat_of_zero_le ha
  obtain ⟨y, rfl⟩ := Int.eq_ofNat_of_zero_le hb
  have e1 : ((x * y : Nat) : Int) = (x : Int) * y := by simp
  have hH : ((x * y / 18446744073709551616 : Nat) : Int) * 18446744073709551616 + ((x * y % 18446744073709551616 : Nat) : Int) = (x : Int) * y := by omega
  have hHm : ((x * y / 18446744073709551616 : Nat) : Int) < m := by omega
  have hl : ((x * y % 18446744073709551616 : Nat) : Int) < 18446744073709551616 := by omega
  have e1 := Lib.hid e1
  replace hH := Lib.hid hH
  clear hlt hmm hab
  go_enter Try.func38, Try.ntmps38
  go_wp2_with fail
  refine (Try.bits_Mul64 x y (by omega) (by omega) _).mono ?_
  rintro e w' ⟨rfl, rfl⟩
  have hH0 : 0 ≤ ((x * y / 18446744073709551616 : Nat) : Int) := by omega
  have hl0 : 0 ≤ ((x * y % 18446744073709551616 : Nat) : Int) := by omega
  generalize ((x * y / 18446744073709551616 : Nat) : Int) = H at *
  generalize ((x * y % 18446744073709551616 : Nat) : Int) = L at *
  go_wp2_with fail
  refine (div_any _ _ _ _ hH0 hHm hl0 hl hm).mono ?_
  rintro e w' ⟨q, rfl, n, rfl⟩
  rw [hH.out]
  go_wp2_with fail
  go_ret
  exact Still.mk rfl

set_option maxHeartbeats 400000 in
theorem of_any (r m : Int) (w : World) :
    Calls Try.prog 15 #[.agg #[.int .i64 r, .int .i64 m]] w (fun e w' => e = .returned (.agg #[.int .i64 r, .int .i64 m]) ∧ (w.alloc (.cells #[.int .i64 r, .int .i64 m] 24)).alloc (.cells #[.int .i64 r, .int .i64 m] 28) = w') := by
  go_enter Try.func15, Try.ntmps15
  go_wp2_with fail
  exact bodyPost_ret (v := .agg #[.int .i64 r, .int .i64 m]) (by simp [results, Try.results15, go_sem]) rfl ⟨rfl, rfl⟩

set_option maxHeartbeats 400000 in
theorem to_any (r m : Int) (w : World) :
    Calls Try.prog 17 #[.agg #[.int .i64 r, .int .i64 m]] w (fun e w' => e = .returned (.agg #[.int .i64 r, .int .i64 m]) ∧ (w.alloc (.cells #[.int .i64 r, .int .i64 m] 28)).alloc (.cells #[.int .i64 r, .int .i64 m] 24) = w') := by
  go_enter Try.func17, Try.ntmps17
  go_wp2_with fail
  exact bodyPost_ret (v := .agg #[.int .i64 r, .int .i64 m]) (by simp [results, Try.results17, go_sem]) rfl ⟨rfl, rfl⟩

/-- What a constructor hands back. -/
def newV (r m : Int) : Value := if 1 ≤ m ∧ m ≤ 4611686018427387904 then .tuple #[.agg #[.int .i64 (r % m), .int .i64 m], .int .i64 0] else .tuple #[.agg #[.int .i64 0, .int .i64 0], .int .i64 1]

set_option maxHeartbeats 800000 in
theorem new_any (r m : Int) (w : World) (h0 : -9223372036854775808 ≤ r) (h1 : r ≤ 9223372036854775807) :
    Calls Try.prog 13 #[.int .i64 r, .int .i64 m] w (Gives (newV r m) w) := by
  by_cases hm : m < 1
  · have hv : newV r m = .tuple #[.agg #[.int .i64 0, .int .i64 0], .int .i64 1] := if_neg (by omega)
    rw [hv]
    clear hv
    go_enter Try.func13, Try.ntmps13
    go_wp2_with fail
    exact bodyPost_ret (v := .tuple #[.agg #[.int .i64 0, .int .i64 0], .int .i64 1]) (by simp [results, Try.results13, go_sem]) rfl ⟨rfl, (Keeps.refl _ _).alloc _⟩
  · by_cases hm2 : 4611686018427387904 < m
    · have hv : newV r m = .tuple #[.agg #[.int .i64 0, .int .i64 0], .int .i64 1] := if_neg (by omega)
      rw [hv]
      clear hv
      go_enter Try.func13, Try.ntmps13
      go_wp2_with fail
      exact bodyPost_ret (v := .tuple #[.agg #[.int .i64 0, .int .i64 0], .int .i64 1]) (by simp [results, Try.results13, go_sem]) rfl ⟨rfl, (Keeps.refl _ _).alloc _⟩
    · have hv : newV r m = .tuple #[.agg #[.int .i64 (r % m), .int .i64 m], .int .i64 0] := if_pos (by omega)
      rw [hv]
      clear hv
      have hr := emod_bd r m (by omega)
      go_enter Try.func13, Try.ntmps13
      go_wp2_with fail
      refine (mod_any _ _ _ h0 h1 (by omega) (by omega)).mono ?_
      rintro e w' ⟨rfl, rfl⟩
      generalize r % m = x at *
      go_wp2_with fail
      exact bodyPost_ret (v := .tuple #[.agg #[.int .i64 x, .int .i64 m], .int .i64 0]) (by simp [results, Try.results13, go_sem]) rfl ⟨rfl, (Keeps.refl _ _).alloc _⟩
set_option maxHeartbeats 800000 in
theorem rnew_any (r m : Int) (w : World) (h0 : -9223372036854775808 ≤ r) (h1 : r ≤ 9223372036854775807) :
    Calls Try.prog 14 #[.int .i64 r, .int .i64 m] w (Gives (newV r m) w) := by
  by_cases hm : m < 1
  · have hv : newV r m = .tuple #[.agg #[.int .i64 0, .int .i64 0], .int .i64 1] := if_neg (by omega)
    rw [hv]
    clear hv
    go_enter Try.func14, Try.ntmps14
    go_wp2_with fail
    exact bodyPost_ret (v := .tuple #[.agg #[.int .i64 0, .int .i64 0], .int .i64 1]) (by simp [results, Try.results14, go_sem]) rfl ⟨rfl, (Keeps.refl _ _).alloc _⟩
  · by_cases hm2 : 4611686018427387904 < m
    · have hv : newV r m = .tuple #[.agg #[.int .i64 0, .int .i64 0], .int .i64 1] := if_neg (by omega)
      rw [hv]
      clear hv
      go_enter Try.func14, Try.ntmps14
      go_wp2_with (go_at_call 36; refine (limit_any _).mono ?_; rintro e w' ⟨rfl, rfl⟩)
      exact bodyPost_ret (v := .tuple #[.agg #[.int .i64 0, .int .i64 0], .int .i64 1]) (by simp [results, Try.results14, go_sem]) rfl ⟨rfl, (Keeps.refl _ _).alloc _⟩
    · have hv : newV r m = .tuple #[.agg #[.int .i64 (r % m), .int .i64 m], .int .i64 0] := if_pos (by omega)
      rw [hv]
      clear hv
      have hr := emod_bd r m (by omega)
      go_enter Try.func14, Try.ntmps14
      go_wp2_with (go_at_call 36; refine (limit_any _).mono ?_; rintro e w' ⟨rfl, rfl⟩)
      refine (rmod_any _ _ _ h0 h1 (by omega) (by omega)).mono ?_
      rintro e w' ⟨rfl, rfl⟩
      generalize r % m = x at *
      go_wp2_with fail
      exact bodyPost_ret (v := .tuple #[.agg #[.int .i64 x, .int .i64 m], .int .i64 0]) (by simp [results, Try.results14, go_sem]) rfl ⟨rfl, (Keeps.refl _ _).alloc _⟩

end Go.Proofs.Ytbinnmcodlejmaa
