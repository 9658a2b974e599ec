/- The walk of the statement SnapshotDivide. -/
import Derived.Test.YtoefbjeclghfhaaSnap9
namespace Go.Proofs.Ytoefbjeclghfhaa
open Go.RowKit
set_option linter.unusedSimpArgs false
set_option linter.unusedVariables false

/-- What Divide and Capacity hand back, in both texts, for the number n: the layout V, the error x. -/
theorem divide_law (w : World) (n : Int) (V : Array Value) (a0 a1 a2 a3 a4 a5 a6 a7 x : Int) (hV : V = #[.int .i64 a0, .int .i64 a1, .int .i64 a2, .int .i64 a3, .int .i64 a4, .int .i64 a5, .int .i64 a6, .int .i64 a7])
    (h1 : ∀ w : World, Calls Try.prog 10 #[.int .i64 n] w fun e w' => e = .returned (.tuple #[.agg V, .int .i64 x]) ∧ Keeps [] w w')
    (h2 : ∀ w : World, Calls Try.prog 11 #[.int .i64 n] w fun e w' => e = .returned (.tuple #[.agg V, .int .i64 x]) ∧ Keeps [] w w') :
    Calls Try.prog 3 #[.int .i64 n] w fun e w' => e = .returned (.bool true) ∧ Keeps [] w w' := by
  subst hV
  have hae := arr_eq
  have HC := fun w' => cap_any w' n
  have HR := fun w' => rcap_any w' n
  generalize capOf n = cc at *
  replace h1 := Lib.hid h1
  replace h2 := Lib.hid h2
  replace HC := Lib.hid HC
  replace HR := Lib.hid HR
  go_enter Try.func3, Try.ntmps3
  go_wp2_with fail
  refine (h1.out w).mono ?_
  rintro e w1 ⟨rfl, k1⟩
  have B1 := Lib.hid (Blk.new w1 24 #[.int .i64 a0, .int .i64 a1, .int .i64 a2, .int .i64 a3, .int .i64 a4, .int .i64 a5, .int .i64 a6, .int .i64 a7])
  have K1 := Lib.hid (k1.alloc (.cells #[.int .i64 a0, .int .i64 a1, .int .i64 a2, .int .i64 a3, .int .i64 a4, .int .i64 a5, .int .i64 a6, .int .i64 a7] 24))
  clear k1
  go_wp2_with fail
  generalize hw1 : w1.alloc (.cells #[.int .i64 a0, .int .i64 a1, .int .i64 a2, .int .i64 a3, .int .i64 a4, .int .i64 a5, .int .i64 a6, .int .i64 a7] 24) = w2 at *
  clear hw1
  refine (h2.out w2).mono ?_
  rintro e w3 ⟨rfl, k3⟩
  have B3 := Lib.hid (Blk.new w3 28 #[.int .i64 a0, .int .i64 a1, .int .i64 a2, .int .i64 a3, .int .i64 a4, .int .i64 a5, .int .i64 a6, .int .i64 a7])
  have K3 := Lib.hid ((K1.out.trans k3).alloc (.cells #[.int .i64 a0, .int .i64 a1, .int .i64 a2, .int .i64 a3, .int .i64 a4, .int .i64 a5, .int .i64 a6, .int .i64 a7] 28))
  replace B1 := Lib.hid ((B1.out.keep k3 (by simp)).alloc (.cells #[.int .i64 a0, .int .i64 a1, .int .i64 a2, .int .i64 a3, .int .i64 a4, .int .i64 a5, .int .i64 a6, .int .i64 a7] 28))
  clear k3 K1
  go_wp2_with fail
  generalize hw3 : w3.alloc (.cells #[.int .i64 a0, .int .i64 a1, .int .i64 a2, .int .i64 a3, .int .i64 a4, .int .i64 a5, .int .i64 a6, .int .i64 a7] 28) = w4 at *
  clear hw3
  refine (awake_any w4).mono ?_
  rintro e w5 ⟨rfl, k5⟩
  have q1 := (B1.out.keep k5 (by simp)).cell
  have q3 := (B3.out.keep k5 (by simp)).cell
  have K5 := Lib.hid (K3.out.trans k5)
  clear B1 B3 K3 k5
  go_wp2_with fail
  refine (HC.out w5).mono ?_
  rintro e w6 ⟨rfl, k6⟩
  have K6 := Lib.hid (K5.out.trans k6)
  clear k6 K5
  go_wp2_with fail
  refine (HR.out w6).mono ?_
  rintro e w7 ⟨rfl, k7⟩
  have K7 := Lib.hid (K6.out.trans k7)
  clear k7 K6
  go_wp2_with fail
  go_ret
  exact ⟨rfl, K7.out⟩

theorem law_divide (w : World) (n : Int) : Calls Try.prog 3 #[.int .i64 n] w fun e w' => e = .returned (.bool true) ∧ Keeps [] w w' := by
  by_cases h : n < 7 ∨ 65536 < n
  · exact divide_law w n lay0 0 0 0 0 0 0 0 0 1 rfl (fun w => divide_bad w n h) (fun w => rdivide_bad w n h)
  · obtain ⟨m, rfl⟩ : ∃ m : Nat, n = m := ⟨n.toNat, by omega⟩
    exact divide_law w m (layV m) 0 1 2 3 (3 + (area m : Nat)) (area m : Nat) (3 + 2 * (area m : Nat)) ((m : Int) - (3 + 2 * (area m : Nat))) 0 rfl (fun w => divide_ok w m (by omega) (by omega)) (fun w => rdivide_ok w m (by omega) (by omega))
end Go.Proofs.Ytoefbjeclghfhaa
