/- The walk of the law CongruenceNext: it returns true, and of what was there nothing has turned. -/
import Derived.Test.YtbinnmcodlejmaaCong7
namespace Go.Proofs.Ytbinnmcodlejmaa
open Go.RowKit
set_option linter.unusedSimpArgs false
set_option linter.unusedVariables false

theorem next_form (r m n : Int) : ∃ x ok, nextV r m n = .tuple #[.int .i64 x, .bool ok] := by
  unfold nextV
  split
  · exact ⟨_, _, rfl⟩
  · exact ⟨_, _, rfl⟩

set_option maxHeartbeats 1600000 in
theorem law_next (r m n : Int) (w : World) (h0 : -9223372036854775808 ≤ n) (h1 : n ≤ 9223372036854775807) :
    Calls Try.prog 6 #[.agg #[.int .i64 r, .int .i64 m], .int .i64 n] w (Gives (.bool true) w) := by
  have N1 := fun w => next_any r m n w h0 h1
  have N2 := fun w => rnext_any r m n w h0 h1
  obtain ⟨x, ok, e⟩ := next_form r m n
  rw [e] at N1 N2
  clear e
  replace N1 := Lib.hid N1
  replace N2 := Lib.hid N2
  go_enter Try.func6, Try.ntmps6
  go_wp2_with fail
  refine (awake_any _).mono ?_
  rintro e w1 ⟨rfl, k1⟩
  have A := (Blk.new w 28 #[.int .i64 r, .int .i64 m]).keep k1 (by simp)
  replace k1 := Lib.hid (((Keeps.refl [] w).alloc _).trans k1)
  have cA := A.cell
  replace A := Lib.hid A
  go_wp2_with fail
  refine (to_keeps _ _ _).mono ?_
  rintro e w2 ⟨rfl, k2⟩
  replace A := A.out.keep k2 (by simp)
  replace k2 := Lib.hid (k1.out.trans k2)
  clear cA k1
  go_wp2_with fail
  refine (N1.out _).mono ?_
  rintro e w3 ⟨rfl, k3⟩
  replace A := A.keep k3 (by simp)
  replace k3 := Lib.hid (k2.out.trans k3)
  have cA := A.cell
  clear A k2
  go_wp2_with fail
  refine (N2.out _).mono ?_
  rintro e w4 ⟨rfl, k4⟩
  replace k4 := Lib.hid (k3.out.trans k4)
  clear cA k3
  go_wp2_with fail
  go_ret
  exact ⟨by simp, k4.out⟩
end Go.Proofs.Ytbinnmcodlejmaa
