/- The walk of the law CongruenceContains: it returns true, and of what was there nothing has turned. -/
import Derived.Test.YtbinnmcodlejmaaCong4
import Derived.Test.YtbinnmcodlejmaaCong7
namespace Go.Proofs.Ytbinnmcodlejmaa
open Go.RowKit
set_option linter.unusedSimpArgs false
set_option linter.unusedVariables false

set_option maxHeartbeats 1600000 in
theorem law_contains (r m n : Int) (w : World) (h0 : -9223372036854775808 ≤ n) (h1 : n ≤ 9223372036854775807) :
    Calls Try.prog 10 #[.agg #[.int .i64 r, .int .i64 m], .int .i64 n] w (Gives (.bool true) w) := by
  have N1 := fun w => contains_any r m n w h0 h1
  have N2 := fun w => rcontains_any r m n w h0 h1
  generalize memB r m n = b at *
  replace N1 := Lib.hid N1
  replace N2 := Lib.hid N2
  go_enter Try.func10, Try.ntmps10
  go_wp2_with fail
  obtain ⟨w0, hw0⟩ : ∃ w0, w0 = w.alloc (.cells #[.int .i64 r, .int .i64 m] 28) := ⟨_, rfl⟩
  rw [← hw0]
  have A : Blk w0 w.heap.size 28 #[.int .i64 r, .int .i64 m] := by rw [hw0]; exact Blk.new _ _ _
  have K0 : Hid (Keeps [] w w0) := Lib.hid (by rw [hw0]; exact (Keeps.refl _ _).alloc _)
  have a0 : w0.cell? ⟨w.heap.size, 0, none⟩ = some (.int .i64 r) := by have := A.cell 0; simpa using this
  have a1 : w0.cell? ⟨w.heap.size, 1, none⟩ = some (.int .i64 m) := by have := A.cell 1; simpa using this
  have HK : Hid (Keeps [] w0 w0.drew) := Lib.hid (Keeps.refl _ _).drew
  clear A hw0
  go_region_held3 (fun w' => w'.cell? ⟨w.heap.size, 0, none⟩ = some (.int .i64 r) ∧ w'.cell? ⟨w.heap.size, 1, none⟩ = some (.int .i64 m))
    ((refine (fun (kk : Keeps [] w0 _) => ⟨kk.cellEq a0 (by simp), kk.cellEq a1 (by simp)⟩) ?_; exact HK.out))
    (first
      | (go_at_call 12; refine (awake_any _).mono ?_; rintro e w' ⟨rfl, hk⟩; replace HK := Lib.hid (HK.out.trans hk); clear hk)
      | (go_at_call 17; refine (to_keeps _ _ _).mono ?_; rintro e w' ⟨rfl, hk⟩; replace HK := Lib.hid (HK.out.trans hk); clear hk)
      | (go_at_call 34; ((with_reducible refine (N1.out _).mono ?_); rintro e w' ⟨rfl, hk⟩; replace HK := Lib.hid (HK.out.trans hk); clear hk))
      | (go_at_call 21; ((with_reducible refine (N2.out _).mono ?_); rintro e w' ⟨rfl, hk⟩; replace HK := Lib.hid (HK.out.trans hk); clear hk)))
  all_goals
    go_wp2_with fail
    go_ret
    exact ⟨by simp, K0.out.trans HK.out⟩
end Go.Proofs.Ytbinnmcodlejmaa
