import Derived.Test.YtbinnmcodlejmaaCong7
namespace Go.Proofs.Ytbinnmcodlejmaa
open Go.RowKit
set_option linter.unusedSimpArgs false
set_option linter.unusedVariables false

theorem new_form (r m : Int) : (∃ x y z : Int, newV r m = .tuple #[.agg #[.int .i64 x, .int .i64 y], .int .i64 z]) := by
  unfold newV
  by_cases h : 1 ≤ m ∧ m ≤ 4611686018427387904
  · rw [if_pos h]; exact ⟨_, _, _, rfl⟩
  · rw [if_neg h]; exact ⟨_, _, _, rfl⟩

set_option maxHeartbeats 1600000 in
theorem law_new (r m : Int) (w : World) (h0 : -9223372036854775808 ≤ r) (h1 : r ≤ 9223372036854775807) :
    Calls Try.prog 3 #[.int .i64 r, .int .i64 m] w (Gives (.bool true) w) := by
  have N1 := fun w => new_any r m w h0 h1
  have N2 := fun w => rnew_any r m w h0 h1
  obtain ⟨x, y, z, e⟩ := new_form r m
  rw [e] at N1 N2
  clear e
  replace N1 := Lib.hid N1
  replace N2 := Lib.hid N2
  go_enter Try.func3, Try.ntmps3
  go_wp2_with fail
  refine (awake_any w).mono ?_
  rintro e w1 ⟨rfl, k1⟩
  replace k1 := Lib.hid k1
  go_wp2_with fail
  refine (N1.out _).mono ?_
  rintro e w2 ⟨rfl, k2⟩
  replace k2 := Lib.hid (k1.out.trans k2)
  clear k1
  go_wp2_with fail
  refine (N2.out _).mono ?_
  rintro e w3 ⟨rfl, k3⟩
  have A := Lib.hid ((Blk.new w2 24 #[.int .i64 x, .int .i64 y]).keep k3 (by simp))
  replace k3 := Lib.hid (k2.out.trans (((Keeps.refl [] w2).alloc _).trans k3))
  clear k2
  have cA := A.out.cell
  have lA := A.out.lt
  go_wp2_with fail
  obtain ⟨w0, hw0⟩ : ∃ w0, w0 = w3.alloc (.cells #[.int .i64 x, .int .i64 y] 28) := ⟨_, rfl⟩
  rw [← hw0]
  have A0 : Blk w0 w2.heap.size 24 #[.int .i64 x, .int .i64 y] := by rw [hw0]; exact A.out.alloc _
  have D0 : Blk w0 w3.heap.size 28 #[.int .i64 x, .int .i64 y] := by rw [hw0]; exact Blk.new _ _ _
  have a0 : w0.cell? ⟨w2.heap.size, 0, none⟩ = some (.int .i64 x) := by have := A0.cell 0; simpa using this
  have a1 : w0.cell? ⟨w2.heap.size, 1, none⟩ = some (.int .i64 y) := by have := A0.cell 1; simpa using this
  have d0 : w0.cell? ⟨w3.heap.size, 0, none⟩ = some (.int .i64 x) := by have := D0.cell 0; simpa using this
  have d1 : w0.cell? ⟨w3.heap.size, 1, none⟩ = some (.int .i64 y) := by have := D0.cell 1; simpa using this
  have K0 : Hid (Keeps [] w w0) := Lib.hid (by rw [hw0]; exact k3.out.alloc _)
  have HK : Hid (Keeps [] w0 w0.drew) := Lib.hid (Keeps.refl _ _).drew
  clear hw0 A0 D0 A cA lA k3
  go_region_held3 (fun w' => w'.cell? ⟨w2.heap.size, 0, none⟩ = some (.int .i64 x) ∧ w'.cell? ⟨w2.heap.size, 1, none⟩ = some (.int .i64 y) ∧ w'.cell? ⟨w3.heap.size, 0, none⟩ = some (.int .i64 x) ∧ w'.cell? ⟨w3.heap.size, 1, none⟩ = some (.int .i64 y))
    ((refine (fun (kk : Keeps [] w0 _) => ⟨kk.cellEq a0 (by simp), kk.cellEq a1 (by simp), kk.cellEq d0 (by simp), kk.cellEq d1 (by simp)⟩) ?_; exact HK.out))
    (first
      | (go_at_call 15; refine (of_keeps _ _ _).mono ?_; rintro e w' ⟨rfl, hk⟩; replace HK := Lib.hid (HK.out.trans hk); clear hk))
  all_goals
    go_wp2_with fail
    go_ret
    exact ⟨by simp, K0.out.trans HK.out⟩
end Go.Proofs.Ytbinnmcodlejmaa
