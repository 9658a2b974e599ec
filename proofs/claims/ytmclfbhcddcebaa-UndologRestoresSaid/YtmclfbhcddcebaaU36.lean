/- The reference's order of rows. -/
import Derived.Test.YtmclfbhcddcebaaU35
namespace Go.Proofs.Ytmclfbhcddcebaa
open Go.RowKit Go.Shelf
set_option linter.unusedSimpArgs false
set_option linter.unusedVariables false

def befR (a b : Raw) : Bool := decide (a.t < b.t) || (decide (a.t = b.t) && decide (a.id < b.id))
theorem befR_lt {w : World} {X Y : List Nat} {a b : Raw} {c d : Chg} (h : RawIs w X a c) (k : RawIs w Y b d) : befR a b = decide (ltK (kq c) (kq d)) := by
  unfold befR ltK kq
  rw [h.t, h.id, k.t, k.id, Bool.eq_iff_iff]
  simp only [Bool.or_eq_true, Bool.and_eq_true, decide_eq_true_eq]
  exact ⟨fun h => decide_eq_true h, fun h => of_decide_eq_true h⟩
set_option maxRecDepth 100000 in
set_option maxHeartbeats 1600000 in
theorem before_any (w : World) (a b : Raw) : Calls Try.prog 41 #[.agg a.cells.toArray, .agg b.cells.toArray] w fun e w' => e = .returned (.bool (befR a b)) ∧ Keeps [] w w' := by
  obtain ⟨t, id, Ao, no, co, An, nn, cn⟩ := a
  obtain ⟨t', id', Ao', no', co', An', nn', cn'⟩ := b
  unfold Raw.cells befR
  dsimp only
  have ka : Hid (Keeps [] w ((w.alloc (.cells #[.int .i64 t, .int .i64 id, .slice Ao no co, .slice An nn cn] 35)).alloc (.cells #[.int .i64 t', .int .i64 id', .slice Ao' no' co', .slice An' nn' cn'] 35))) := Lib.hid (((Keeps.refl [] w).alloc _).alloc _)
  by_cases h1 : t < t'
  · have d1 := decide_eq_true h1
    go_enter Try.func41, Try.ntmps41
    go_wp2_with fail
    go_ret
    exact ⟨by simp [h1], ka.out⟩
  · have d1 := decide_eq_false h1
    by_cases h2 : t = t'
    · have b2 : (t == t') = true := by simpa using h2
      subst h2
      go_enter Try.func41, Try.ntmps41
      go_wp2_with fail
      go_ret
      exact ⟨by simp [h1], ka.out⟩
    · have b2 : (t == t') = false := by simpa using h2
      go_enter Try.func41, Try.ntmps41
      go_wp2_with fail
      go_ret
      exact ⟨by simp [h1, h2], ka.out⟩
end Go.Proofs.Ytmclfbhcddcebaa
