/- Add, whatever the change. -/
import Derived.Test.YtmclfbhcddcebaaU7
namespace Go.Proofs.Ytmclfbhcddcebaa
open Go.RowKit Go.Shelf
set_option linter.unusedSimpArgs false
set_option linter.unusedVariables false

set_option maxRecDepth 100000 in
set_option maxHeartbeats 3200000 in
theorem add_bad (w : World) (gl : Nat) (r : Raw) (X : List Nat) (c : Chg) (hc : RawIs w X r c) (hv : valid c = false) :
    Calls Try.prog 13 #[.pointer (some ⟨gl, 0, none⟩), .agg r.cells.toArray] w fun e w' => e = .returned (.int .i64 1) ∧ Keeps [] w w' := by
  obtain ⟨t, id, Ao, no, co, An, nn, cn⟩ := r
  obtain ⟨ht, hid, hno, hnn, hcO, hcN⟩ := hc
  dsimp only at ht hid hno hnn hcO hcN
  have hv1 : t < 0 ∨ id < 1 ∨ (no = 0 ∧ nn = 0) := by
    unfold valid at hv
    simp only [Bool.not_eq_false', Bool.or_eq_true, decide_eq_true_eq, Bool.and_eq_true] at hv
    rw [← hno, ← hnn, ht, hid]
    rcases hv with (h | h) | h
    · exact .inl h
    · exact .inr (.inl h)
    · exact .inr (.inr h)
  unfold Raw.cells
  dsimp only
  have k0 : Keeps [] w ((w.alloc (.cells #[.int .i64 t, .int .i64 id, .slice Ao no co, .slice An nn cn] 35)).alloc (.cells #[.int .i64 0] 38)) := ((Keeps.refl [] w).alloc _).alloc _
  have B4 : Blk ((w.alloc (.cells #[.int .i64 t, .int .i64 id, .slice Ao no co, .slice An nn cn] 35)).alloc (.cells #[.int .i64 0] 38)) (w.heap.size + 1) 38 #[.int .i64 0] := by
    have := Blk.new (w.alloc (.cells #[.int .i64 t, .int .i64 id, .slice Ao no co, .slice An nn cn] 35)) 38 #[.int .i64 0]
    simpa using this
  have kf : Keeps [] w (((w.alloc (.cells #[.int .i64 t, .int .i64 id, .slice Ao no co, .slice An nn cn] 35)).alloc (.cells #[.int .i64 0] 38)).setCell ⟨w.heap.size + 1, 0, none⟩ (.int .i64 1)) := k0.setCell (p := ⟨w.heap.size + 1, 0, none⟩) (.inr (by simp)) _
  have kg : Keeps [] w ((w.alloc (.cells #[.int .i64 t, .int .i64 id, .slice Ao no co, .slice An nn cn] 35)).alloc (.cells #[.int .i64 1] 38)) := ((Keeps.refl [] w).alloc _).alloc _
  have z0 := (B4.set_ 0 (.int .i64 1)).cell
  replace kf := Lib.hid kf
  replace kg := Lib.hid kg
  replace z0 := Lib.hid z0
  clear k0 B4 ht hid hno hnn hcO hcN hv
  by_cases h1 : t < 0
  · have d1 := decide_eq_true h1
    go_enter Try.func13, Try.ntmps13
    go_wp2_with fail
    refine bodyPost_ret (v := .int .i64 1) (by simp [results, Try.results13, go_sem, z0.out]) rfl ⟨rfl, by first | exact kf.out | exact kg.out⟩
  · have d1 := decide_eq_false h1
    by_cases h2 : id < 1
    · have d2 := decide_eq_true h2
      go_enter Try.func13, Try.ntmps13
      go_wp2_with fail
      refine bodyPost_ret (v := .int .i64 1) (by simp [results, Try.results13, go_sem, z0.out]) rfl ⟨rfl, by first | exact kf.out | exact kg.out⟩
    · have d2 := decide_eq_false h2
      obtain ⟨rfl, rfl⟩ : no = 0 ∧ nn = 0 := by
        rcases hv1 with h | h | h
        · exact absurd h h1
        · exact absurd h h2
        · exact h
      go_enter Try.func13, Try.ntmps13
      go_wp2_with fail
      refine bodyPost_ret (v := .int .i64 1) (by simp [results, Try.results13, go_sem, z0.out]) rfl ⟨rfl, by first | exact kf.out | exact kg.out⟩

theorem add_any (w : World) (base gl : Nat) (A : Option Addr) (nc cc : Nat) (sv : Value) (R : List Raw) (L : List Chg) (r : Raw) (c : Chg) (X : List Nat) (hB : Blk w gl 64 #[.slice A nc cc, sv]) (hO : w.ownsRow base 35 4 (.slice A nc cc) nc (flatC R)) (hn : R.length = nc) (hR : RawsIs w X R L) (hc : RawIs w X r c) (hs : Small c)
    (hsL : ∀ b ∈ L, Small b) (hnc : nc ≤ 1000000) (hbase : base ≤ w.heap.size) :
    Calls Try.prog 13 #[.pointer (some ⟨gl, 0, none⟩), .agg r.cells.toArray] w (AddPost w base gl nc A cc sv R L c) := by
  cases hv : valid c
  · refine (add_bad w gl r X c hc hv).mono ?_
    rintro e w' ⟨rfl, k⟩
    exact .inl ⟨by unfold addOk; rw [hv]; rfl, rfl, k⟩
  · exact add_ok w base gl A nc cc sv R L r c X hB hO hn hR hc hs hsL hnc hbase hv
end Go.Proofs.Ytmclfbhcddcebaa
