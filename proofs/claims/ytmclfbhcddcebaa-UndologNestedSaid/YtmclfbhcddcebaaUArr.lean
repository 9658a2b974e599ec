/- Three lists of operations that came in. -/
import Derived.Test.YtmclfbhcddcebaaUArgs
namespace Go.Proofs.Ytmclfbhcddcebaa
open Go.RowKit Go.ChangeShapes Go.WideShapes Go.Deep
set_option linter.unusedSimpArgs false
set_option linter.unusedVariables false

section
variable {H : Type} {enc : TypeId × Value → H} {w : World} {base : Nat} {spare : Nat → Bool} {held : Bool}
set_option maxRecDepth 100000 in
theorem okWide_arr3 {r : Reach} {b0 : Nat} {v : Value} (h : Value.okWide Try.prog w r b0 50 v) : ∃ cs, v = .agg cs ∧ cs.size = 3 := by
  unfold Value.okWide at h
  rw [Try.underlying50] at h
  obtain ⟨cs, h1, h2, _⟩ := h
  exact ⟨cs, h1, h2.trans cells50⟩
set_option maxRecDepth 100000 in
theorem open_three {fuel : Nat} {cs : Array Value} {x : DataW H × List MemPlace} (hsz : cs.size = 3) (h : DataW.trod enc Try.prog w base spare held fuel 50 cs.toList = some x) :
    ∃ A0 c0 l0 A1 c1 l1 A2 c2 l2, cs = #[.slice A0 (List.length l0) c0, .slice A1 (List.length l1) c1, .slice A2 (List.length l2) c2] ∧ (List.length l0 ≤ c0 ∧ c0 ≤ maxLen ∧ OpsAt w [] A0 l0 ∧ (∀ o ∈ l0, wfC o.c ∧ (Lit.int .i64 o.n).wf = true)) ∧ (List.length l1 ≤ c1 ∧ c1 ≤ maxLen ∧ OpsAt w [] A1 l1 ∧ (∀ o ∈ l1, wfC o.c ∧ (Lit.int .i64 o.n).wf = true)) ∧ (List.length l2 ≤ c2 ∧ c2 ≤ maxLen ∧ OpsAt w [] A2 l2 ∧ (∀ o ∈ l2, wfC o.c ∧ (Lit.int .i64 o.n).wf = true)) := by
  obtain ⟨l⟩ := cs
  match l, hsz with
  | [v0, v1, v2], _ =>
    obtain ⟨ys, m, _, rfl, _, hl, hf⟩ := DataW.trod_array Try.underlying50 h
    match ys, hl with
    | [y0, y1, y2], _ =>
      have h0 := hf 0 (by omega)
      have h1 := hf 1 (by omega)
      have h2 := hf 2 (by omega)
      simp [cells22] at h0 h1 h2
      obtain ⟨A0, c0, l0, rfl, p0⟩ := open_ops h0
      obtain ⟨A1, c1, l1, rfl, p1⟩ := open_ops h1
      obtain ⟨A2, c2, l2, rfl, p2⟩ := open_ops h2
      exact ⟨A0, c0, l0, A1, c1, l1, A2, c2, l2, rfl, p0, p1, p2⟩
end
end Go.Proofs.Ytmclfbhcddcebaa
