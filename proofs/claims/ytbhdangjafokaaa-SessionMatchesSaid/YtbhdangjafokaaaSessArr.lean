/- A pair of bytes that came in. -/
import Derived.Test.YtbhdangjafokaaaSessArgs
namespace Go.Proofs.Ytbhdangjafokaaa
open Go.RowKit Go.ChangeShapes Go.WideShapes Go.Deep
set_option linter.unusedSimpArgs false
set_option linter.unusedVariables false

section
variable {H : Type} {enc : TypeId × Value → H} {w : World} {base : Nat} {spare : Nat → Bool} {held : Bool}

theorem cells5 : Try.prog.cellsOf 5 = 1 := by kernel_rfl
theorem cells32 : Try.prog.cellsOf 32 = 2 := by kernel_rfl

theorem okWide_arr {r : Reach} {b0 : Nat} {v : Value} (h : Value.okWide Try.prog w r b0 32 v) : ∃ cs, v = .agg cs ∧ cs.size = 2 := by
  unfold Value.okWide at h
  rw [Try.underlying32] at h
  obtain ⟨cs, h1, h2, _⟩ := h
  exact ⟨cs, h1, h2.trans cells32⟩

/-- Two bytes that came in. -/
theorem open_two {fuel : Nat} {cs : Array Value} {x : DataW H × List MemPlace} (hsz : cs.size = 2) (h : DataW.trod enc Try.prog w base spare held fuel 32 cs.toList = some x) :
    ∃ a b : Int, cs = #[.int .u8 a, .int .u8 b] ∧ (0 ≤ a ∧ a < 256) ∧ (0 ≤ b ∧ b < 256) := by
  obtain ⟨l⟩ := cs
  match l, hsz with
  | [c0, c1], _ =>
    obtain ⟨ys, m, _, rfl, _, hl, hf⟩ := DataW.trod_array Try.underlying32 h
    match ys, hl with
    | [y0, y1], _ =>
      have h0 := hf 0 (by omega)
      have h1 := hf 1 (by omega)
      simp [cells5] at h0 h1
      obtain ⟨a, e0, rfl, s0⟩ := DataW.trod_int Try.underlying5 h0
      obtain ⟨b, e1, rfl, s1⟩ := DataW.trod_int Try.underlying5 h1
      simp at e0 e1
      subst e0 e1
      have t0 := bounds_u8 s0; have t1 := bounds_u8 s1; exact ⟨a, b, rfl, by omega, by omega⟩
end
end Go.Proofs.Ytbhdangjafokaaa
