/- The arguments that come in: integers. -/
import Derived.Test.YtbhdangjafokaaaSess1
import Derived.ProofKit
import Derived.OpenShut
import Derived.Deep.Slices
import Derived.Lib.SmallJoins
namespace Go.Proofs.Ytbhdangjafokaaa
open Go.RowKit Go.ChangeShapes Go.WideShapes Go.Deep
set_option linter.unusedSimpArgs false
set_option linter.unusedVariables false

section
variable {H : Type} {enc : TypeId × Value → H} {w : World} {base : Nat} {spare : Nat → Bool} {held : Bool}

theorem cells3 : Try.prog.cellsOf 3 = 1 := by kernel_rfl

/-- Integers that came in. -/
theorem open_kinds {fuel : Nat} {v : Value} {x : DataW H × List MemPlace} (h : DataW.trod enc Try.prog w base spare held fuel 22 [v] = some x) :
    ∃ A n c, ∃ ks : List Int, v = .slice A n c ∧ ks.length = n ∧ n ≤ c ∧ c ≤ maxLen ∧ IntsAt w w.heap.size A ks := by
  rcases open_ints Try.underlying22 Try.underlying3 cells3 h with ⟨hcs, _⟩ | ⟨a, len, cap, zs, hcs, _, hl, hm, hz, _, hcell, hwz⟩
  · injection hcs with hcs _
    subst hcs
    exact ⟨none, 0, 0, [], rfl, rfl, Nat.le_refl _, by simp [maxLen], fun i k hi => by cases hi⟩
  · injection hcs with hcs _
    subst hcs
    have hzl : len ≤ zs.length := by rw [hz]; split <;> omega
    refine ⟨some a, len, cap, zs.take len, rfl, by simp [Nat.min_eq_left hzl], hl, hm, fun i k hi => ?_⟩
    have hil : i < len := by
      have := (List.getElem?_eq_some_iff.1 hi).1
      simp at this
      omega
    have h1 := hcell i (by omega)
    have hsp : a.spot = none := by
      have := World.cell?_spot (hcell 0 (by omega))
      simpa [Addr.add] using this
    obtain ⟨g, o, sp⟩ := a
    subst hsp
    have hlt := block_lt_of_cell h1
    rw [add_plain] at h1
    refine ⟨g, o, rfl, ?_, ?_⟩
    · have : ((⟨g, o, none⟩ : Addr).add i).block = g := by rw [add_plain]
      rw [this] at hlt; exact hlt
    · rw [h1]
      rw [List.getElem?_take, if_pos hil, List.getElem?_eq_getElem (by omega)] at hi
      have hz2 : zs.getD i 0 = zs[i]'(by omega) := by simp [List.getD, List.getElem?_eq_getElem (show i < zs.length by omega)]
      rw [hz2]
      simp at hi
      rw [hi]
end
end Go.Proofs.Ytbhdangjafokaaa
