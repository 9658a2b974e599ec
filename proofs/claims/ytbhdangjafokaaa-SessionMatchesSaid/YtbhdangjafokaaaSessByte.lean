/- The arguments that come in: bytes. -/
import Derived.Test.YtbhdangjafokaaaSessBulk
import Derived.Test.YtbhdangjafokaaaSessArr
namespace Go.Proofs.Ytbhdangjafokaaa
open Go.RowKit Go.ChangeShapes Go.WideShapes Go.Deep
set_option linter.unusedSimpArgs false
set_option linter.unusedVariables false

/-- Bytes behind an address, below block B. -/
def BytesAt (w : World) (B : Nat) (A : Option Addr) (os : List Int) : Prop :=
  ∀ i k, os[i]? = some k → (0 ≤ k ∧ k < 256) ∧ ∃ g off, A = some ⟨g, off, none⟩ ∧ g < B ∧ w.cell? ⟨g, off + i, none⟩ = some (.int .u8 k)

theorem BytesAt.keep {w w' : World} {B : Nat} {A : Option Addr} {ks : List Int} {X : List Nat} (h : BytesAt w B A ks) (hk : Keeps X w w') (hX : ∀ x ∈ X, B ≤ x) : BytesAt w' B A ks := by
  intro i k hi
  obtain ⟨h8, g, off, rfl, hg, hc⟩ := h i k hi
  exact ⟨h8, g, off, rfl, hg, hk.cellEq hc (fun hx => by have := hX g hx; omega)⟩

section
variable {H : Type} {enc : TypeId × Value → H} {w : World} {base : Nat} {spare : Nat → Bool} {held : Bool}

theorem open_bytes {fuel : Nat} {v : Value} {x : DataW H × List MemPlace} (h : DataW.trod enc Try.prog w base spare held fuel 37 [v] = some x) :
    ∃ A n c, ∃ ks : List Int, v = .slice A n c ∧ ks.length = n ∧ n ≤ c ∧ c ≤ maxLen ∧ BytesAt w w.heap.size A ks := by
  rcases open_ints Try.underlying37 Try.underlying5 cells5 h with ⟨hcs, _⟩ | ⟨a, len, cap, zs, hcs, _, hl, hm, hz, _, hcell, hwz⟩
  · injection hcs with hcs _
    subst hcs
    exact ⟨none, 0, 0, [], rfl, rfl, Nat.le_refl _, by simp [maxLen], fun i k hi => by cases hi⟩
  · injection hcs with hcs _
    subst hcs
    have hzl : len ≤ zs.length := by rw [hz]; split <;> omega
    refine ⟨some a, len, cap, zs.take len, rfl, by simp [Nat.min_eq_left hzl], hl, hm, fun i k hi => ?_⟩
    have hil : i < len := by
      have := (List.getElem?_eq_some_iff.1 hi).1
      simp at this
      omega
    have h1 := hcell i (by omega)
    have hsp : a.spot = none := by
      have := World.cell?_spot (hcell 0 (by omega))
      simpa [Addr.add] using this
    obtain ⟨g, o, sp⟩ := a
    subst hsp
    have hlt := block_lt_of_cell h1
    rw [add_plain] at h1
    have h3 := bounds_u8 (hwz zs[i] (List.getElem_mem (by omega)))
    rw [List.getElem?_take, if_pos hil, List.getElem?_eq_getElem (by omega)] at hi
    have hz2 : zs.getD i 0 = zs[i]'(by omega) := by simp [List.getD, List.getElem?_eq_getElem (show i < zs.length by omega)]
    rw [hz2] at h1
    simp at hi
    rw [hi] at h1 h3
    refine ⟨by omega, g, o, rfl, ?_, h1⟩
    have : ((⟨g, o, none⟩ : Addr).add i).block = g := by rw [add_plain]
    rw [this] at hlt; exact hlt
end
end Go.Proofs.Ytbhdangjafokaaa
