/- What a write does to the sectors, told without the list of bytes. -/
import Derived.Test.YtpjmkjcgpbpfdaaDiskDur2
namespace Go.Proofs.Ytpjmkjcgpbpfdaa
open Go.RowKit
set_option linter.unusedSimpArgs false
set_option linter.unusedVariables false

theorem fail_sec (s : St) (j : Nat) : sec (fail s) j = sec s j := rfl
theorem restart_sec (s : St) (j : Nat) : sec (restart s) j = sec s j := rfl

theorem wr_refused {s : St} {i : Int} {b : List UInt8} (h : chk s i ≠ 0) : wr s i b = (s, chk s i) := by simp [wr, h]

theorem chk_not {s : St} {i : Int} (h : chk s i ≠ 0) (h4 : s.n = 4) : i < 0 ∨ (0 ≤ i ∧ 3 < i) ∨ (0 ≤ i ∧ i ≤ 3 ∧ s.down = true) := by
  cases hd : s.down
  · have : i < 0 ∨ (s.n : Int) ≤ i := by
      rcases Int.lt_or_le i 0 with h1 | h1
      · exact .inl h1
      · rcases Int.lt_or_le i s.n with h2 | h2
        · exfalso; apply h; simp [chk, hd]; omega
        · exact .inr h2
    rcases this with h1 | h1
    · exact .inl h1
    · rcases Int.lt_or_le i 0 with h2 | h2
      · exact .inl h2
      · exact .inr (.inl ⟨h2, by omega⟩)
  · rcases Int.lt_or_le i 0 with h2 | h2
    · exact .inl h2
    · rcases Int.lt_or_le 3 i with h3 | h3
      · exact .inr (.inl ⟨h2, h3⟩)
      · exact .inr (.inr ⟨h2, h3, rfl⟩)

theorem wr_whole {s : St} {i : Nat} {b : List UInt8} (hc : chk s i = 0) (hl : b.length = 64) (h1 : s.left ≠ 1) (h4 : s.n = 4) (hi : i < 4) (hm : s.mem.length = 64 * s.n) :
    ∃ s', wr s i b = (s', 0) ∧ s'.n = 4 ∧ s'.writes = s.writes + 1 ∧ sec s' i = b ∧ ∀ j, j ≠ i → sec s' j = sec s j := by
  refine ⟨{ s with mem := splice s.mem (64 * i) b, left := if 1 < s.left then s.left - 1 else s.left, writes := s.writes + 1 }, ?_, h4, rfl, ?_, fun j hj => ?_⟩
  · simp [wr, hc, hl, h1]
  · exact sec_splice_same s i b s.down _ _ hl (by omega)
  · exact sec_splice_other s i j b s.down _ _ hl (by omega) (fun h => hj h.symm)

theorem wr_torn {s : St} {i : Nat} {b : List UInt8} (hc : chk s i = 0) (hl : b.length = 64) (h1 : s.left = 1) (h4 : s.n = 4) (hi : i < 4) (hm : s.mem.length = 64 * s.n) (hb0 : 0 ≤ s.bytes) (hb1 : s.bytes ≤ 64) :
    ∃ s', wr s i b = (s', 15) ∧ s'.n = 4 ∧ s'.writes = s.writes ∧ sec s' i = b.take s.bytes.toNat ++ (sec s i).drop s.bytes.toNat ∧ ∀ j, j ≠ i → sec s' j = sec s j := by
  refine ⟨fail { s with mem := splice s.mem (64 * i) (b.take s.bytes.toNat) }, ?_, h4, rfl, ?_, fun j hj => ?_⟩
  · simp [wr, hc, hl, h1]
  · rw [fail_sec]
    have := sec_splice_part s i (b.take s.bytes.toNat) (by rw [List.length_take]; omega) (by omega)
    rw [this, List.length_take, hl, Nat.min_eq_left (by omega)]
  · rw [fail_sec]
    exact sec_splice_off s i j _ (by rw [List.length_take]; omega) (by omega) (fun h => hj h.symm)

theorem Last.cell {w : World} {t : TypeId} {X : List Nat} {bl : Nat} {f : Nat → List UInt8} (h : Last w t X bl 4 f) {i : Nat} (hi : i < 4) :
    ∃ g c, w.cell? ⟨bl, i, none⟩ = some (.slice (some ⟨g, 0, none⟩) 64 c) ∧ w.frozen? ⟨bl, i, none⟩ = false ∧ 64 ≤ c ∧ c ≤ maxLen ∧ Bts w (some ⟨g, 0, none⟩) (f i) ∧ (f i).length = 64 ∧ g ∉ X := by
  obtain ⟨cells, hB, hs, hc⟩ := h
  obtain ⟨v, hv, g, c, rfl, h1, h2, h3, h4, h5⟩ := hc i hi
  exact ⟨g, c, by rw [hB.cell, hv], hB.frozen i, h1, h2, h3, h4, h5⟩
end Go.Proofs.Ytpjmkjcgpbpfdaa
