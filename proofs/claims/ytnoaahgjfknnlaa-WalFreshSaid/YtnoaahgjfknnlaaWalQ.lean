/- What a run of writes leaves on a disk that does not fail. -/
import Derived.Test.YtnoaahgjfknnlaaWal3
namespace Go.Proofs.Ytnoaahgjfknnlaa
open Go.RowKit
set_option linter.unusedSimpArgs false
set_option linter.unusedVariables false

theorem wr_good {s : St} {i : Nat} {b : List UInt8} (hd : s.down = false) (hl : s.left = 0) (hi : i < s.n) (hb : b.length = 64) :
    wr s i b = ({ s with mem := splice s.mem (64 * i) b, left := s.left, writes := s.writes + 1 }, 0) := by
  have hc : chk s (i : Int) = 0 := by unfold chk; rw [hd]; simp; omega
  unfold wr
  rw [if_neg (by simp [hc]), if_neg (by simp [hb]), if_neg (by omega), if_neg (by omega)]
  simp

theorem chunk_drop (d : List UInt8) (j : Nat) : chunk (d.drop 59) j = chunk d (j + 1) := by
  unfold chunk
  rw [List.drop_drop, show 59 + 59 * j = 59 * (j + 1) by omega]
theorem chunk_zero (d : List UInt8) : chunk d 0 = d.take 59 := by
  unfold chunk
  rw [Nat.mul_zero, List.drop_zero]

structure Good (s : St) (i ep : Nat) (d : List UInt8) (q : St × Int) : Prop where
  ok : q.2 = 0
  down : q.1.down = false
  left : q.1.left = 0
  n : q.1.n = s.n
  len : q.1.mem.length = 64 * s.n
  at_ : ∀ j, 59 * j < d.length → sec q.1 (i + j) = pack (chunk d j) ep
  off : ∀ k, k < i ∨ 59 * i + d.length ≤ 59 * k → sec q.1 k = sec s k
  w0 : s.writes ≤ q.1.writes
  w1 : q.1.writes * 59 ≤ s.writes * 59 + d.length + 58

theorem wrs_good (ep : Nat) : ∀ (f : Nat) (s : St) (i : Nat) (d : List UInt8), s.down = false → s.left = 0 → s.mem.length = 64 * s.n → d.length ≤ f → 59 * i + d.length ≤ 59 * s.n → Good s i ep d (wrs s i ep f d)
  | 0, s, i, d, h1, h2, h3, h4, h5 => by
    have : d = [] := List.eq_nil_of_length_eq_zero (by omega)
    subst this
    exact ⟨rfl, h1, h2, rfl, h3, fun j hj => by simp at hj, fun k _ => rfl, Int.le_refl _, by show s.writes * 59 ≤ s.writes * 59 + (0 : Nat) + 58; omega⟩
  | f + 1, s, i, d, h1, h2, h3, h4, h5 => by
    by_cases hd : d = []
    · subst hd
      rw [wrs_nil]
      exact ⟨rfl, h1, h2, rfl, h3, fun j hj => by simp at hj, fun k _ => rfl, Int.le_refl _, by show s.writes * 59 ≤ s.writes * 59 + (0 : Nat) + 58; omega⟩
    · have hl : 0 < d.length := List.length_pos_iff.2 hd
      have hi : i < s.n := by omega
      have hpl : (pack (d.take 59) ep).length = 64 := pack_len (by rw [List.length_take]; omega)
      have hg := wr_good (s := s) (i := i) (b := pack (d.take 59) ep) h1 h2 hi hpl
      have hm : i * 64 + 64 ≤ s.mem.length := by omega
      rw [wrs_ok hd (by rw [hg]), hg]
      have hlen : (splice s.mem (64 * i) (pack (d.take 59) ep)).length = s.mem.length := length_splice _ _ _ (by rw [hpl]; omega)
      have ih := wrs_good ep f { s with mem := splice s.mem (64 * i) (pack (d.take 59) ep), left := s.left, writes := s.writes + 1 } (i + 1) (d.drop 59) h1 h2 (by show (splice _ _ _).length = _; rw [hlen]; exact h3)
        (by rw [List.length_drop]; omega) (by rw [List.length_drop]; show 59 * (i + 1) + (d.length - 59) ≤ 59 * s.n; omega)
      have hw1 := ih.w1
      have hw0 := ih.w0
      have hat := ih.at_
      have hoff := ih.off
      have same := sec_splice_same s i (pack (d.take 59) ep) s.down s.left (s.writes + 1) hpl hm
      have oth := fun k hk => sec_splice_other s i k (pack (d.take 59) ep) s.down s.left (s.writes + 1) hpl hm hk
      rw [List.length_drop] at hat hoff hw1
      refine ⟨ih.ok, ih.down, ih.left, ih.n, ih.len, fun j hj => ?_, fun k hk => ?_, ?_, ?_⟩
      · cases j with
        | zero =>
          have e := (hoff i (.inl (by omega))).trans same
          rw [← chunk_zero] at e
          exact e
        | succ j =>
          have e := hat j (by omega)
          rw [chunk_drop] at e
          rw [show i + (j + 1) = i + 1 + j by omega]
          exact e
      · exact (hoff k (by omega)).trans (oth k (by omega))
      · dsimp only at hw0 ⊢; omega
      · dsimp only at hw1 ⊢; omega
end Go.Proofs.Ytnoaahgjfknnlaa
