/- What a run of writes leaves on a disk that may fail; what the sectors then hold. -/
import Derived.Test.YtnoaahgjfknnlaaWalQ
namespace Go.Proofs.Ytnoaahgjfknnlaa
open Go.RowKit
set_option linter.unusedSimpArgs false
set_option linter.unusedVariables false

theorem laid_append {s : St} {q : St × Int} {fi co ep : Nat} {L r : List UInt8} (h : Laid (sec s) fi co ep L)
    (at_ : ∀ j, 59 * j < (L.drop (59 * (L.length / 59)) ++ enc r).length → sec q.1 (fi + L.length / 59 + j) = pack (chunk (L.drop (59 * (L.length / 59)) ++ enc r) j) ep)
    (off : ∀ k, k < fi + L.length / 59 ∨ 59 * (fi + L.length / 59) + (L.drop (59 * (L.length / 59)) ++ enc r).length ≤ 59 * k → sec q.1 k = sec s k) :
    Laid (sec q.1) fi co ep (L ++ enc r) := by
  have hD : L.drop (59 * (L.length / 59)) ++ enc r = (L ++ enc r).drop (59 * (L.length / 59)) := by rw [List.drop_append_of_le_length (by omega)]
  have hlD : (L.drop (59 * (L.length / 59)) ++ enc r).length = (L ++ enc r).length - 59 * (L.length / 59) := by rw [hD, List.length_drop]
  have hle : L.length ≤ (L ++ enc r).length := by rw [List.length_append]; omega
  have hpos : L.length < (L ++ enc r).length := by rw [List.length_append, enc_len]; omega
  intro j hj
  have hs := h j hj
  by_cases hlt : 59 * j < (L ++ enc r).length
  · rw [if_pos hlt]
    by_cases hjat : j < L.length / 59
    · rw [off (fi + j) (.inl (by omega))]
      rw [if_pos (by omega)] at hs
      rw [hs]
      congr 1
      unfold chunk
      rw [List.drop_append_of_le_length (by omega), List.take_append_of_le_length (by rw [List.length_drop]; omega)]
    · have e := at_ (j - L.length / 59) (by rw [hlD]; omega)
      rw [show fi + L.length / 59 + (j - L.length / 59) = fi + j by omega, hD] at e
      rw [e]
      congr 1
      unfold chunk
      rw [List.drop_drop, show 59 * (L.length / 59) + 59 * (j - L.length / 59) = 59 * j by omega]
  · rw [if_neg hlt, off (fi + j) (.inr (by rw [hlD]; omega))]
    rw [if_neg (by omega)] at hs
    exact hs

theorem wr_step {s : St} {i : Nat} {b : List UInt8} (hd : s.down = false) (hl : s.left ≠ 1) (hi : i < s.n) (hb : b.length = 64) :
    wr s i b = ({ s with mem := splice s.mem (64 * i) b, left := if 1 < s.left then s.left - 1 else s.left, writes := s.writes + 1 }, 0) := by
  have hc : chk s (i : Int) = 0 := by unfold chk; rw [hd]; simp; omega
  unfold wr
  rw [if_neg (by simp [hc]), if_neg (by simp [hb]), if_neg hl]
  simp
theorem wr_torn {s : St} {i : Nat} {b : List UInt8} (hd : s.down = false) (hl : s.left = 1) (hi : i < s.n) (hb : b.length = 64) :
    wr s i b = (fail { s with mem := splice s.mem (64 * i) (b.take s.bytes.toNat) }, 15) := by
  have hc : chk s (i : Int) = 0 := by unfold chk; rw [hd]; simp; omega
  unfold wr
  rw [if_neg (by simp [hc]), if_neg (by simp [hb]), if_pos hl]
  simp

/-- All writes were made. -/
structure Full (s : St) (i ep : Nat) (d : List UInt8) (q : St × Int) : Prop where
  ok : q.2 = 0
  down : q.1.down = false
  n : q.1.n = s.n
  len : q.1.mem.length = 64 * s.n
  bytes : q.1.bytes = s.bytes
  at_ : ∀ j, 59 * j < d.length → sec q.1 (i + j) = pack (chunk d j) ep
  off : ∀ k, k < i ∨ 59 * i + d.length ≤ 59 * k → sec q.1 k = sec s k
  w0 : s.writes ≤ q.1.writes
  w1 : q.1.writes * 59 ≤ s.writes * 59 + d.length + 58
/-- One of them was torn. -/
structure Torn (s : St) (i ep : Nat) (d : List UInt8) (q : St × Int) : Prop where
  err : q.2 = 15
  down : q.1.down = true
  n : q.1.n = s.n
  len : q.1.mem.length = 64 * s.n
  ex : ∃ m, 59 * m < d.length ∧ (∀ j, j < m → sec q.1 (i + j) = pack (chunk d j) ep) ∧
    sec q.1 (i + m) = (pack (chunk d m) ep).take s.bytes.toNat ++ (sec s (i + m)).drop ((pack (chunk d m) ep).take s.bytes.toNat).length ∧ ∀ k, k < i ∨ i + m < k → sec q.1 k = sec s k

theorem wrs_armed (ep : Nat) : ∀ (f : Nat) (s : St) (i : Nat) (d : List UInt8), s.down = false → s.mem.length = 64 * s.n → d.length ≤ f → 59 * i + d.length ≤ 59 * s.n → Full s i ep d (wrs s i ep f d) ∨ Torn s i ep d (wrs s i ep f d)
  | 0, s, i, d, h1, h3, h4, h5 => by
    have : d = [] := List.eq_nil_of_length_eq_zero (by omega)
    subst this
    exact .inl ⟨rfl, h1, rfl, h3, rfl, fun j hj => by simp at hj, fun k _ => rfl, Int.le_refl _, by show s.writes * 59 ≤ s.writes * 59 + (0 : Nat) + 58; omega⟩
  | f + 1, s, i, d, h1, h3, h4, h5 => by
    by_cases hd : d = []
    · subst hd
      rw [wrs_nil]
      exact .inl ⟨rfl, h1, rfl, h3, rfl, fun j hj => by simp at hj, fun k _ => rfl, Int.le_refl _, by show s.writes * 59 ≤ s.writes * 59 + (0 : Nat) + 58; omega⟩
    · have hl : 0 < d.length := List.length_pos_iff.2 hd
      have hi : i < s.n := by omega
      have hpl : (pack (d.take 59) ep).length = 64 := pack_len (by rw [List.length_take]; omega)
      have hm : i * 64 + 64 ≤ s.mem.length := by omega
      by_cases hleft : s.left = 1
      · have hg := wr_torn (s := s) (i := i) (b := pack (d.take 59) ep) h1 hleft hi hpl
        rw [wrs_bad hd (by rw [hg]; show (15 : Int) ≠ 0; decide), hg]
        right
        have htl : ((pack (d.take 59) ep).take s.bytes.toNat).length ≤ 64 := by rw [List.length_take]; omega
        have hlen : (splice s.mem (64 * i) ((pack (d.take 59) ep).take s.bytes.toNat)).length = s.mem.length := length_splice _ _ _ (by omega)
        refine ⟨rfl, rfl, rfl, by show (splice _ _ _).length = _; rw [hlen]; exact h3, 0, by omega, fun j hj => absurd hj (Nat.not_lt_zero _), ?_, fun k hk => ?_⟩
        · rw [chunk_zero]
          exact sec_splice_part s i _ htl hm
        · exact sec_splice_off s i k _ htl hm (by omega)
      · have hg := wr_step (s := s) (i := i) (b := pack (d.take 59) ep) h1 hleft hi hpl
        rw [wrs_ok hd (by rw [hg]), hg]
        have hlen : (splice s.mem (64 * i) (pack (d.take 59) ep)).length = s.mem.length := length_splice _ _ _ (by rw [hpl]; omega)
        have ih := wrs_armed ep f { s with mem := splice s.mem (64 * i) (pack (d.take 59) ep), left := if 1 < s.left then s.left - 1 else s.left, writes := s.writes + 1 } (i + 1) (d.drop 59) h1 (by show (splice _ _ _).length = _; rw [hlen]; exact h3)
          (by rw [List.length_drop]; omega) (by rw [List.length_drop]; show 59 * (i + 1) + (d.length - 59) ≤ 59 * s.n; omega)
        have same := sec_splice_same s i (pack (d.take 59) ep) s.down (if 1 < s.left then s.left - 1 else s.left) (s.writes + 1) hpl hm
        have oth := fun k hk => sec_splice_other s i k (pack (d.take 59) ep) s.down (if 1 < s.left then s.left - 1 else s.left) (s.writes + 1) hpl hm hk
        rcases ih with ih | ih
        · left
          have hw1 := ih.w1
          have hw0 := ih.w0
          have hat := ih.at_
          have hoff := ih.off
          rw [List.length_drop] at hat hoff hw1
          refine ⟨ih.ok, ih.down, ih.n, ih.len, ih.bytes, fun j hj => ?_, fun k hk => ?_, ?_, ?_⟩
          · cases j with
            | zero =>
              have e := (hoff i (.inl (by omega))).trans same
              rw [← chunk_zero] at e
              exact e
            | succ j =>
              have e := hat j (by omega)
              rw [chunk_drop] at e
              rw [show i + (j + 1) = i + 1 + j by omega]
              exact e
          · exact (hoff k (by omega)).trans (oth k (by omega))
          · dsimp only at hw0 ⊢; omega
          · dsimp only at hw1 ⊢; omega
        · right
          obtain ⟨m, hm1, hm2, hm3, hm4⟩ := ih.ex
          rw [List.length_drop] at hm1
          refine ⟨ih.err, ih.down, ih.n, ih.len, m + 1, by omega, fun j hj => ?_, ?_, fun k hk => ?_⟩
          · cases j with
            | zero =>
              have e := (hm4 i (.inl (by omega))).trans same
              rw [← chunk_zero] at e
              exact e
            | succ j =>
              have e := hm2 j (by omega)
              rw [chunk_drop] at e
              rw [show i + (j + 1) = i + 1 + j by omega]
              exact e
          · have e := hm3
            rw [chunk_drop] at e
            have e2 := oth (i + 1 + m) (by omega)
            rw [show i + (m + 1) = i + 1 + m by omega]
            rw [e2] at e
            exact e
          · exact (hm4 k (by omega)).trans (oth k (by omega))
end Go.Proofs.Ytnoaahgjfknnlaa
