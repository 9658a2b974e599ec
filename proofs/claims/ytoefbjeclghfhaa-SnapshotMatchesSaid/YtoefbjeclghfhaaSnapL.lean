/- The snapshot in plain Lean: what a run of writes leaves on a disk that may fail. -/
import Derived.Test.YtoefbjeclghfhaaSnapW
namespace Go.Proofs.Ytoefbjeclghfhaa
open Go.RowKit
set_option linter.unusedSimpArgs false
set_option linter.unusedVariables false

/-- The part j of a byte string. -/
def part64 (d : List UInt8) (j : Nat) : List UInt8 := (d.drop (64 * j)).take 64
theorem part64_drop (d : List UInt8) (j : Nat) : part64 (d.drop 64) j = part64 d (j + 1) := by
  unfold part64
  rw [List.drop_drop, show 64 + 64 * j = 64 * (j + 1) by omega]
theorem part64_zero (d : List UInt8) : part64 d 0 = d.take 64 := by
  unfold part64
  rw [Nat.mul_zero, List.drop_zero]

/-- All writes were made. -/
structure SFull (s : St) (i : Nat) (d : List UInt8) (q : St × Int) : Prop where
  ok : q.2 = 0
  down : q.1.down = false
  n : q.1.n = s.n
  len : q.1.mem.length = 64 * s.n
  bytes : q.1.bytes = s.bytes
  at_ : ∀ j, 64 * j < d.length → sec q.1 (i + j) = pad (part64 d j)
  off : ∀ k, k < i ∨ i + (d.length + 63) / 64 ≤ k → sec q.1 k = sec s k
  left : s.left = 0 → q.1.left = 0
  writes : q.1.writes = s.writes + ((d.length + 63) / 64 : Nat)
/-- One of them was torn. -/
structure STorn (s : St) (i : Nat) (d : List UInt8) (q : St × Int) : Prop where
  err : q.2 = 15
  down : q.1.down = true
  n : q.1.n = s.n
  len : q.1.mem.length = 64 * s.n
  off : ∀ k, k < i ∨ i + (d.length + 63) / 64 ≤ k → sec q.1 k = sec s k
  left : s.left ≠ 0

theorem sws_armed : ∀ (f : Nat) (s : St) (i : Nat) (d : List UInt8), s.down = false → s.mem.length = 64 * s.n → d.length ≤ f → 64 * i + d.length ≤ 64 * s.n → SFull s i d (sws s i f d) ∨ STorn s i d (sws s i f d)
  | 0, s, i, d, h1, h3, h4, h5 => by
    have : d = [] := List.eq_nil_of_length_eq_zero (by omega)
    subst this
    exact .inl ⟨rfl, h1, rfl, h3, rfl, fun j hj => by simp at hj, fun k _ => rfl, fun h => h, by show s.writes = s.writes + ((0 + 63) / 64 : Nat); simp⟩
  | f + 1, s, i, d, h1, h3, h4, h5 => by
    by_cases hd : d = []
    · subst hd
      rw [sws_nil]
      exact .inl ⟨rfl, h1, rfl, h3, rfl, fun j hj => by simp at hj, fun k _ => rfl, fun h => h, by show s.writes = s.writes + ((0 + 63) / 64 : Nat); simp⟩
    · have hl : 0 < d.length := List.length_pos_iff.2 hd
      have hi : i < s.n := by omega
      have hpl : (pad (d.take 64)).length = 64 := pad_len (by rw [List.length_take]; omega)
      have hm : i * 64 + 64 ≤ s.mem.length := by omega
      by_cases hleft : s.left = 1
      · have hg := wr_torn (s := s) (i := i) (b := pad (d.take 64)) h1 hleft hi hpl
        rw [sws_bad hd (by rw [hg]; show (15 : Int) ≠ 0; decide), hg]
        right
        have htl : ((pad (d.take 64)).take s.bytes.toNat).length ≤ 64 := by rw [List.length_take]; omega
        have hlen : (splice s.mem (64 * i) ((pad (d.take 64)).take s.bytes.toNat)).length = s.mem.length := length_splice _ _ _ (by omega)
        exact ⟨rfl, rfl, rfl, by show (splice _ _ _).length = _; rw [hlen]; exact h3, fun k hk => sec_splice_off s i k _ htl hm (by omega), by omega⟩
      · have hg := wr_made (s := s) (i := i) (b := pad (d.take 64)) h1 hleft hi hpl
        rw [sws_ok hd (by rw [hg]), hg]
        have hlen : (splice s.mem (64 * i) (pad (d.take 64))).length = s.mem.length := length_splice _ _ _ (by rw [hpl]; omega)
        have ih := sws_armed f { s with mem := splice s.mem (64 * i) (pad (d.take 64)), left := if 1 < s.left then s.left - 1 else s.left, writes := s.writes + 1 } (i + 1) (d.drop 64) h1 (by show (splice _ _ _).length = _; rw [hlen]; exact h3)
          (by rw [List.length_drop]; omega) (by rw [List.length_drop]; show 64 * (i + 1) + (d.length - 64) ≤ 64 * s.n; omega)
        have same := sec_splice_same s i (pad (d.take 64)) s.down (if 1 < s.left then s.left - 1 else s.left) (s.writes + 1) hpl hm
        have oth := fun k hk => sec_splice_other s i k (pad (d.take 64)) s.down (if 1 < s.left then s.left - 1 else s.left) (s.writes + 1) hpl hm hk
        rcases ih with ih | ih
        · left
          have hw := ih.writes
          have hat := ih.at_
          have hoff := ih.off
          rw [List.length_drop] at hat hoff hw
          refine ⟨ih.ok, ih.down, ih.n, ih.len, ih.bytes, fun j hj => ?_, fun k hk => ?_, fun h0 => ih.left (by show (if 1 < s.left then s.left - 1 else s.left) = 0; rw [if_neg (by omega)]; exact h0), ?_⟩
          · cases j with
            | zero =>
              have e := (hoff i (.inl (by omega))).trans same
              rw [← part64_zero] at e
              exact e
            | succ j =>
              have e := hat j (by omega)
              rw [part64_drop] at e
              rw [show i + (j + 1) = i + 1 + j by omega]
              exact e
          · exact (hoff k (by omega)).trans (oth k (by omega))
          · dsimp only at hw ⊢; omega
        · right
          have hoff := ih.off
          rw [List.length_drop] at hoff
          exact ⟨ih.err, ih.down, ih.n, ih.len, fun k hk => (hoff k (by omega)).trans (oth k (by omega)), by
            have := ih.left
            intro h0
            apply this
            show (if 1 < s.left then s.left - 1 else s.left) = 0
            rw [if_neg (by omega)]
            exact h0⟩
end Go.Proofs.Ytoefbjeclghfhaa
