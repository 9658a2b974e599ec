/- The snapshot in plain Lean: a version in a slot, and what Read hands back of it. -/
import Derived.Test.YtoefbjeclghfhaaSnapL
namespace Go.Proofs.Ytoefbjeclghfhaa
open Go.RowKit
set_option linter.unusedSimpArgs false
set_option linter.unusedVariables false

/-- The slot r holds the version b of the epoch ep. -/
structure VSlot (s : St) (r ep : Nat) (b : List UInt8) : Prop where
  head : sec s (1 + r) = pad (hdr ep b)
  body : ∀ j, 64 * j < b.length → sec s (area0 s.n r + j) = pad (part64 b j)
  fit : b.length ≤ 64 * area s.n

theorem vhdr_len (ep : Nat) (b : List UInt8) : (hdr ep b).length = 16 := by
  unfold hdr; rw [List.length_append, List.length_append, be_len, be_len, be_len]
theorem hEp_hdr {ep : Nat} (b : List UInt8) (h : ep < 4294967296) : hEp (pad (hdr ep b)) = ep := by
  unfold hEp pad hdr
  rw [List.append_assoc, List.append_assoc, List.take_left' (be_len 4 ep), val_be]
  exact Nat.mod_eq_of_lt h
theorem hLen_hdr (ep : Nat) {b : List UInt8} (h : b.length < 4294967296) : hLen (pad (hdr ep b)) = b.length := by
  unfold hLen pad hdr
  rw [List.append_assoc, List.append_assoc, List.drop_left' (be_len 4 ep), List.take_left' (be_len 4 _), val_be]
  exact Nat.mod_eq_of_lt h
theorem hSum_hdr (ep : Nat) (b : List UInt8) : hSum (pad (hdr ep b)) = crc b := by
  unfold hSum pad hdr
  rw [List.append_assoc, List.drop_left' (by rw [List.length_append, be_len, be_len]), List.take_left' (be_len 8 _), val_be]
  exact Nat.mod_eq_of_lt (crc_lt b)

theorem vcat_take (s : St) : ∀ (k a : Nat) (b : List UInt8), (∀ j, 64 * j < b.length → sec s (a + j) = pad (part64 b j)) → b.length ≤ 64 * k → (cat s a k).take b.length = b
  | 0, a, b, h, hl => by
    obtain rfl := List.eq_nil_of_length_eq_zero (by omega : b.length = 0)
    rfl
  | k + 1, a, b, h, hl => by
    by_cases hb : b = []
    · subst hb; rfl
    · have h0 := h 0 (by have := List.length_pos_iff.2 hb; omega)
      rw [Nat.add_zero, part64_zero] at h0
      show (sec s a ++ cat s (a + 1) k).take b.length = b
      rw [h0]
      by_cases h64 : b.length ≤ 64
      · rw [List.take_of_length_le h64, pad, List.append_assoc, List.take_left]
      · have e : pad (b.take 64) = b.take 64 := by
          unfold pad
          rw [List.length_take, Nat.min_eq_left (by omega)]
          simp
        have ih := vcat_take s k (a + 1) (b.drop 64) (fun j hj => by
          rw [List.length_drop] at hj
          rw [part64_drop, show a + 1 + j = a + (j + 1) by omega]
          exact h (j + 1) (by omega)) (by rw [List.length_drop]; omega)
        rw [List.length_drop] at ih
        rw [e, List.take_append, List.length_take, Nat.min_eq_left (by omega), ih, List.take_take, Nat.min_eq_right (by omega), List.take_append_drop]

theorem sread_slot {s : St} {ep : Nat} {b : List UInt8} (h : bad s = 0) (hs : VSlot s (root s) ep b) (h1 : 0 < ep) (h2 : ep < 4294967296) (h3 : b.length < 4294967296) : sread s = (b, ep, 0) := by
  have hc := vcat_take s (area s.n) (area0 s.n (root s)) b hs.body hs.fit
  unfold sread
  rw [if_neg (by omega), hs.head, hEp_hdr b h2, hLen_hdr ep h3, hSum_hdr, if_neg (by omega), if_neg (by have := hs.fit; omega), hc, if_neg (by simp)]
theorem sread_none {s : St} (h : bad s = 0) (he : hEp (sec s (1 + root s)) = 0) : sread s = ([], 0, 4) := by
  unfold sread
  rw [if_neg (by omega), if_pos he]
end Go.Proofs.Ytoefbjeclghfhaa
