/- The snapshot in plain Lean: a changed byte of a version is seen. -/
import Derived.Test.YtoefbjeclghfhaaSnapO
namespace Go.Proofs.Ytoefbjeclghfhaa
open Go.RowKit
set_option linter.unusedSimpArgs false
set_option linter.unusedVariables false

theorem part64_set_same (b : List UInt8) (i : Nat) (v : UInt8) (hi : i < b.length) : pad (part64 (b.set i v) (i / 64)) = (pad (part64 b (i / 64))).set (i % 64) v := by
  unfold pad part64
  rw [List.drop_set, if_neg (by omega), List.take_set, List.length_set, List.set_append_left _ _ (by rw [List.length_take, List.length_drop]; omega), show i - 64 * (i / 64) = i % 64 by omega]
theorem part64_set_other (b : List UInt8) (i j : Nat) (v : UInt8) (h : j ≠ i / 64) : part64 (b.set i v) j = part64 b j := by
  unfold part64
  rw [List.drop_set]
  split
  · rfl
  · rw [List.take_set, List.set_eq_of_length_le (by rw [List.length_take]; omega)]
theorem crc_set {b : List UInt8} {i : Nat} {v : UInt8} (hi : i < b.length) (hv : v ≠ b[i]) : crc (b.set i v) ≠ crc b := by
  have e : b = b.take i ++ b[i] :: b.drop (i + 1) := by simp
  have e2 : b.set i v = b.take i ++ v :: b.drop (i + 1) := by rw [List.set_eq_take_append_cons_drop, if_pos hi]
  rw [e2]
  intro h
  exact crc_one hv (h.trans (congrArg crc e))

theorem sread_damage {s t : St} {ep i : Nat} {b : List UInt8} {v : UInt8} (hs : VSlot s (root s) ep b) (h0 : bad s = 0) (ht : bad t = 0) (hn : t.n = s.n) (h1 : 0 < ep) (h2 : ep < 4294967296) (h3 : b.length < 4294967296)
   (hi : i < b.length) (hv : v ≠ b[i]) (hat : sec t (area0 s.n (root s) + i / 64) = (sec s (area0 s.n (root s) + i / 64)).set (i % 64) v)
   (hoff : ∀ k, k ≠ area0 s.n (root s) + i / 64 → sec t k = sec s k) : sread t = ([], 0, 17) := by
  obtain ⟨_, h7, _, hr⟩ := vbad_zero h0
  have hA := area_room h7 hr
  have hfit := hs.fit
  have hroot : root t = root s := by
    show ((sec t 0).getD 0 0).toNat = ((sec s 0).getD 0 0).toNat
    rw [hoff 0 (by omega)]
  have hh : sec t (1 + root s) = pad (hdr ep b) := (hoff _ (by omega)).trans hs.head
  have hc := vcat_take t (area s.n) (area0 s.n (root s)) (b.set i v) (fun j hj => by
    rw [List.length_set] at hj
    by_cases hj2 : j = i / 64
    · subst hj2
      rw [hat, hs.body _ hj, part64_set_same b i v hi]
    · rw [hoff _ (by omega), hs.body _ hj, part64_set_other b i j v hj2]) (by rw [List.length_set]; exact hfit)
  rw [List.length_set] at hc
  unfold sread
  rw [if_neg (by rw [ht]; simp), hroot, hn, hh, hEp_hdr b h2, hLen_hdr ep h3, hSum_hdr, if_neg (by omega), if_neg (by omega), hc, if_pos (crc_set hi hv)]
end Go.Proofs.Ytoefbjeclghfhaa
