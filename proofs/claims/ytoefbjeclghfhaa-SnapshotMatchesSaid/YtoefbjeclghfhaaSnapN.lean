/- The snapshot in plain Lean: what Write leaves on a disk that may fail. -/
import Derived.Test.YtoefbjeclghfhaaSnapM
namespace Go.Proofs.Ytoefbjeclghfhaa
open Go.RowKit
set_option linter.unusedSimpArgs false
set_option linter.unusedVariables false

/-- A write was made. -/
structure WFull (s : St) (i : Nat) (b : List UInt8) (q : St × Int) : Prop where
  ok : q.2 = 0
  down : q.1.down = false
  n : q.1.n = s.n
  len : q.1.mem.length = 64 * s.n
  bytes : q.1.bytes = s.bytes
  at_ : sec q.1 i = b
  off : ∀ k, k ≠ i → sec q.1 k = sec s k
  left : s.left = 0 → q.1.left = 0
  writes : q.1.writes = s.writes + 1
/-- A write was torn. -/
structure WTorn (s : St) (i : Nat) (b : List UInt8) (q : St × Int) : Prop where
  err : q.2 = 15
  down : q.1.down = true
  n : q.1.n = s.n
  len : q.1.mem.length = 64 * s.n
  at_ : ∃ z, sec q.1 i = b.take z ++ (sec s i).drop (b.take z).length
  off : ∀ k, k ≠ i → sec q.1 k = sec s k
  left : s.left ≠ 0

theorem wr_armed {s : St} {i : Nat} {b : List UInt8} (h1 : s.down = false) (h3 : s.mem.length = 64 * s.n) (hi : i < s.n) (hb : b.length = 64) : WFull s i b (wr s i b) ∨ WTorn s i b (wr s i b) := by
  have hm : i * 64 + 64 ≤ s.mem.length := by omega
  by_cases hleft : s.left = 1
  · rw [wr_torn h1 hleft hi hb]
    right
    have htl : (b.take s.bytes.toNat).length ≤ 64 := by rw [List.length_take]; omega
    have hlen : (splice s.mem (64 * i) (b.take s.bytes.toNat)).length = s.mem.length := length_splice _ _ _ (by omega)
    exact ⟨rfl, rfl, rfl, by show (splice _ _ _).length = _; rw [hlen]; exact h3, ⟨_, sec_splice_part s i _ htl hm⟩, fun k hk => sec_splice_off s i k _ htl hm (by omega), by omega⟩
  · rw [wr_made h1 hleft hi hb]
    left
    have hlen : (splice s.mem (64 * i) b).length = s.mem.length := length_splice _ _ _ (by omega)
    exact ⟨rfl, h1, rfl, by show (splice _ _ _).length = _; rw [hlen]; exact h3, rfl, sec_splice_same s i b _ _ _ hb hm, fun k hk => sec_splice_other s i k b _ _ _ hb hm (by omega),
      fun h0 => by show (if 1 < s.left then s.left - 1 else s.left) = 0; rw [if_neg (by omega)]; exact h0, rfl⟩

/-- The version was written. -/
structure VDone (s : St) (ep : Nat) (b : List UInt8) (q : St × Int) : Prop where
  ok : q.2 = 0
  down : q.1.down = false
  n : q.1.n = s.n
  len : q.1.mem.length = 64 * s.n
  root_ : root q.1 = 1 - root s
  slot : VSlot q.1 (1 - root s) ep b
  left : s.left = 0 → q.1.left = 0
  writes : q.1.writes = s.writes + ((b.length + 63) / 64 + 2 : Nat)
/-- A write of it was torn. -/
structure VTorn (s : St) (ep : Nat) (b : List UInt8) (q : St × Int) : Prop where
  err : q.2 = 15
  down : q.1.down = true
  n : q.1.n = s.n
  len : q.1.mem.length = 64 * s.n
  left : s.left ≠ 0
  or_ : (root q.1 = root s ∧ sec q.1 (1 + root s) = sec s (1 + root s) ∧ ∀ j, j < area s.n → sec q.1 (area0 s.n (root s) + j) = sec s (area0 s.n (root s) + j)) ∨ (root q.1 = 1 - root s ∧ VSlot q.1 (1 - root s) ep b)

theorem vbad_zero {s : St} (h : bad s = 0) : s.down = false ∧ 7 ≤ s.n ∧ s.n ≤ 65536 ∧ root s ≤ 1 := by
  unfold bad at h
  cases hd : s.down <;> rw [hd] at h <;> simp at h
  by_cases h1 : s.n < 7 ∨ 65536 < s.n
  · rw [if_pos h1] at h; cases h
  · rw [if_neg h1] at h
    by_cases h2 : 1 < root s
    · rw [if_pos h2] at h; cases h
    · exact ⟨rfl, by omega, by omega, by omega⟩
theorem bad_of {s : St} (h : s.down = false) (h1 : 7 ≤ s.n) (h2 : s.n ≤ 65536) (h3 : root s ≤ 1) : bad s = 0 := by
  unfold bad
  rw [if_neg (by rw [h]; decide), if_neg (by omega), if_neg (by omega)]
theorem area_room {n r : Nat} (h : 7 ≤ n) (hr : r ≤ 1) : 3 ≤ area0 n r ∧ area0 n r + area n ≤ n := by
  unfold area0 area
  split <;> omega
theorem area_apart {n r : Nat} (hr : r ≤ 1) : area0 n r + area n ≤ area0 n (1 - r) ∨ area0 n (1 - r) + area n ≤ area0 n r := by
  unfold area0
  rcases (by omega : r = 0 ∨ r = 1) with rfl | rfl <;> simp <;> omega

theorem swrite_armed {s : St} {ep : Nat} {b : List UInt8} (h : bad s = 0) (hm : s.mem.length = 64 * s.n) (he : hEp (sec s (1 + root s)) < ep) (hl : b.length ≤ 64 * area s.n) :
    VDone s ep b (swrite s ep b) ∨ VTorn s ep b (swrite s ep b) := by
  obtain ⟨hd, h7, h65, hr⟩ := vbad_zero h
  have hA := area_room (r := 1 - root s) h7 (by omega)
  have hB := area_room h7 hr
  have hAp := area_apart (n := s.n) hr
  have hsw : swrite s ep b = if (sws s (area0 s.n (1 - root s)) b.length b).2 ≠ 0 then sws s (area0 s.n (1 - root s)) b.length b else
    if (wr (sws s (area0 s.n (1 - root s)) b.length b).1 ((1 + (1 - root s) : Nat) : Int) (pad (hdr ep b))).2 ≠ 0 then wr (sws s (area0 s.n (1 - root s)) b.length b).1 ((1 + (1 - root s) : Nat) : Int) (pad (hdr ep b)) else
    wr (wr (sws s (area0 s.n (1 - root s)) b.length b).1 ((1 + (1 - root s) : Nat) : Int) (pad (hdr ep b))).1 0 (pad [UInt8.ofNat (1 - root s)]) := by
    unfold swrite
    rw [if_neg (by omega), if_neg (by omega), if_neg (by omega)]
  rw [hsw]
  have P1 := sws_armed b.length s (area0 s.n (1 - root s)) b hd hm (Nat.le_refl _) (by omega)
  generalize hq1 : sws s (area0 s.n (1 - root s)) b.length b = q1 at P1 ⊢
  rcases P1 with F1 | T1
  · rw [if_neg (by rw [F1.ok]; simp)]
    have hph : (pad (hdr ep b)).length = 64 := pad_len (by rw [vhdr_len]; omega)
    have P2 := wr_armed (s := q1.1) (i := 1 + (1 - root s)) (b := pad (hdr ep b)) F1.down (by rw [F1.n]; exact F1.len) (by rw [F1.n]; omega) hph
    generalize hq2 : wr q1.1 ((1 + (1 - root s) : Nat) : Int) (pad (hdr ep b)) = q2 at P2 ⊢
    rcases P2 with F2 | T2
    · rw [if_neg (by rw [F2.ok]; simp)]
      have hpr : (pad [UInt8.ofNat (1 - root s)]).length = 64 := pad_len (by simp)
      have P3 := wr_armed (s := q2.1) (i := 0) (b := pad [UInt8.ofNat (1 - root s)]) F2.down (by rw [F2.n]; have := F2.len; exact this) (by rw [F2.n, F1.n]; omega) hpr
      rw [show ((0 : Nat) : Int) = 0 from rfl] at P3
      generalize hq3 : wr q2.1 0 (pad [UInt8.ofNat (1 - root s)]) = q3 at P3 ⊢
      have hslot : (∀ k, k ≠ 0 → sec q3.1 k = sec q2.1 k) → q3.1.n = s.n → VSlot q3.1 (1 - root s) ep b := fun ho hn => by
        refine ⟨?_, fun j hj => ?_, by rw [hn]; exact hl⟩
        · rw [ho _ (by omega)]; exact F2.at_
        · rw [hn, ho _ (by omega), F2.off _ (by omega)]; exact F1.at_ j hj
      rcases P3 with F3 | T3
      · left
        have hn3 : q3.1.n = s.n := F3.n.trans (F2.n.trans F1.n)
        refine ⟨F3.ok, F3.down, hn3, by rw [F3.len, F2.n, F1.n], ?_, hslot F3.off hn3, fun h0 => F3.left (F2.left (F1.left h0)), by rw [F3.writes, F2.writes, F1.writes]; omega⟩
        show ((sec q3.1 0).getD 0 0).toNat = _
        rw [F3.at_]
        show (UInt8.ofNat (1 - root s)).toNat = _
        rw [UInt8.toNat_ofNat']
        omega
      · right
        have hn3 : q3.1.n = s.n := T3.n.trans (F2.n.trans F1.n)
        refine ⟨T3.err, T3.down, hn3, by rw [T3.len, F2.n, F1.n], fun h0 => T3.left (F2.left (F1.left h0)), ?_⟩
        obtain ⟨z, hz⟩ := T3.at_
        cases z with
        | zero =>
          left
          rw [List.take_zero] at hz
          refine ⟨?_, ?_, fun j hj => ?_⟩
          · unfold root
            rw [hz, List.nil_append, List.length_nil, List.drop_zero, F2.off 0 (by omega), F1.off 0 (.inl (by omega))]
          · rw [T3.off _ (by omega), F2.off _ (by omega), F1.off _ (.inl (by omega))]
          · rw [T3.off _ (by omega), F2.off _ (by omega), F1.off _ (by omega)]
        | succ z =>
          right
          refine ⟨?_, hslot T3.off hn3⟩
          show ((sec q3.1 0).getD 0 0).toNat = _
          rw [hz]
          show (UInt8.ofNat (1 - root s)).toNat = _
          rw [UInt8.toNat_ofNat']
          omega
    · rw [if_pos (by rw [T2.err]; decide)]
      right
      refine ⟨T2.err, T2.down, T2.n.trans F1.n, by rw [T2.len, F1.n], fun h0 => T2.left (F1.left h0), .inl ⟨?_, ?_, fun j hj => ?_⟩⟩
      · unfold root
        rw [T2.off 0 (by omega), F1.off 0 (.inl (by omega))]
      · rw [T2.off _ (by omega), F1.off _ (.inl (by omega))]
      · rw [T2.off _ (by omega), F1.off _ (by omega)]
  · rw [if_pos (by rw [T1.err]; decide)]
    right
    refine ⟨T1.err, T1.down, T1.n, T1.len, T1.left, .inl ⟨?_, ?_, fun j hj => ?_⟩⟩
    · unfold root
      rw [T1.off 0 (.inl (by omega))]
    · rw [T1.off _ (.inl (by omega))]
    · rw [T1.off _ (by omega)]
end Go.Proofs.Ytoefbjeclghfhaa
