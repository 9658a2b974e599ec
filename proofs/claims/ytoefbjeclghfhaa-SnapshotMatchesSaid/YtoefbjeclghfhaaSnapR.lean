/- The snapshot in plain Lean: what the laws need of a disk's state. -/
import Derived.Test.YtoefbjeclghfhaaSnapQ
namespace Go.Proofs.Ytoefbjeclghfhaa
open Go.RowKit
set_option linter.unusedSimpArgs false
set_option linter.unusedVariables false

/-- A disk that stands and can be read; its current version's epoch is ep. -/
structure Stands (n : Nat) (s : St) (ep : Nat) : Prop where
  good : bad s = 0
  sz : s.n = n
  len : s.mem.length = 64 * s.n
  left : s.left = 0
  epo : hEp (sec s (1 + root s)) = ep

theorem take_rep {k m : Nat} (h : m ≤ k) : (List.replicate k (0 : UInt8)).take m = List.replicate m 0 := by
  rw [List.take_replicate, Nat.min_eq_left h]
theorem sec_st0 {n i : Nat} (h : i < n) : sec (st0 n) i = List.replicate 64 0 := by
  show ((List.replicate (64 * n) (0 : UInt8)).drop (i * 64)).take 64 = _
  rw [List.drop_replicate, take_rep (by omega)]
theorem root_st0 {n : Nat} (h : 0 < n) : root (st0 n) = 0 := by
  show ((sec (st0 n) 0).getD 0 0).toNat = 0
  rw [sec_st0 h]; rfl
theorem stands_st0 {n : Nat} (h7 : 7 ≤ n) (h65 : n ≤ 65536) : Stands n (st0 n) 0 := by
  refine ⟨?_, rfl, ?_, rfl, ?_⟩
  · exact bad_of rfl h7 h65 (by rw [root_st0 (by omega)]; omega)
  · show (List.replicate (64 * n) (0 : UInt8)).length = 64 * n
    rw [List.length_replicate]
  · rw [root_st0 (by omega), sec_st0 (by omega)]; decide +kernel

/-- The version is held. -/
structure Held (n : Nat) (s : St) (ep : Nat) (b : List UInt8) : Prop extends Stands n s ep where
  read : sread s = (b, ep, 0)

theorem stands_write {n e0 ep : Nat} {s : St} {b : List UInt8} (h : Stands n s e0) (h1 : e0 < ep) (h2 : ep < 4294967296) (h3 : b.length ≤ 64 * area n) (h4 : b.length < 4294967296) :
    VDone s ep b (swrite s ep b) ∧ Held n (swrite s ep b).1 ep b := by
  have hw : VDone s ep b (swrite s ep b) := by
    rcases swrite_armed h.good h.len (by rw [h.epo]; exact h1) (by rw [h.sz]; exact h3) with hd | ht
    · exact hd
    · exact absurd h.left ht.left
  obtain ⟨hb, hr⟩ := sread_done h.good hw (by omega) h2 h4
  exact ⟨hw, ⟨⟨hb, hw.n.trans h.sz, by rw [hw.len, hw.n], hw.left h.left, by rw [hw.root_, hw.slot.head, hEp_hdr b h2]⟩, hr⟩⟩

theorem write_old {n e0 ep : Nat} {s : St} {b : List UInt8} (h : Stands n s e0) (h1 : ep ≤ e0) : swrite s ep b = (s, 1) := by
  unfold swrite
  rw [if_neg (by rw [h.good]; simp), if_pos (by rw [h.epo]; exact h1)]
theorem write_long {n e0 ep : Nat} {s : St} {b : List UInt8} (h : Stands n s e0) (h1 : e0 < ep) (h2 : 64 * area n < b.length) : swrite s ep b = (s, 16) := by
  unfold swrite
  rw [if_neg (by rw [h.good]; simp), if_neg (by rw [h.epo]; omega), if_pos (by rw [h.sz]; exact h2)]
theorem read_down {s : St} (h : s.down = true) : sread s = ([], 0, 15) := by
  unfold sread bad
  rw [h]; rfl
theorem write_down {s : St} {ep : Nat} {b : List UInt8} (h : s.down = true) : swrite s ep b = (s, 15) := by
  unfold swrite bad
  rw [h]; rfl
theorem read_back {n ep : Nat} {s : St} {b : List UInt8} (h : Held n s ep b) : sread (restart (fail s)) = (b, ep, 0) := by
  obtain ⟨hd, h7, h65, hr⟩ := vbad_zero h.good
  rw [← h.read]
  exact sread_same h.good (bad_of rfl h7 h65 hr) rfl rfl rfl (fun _ _ => rfl)

/-- What the law SnapshotTorn may see. -/
def TornSees (k : Nat) (old b : List UInt8) (x : Int) (r : List UInt8 × Nat × Int) : Prop :=
  (x = 15 ∧ k = 0 ∧ r = ([], 0, 4)) ∨ (x = 15 ∧ 0 < k ∧ r = (old, k, 0)) ∨ ((x = 0 ∨ x = 15) ∧ r = (b, k + 1, 0))

/-- After k versions. -/
structure After (n : Nat) (s : St) (k : Nat) (old : List UInt8) : Prop extends Stands n s k where
  read : 0 < k → sread s = (old, k, 0)
  w0 : 0 ≤ s.writes
  w1 : s.writes ≤ 12 * k

theorem after_write {n k : Nat} {s : St} {old : List UInt8} (h : After n s k old) (hk : k < 10) (h3 : old.length ≤ 64 * area n) (h4 : old.length ≤ 600) :
    (swrite s (k + 1) old).2 = 0 ∧ After n (swrite s (k + 1) old).1 (k + 1) old := by
  obtain ⟨hv, hh⟩ := stands_write (ep := k + 1) h.toStands (by omega) (by omega) h3 (by omega)
  have h0 := h.w0
  have h1 := h.w1
  have hw := hv.writes
  exact ⟨hv.ok, ⟨hh.toStands, fun _ => hh.read, by omega, by omega⟩⟩
theorem after_zero {n : Nat} (h7 : 7 ≤ n) (h65 : n ≤ 65536) (old : List UInt8) : After n (st0 n) 0 old :=
  ⟨stands_st0 h7 h65, fun h => absurd h (Nat.lt_irrefl 0), Int.le_refl 0, Int.le_refl 0⟩
theorem torn_sees {n k : Nat} {s : St} {old b : List UInt8} (h : After n s k old) (hk : k < 10) (h3 : b.length ≤ 64 * area n) (h4 : b.length ≤ 600) (x y : Int) :
    TornSees k old b (swrite (arm s x y) (k + 1) b).2 (sread (restart (swrite (arm s x y) (k + 1) b).1)) := by
  obtain ⟨hd, h7, h65, hr⟩ := vbad_zero h.good
  have e1 : (arm s x y).down = false := by unfold arm; rw [if_neg (by rw [hd]; decide)]; exact hd
  have e2 : (arm s x y).n = s.n := by unfold arm; rw [if_neg (by rw [hd]; decide)]
  have e3 : (arm s x y).mem = s.mem := by unfold arm; rw [if_neg (by rw [hd]; decide)]
  have e4 : sec (arm s x y) = sec s := by unfold sec; rw [e3]
  have e5 : root (arm s x y) = root s := by unfold root; rw [e4]
  have hb : bad (arm s x y) = 0 := bad_of e1 (by rw [e2]; exact h7) (by rw [e2]; exact h65) (by rw [e5]; exact hr)
  have hsame : sread (arm s x y) = sread s := sread_same h.good hb e2 e5 (by rw [e4]) (fun j _ => by rw [e4])
  have hA := swrite_armed (s := arm s x y) (ep := k + 1) (b := b) hb (by rw [e3, e2]; exact h.len) (by rw [e5, e4, h.epo]; omega) (by rw [e2, h.sz]; exact h3)
  generalize swrite (arm s x y) (k + 1) b = q at hA ⊢
  rcases hA with hA | hA
  · obtain ⟨_, hq⟩ := sread_done hb hA (by omega) (by omega) (by omega)
    refine .inr (.inr ⟨.inl hA.ok, ?_⟩)
    rw [← hq]
    refine sread_same (s := q.1) (t := restart q.1) (bad_of hA.down (by rw [hA.n, e2]; exact h7) (by rw [hA.n, e2]; exact h65) (by rw [hA.root_]; omega)) (bad_of rfl (by show 7 ≤ q.1.n; rw [hA.n, e2]; exact h7) (by show q.1.n ≤ 65536; rw [hA.n, e2]; exact h65) (by show root q.1 ≤ 1; rw [hA.root_]; omega)) rfl rfl rfl (fun _ _ => rfl)
  · obtain ⟨_, hq⟩ := sread_torn hb hA (by omega) (by omega) (by omega)
    rw [hsame] at hq
    rcases hq with hq | hq
    · rcases Nat.eq_zero_or_pos k with h0 | h0
      · refine .inl ⟨hA.err, h0, ?_⟩
        rw [hq]
        exact sread_none h.good (by rw [h.epo]; exact h0)
      · exact .inr (.inl ⟨hA.err, h0, by rw [hq, h.read h0]⟩)
    · exact .inr (.inr ⟨.inr hA.err, hq⟩)

/-- A byte of the version turned. -/
theorem damage_sees {n ep i : Nat} {b : List UInt8} {c by_ : UInt8} (h7 : 7 ≤ n) (h60 : n ≤ 60) (h1 : 0 < ep) (h2 : ep < 4294967296) (h3 : b.length ≤ 64 * area n) (hi : i < b.length) (hby : by_ ≠ 0)
    (hc : (sec (swrite (st0 n) ep b).1 (3 + area n + i / 64))[i % 64]? = some c) :
    (wr (swrite (st0 n) ep b).1 ((3 + area n + i / 64 : Nat) : Int) ((sec (swrite (st0 n) ep b).1 (3 + area n + i / 64)).set (i % 64) (c ^^^ by_))).2 = 0 ∧
    sread (wr (swrite (st0 n) ep b).1 ((3 + area n + i / 64 : Nat) : Int) ((sec (swrite (st0 n) ep b).1 (3 + area n + i / 64)).set (i % 64) (c ^^^ by_))).1 = ([], 0, 17) := by
  have h4 : b.length < 4294967296 := by unfold area at h3; omega
  obtain ⟨hv, hh⟩ := stands_write (stands_st0 h7 (by omega)) h1 h2 h3 h4
  have hr0 : root (st0 n) = 0 := root_st0 (by omega)
  have hroot := hv.root_
  have hslot := hv.slot
  rw [hr0] at hroot hslot
  generalize (swrite (st0 n) ep b).1 = s at *
  rw [show 1 - 0 = 1 from rfl] at hroot hslot
  have ha : area0 n 1 = 3 + area n := rfl
  obtain ⟨hd, _, _, hr⟩ := vbad_zero hh.good
  have hlen := hh.len
  have hn := hh.sz
  have hk : 3 + area n + i / 64 < n := by
    have : i / 64 < area n := by omega
    unfold area at this ⊢
    omega
  have hsl : (sec s (3 + area n + i / 64)).length = 64 := by
    unfold sec
    rw [List.length_take, List.length_drop, hlen, hn]
    omega
  have hbody := hslot.body (i / 64) (by omega)
  rw [hn, ha] at hbody
  have hcb : c = b[i] := by
    rw [hbody] at hc
    unfold pad part64 at hc
    rw [List.getElem?_append_left (by rw [List.length_take, List.length_drop]; omega), List.getElem?_take, if_pos (by omega), List.getElem?_drop, show 64 * (i / 64) + i % 64 = i by omega, List.getElem?_eq_getElem hi] at hc
    exact (Option.some.inj hc).symm
  have hne : c ^^^ by_ ≠ b[i] := by
    rw [hcb]
    intro h
    apply hby
    have := congrArg (fun z => b[i] ^^^ z) h
    simpa [← UInt8.xor_assoc] using this
  have hset : ((sec s (3 + area n + i / 64)).set (i % 64) (c ^^^ by_)).length = 64 := by rw [List.length_set]; exact hsl
  have hl1 : s.left ≠ 1 := by rw [hh.left]; decide
  rcases wr_armed (s := s) (i := 3 + area n + i / 64) (b := (sec s (3 + area n + i / 64)).set (i % 64) (c ^^^ by_)) hd hlen (by rw [hn]; exact hk) hset with hF | hT
  · refine ⟨hF.ok, ?_⟩
    refine sread_damage (s := s) (t := (wr s ((3 + area n + i / 64 : Nat) : Int) ((sec s (3 + area n + i / 64)).set (i % 64) (c ^^^ by_))).1) (ep := ep) (i := i) (b := b) (v := c ^^^ by_) (by rw [hroot]; exact hslot) hh.good ?_ hF.n h1 h2 h4 hi hne ?_ ?_
    · refine bad_of hF.down (by rw [hF.n, hn]; exact h7) (by rw [hF.n, hn]; omega) ?_
      show ((sec _ 0).getD 0 0).toNat ≤ 1
      rw [hF.off 0 (by omega)]
      exact hr
    · rw [hroot, hn, ha]; exact hF.at_
    · rw [hroot, hn, ha]; exact hF.off
  · exact absurd hh.left hT.left
end Go.Proofs.Ytoefbjeclghfhaa
