/- The snapshot in plain Lean: runs of writes, versions, what Write and Read do to a disk's state. -/
import Derived.Test.YtoefbjeclghfhaaDisk8
import Derived.Test.YtoefbjeclghfhaaSnapP
namespace Go.Proofs.Ytoefbjeclghfhaa
open Go.RowKit
set_option linter.unusedSimpArgs false
set_option linter.unusedVariables false

/-- Bytes filled up to a sector. -/
def pad (d : List UInt8) : List UInt8 := d ++ List.replicate (64 - d.length) 0
theorem pad_len {d : List UInt8} (h : d.length ≤ 64) : (pad d).length = 64 := by unfold pad; rw [List.length_append, List.length_replicate]; omega

/-- The writes of a byte string from sector i on. -/
def sws (s : St) (i : Nat) : Nat → List UInt8 → St × Int
  | 0, d => (s, 0)
  | f + 1, d => if d = [] then (s, 0) else if (wr s i (pad (d.take 64))).2 = 0 then sws (wr s i (pad (d.take 64))).1 (i + 1) f (d.drop 64) else wr s i (pad (d.take 64))

theorem sws_nil (s : St) (i f : Nat) : sws s i f [] = (s, 0) := by
  cases f with
  | zero => rfl
  | succ f => show (if ([] : List UInt8) = [] then (s, 0) else _) = _; rw [if_pos rfl]
theorem sws_ok {s : St} {i f : Nat} {d : List UInt8} (hd : d ≠ []) (h : (wr s i (pad (d.take 64))).2 = 0) : sws s i (f + 1) d = sws (wr s i (pad (d.take 64))).1 (i + 1) f (d.drop 64) := by
  show (if d = [] then (s, 0) else if (wr s i (pad (d.take 64))).2 = 0 then _ else _) = _
  rw [if_neg hd, if_pos h]
theorem sws_bad {s : St} {i f : Nat} {d : List UInt8} (hd : d ≠ []) (h : (wr s i (pad (d.take 64))).2 ≠ 0) : sws s i (f + 1) d = wr s i (pad (d.take 64)) := by
  show (if d = [] then (s, 0) else if (wr s i (pad (d.take 64))).2 = 0 then _ else _) = _
  rw [if_neg hd, if_neg h]

/-- The number of sectors of an area, and its first sector. -/
def area (n : Nat) : Nat := (n - 3) / 4
def area0 (n slot : Nat) : Nat := if slot = 0 then 3 else 3 + area n

/-- The first byte of a sector. -/
def root (s : St) : Nat := ((sec s 0).getD 0 0).toNat
/-- A header. -/
def hdr (ep : Nat) (b : List UInt8) : List UInt8 := be 4 ep ++ be 4 b.length ++ be 8 (crc b)
def hEp (h : List UInt8) : Nat := val (h.take 4)
def hLen (h : List UInt8) : Nat := val ((h.drop 4).take 4)
def hSum (h : List UInt8) : Nat := val ((h.drop 8).take 8)

/-- Why a disk cannot be opened; 0: it can. -/
def bad (s : St) : Int := if s.down then 15 else if s.n < 7 ∨ 65536 < s.n then 1 else if 1 < root s then 17 else 0

/-- What Write does. -/
def swrite (s : St) (ep : Nat) (b : List UInt8) : St × Int :=
  if bad s ≠ 0 then (s, bad s) else
  if ep ≤ hEp (sec s (1 + root s)) then (s, 1) else
  if 64 * area s.n < b.length then (s, 16) else
  if (sws s (area0 s.n (1 - root s)) b.length b).2 ≠ 0 then sws s (area0 s.n (1 - root s)) b.length b else
  if (wr (sws s (area0 s.n (1 - root s)) b.length b).1 ((1 + (1 - root s) : Nat) : Int) (pad (hdr ep b))).2 ≠ 0 then wr (sws s (area0 s.n (1 - root s)) b.length b).1 ((1 + (1 - root s) : Nat) : Int) (pad (hdr ep b)) else
  wr (wr (sws s (area0 s.n (1 - root s)) b.length b).1 ((1 + (1 - root s) : Nat) : Int) (pad (hdr ep b))).1 0 (pad [UInt8.ofNat (1 - root s)])

/-- The bytes of k sectors from sector a on. -/
def cat (s : St) : Nat → Nat → List UInt8
  | _, 0 => []
  | a, k + 1 => sec s a ++ cat s (a + 1) k

/-- What Read hands back: the bytes, the epoch, the error. -/
def sread (s : St) : List UInt8 × Nat × Int :=
  if bad s ≠ 0 then ([], 0, bad s) else
  if hEp (sec s (1 + root s)) = 0 then ([], 0, 4) else
  if 64 * area s.n < hLen (sec s (1 + root s)) then ([], 0, 17) else
  if crc ((cat s (area0 s.n (root s)) (area s.n)).take (hLen (sec s (1 + root s)))) ≠ hSum (sec s (1 + root s)) then ([], 0, 17) else
  ((cat s (area0 s.n (root s)) (area s.n)).take (hLen (sec s (1 + root s))), hEp (sec s (1 + root s)), 0)

theorem wr_writes (s : St) (i : Int) (b : List UInt8) (h : 0 ≤ s.writes) : 0 ≤ (wr s i b).1.writes ∧ (wr s i b).1.writes ≤ s.writes + 1 := by
  unfold wr fail
  split
  · dsimp only; omega
  · split
    · dsimp only; omega
    · split
      · dsimp only; omega
      · dsimp only; omega

/-- A write on a disk that stands: it is made, or torn. -/
theorem wr_made {s : St} {i : Nat} {b : List UInt8} (hd : s.down = false) (hl : s.left ≠ 1) (hi : i < s.n) (hb : b.length = 64) :
    wr s i b = ({ s with mem := splice s.mem (64 * i) b, left := if 1 < s.left then s.left - 1 else s.left, writes := s.writes + 1 }, 0) := by
  have hx : chk s (i : Int) = 0 := by unfold chk; rw [hd]; simp; omega
  simp [wr, hx, hb, hl]
theorem wr_torn {s : St} {i : Nat} {b : List UInt8} (hd : s.down = false) (hl : s.left = 1) (hi : i < s.n) (hb : b.length = 64) :
    wr s i b = (fail { s with mem := splice s.mem (64 * i) (b.take s.bytes.toNat) }, 15) := by
  have hx : chk s (i : Int) = 0 := by unfold chk; rw [hd]; simp; omega
  simp [wr, hx, hb, hl]
end Go.Proofs.Ytoefbjeclghfhaa
