/- The disk's state in plain Lean, and the contracts of the disk's small methods. -/
import Derived.Test.YtoefbjeclghfhaaMem
import Derived.Test.YtoefbjeclghfhaaRows
namespace Go.Proofs.Ytoefbjeclghfhaa
open Go.RowKit
set_option linter.unusedSimpArgs false

/-- The state of a disk: n sectors of 64 bytes in one list. -/
structure St where
  n : Nat
  mem : List UInt8
  down : Bool
  left : Int
  bytes : Int
  writes : Int

/-- The disk at block bd, its sectors in block bs. -/
structure DRep (w : World) (bd bs : Nat) (s : St) : Prop where
  d : Blk w bd 78 #[.slice (some ⟨bs, 0, none⟩) s.n s.n, .bool s.down, .int .i64 s.left, .int .i64 s.bytes, .int .i64 s.writes]
  m : Blk w bs 75 (s.mem.map bv).toArray
  ne : bd ≠ bs
  len : s.mem.length = 64 * s.n
  n : s.n ≤ 65536
  b0 : 0 ≤ s.bytes
  b1 : s.bytes ≤ 64
  l0 : 0 ≤ s.left
  l1 : s.left ≤ 9223372036854775807

theorem DRep.keep {w w' : World} {bd bs : Nat} {s : St} {X : List Nat} (h : DRep w bd bs s) (hk : Keeps X w w') (h1 : bd ∉ X) (h2 : bs ∉ X) : DRep w' bd bs s :=
  ⟨h.d.keep hk h1, h.m.keep hk h2, h.ne, h.len, h.n, h.b0, h.b1, h.l0, h.l1⟩

def chk (s : St) (i : Int) : Int := if s.down then 15 else if i < 0 ∨ (s.n : Int) ≤ i then 1 else 0

set_option maxHeartbeats 400000 in
theorem check_any (w : World) (bd bs : Nat) (s : St) (i : Int) (hD : DRep w bd bs s) :
    Calls Try.prog 33 #[.pointer (some ⟨bd, 0, none⟩), .int .i64 i] w fun e w' => e = .returned (.int .i64 (chk s i)) ∧ w = w' := by
  have hc := hD.d.cell
  have hn := hD.n
  obtain ⟨n, mem, down, left, bytes, writes⟩ := s
  obtain ⟨r, hr⟩ : ∃ r, r = chk ⟨n, mem, down, left, bytes, writes⟩ i := ⟨_, rfl⟩
  rw [← hr]
  clear hD
  simp only [chk] at hr
  have hr := Lib.hid hr
  cases down
  · by_cases h1 : i < 0
    · go_enter Try.func33, Try.ntmps33
      go_wp2
      go_ret
      have := hr.out
      exact ⟨by simp [this, h1], rfl⟩
    · by_cases h2 : (n : Int) ≤ i
      all_goals
        go_enter Try.func33, Try.ntmps33
        go_wp2
        go_ret
        have := hr.out
        exact ⟨by simp [this, h1, h2], rfl⟩
  · go_enter Try.func33, Try.ntmps33
    go_wp2
    go_ret
    have := hr.out
    exact ⟨by simp [this], rfl⟩

set_option maxHeartbeats 400000 in
theorem sectors_any (w : World) (bd bs : Nat) (s : St) (hD : DRep w bd bs s) :
    Calls Try.prog 41 #[.pointer (some ⟨bd, 0, none⟩)] w fun e w' => e = .returned (.int .i64 s.n) ∧ w = w' := by
  have hc := hD.d.cell
  go_enter Try.func41, Try.ntmps41
  go_wp2
  go_ret
  exact ⟨rfl, rfl⟩

set_option maxHeartbeats 400000 in
theorem failed_any (w : World) (bd bs : Nat) (s : St) (hD : DRep w bd bs s) :
    Calls Try.prog 40 #[.pointer (some ⟨bd, 0, none⟩)] w fun e w' => e = .returned (.bool s.down) ∧ w = w' := by
  have hc := hD.d.cell
  go_enter Try.func40, Try.ntmps40
  go_wp2
  go_ret
  exact ⟨rfl, rfl⟩

def fail (s : St) : St := { s with down := true, left := 0 }
def restart (s : St) : St := { s with down := false }
def arm (s : St) (k b : Int) : St := if s.down then s else { s with left := max k 0, bytes := min (max b 0) 64 }

set_option maxHeartbeats 400000 in
theorem fail_any (w : World) (bd bs : Nat) (s : St) (hD : DRep w bd bs s) :
    Calls Try.prog 21 #[.pointer (some ⟨bd, 0, none⟩)] w fun e w' => e = .returned (.tuple #[]) ∧ DRep w' bd bs (fail s) ∧ Keeps [bd] w w' := by
  have hc := hD.d.cell
  have hf := hD.d.frozen
  go_enter Try.func21, Try.ntmps21
  go_wp2
  go_end0
  refine ⟨rfl, ⟨?_, ?_, hD.ne, hD.len, hD.n, hD.b0, hD.b1, by simp [fail], by simp [fail]⟩, ?_⟩
  · exact (hD.d.set_ 1 _).set_ 2 _
  · exact (hD.m.far (fun h => hD.ne h.symm) _).far (fun h => hD.ne h.symm) _
  · exact ((Keeps.refl _ _).setCell (by simp) _).setCell (by simp) _

set_option maxHeartbeats 400000 in
theorem restart_any (w : World) (bd bs : Nat) (s : St) (hD : DRep w bd bs s) :
    Calls Try.prog 22 #[.pointer (some ⟨bd, 0, none⟩)] w fun e w' => e = .returned (.tuple #[]) ∧ DRep w' bd bs (restart s) ∧ Keeps [bd] w w' := by
  have hc := hD.d.cell
  have hf := hD.d.frozen
  go_enter Try.func22, Try.ntmps22
  go_wp2
  go_end0
  refine ⟨rfl, ⟨?_, ?_, hD.ne, hD.len, hD.n, hD.b0, hD.b1, hD.l0, hD.l1⟩, ?_⟩
  · exact hD.d.set_ 1 _
  · exact hD.m.far (fun h => hD.ne h.symm) _
  · exact (Keeps.refl _ _).setCell (by simp) _

set_option maxHeartbeats 400000 in
theorem arm_any (w : World) (bd bs : Nat) (s : St) (k b : Int) (hD : DRep w bd bs s) (hk : k ≤ 9223372036854775807) :
    Calls Try.prog 28 #[.pointer (some ⟨bd, 0, none⟩), .int .i64 k, .int .i64 b] w fun e w' => e = .returned (.tuple #[]) ∧ DRep w' bd bs (arm s k b) ∧ Keeps [bd] w w' := by
  have hc := hD.d.cell
  have hf := hD.d.frozen
  obtain ⟨n, mem, down, left, bytes, writes⟩ := s
  cases down
  · by_cases h1 : k < 0 <;> by_cases h2 : b < 0 <;> by_cases h3 : 64 < b
    all_goals first | omega | skip
    all_goals
      go_enter Try.func28, Try.ntmps28
      go_wp2
      go_end0
      refine ⟨rfl, ⟨?_, ?_, hD.ne, hD.len, hD.n, ?_, ?_, ?_, ?_⟩, ?_⟩
      · have := (hD.d.set_ 2 (.int .i64 (max k 0))).set_ 3 (.int .i64 (min (max b 0) 64))
        simp only [arm, Bool.false_eq_true, if_false]
        revert this
        rw [show max k 0 = _ from by first | exact Int.max_eq_left (by omega) | exact Int.max_eq_right (by omega)]
        rw [show min (max b 0) 64 = _ from by first | exact Int.min_eq_right (by omega) | exact (Int.min_eq_left (by omega)).trans (by first | exact Int.max_eq_left (by omega) | exact Int.max_eq_right (by omega))]
        exact id
      · exact (hD.m.far (fun h => hD.ne h.symm) _).far (fun h => hD.ne h.symm) _
      · simp only [arm, Bool.false_eq_true, if_false]; omega
      · simp only [arm, Bool.false_eq_true, if_false]; omega
      · simp only [arm, Bool.false_eq_true, if_false]; omega
      · simp only [arm, Bool.false_eq_true, if_false]; omega
      · exact ((Keeps.refl _ _).setCell (by simp) _).setCell (by simp) _
  · go_enter Try.func28, Try.ntmps28
    go_wp2
    go_end0
    exact ⟨rfl, hD, Keeps.refl _ _⟩
end Go.Proofs.Ytoefbjeclghfhaa
