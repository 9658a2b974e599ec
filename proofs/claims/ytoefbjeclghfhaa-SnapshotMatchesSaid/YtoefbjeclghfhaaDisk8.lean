/- Write, on the disk and on the reference, in one contract each. -/
import Derived.Test.YtoefbjeclghfhaaDisk5
namespace Go.Proofs.Ytoefbjeclghfhaa
open Go.RowKit
set_option linter.unusedSimpArgs false
set_option linter.unusedVariables false

theorem chk_nat {s : St} {i : Int} (h : chk s i = 0) : ∃ k : Nat, i = k ∧ k < s.n := by
  obtain ⟨_, h1, h2⟩ := chk_zero h
  exact ⟨i.toNat, by omega, by omega⟩

theorem write_any (w : World) (bd bs : Nat) (s : St) (i : Int) (A : Option Addr) (b : List UInt8) (n c : Nat) (hn : b.length = n) (hD : DRep w bd bs s)
   (hB : Bts w A b) (hA : b ≠ [] → ∀ a, A = some a → a.block ≠ bd) (hcap : n ≤ c) (hw0 : 0 ≤ s.writes) (hw : s.writes ≤ 1000000) :
    Calls Try.prog 19 #[.pointer (some ⟨bd, 0, none⟩), .int .i64 i, .slice A n c] w fun e w' => e = .returned (.int .i64 (wr s i b).2) ∧ 
      DRep w' bd bs (wr s i b).1 ∧ Keeps [bd, bs] w w' := by
  subst hn
  by_cases hx : chk s i = 0
  · obtain ⟨k, rfl, hk⟩ := chk_nat hx
    by_cases hl : b.length = 64
    · by_cases h1 : s.left = 1
      · have e : wr s k b = (fail { s with mem := splice s.mem (64 * k) (b.take s.bytes.toNat) }, 15) := by simp [wr, hx, hl, h1]
        rw [e]
        exact write_torn w bd bs s k A b c hD hx hk hB (hA (by rintro rfl; cases hl)) hl h1 hcap
      · have e : wr s k b = ({ s with mem := splice s.mem (64 * k) b, left := if 1 < s.left then s.left - 1 else s.left, writes := s.writes + 1 }, 0) := by simp [wr, hx, hl, h1]
        rw [e]
        exact write_ok w bd bs s k A b c hD hx hk hB (hA (by rintro rfl; cases hl)) hl h1 hw0 hw
    · have e : wr s k b = (s, 1) := by simp [wr, hx, hl]
      rw [e]
      exact (write_len w bd bs s k A b c hD hx hl).mono fun _ _ ⟨h1, h2⟩ => ⟨h1, h2 ▸ hD, h2 ▸ Keeps.refl _ _⟩
  · have e : wr s i b = (s, chk s i) := by simp [wr, hx]
    rw [e]
    exact (write_bad w bd bs s i A b c hD hx).mono fun _ _ ⟨h1, h2⟩ => ⟨h1, h2 ▸ hD, h2 ▸ Keeps.refl _ _⟩

theorem rwrite_any {Z : List Nat} (w : World) (bm bS : Nat) (s : St) (i : Int) (A : Option Addr) (b : List UInt8) (n c : Nat) (hn : b.length = n) (hD : MRep Z w bm bS s)
   (hB : Bts w A b) (hA : b ≠ [] → ∀ a, A = some a → a.block ≠ bm) (hcap : n ≤ c) (hw0 : 0 ≤ s.writes) (hw : s.writes ≤ 1000000) (hZ : ∀ z ∈ Z, z < w.heap.size) :
    Calls Try.prog 38 #[.pointer (some ⟨bm, 0, none⟩), .int .i64 i, .slice A n c] w fun e w' => e = .returned (.int .i64 (wr s i b).2) ∧ 
      MRep Z w' bm bS (wr s i b).1 ∧ Keeps [bm, bS] w w' := by
  subst hn
  by_cases hx : chk s i = 0
  · obtain ⟨k, rfl, hk⟩ := chk_nat hx
    by_cases hl : b.length = 64
    · by_cases h1 : s.left = 1
      · have e : wr s k b = (fail { s with mem := splice s.mem (64 * k) (b.take s.bytes.toNat) }, 15) := by simp [wr, hx, hl, h1]
        rw [e]
        exact rwrite_torn w bm bS s k A b c hD hx hB (hA (by rintro rfl; cases hl)) hl hcap h1 hZ
      · have e : wr s k b = ({ s with mem := splice s.mem (64 * k) b, left := if 1 < s.left then s.left - 1 else s.left, writes := s.writes + 1 }, 0) := by simp [wr, hx, hl, h1]
        rw [e]
        exact rwrite_ok w bm bS s k A b c hD hx hB (hA (by rintro rfl; cases hl)) hl h1 hw0 hw hZ
    · have e : wr s k b = (s, 1) := by simp [wr, hx, hl]
      rw [e]
      exact (rwrite_len w bm bS s k A b c hD hx hl).mono fun _ _ ⟨h1, h2⟩ => ⟨h1, h2 ▸ hD, h2 ▸ Keeps.refl _ _⟩
  · have e : wr s i b = (s, chk s i) := by simp [wr, hx]
    rw [e]
    exact (rwrite_bad w bm bS s i A b c hD hx).mono fun _ _ ⟨h1, h2⟩ => ⟨h1, h2 ▸ hD, h2 ▸ Keeps.refl _ _⟩

end Go.Proofs.Ytoefbjeclghfhaa
