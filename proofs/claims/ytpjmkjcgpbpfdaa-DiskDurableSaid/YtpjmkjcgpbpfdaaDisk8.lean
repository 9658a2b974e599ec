/- One contract a method, whatever the state; the law's function awake. -/
import Derived.Test.YtpjmkjcgpbpfdaaDisk7
namespace Go.Proofs.Ytpjmkjcgpbpfdaa
open Go.RowKit
set_option linter.unusedSimpArgs false

def rd (s : St) (i : Int) : List UInt8 × Int := if chk s i ≠ 0 then ([], chk s i) else (sec s i.toNat, 0)

theorem chk_nat {s : St} {i : Int} (h : chk s i = 0) : ∃ k : Nat, i = k ∧ k < s.n := by
  obtain ⟨_, h1, h2⟩ := chk_zero h
  exact ⟨i.toNat, by omega, by omega⟩

theorem write_any (w : World) (bd bs : Nat) (s : St) (i : Int) (A : Option Addr) (b : List UInt8) (n c : Nat) (hn : b.length = n) (hD : DRep w bd bs s)
   (hB : Bts w A b) (hA : b ≠ [] → ∀ a, A = some a → a.block ≠ bd) (hcap : n ≤ c) (hw0 : 0 ≤ s.writes) (hw : s.writes ≤ 1000000) :
    Calls Try.prog 15 #[.pointer (some ⟨bd, 0, none⟩), .int .i64 i, .slice A n c] w fun e w' => e = .returned (.int .i64 (wr s i b).2) ∧ 
      DRep w' bd bs (wr s i b).1 ∧ Keeps [bd, bs] w w' := by
  subst hn
  by_cases hx : chk s i = 0
  · obtain ⟨k, rfl, hk⟩ := chk_nat hx
    by_cases hl : b.length = 64
    · by_cases h1 : s.left = 1
      · have e : wr s k b = (fail { s with mem := splice s.mem (64 * k) (b.take s.bytes.toNat) }, 15) := by simp [wr, hx, hl, h1]
        rw [e]
        exact write_torn w bd bs s k A b c hD hx hk hB (hA (by rintro rfl; cases hl)) hl h1 hcap
      · have e : wr s k b = ({ s with mem := splice s.mem (64 * k) b, left := if 1 < s.left then s.left - 1 else s.left, writes := s.writes + 1 }, 0) := by simp [wr, hx, hl, h1]
        rw [e]
        exact write_ok w bd bs s k A b c hD hx hk hB (hA (by rintro rfl; cases hl)) hl h1 hw0 hw
    · have e : wr s k b = (s, 1) := by simp [wr, hx, hl]
      rw [e]
      exact (write_len w bd bs s k A b c hD hx hl).mono fun _ _ ⟨h1, h2⟩ => ⟨h1, h2 ▸ hD, h2 ▸ Keeps.refl _ _⟩
  · have e : wr s i b = (s, chk s i) := by simp [wr, hx]
    rw [e]
    exact (write_bad w bd bs s i A b c hD hx).mono fun _ _ ⟨h1, h2⟩ => ⟨h1, h2 ▸ hD, h2 ▸ Keeps.refl _ _⟩

theorem rwrite_any (w : World) (bm bS : Nat) (s : St) (i : Int) (A : Option Addr) (b : List UInt8) (n c : Nat) (hn : b.length = n) (hD : MRep w bm bS s)
   (hB : Bts w A b) (hA : b ≠ [] → ∀ a, A = some a → a.block ≠ bm) (hcap : n ≤ c) (hw0 : 0 ≤ s.writes) (hw : s.writes ≤ 1000000) :
    Calls Try.prog 31 #[.pointer (some ⟨bm, 0, none⟩), .int .i64 i, .slice A n c] w fun e w' => e = .returned (.int .i64 (wr s i b).2) ∧ 
      MRep w' bm bS (wr s i b).1 ∧ Keeps [bm, bS] w w' := by
  subst hn
  by_cases hx : chk s i = 0
  · obtain ⟨k, rfl, hk⟩ := chk_nat hx
    by_cases hl : b.length = 64
    · by_cases h1 : s.left = 1
      · have e : wr s k b = (fail { s with mem := splice s.mem (64 * k) (b.take s.bytes.toNat) }, 15) := by simp [wr, hx, hl, h1]
        rw [e]
        exact rwrite_torn w bm bS s k A b c hD hx hB (hA (by rintro rfl; cases hl)) hl hcap h1
      · have e : wr s k b = ({ s with mem := splice s.mem (64 * k) b, left := if 1 < s.left then s.left - 1 else s.left, writes := s.writes + 1 }, 0) := by simp [wr, hx, hl, h1]
        rw [e]
        exact rwrite_ok w bm bS s k A b c hD hx hB (hA (by rintro rfl; cases hl)) hl h1 hw0 hw
    · have e : wr s k b = (s, 1) := by simp [wr, hx, hl]
      rw [e]
      exact (rwrite_len w bm bS s k A b c hD hx hl).mono fun _ _ ⟨h1, h2⟩ => ⟨h1, h2 ▸ hD, h2 ▸ Keeps.refl _ _⟩
  · have e : wr s i b = (s, chk s i) := by simp [wr, hx]
    rw [e]
    exact (rwrite_bad w bm bS s i A b c hD hx).mono fun _ _ ⟨h1, h2⟩ => ⟨h1, h2 ▸ hD, h2 ▸ Keeps.refl _ _⟩

theorem sec_len {s : St} {k : Nat} (hl : s.mem.length = 64 * s.n) (hk : k < s.n) : (sec s k).length = 64 := by
  unfold sec; rw [List.length_take, List.length_drop, hl]; omega

theorem read_any (w : World) (bd bs : Nat) (s : St) (i : Int) (hD : DRep w bd bs s) :
    Calls Try.prog 16 #[.pointer (some ⟨bd, 0, none⟩), .int .i64 i] w (SliceErr w (rd s i).1 (rd s i).2) := by
  by_cases hx : chk s i = 0
  · obtain ⟨k, rfl, hk⟩ := chk_nat hx
    rw [show rd s k = (sec s k, 0) by simp [rd, hx]]
    refine (read_ok w bd bs s k hD hx hk).mono fun _ w' ⟨h1, h2, h3⟩ => ⟨some ⟨w.heap.size, 0, none⟩, 64, ?_, blk_bts h2, by rw [sec_len hD.len hk]; exact Nat.le_refl _, fun a ha => by cases ha; exact Nat.le_refl _, h3⟩
    rw [h1, sec_len hD.len hk]
  · rw [show rd s i = ([], chk s i) by simp [rd, hx]]
    exact (read_bad w bd bs s i hD hx).mono fun _ _ ⟨h1, h2⟩ => ⟨none, 0, h1, .inl rfl, Nat.le_refl _, (fun a ha => by cases ha), by subst h2; exact Keeps.refl _ _⟩

theorem rread_any (w : World) (bm bS : Nat) (s : St) (i : Int) (hD : MRep w bm bS s) :
    Calls Try.prog 32 #[.pointer (some ⟨bm, 0, none⟩), .int .i64 i] w (SliceErr w (rd s i).1 (rd s i).2) := by
  by_cases hx : chk s i = 0
  · obtain ⟨k, rfl, hk⟩ := chk_nat hx
    rw [show rd s k = (sec s k, 0) by simp [rd, hx]]
    exact rread_ok w bm bS s k hD hx
  · rw [show rd s i = ([], chk s i) by simp [rd, hx]]
    exact rread_bad w bm bS s i hD hx

/-- The states of awake. -/
def aw1 : St := arm (st0 2) 2 3
def aw2 : St := (wr aw1 0 (List.replicate 64 5)).1
def aw3 : St := (wr aw2 1 (List.replicate 64 7)).1
def aw4 : St := (wr aw3 0 (List.replicate 64 1)).1
def aw5 : St := restart aw4

set_option maxHeartbeats 1600000 in
theorem awake_any (w : World) : Calls Try.prog 9 #[] w fun e w' => e = .returned (.bool true) ∧ Keeps [] w w' := by
  have e2 : (wr aw1 0 (List.replicate 64 5)).2 = 0 := by decide +kernel
  have e3 : (wr aw2 1 (List.replicate 64 7)).2 = 15 := by decide +kernel
  have e4 : (wr aw3 0 (List.replicate 64 1)).2 = 15 := by decide +kernel
  have e5 : (rd aw5 1) = (List.replicate 3 7 ++ List.replicate 61 0, 0) := by decide +kernel
  have e6 : aw5.writes = 1 := by decide +kernel
  have n1 : 0 ≤ aw1.writes ∧ aw1.writes ≤ 1000000 := by decide +kernel
  have n2 : 0 ≤ aw2.writes ∧ aw2.writes ≤ 1000000 := by decide +kernel
  have n3 : 0 ≤ aw3.writes ∧ aw3.writes ≤ 1000000 := by decide +kernel
  replace e2 := Lib.hid e2
  replace e3 := Lib.hid e3
  replace e4 := Lib.hid e4
  replace e5 := Lib.hid e5
  replace e6 := Lib.hid e6
  replace n1 := Lib.hid n1
  replace n2 := Lib.hid n2
  replace n3 := Lib.hid n3
  go_enter Try.func9, Try.ntmps9
  go_wp2_with fail
  refine (new_ok w 2 (by omega) (by omega)).mono ?_
  rintro e w1 ⟨bd, bs, rfl, D1, l1, l2, k1⟩
  replace D1 := Lib.hid D1
  replace k1 := Lib.hid k1
  go_wp2_with fail
  refine (arm_any w1 bd bs _ 2 3 D1.out (by omega)).mono ?_
  rintro e w2 ⟨rfl, D2, k2⟩
  have K2 := Lib.hid (((k1.out.mono (Y := [bd, bs]) (by simp)).trans (k2.mono (by simp))))
  replace D2 : Hid (DRep w2 bd bs aw1) := Lib.hid D2
  clear k1 k2 D1
  go_wp2_with fail
  refine (fill_any w2 5).mono ?_
  rintro e w3 ⟨g3, rfl, b3, l3, k3⟩
  have D3 := D2.out.keep k3 (by simp) (by simp)
  have ne3 : g3 ≠ bd := b3.ne_ D3.d (by decide)
  have K3 := Lib.hid (K2.out.trans k3.nil)
  replace D3 := Lib.hid D3
  replace b3 := Lib.hid b3
  clear D2 K2 k3
  go_wp2_with fail
  refine (write_any w3 bd bs _ 0 (some ⟨g3, 0, none⟩) (List.replicate 64 5) 64 64 (by simp) D3.out (blk_bts b3.out) (fun _ => by simpa using ne3) (by omega) n1.out.1 n1.out.2).mono ?_
  rintro e w4 ⟨rfl, D4, k4⟩
  rw [e2.out]
  replace D4 : Hid (DRep w4 bd bs aw2) := Lib.hid D4
  have K4 := Lib.hid (K3.out.trans k4)
  clear D3 K3 k4 b3 ne3
  go_wp2_with fail
  refine (fill_any w4 7).mono ?_
  rintro e w5 ⟨g5, rfl, b5, l5, k5⟩
  have D5 := D4.out.keep k5 (by simp) (by simp)
  have ne5 : g5 ≠ bd := b5.ne_ D5.d (by decide)
  have K5 := Lib.hid (K4.out.trans k5.nil)
  replace D5 := Lib.hid D5
  replace b5 := Lib.hid b5
  clear D4 K4 k5
  go_wp2_with fail
  refine (write_any w5 bd bs _ 1 (some ⟨g5, 0, none⟩) (List.replicate 64 7) 64 64 (by simp) D5.out (blk_bts b5.out) (fun _ => by simpa using ne5) (by omega) n2.out.1 n2.out.2).mono ?_
  rintro e w6 ⟨rfl, D6, k6⟩
  rw [e3.out]
  replace D6 : Hid (DRep w6 bd bs aw3) := Lib.hid D6
  have K6 := Lib.hid (K5.out.trans k6)
  clear D5 K5 k6 b5 ne5
  go_wp2_with fail
  refine (fill_any w6 1).mono ?_
  rintro e w7 ⟨g7, rfl, b7, l7, k7⟩
  have D7 := D6.out.keep k7 (by simp) (by simp)
  have ne7 : g7 ≠ bd := b7.ne_ D7.d (by decide)
  have K7 := Lib.hid (K6.out.trans k7.nil)
  replace D7 := Lib.hid D7
  replace b7 := Lib.hid b7
  clear D6 K6 k7
  go_wp2_with fail
  refine (write_any w7 bd bs _ 0 (some ⟨g7, 0, none⟩) (List.replicate 64 1) 64 64 (by simp) D7.out (blk_bts b7.out) (fun _ => by simpa using ne7) (by omega) n3.out.1 n3.out.2).mono ?_
  rintro e w8 ⟨rfl, D8, k8⟩
  rw [e4.out]
  replace D8 : Hid (DRep w8 bd bs aw4) := Lib.hid D8
  have K8 := Lib.hid (K7.out.trans k8)
  clear D7 K7 k8 b7 ne7
  go_wp2_with fail
  refine (restart_any w8 bd bs _ D8.out).mono ?_
  rintro e w9 ⟨rfl, D9, k9⟩
  replace D9 : Hid (DRep w9 bd bs aw5) := Lib.hid D9
  have K9 := Lib.hid (K8.out.trans (k9.mono (by simp)))
  clear D8 K8 k9
  go_wp2_with fail
  refine (read_any w9 bd bs _ 1 D9.out).mono ?_
  rintro e w10 ⟨A, c, rfl, hB, hc, hA, k10⟩
  rw [e5.out] at hB hc ⊢
  have D10 := Lib.hid (D9.out.keep k10 (by simp) (by simp))
  have K10 := Lib.hid (K9.out.trans k10.nil)
  rcases hB with hB | ⟨g, o, rfl, hB⟩
  · simp at hB
  have c2 : w10.cell? ⟨g, o + 2, none⟩ = some (.int .u8 7) := hB 2 7 rfl
  have c3 : w10.cell? ⟨g, o + 3, none⟩ = some (.int .u8 0) := hB 3 0 rfl
  clear hB hc hA k10 K9 D9
  go_wp2_with (go_at_call 25; refine (writes_any w10 bd bs _ D10.out).mono ?_; rintro e w' ⟨rfl, rfl⟩; rw [e6.out])
  go_ret
  exact ⟨rfl, K10.out.mono (by simp; omega)⟩
end Go.Proofs.Ytpjmkjcgpbpfdaa
