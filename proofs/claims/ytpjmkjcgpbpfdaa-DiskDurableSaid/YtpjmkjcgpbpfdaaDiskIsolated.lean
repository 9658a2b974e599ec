/- The walk of the law DiskIsolated. -/
import Derived.Test.YtpjmkjcgpbpfdaaDisk11
namespace Go.Proofs.Ytpjmkjcgpbpfdaa
open Go.RowKit
set_option linter.unusedSimpArgs false

theorem sec_wr (s : St) (k : Nat) (b : List UInt8) (x y : Int) (hl : s.mem.length = 64 * s.n) (hk : k < s.n) (hb : b.length = 64) :
    sec { s with mem := splice s.mem (64 * k) b, left := x, writes := y } k = b :=
  sec_splice_same s k b s.down x y hb (by rw [hl]; omega)

theorem wr_len (s : St) (i : Int) (b : List UInt8) (h : s.mem.length = 64 * s.n) (hb0 : 0 ≤ s.bytes) (hb1 : s.bytes ≤ 64) : (wr s i b).1.mem.length = 64 * (wr s i b).1.n := by
  unfold wr
  split
  · exact h
  · rename_i hx
    obtain ⟨k, rfl, hk⟩ := chk_nat (Decidable.not_not.1 hx)
    split
    · exact h
    · rename_i hl
      have hl' : b.length = 64 := Decidable.not_not.1 hl
      split
      · show (splice s.mem (64 * (k : Int).toNat) (b.take s.bytes.toNat)).length = 64 * s.n
        rw [length_splice _ _ _ (by rw [List.length_take, Int.toNat_natCast]; omega)]
        exact h
      · show (splice s.mem (64 * (k : Int).toNat) b).length = 64 * s.n
        rw [length_splice _ _ _ (by rw [Int.toNat_natCast]; omega)]
        exact h

/-- The sectors' number of bytes, and the torn write's bound, stay in order. -/
def Fine (s : St) : Prop := s.mem.length = 64 * s.n ∧ 0 ≤ s.bytes ∧ s.bytes ≤ 64

theorem wr_fine (s : St) (i : Int) (b : List UInt8) (h : Fine s) : Fine (wr s i b).1 := by
  refine ⟨wr_len s i b h.1 h.2.1 h.2.2, ?_⟩
  have : (wr s i b).1.bytes = s.bytes := by
    unfold wr fail
    split
    · rfl
    · split
      · rfl
      · split <;> rfl
  rw [this]
  exact h.2

theorem step_fine (s : St) (o : OpD) (h : Fine s) : Fine (step s o) := by
  unfold step
  split
  · exact wr_fine _ _ _ h
  · split
    · exact h
    · split
      · unfold arm
        split
        · exact h
        · exact ⟨h.1, by dsimp only; omega, by dsimp only; omega⟩
      · split
        · exact h
        · split
          · exact h
          · exact wr_fine _ _ _ h

theorem fold_fine (ops : List OpD) : ∀ s : St, Fine s → Fine (ops.foldl step s) := by
  induction ops with
  | nil => exact fun _ h => h
  | cons o ops ih => exact fun s h => ih _ (step_fine s o h)

theorem runS_len (ops : List OpD) : (runS ops).mem.length = 64 * (runS ops).n :=
  (fold_fine ops (st0 4) ⟨by show (List.replicate (64 * 4) (0 : UInt8)).length = 64 * 4; rw [List.length_replicate], Int.le_refl 0, by show (0 : Int) ≤ 64; decide⟩).1

set_option maxHeartbeats 3200000 in
theorem isolated_law (w : World) (A : Option Addr) (ops : List OpD) (n c : Nat) (hn : ops.length = n) (hnc : n ≤ c) (hc : c ≤ 9223372036854775807) (hO : OpsAt w w.heap.size A ops)
    (A1 : Option Addr) (l : List UInt8) (n1 c1 : Nat) (hn1 : l.length = n1) (hnc1 : n1 ≤ c1) (hB : Bts w A1 l) (hA1 : l ≠ [] → ∀ a, A1 = some a → a.block < w.heap.size) :
    Calls Try.prog 3 #[.slice A n c, .slice A1 n1 c1] w fun e w' => e = .returned (.bool true) ∧ Keeps [] w w' := by
  have HO := Lib.hid hO
  have Hn := Lib.hid hn
  have Hn1 := Lib.hid hn1
  have HB := Lib.hid hB
  have HA1 := Lib.hid hA1
  clear hO hn hn1 hB hA1
  by_cases hfew : few ops = true
  · by_cases h64 : 64 < n1
    · replace hfew := Lib.hid hfew
      go_enter Try.func3, Try.ntmps3
      go_wp2_with fail
      refine (awake_any w).mono ?_
      rintro e w1 ⟨rfl, k1⟩
      replace k1 := Lib.hid k1
      go_wp2_with fail
      refine (few_any w1 A ops n c _ Hn.out hnc hc (HO.out.keep k1.out (by simp))).mono ?_
      rintro e w2 ⟨rfl, k2⟩
      rw [hfew.out]
      replace k2 := Lib.hid k2
      go_wp2_with fail
      refine (awake_any w2).mono ?_
      rintro e w3 ⟨rfl, k3⟩
      replace k3 := Lib.hid k3
      go_wp2_with fail
      go_ret
      exact ⟨rfl, (k1.out.trans k2.out).trans k3.out⟩
    · have hrw := runS_writes ops
      have hfew60 : ops.length ≤ 60 := by unfold few at hfew; simp at hfew; omega
      replace hfew := Lib.hid hfew
      -- the state before the write, and behind it
      obtain ⟨s0, hs0⟩ : ∃ s0, s0 = arm (restart (runS ops)) 0 0 := ⟨_, rfl⟩
      have e0 : s0.down = false ∧ s0.n = 4 ∧ s0.left = 0 ∧ 0 ≤ s0.writes ∧ s0.writes ≤ 60 := by
        subst hs0
        refine ⟨rfl, hrw.2.2, rfl, hrw.1, ?_⟩
        show (runS ops).writes ≤ 60
        omega
      obtain ⟨d0, d1, d2, d3, d4⟩ := e0
      have hchk : chk s0 3 = 0 := chk_up d0 (by omega) (by rw [d1]; decide)
      have ew : wr s0 3 (pad l) = ({ s0 with mem := splice s0.mem (64 * 3) (pad l), left := 0, writes := s0.writes + 1 }, 0) := by
        simp [wr, hchk, pad_len, d2]
      obtain ⟨s1, hs1⟩ : ∃ s1, s1 = { s0 with mem := splice s0.mem (64 * 3) (pad l), left := 0, writes := s0.writes + 1 } := ⟨_, rfl⟩
      have hchk1 : chk s1 3 = 0 := by subst hs1; exact chk_up d0 (by omega) (by show (3 : Int) < (s0.n : Int); rw [d1]; decide)
      have hn4 : 3 < s1.n := by subst hs1; show 3 < s0.n; omega
      have hsec : sec s1 3 = pad l := by
        have hlen0 : s0.mem.length = 64 * s0.n → sec s1 3 = pad l := fun h => by rw [hs1]; exact sec_wr s0 3 (pad l) 0 _ h (by omega) (pad_len _)
        exact hlen0 (by rw [hs0]; exact runS_len ops)
      rw [← hs1] at ew
      replace hsec := Lib.hid hsec
      replace hs0 := Lib.hid hs0
      replace hs1 := Lib.hid hs1
      replace ew := Lib.hid ew
      replace hchk := Lib.hid hchk
      replace hchk1 := Lib.hid hchk1
      replace hrw := Lib.hid hrw
      clear hfew60
      have D0 := Lib.hid d0
      have D1' := Lib.hid d1
      have D3 := Lib.hid d3
      have D4 := Lib.hid d4
      clear d0 d1 d2 d3 d4
      go_enter Try.func3, Try.ntmps3
      go_wp2_with fail
      refine (awake_any w).mono ?_
      rintro e w1 ⟨rfl, k1⟩
      replace k1 := Lib.hid k1
      go_wp2_with fail
      refine (few_any w1 A ops n c _ Hn.out hnc hc (HO.out.keep k1.out (by simp))).mono ?_
      rintro e w2 ⟨rfl, k2⟩
      rw [hfew.out]
      replace k2 := Lib.hid (k1.out.trans k2)
      clear k1
      go_wp2_with fail
      refine (run_any w2 A ops n c w.heap.size Hn.out hnc hc (HO.out.keep k2.out (by simp)) k2.out.size hfew.out).mono ?_
      rintro e w3 ⟨bd, bs, bm, bS, rfl, hb, l1, l2, l3, l4, k3⟩
      have hz2 := k2.out.size
      have hxx : ∀ x ∈ [bd, bs], x ∈ ([] : List Nat) ∨ w.heap.size ≤ x := by intro x hx; simp at hx; right; omega
      have HD := Lib.hid hb.D
      have HK := Lib.hid ((k2.out.trans k3).nil (X := [bd, bs]))
      replace hxx := Lib.hid hxx
      have hbd : w.heap.size ≤ bd := by omega
      have hbs : w.heap.size ≤ bs := by omega
      clear hb k2 k3 l1 l2 l3 l4 hz2
      go_wp2_with fail
      refine (restart_any w3 bd bs _ HD.out).mono ?_
      rintro e w4 ⟨rfl, hd, hk⟩
      replace HD := Lib.hid hd
      replace HK := Lib.hid (HK.out.trans (hk.mono (by simp)))
      clear hd hk
      go_wp2_with fail
      refine (arm_any w4 bd bs _ 0 0 HD.out (by omega)).mono ?_
      rintro e w5 ⟨rfl, hd, hk⟩
      rw [← hs0.out] at hd
      replace HD := Lib.hid hd
      replace HK := Lib.hid (HK.out.trans (hk.mono (by simp)))
      clear hd hk
      go_wp2_with fail
      have HB5 := HB.out.keep_of HK.out (fun h0 a ha => by have := HA1.out h0 a ha; simp; omega)
      refine (sector_any w5 A1 l n1 c1 Hn1.out HB5).mono ?_
      rintro e w6 ⟨g, rfl, hg, hgl, hk⟩
      have hgw : w.heap.size ≤ g := by have := HK.out.size; omega
      replace HD := Lib.hid (HD.out.keep hk (by simp) (by simp))
      replace HK := Lib.hid (HK.out.trans hk.nil)
      have hgbd := hg.ne_ HD.out.d (by decide)
      have hgbs := hg.ne_ HD.out.m (by decide)
      replace hg := Lib.hid hg
      clear hk HB5
      go_wp2_with fail
      refine (write_any w6 bd bs s0 3 (some ⟨g, 0, none⟩) (pad l) 64 64 (pad_len _) HD.out (blk_bts hg.out) (by intro _ a ha; cases ha; exact hgbd) (by omega) D3.out (by have := D4.out; omega)).mono ?_
      rintro e w7 ⟨rfl, hd, hk⟩
      rw [ew.out] at hd ⊢
      have hg7 := hg.out.keep hk (by simp; omega)
      replace HD := Lib.hid hd
      replace HK := Lib.hid (HK.out.trans hk)
      clear hd hk hg
      dsimp only
      have hc0 := hg7.cell 0
      rw [List.getElem?_toArray, List.getElem?_map, List.getElem?_eq_getElem (show 0 < (pad l).length by rw [pad_len]; omega)] at hc0
      have hc0' : w7.cell? ⟨g, 0, none⟩ = some (.int .u8 ((pad l)[0]'(by rw [pad_len]; omega)).toNat) := hc0
      obtain ⟨x0, hx0⟩ : ∃ x0 : Nat, x0 = ((pad l)[0]'(by rw [pad_len]; omega)).toNat := ⟨_, rfl⟩
      rw [← hx0] at hc0'
      have hf0 := hg7.frozen 0
      clear hc0 hx0 hg7
      go_wp2_with fail
      clear hc0' hf0
      obtain ⟨w8, hw8⟩ : ∃ w8, w8 = w7.setCell ⟨g, 0, none⟩ (.int .u8 (((x0 : Int) + 1) % 256)) := ⟨_, rfl⟩
      rw [← hw8]
      have k8 : Keeps [g] w7 w8 := by rw [hw8]; exact (Keeps.refl _ _).setCell (by simp) _
      replace HD := Lib.hid (HD.out.keep k8 (by simpa using fun h => hgbd h.symm) (by simpa using fun h => hgbs h.symm))
      replace HK : Hid (Keeps [bd, bs, g] w w8) := Lib.hid ((HK.out.mono (by simp)).trans (k8.mono (by simp)))
      clear hw8 k8
      have hbslt := HD.out.m.lt
      refine (read_ok w8 bd bs s1 3 HD.out hchk1.out hn4).mono ?_
      rintro e w9 ⟨rfl, hr, hk⟩
      rw [hsec.out] at hr
      replace HD := Lib.hid (HD.out.keep hk (by simp) (by simp))
      have hgr := HK.out.size
      have hgrd : w8.heap.size ≠ bd := hr.ne_ HD.out.d (by decide)
      have hgrs : w8.heap.size ≠ bs := by omega
      replace HK := Lib.hid (HK.out.trans hk.nil)
      replace hr := Lib.hid hr
      clear hk
      go_wp2_with fail
      have HB9 := HB.out.keep_of HK.out (fun h0 a ha => by have := HA1.out h0 a ha; simp; omega)
      refine (sector_any w9 A1 l n1 c1 Hn1.out HB9).mono ?_
      rintro e w10 ⟨g2, rfl, hg2, hgl2, hk⟩
      have hr10 := hr.out.keep hk (by simp)
      replace HD := Lib.hid (HD.out.keep hk (by simp) (by simp))
      replace HK := Lib.hid (HK.out.trans hk.nil)
      replace hg2 := Lib.hid hg2
      replace hr10 := Lib.hid hr10
      clear hk HB9 hr
      go_wp2_with fail
      refine (same_any w10 (some ⟨w8.heap.size, 0, none⟩) (some ⟨g2, 0, none⟩) (pad l) (pad l) 64 64 64 64 (pad_len _) (pad_len _) (blk_bts hr10.out) (blk_bts hg2.out)).mono ?_
      rintro e w11 ⟨rfl, rfl⟩
      have hc3 := hr10.out.cell 63
      rw [List.getElem?_toArray, List.getElem?_map, List.getElem?_eq_getElem (show 63 < (pad l).length by rw [pad_len]; omega)] at hc3
      have hc3' : w10.cell? ⟨w8.heap.size, 63, none⟩ = some (.int .u8 ((pad l)[63]'(by rw [pad_len]; omega)).toNat) := hc3
      obtain ⟨x3, hx3⟩ : ∃ x3 : Nat, x3 = ((pad l)[63]'(by rw [pad_len]; omega)).toNat := ⟨_, rfl⟩
      rw [← hx3] at hc3'
      have hf3 := hr10.out.frozen 63
      clear hc3 hx3 hr10 hg2
      go_wp2_with fail
      clear hc3' hf3
      obtain ⟨w11, hw11⟩ : ∃ w11, w11 = w10.setCell ⟨w8.heap.size, 63, none⟩ (.int .u8 (((x3 : Int) + 1) % 256)) := ⟨_, rfl⟩
      rw [← hw11]
      have k11 : Keeps [w8.heap.size] w10 w11 := by rw [hw11]; exact (Keeps.refl _ _).setCell (by simp) _
      replace HD := Lib.hid (HD.out.keep k11 (by simpa using fun h => hgrd h.symm) (by simpa using fun h => hgrs h.symm))
      replace HK : Hid (Keeps [bd, bs, g, w8.heap.size] w w11) := Lib.hid ((HK.out.mono (by simp)).trans (k11.mono (by simp)))
      clear hw11 k11
      refine (read_ok w11 bd bs s1 3 HD.out hchk1.out hn4).mono ?_
      rintro e w12 ⟨rfl, hr, hk⟩
      rw [hsec.out] at hr
      replace HD := Lib.hid (HD.out.keep hk (by simp) (by simp))
      replace HK := Lib.hid (HK.out.trans hk.nil)
      replace hr := Lib.hid hr
      clear hk
      go_wp2_with fail
      have HB12 := HB.out.keep_of HK.out (fun h0 a ha => by have := HA1.out h0 a ha; simp; omega)
      refine (sector_any w12 A1 l n1 c1 Hn1.out HB12).mono ?_
      rintro e w13 ⟨g3, rfl, hg3, hgl3, hk⟩
      have hr13 := hr.out.keep hk (by simp)
      replace HK := Lib.hid (HK.out.trans hk.nil)
      replace hg3 := Lib.hid hg3
      replace hr13 := Lib.hid hr13
      clear hk HB12 hr
      go_wp2_with fail
      refine (same_any w13 (some ⟨w11.heap.size, 0, none⟩) (some ⟨g3, 0, none⟩) (pad l) (pad l) 64 64 64 64 (pad_len _) (pad_len _) (blk_bts hr13.out) (blk_bts hg3.out)).mono ?_
      rintro e w14 ⟨rfl, rfl⟩
      go_wp2_with fail
      go_ret
      refine ⟨by simp, HK.out.mono ?_⟩
      intro x hx
      right
      simp at hx
      omega
  · replace hfew : Hid (few ops = false) := Lib.hid (by simpa using hfew)
    go_enter Try.func3, Try.ntmps3
    go_wp2_with fail
    refine (awake_any w).mono ?_
    rintro e w1 ⟨rfl, k1⟩
    replace k1 := Lib.hid k1
    go_wp2_with fail
    refine (few_any w1 A ops n c _ Hn.out hnc hc (HO.out.keep k1.out (by simp))).mono ?_
    rintro e w2 ⟨rfl, k2⟩
    rw [hfew.out]
    replace k2 := Lib.hid k2
    go_wp2_with fail
    refine (awake_any w2).mono ?_
    rintro e w3 ⟨rfl, k3⟩
    replace k3 := Lib.hid k3
    go_wp2_with fail
    go_ret
    exact ⟨rfl, (k1.out.trans k2.out).trans k3.out⟩
end Go.Proofs.Ytpjmkjcgpbpfdaa
