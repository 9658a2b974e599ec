/- The walk of the law DiskArmed. -/
import Derived.Test.YtpjmkjcgpbpfdaaDiskIsolated
namespace Go.Proofs.Ytpjmkjcgpbpfdaa
open Go.RowKit
set_option linter.unusedSimpArgs false

/-- The armed disk after k writes of what lies there already. -/
def armSt (S : St) (nn bb : Int) (k : Nat) : St := { S with down := false, left := nn - k, bytes := bb, writes := S.writes + k }

theorem splice_back (s : St) (j : Nat) (h : 64 * j + 64 ≤ s.mem.length) : splice s.mem (64 * j) (sec s j) = s.mem := by
  unfold splice sec
  rw [Nat.mul_comm j 64, List.length_take, List.length_drop, show 64 * j + min 64 (s.mem.length - 64 * j) = 64 * j + 64 by omega]
  rw [← List.drop_drop, List.take_append_drop, List.take_append_drop]

theorem arm_start (S : St) (nn b : Int) (h : 0 ≤ nn) (hb : 0 ≤ b) : arm (restart S) nn b = armSt S nn (min b 64) 0 := by
  simp [arm, restart, armSt]
  omega

theorem armSt_wr (S : St) (nn bb : Int) (k j : Nat) (hn : S.n = 4) (hl : S.mem.length = 64 * S.n) (hj : j < 4) (hk : (k : Int) + 1 < nn) :
    wr (armSt S nn bb k) j (sec S j) = (armSt S nn bb (k + 1), 0) := by
  have hchk : chk (armSt S nn bb k) j = 0 := chk_up rfl (by omega) (by show (j : Int) < (S.n : Int); omega)
  have hsl : (sec S j).length = 64 := sec_len hl (by omega)
  have h1 : ¬ nn - (k : Int) = 1 := by omega
  have h2 : 1 < nn - (k : Int) := by omega
  have h3 := splice_back S j (by omega)
  unfold wr
  rw [hchk, if_neg (by simp), if_neg (by omega)]
  simp only [armSt, h1, if_false, h2, if_true, Int.toNat_natCast, h3]
  simp only [Prod.mk.injEq, St.mk.injEq, true_and, and_true]
  constructor <;> omega

/-- The torn write, and what is read behind it. -/
theorem armSt_torn (S : St) (nn bb : Int) (k : Nat) (p : List UInt8) (hp : p.length = 64) (hn : S.n = 4) (hl : S.mem.length = 64 * S.n) (hk : (k : Int) + 1 = nn) :
    wr (armSt S nn bb k) 2 p = (fail { armSt S nn bb k with mem := splice S.mem 128 (p.take bb.toNat) }, 15) := by
  have hchk : chk (armSt S nn bb k) 2 = 0 := chk_up rfl (by omega) (by show (2 : Int) < (S.n : Int); omega)
  have h1 : nn - (k : Int) = 1 := by omega
  unfold wr
  rw [hchk, if_neg (by simp), if_neg (by omega), if_pos (by exact h1)]
  rfl

def tornSt (S : St) (nn bb : Int) (k : Nat) (p : List UInt8) : St := fail { armSt S nn bb k with mem := splice S.mem 128 (p.take bb.toNat) }

theorem tornSt_sec (S : St) (nn bb : Int) (k : Nat) (p : List UInt8) (hp : p.length = 64) (hn : S.n = 4) (hl : S.mem.length = 64 * S.n) (h0 : 0 ≤ bb) (h1 : bb ≤ 64) :
    sec (restart (tornSt S nn bb k p)) 2 = p.take bb.toNat ++ (sec S 2).drop bb.toNat := by
  have hlt : (p.take bb.toNat).length = bb.toNat := by rw [List.length_take]; omega
  have := sec_splice_part S 2 (p.take bb.toNat) (by omega) (by omega)
  rw [hlt] at this
  exact this

theorem tornSt_cut (S : St) (nn bb : Int) (k : Nat) (p : List UInt8) (hp : p.length = 64) (hn : S.n = 4) (hl : S.mem.length = 64 * S.n) (h0 : 0 ≤ bb) (h1 : bb ≤ 64) :
    (sec (restart (tornSt S nn bb k p)) 2).take bb.toNat = p.take bb.toNat ∧ (sec (restart (tornSt S nn bb k p)) 2).drop bb.toNat = (sec S 2).drop bb.toNat ∧ (sec (restart (tornSt S nn bb k p)) 2).length = 64 := by
  have hlt : (p.take bb.toNat).length = bb.toNat := by rw [List.length_take]; omega
  have hs : (sec S 2).length = 64 := sec_len hl (by omega)
  rw [tornSt_sec S nn bb k p hp hn hl h0 h1]
  refine ⟨List.take_left' hlt, List.drop_left' hlt, ?_⟩
  rw [List.length_append, hlt, List.length_drop, hs]
  omega

theorem bts_cut {w : World} {g c : Nat} {l : List UInt8} {b y : Int} (h : Bts w (some ⟨g, 0, none⟩) l) (hl : l.length ≤ c) (e : b = y) :
    Bts w (if c = y.toNat then some ⟨g, 0, none⟩ else some ⟨g, y.toNat, none⟩) (l.drop b.toNat) := by
  subst e
  exact h.cut0 hl
theorem wr_full {s : St} {i : Int} {b : List UInt8} (hc : chk s i = 0) (hl : b.length = 64) (h0 : s.left = 0) : (wr s i b).2 = 0 := by
  simp [wr, hc, hl, h0]
theorem bts_none {w : World} {A : Option Addr} {l : List UInt8} {b : Int} (hl : l.length = 64) (e : b = 64) : Bts w A (l.drop b.toNat) := by
  subst e
  rw [List.drop_eq_nil_of_le (by rw [hl]; decide)]
  exact Bts.nil

set_option maxHeartbeats 3200000 in
theorem armed_law (w : World) (A : Option Addr) (ops : List OpD) (n c : Nat) (hn : ops.length = n) (hnc : n ≤ c) (hc : c ≤ 9223372036854775807) (hO : OpsAt w w.heap.size A ops)
    (x y : Int) (hx : 0 ≤ x ∧ x ≤ 255) (hy : 0 ≤ y ∧ y ≤ 255)
    (A1 : Option Addr) (l : List UInt8) (n1 c1 : Nat) (hn1 : l.length = n1) (hnc1 : n1 ≤ c1) (hB : Bts w A1 l) (hA1 : l ≠ [] → ∀ a, A1 = some a → a.block < w.heap.size) :
    Calls Try.prog 4 #[.slice A n c, .int .u8 x, .int .u8 y, .slice A1 n1 c1] w fun e w' => e = .returned (.bool true) ∧ Keeps [] w w' := by
  have HO := Lib.hid hO
  have Hn := Lib.hid hn
  have Hn1 := Lib.hid hn1
  have HB := Lib.hid hB
  have HA1 := Lib.hid hA1
  clear hO hn hn1 hB hA1
  obtain ⟨hx0, hx1⟩ := hx
  obtain ⟨hy0, hy1⟩ := hy
  by_cases hfew : few ops = true
  · by_cases h64 : 64 < n1
    · replace hfew := Lib.hid hfew
      go_enter Try.func4, Try.ntmps4
      go_wp2_with fail
      refine (awake_any w).mono ?_
      rintro e w1 ⟨rfl, k1⟩
      replace k1 := Lib.hid k1
      go_wp2_with fail
      refine (few_any w1 A ops n c _ Hn.out hnc hc (HO.out.keep k1.out (by simp))).mono ?_
      rintro e w2 ⟨rfl, k2⟩
      rw [hfew.out]
      replace k2 := Lib.hid k2
      go_wp2_with fail
      refine (awake_any w2).mono ?_
      rintro e w3 ⟨rfl, k3⟩
      replace k3 := Lib.hid k3
      go_wp2_with fail
      go_ret
      exact ⟨rfl, (k1.out.trans k2.out).trans k3.out⟩
    · have hrw := runS_writes ops
      have hfew60 : ops.length ≤ 60 := by unfold few at hfew; simp at hfew; omega
      obtain ⟨S, hS⟩ : ∃ S, S = runS ops := ⟨_, rfl⟩
      have hSn : S.n = 4 ∧ 0 ≤ S.writes ∧ S.writes ≤ 60 ∧ S.mem.length = 64 * S.n := by
        rw [hS]
        exact ⟨hrw.2.2, hrw.1, by omega, runS_len ops⟩
      replace hSn := Lib.hid hSn
      replace hS := Lib.hid hS
      replace hfew := Lib.hid hfew
      clear hrw hfew60
      obtain ⟨bb, hbb⟩ : ∃ bb : Int, bb = min y 64 := ⟨_, rfl⟩
      have hbb0 : 0 ≤ bb ∧ bb ≤ 64 := by omega
      replace hbb := Lib.hid hbb
      go_enter Try.func4, Try.ntmps4
      go_wp2_with fail
      refine (awake_any w).mono ?_
      rintro e w1 ⟨rfl, k1⟩
      replace k1 := Lib.hid k1
      go_wp2_with fail
      refine (few_any w1 A ops n c _ Hn.out hnc hc (HO.out.keep k1.out (by simp))).mono ?_
      rintro e w2 ⟨rfl, k2⟩
      rw [hfew.out]
      replace k2 := Lib.hid (k1.out.trans k2)
      clear k1
      go_wp2_with fail
      refine (run_any w2 A ops n c w.heap.size Hn.out hnc hc (HO.out.keep k2.out (by simp)) k2.out.size hfew.out).mono ?_
      rintro e w3 ⟨bd, bs, bm, bS, rfl, hb, l1, l2, l3, l4, k3⟩
      rw [← hS.out] at hb
      have hz2 := k2.out.size
      have hxx : ∀ x ∈ [bd, bs, bm, bS], x ∈ ([] : List Nat) ∨ w.heap.size ≤ x := by intro x hx; simp at hx; right; omega
      have HD := Lib.hid hb.D
      have HM := Lib.hid hb.M
      have HK := Lib.hid ((k2.out.trans k3).nil (X := [bd, bs, bm, bS]))
      replace hxx := Lib.hid hxx
      have hge : w.heap.size ≤ bd ∧ w.heap.size ≤ bs ∧ w.heap.size ≤ bm ∧ w.heap.size ≤ bS := by omega
      replace hge := Lib.hid hge
      clear hb k2 k3 l1 l2 l3 l4 hz2
      go_wp2_with fail
      refine (restart_any w3 bd bs _ HD.out).mono ?_
      rintro e w4 ⟨rfl, hd, hk⟩
      replace HM := Lib.hid (HM.out.keepD HD.out (hk.mono (by simp)))
      replace HD := Lib.hid hd
      replace HK := Lib.hid (HK.out.trans (hk.mono (by simp)))
      clear hd hk
      go_wp2_with fail
      refine (rrestart_any w4 bm bS _ HM.out).mono ?_
      rintro e w5 ⟨rfl, hd, hk⟩
      replace HD := Lib.hid (HD.out.keepM HM.out (hk.mono (by simp)))
      replace HM := Lib.hid hd
      replace HK := Lib.hid (HK.out.trans (hk.mono (by simp)))
      clear hd hk
      go_wp2_with fail
      obtain ⟨nn, hnn⟩ : ∃ nn : Int, nn = 1 + x % 10 := ⟨_, rfl⟩
      rw [← hnn]
      have hnn0 : 1 ≤ nn ∧ nn ≤ 10 := by omega
      replace hnn := Lib.hid hnn
      obtain ⟨hnn1, hnn2⟩ := hnn0
      refine (arm_any w5 bd bs _ nn y HD.out (by omega)).mono ?_
      rintro e w6 ⟨rfl, hd, hk⟩
      rw [arm_start S nn y (by omega) hy0, ← hbb.out] at hd
      replace HM := Lib.hid (HM.out.keepD HD.out (hk.mono (by simp)))
      replace HD := Lib.hid hd
      replace HK := Lib.hid (HK.out.trans (hk.mono (by simp)))
      clear hd hk
      go_wp2_with fail
      go_loopw [13] (fun i wr => ∃ k : Nat, i = .int .i64 ((k : Int) + 1) ∧ (k : Int) + 1 ≤ nn ∧ DRep wr bd bs (armSt S nn bb k) ∧ MRep wr bm bS (restart S) ∧ Keeps [bd, bs, bm, bS] w wr) (fun i _ => 20 - (intOf i).toNat)
      case atStart => exact ⟨0, rfl, by omega, HD.out, HM.out, HK.out⟩
      case round =>
        obtain ⟨k, rfl, hk1, hd, hm, hkw⟩ := hrel
        replace hkw := Lib.hid hkw
        replace hd := Lib.hid hd
        clear HD HM HK
        by_cases hlt : (k : Int) + 1 < nn
        · obtain ⟨j, hj⟩ : ∃ j : Nat, j = (k + 1) % 4 := ⟨_, rfl⟩
          have hjz : ((k : Int) + 1) % 4 = (j : Int) := by omega
          have hj4 : j < 4 := by omega
          obtain ⟨cap2, cells2, b1, b2, b3, b4, b5⟩ := hm.ex
          obtain ⟨v, hv, hs⟩ := b5 j (by show j < S.n; have := hSn.out.1; omega)
          obtain ⟨g, cg, rfl, hcg1, hcg2, hBg, hlen, hg, curg, hgb⟩ := hs.bts
          have hcm := b1.cell
          have hcS : wr.cell? ⟨bS, j, none⟩ = some (.slice (some ⟨g, 0, none⟩) 64 cg) := by rw [b2.cell, hv]
          have hgd : g ≠ bd := hgb.ne_ hd.out.d (by decide)
          have hSn4 : (restart S).n = 4 := hSn.out.1
          rw [hSn4] at hcm b3
          have hw := armSt_wr S nn bb k j hSn.out.1 hSn.out.2.2.2 hj4 hlt
          replace hw := Lib.hid hw
          replace hm := Lib.hid hm
          replace hBg := Lib.hid hBg
          replace hgd := Lib.hid hgd
          replace hlen := Lib.hid hlen
          clear b1 b2 b4 b5 hs hv hgb hj hSn4
          go_wp2_with fail
          refine (write_any wr bd bs (armSt S nn bb k) j (some ⟨g, 0, none⟩) (sec S j) 64 cg hlen.out hd.out hBg.out (by intro _ a ha; cases ha; exact hgd.out) hcg1 (by have := hSn.out.2.1; show 0 ≤ S.writes + (k : Int); omega) (by have := hSn.out.2.2.1; show S.writes + (k : Int) ≤ 1000000; omega)).mono ?_
          rintro e w7 ⟨rfl, hd7, hk⟩
          rw [hw.out] at hd7 ⊢
          replace hm := Lib.hid (hm.out.keepD hd.out hk)
          replace hkw := Lib.hid (hkw.out.trans (hk.mono (by simp)))
          replace hd : Hid (DRep w7 bd bs (armSt S nn bb (k + 1))) := Lib.hid hd7
          have hdn : (armSt S nn bb (k + 1)).down = false := rfl
          clear hd7 hk hBg hcm hcS
          go_wp2_with fail
          refine (failed_any w7 bd bs _ hd.out).mono ?_
          rintro e w8 ⟨rfl, rfl⟩
          rw [hdn]
          clear hdn
          go_wp2_with fail
          go_roundw
          case rel => exact ⟨k + 1, by go_num, by omega, hd.out, hm.out, hkw.out⟩
          case measure => simp [intOf]; omega
        · have hkn : (k : Int) + 1 = nn := by omega
          replace hm := Lib.hid hm
          have hwt := armSt_torn S nn bb k (pad l) (pad_len _) hSn.out.1 hSn.out.2.2.2 hkn
          have hcut := tornSt_cut S nn bb k (pad l) (pad_len _) hSn.out.1 hSn.out.2.2.2 hbb0.1 hbb0.2
          obtain ⟨T, hT⟩ : ∃ T, T = tornSt S nn bb k (pad l) := ⟨_, rfl⟩
          have hTf : T.down = true ∧ (restart T).down = false ∧ T.left = 0 ∧ T.n = 4 ∧ 0 ≤ T.writes ∧ T.writes ≤ 1000 := by
            have := hSn.out
            rw [hT]
            exact ⟨rfl, rfl, rfl, this.1, by show 0 ≤ S.writes + (k : Int); omega, by show S.writes + (k : Int) ≤ 1000; omega⟩
          have hTd := hTf.1
          have hchk : chk (restart T) 2 = 0 := chk_up rfl (by omega) (by show (2 : Int) < (T.n : Int); rw [hTf.2.2.2.1]; decide)
          change _ = (tornSt S nn bb k (pad l), _) at hwt
          rw [← hT] at hwt hcut
          have hT4 : 2 < (restart T).n := by show 2 < T.n; rw [hTf.2.2.2.1]; decide
          have ew := wr_full hchk hcut.2.2 hTf.2.2.1
          replace ew := Lib.hid ew
          replace hTf := Lib.hid hTf
          replace hwt := Lib.hid hwt
          replace hcut := Lib.hid hcut
          replace hchk := Lib.hid hchk
          replace hTd := Lib.hid hTd
          replace hT4 := Lib.hid hT4
          replace hT := Lib.hid hT
          have hnlt : ((k : Int) + 1 < nn) = False := by simp; omega
          go_wp2_with fail
          have HB5 := HB.out.keep_of hkw.out (fun h0 a ha => by have := HA1.out h0 a ha; have := hge.out; simp; omega)
          refine (sector_any wr A1 l n1 c1 Hn1.out HB5).mono ?_
          rintro e w7 ⟨g, rfl, hg, hgl, hk⟩
          have hgbd := hg.ne_ (hd.out.keep hk (by simp) (by simp)).d (by decide)
          replace hm := Lib.hid (hm.out.keep hk (by simp) (by simp) (by simp))
          replace hd := Lib.hid (hd.out.keep hk (by simp) (by simp))
          replace hkw := Lib.hid (hkw.out.trans hk.nil)
          replace hg := Lib.hid hg
          clear hk HB5
          go_wp2_with fail
          refine (write_any w7 bd bs (armSt S nn bb k) 2 (some ⟨g, 0, none⟩) (pad l) 64 64 (pad_len _) hd.out (blk_bts hg.out) (by intro _ a ha; cases ha; exact hgbd) (by omega) (by have := hSn.out.2.1; show 0 ≤ S.writes + (k : Int); omega) (by have := hSn.out.2.2.1; show S.writes + (k : Int) ≤ 1000000; omega)).mono ?_
          rintro e w8 ⟨rfl, hd8, hk⟩
          rw [hwt.out] at hd8 ⊢
          replace hm := Lib.hid (hm.out.keepD hd.out hk)
          replace hkw := Lib.hid (hkw.out.trans (hk.mono (by simp)))
          replace hd : Hid (DRep w8 bd bs T) := Lib.hid hd8
          clear hd8 hk hg
          go_wp2_with fail
          refine (failed_any w8 bd bs _ hd.out).mono ?_
          rintro e w9 ⟨rfl, rfl⟩
          rw [hTd.out]
          go_wp2_with fail
          refine (restart_any w8 bd bs _ hd.out).mono ?_
          rintro e w9 ⟨rfl, hd9, hk⟩
          replace hm := Lib.hid (hm.out.keepD hd.out (hk.mono (by simp)))
          replace hd := Lib.hid hd9
          replace hkw := Lib.hid (hkw.out.trans (hk.mono (by simp)))
          clear hd9 hk
          go_wp2_with fail
          have hbslt := hd.out.m.lt
          refine (read_ok w9 bd bs (restart T) 2 hd.out hchk.out hT4.out).mono ?_
          rintro e w10 ⟨rfl, hr, hk⟩
          obtain ⟨q, hq⟩ : ∃ q, q = w9.heap.size := ⟨_, rfl⟩
          rw [← hq] at hr ⊢
          have hqs : q ≠ bs := by omega
          replace hd := Lib.hid (hd.out.keep hk (by simp) (by simp))
          have hqd : q ≠ bd := hr.ne_ hd.out.d (by decide)
          replace hm := Lib.hid (hm.out.keep hk (by simp) (by simp) (by simp))
          replace hkw := Lib.hid (hkw.out.trans hk.nil)
          replace hr := Lib.hid hr
          clear hk hq
          replace hqs := Lib.hid hqs
          replace hqd := Lib.hid hqd
          have hcase : (bb = y ∧ y ≤ 64) ∨ (bb = 64 ∧ 64 < y) := by have := hbb.out; omega
          rcases hcase with ⟨ebb, hy64⟩ | ⟨ebb, hy64⟩
          all_goals
            go_wp2_with fail
            obtain ⟨cap2, cells2, b1, b2, b3, b4, b5⟩ := hm.out.ex
            obtain ⟨v, hv, hs⟩ := b5 2 (by show 2 < S.n; have := hSn.out.1; omega)
            obtain ⟨g2, cg, rfl, hcg1, hcg2, hB2, hlen, hg2, curg, hgb⟩ := hs.bts
            have q1 := b1.cell 0
            rw [show (restart S).n = 4 from hSn.out.1] at q1 b3
            replace q1 : w10.cell? ⟨bm, 0, none⟩ = some (.slice (some ⟨bS, 0, none⟩) 4 cap2) := q1
            have q2 : w10.cell? ⟨bS, 2, none⟩ = some (.slice (some ⟨g2, 0, none⟩) 64 cg) := by rw [b2.cell, hv]
            have hnm : bm ∉ [bd, bs] ∧ bS ∉ [bd, bs] := by
              have := b1.ne_ hd.out.d (by decide); have := b1.ne_ hd.out.m (by decide)
              have := b2.ne_ hd.out.d (by decide); have := b2.ne_ hd.out.m (by decide)
              simp; omega
            have kd : Keeps [] w10 w10.drew := (Keeps.refl _ _).drew
            have HD := Lib.hid (hd.out.keep kd (by simp) (by simp))
            have HR := Lib.hid hr.out.drew
            have HB2 := Lib.hid hB2.drew_
            have HB6 := Lib.hid ((HB.out.keep_of hkw.out (fun h0 a ha => by have := HA1.out h0 a ha; have := hge.out; simp; omega)).drew_)
            have HK6 : Hid (Keeps [bd, bs] w10 w10.drew) := Lib.hid kd.nil
            replace hnm := Lib.hid hnm
            replace hlen := Lib.hid hlen
            clear kd b1 b2 b4 b5 hv hs hgb hB2 hg2 hd hr hm
            go_region_held3 (fun w' => w'.cell? ⟨bm, 0, none⟩ = some (.slice (some ⟨bS, 0, none⟩) 4 cap2) ∧ w'.cell? ⟨bS, 2, none⟩ = some (.slice (some ⟨g2, 0, none⟩) 64 cg))
              ((refine (fun (kk : Keeps [bd, bs] w10 _) => ⟨kk.cellEq q1 hnm.out.1, kk.cellEq q2 hnm.out.2⟩) ?_; exact HK6.out))
              (first
                | (go_at_call 14; refine (sector_any _ A1 l _ c1 Hn1.out HB6.out).mono ?_; rintro e w' ⟨g, rfl, hg, hgl, hk⟩; replace HD := Lib.hid (HD.out.keep hk (by simp) (by simp)); replace HR := Lib.hid (HR.out.keep hk (by simp)); replace HB2 := Lib.hid (HB2.out.keep hk (by simp)); replace HK6 := Lib.hid (HK6.out.trans hk.nil); replace hg := Lib.hid hg; clear hk)
                | (go_at_call 17; refine (same_any _ (some ⟨q, 0, none⟩) (some ⟨g, 0, none⟩) ((sec (restart T) 2).take bb.toNat) ((pad l).take bb.toNat) _ _ _ _ (by rw [List.length_take, hcut.out.2.2]; omega) (by rw [List.length_take, pad_len]; omega) ((blk_bts HR.out).take _) ((blk_bts hg.out).take _)).mono ?_; rintro e w'' ⟨rfl, rfl⟩; rw [hcut.out.1, decide_eq_true rfl]; clear hg)
                | (go_at_call 17; (try generalize hB1 : (if 64 = y.toNat then (some ⟨q, 0, none⟩ : Option Addr) else some ⟨q, y.toNat, none⟩) = G1); (try generalize hB2' : (if cg = y.toNat then (some ⟨g2, 0, none⟩ : Option Addr) else some ⟨g2, y.toNat, none⟩) = G2); (try generalize hB3 : (if cg = 64 then (some ⟨g2, 0, none⟩ : Option Addr) else some ⟨g2, 64, none⟩) = G3); refine (same_any _ _ _ ((sec (restart T) 2).drop bb.toNat) ((sec (restart S) 2).drop bb.toNat) _ _ _ _ (by rw [List.length_drop, hcut.out.2.2]; omega) (by rw [List.length_drop, hlen.out]; omega) (by first | (rw [← hB1]; exact bts_cut (blk_bts HR.out) (by rw [hcut.out.2.2]; omega) ebb) | exact bts_none hcut.out.2.2 ebb) (by first | (rw [← hB2']; exact bts_cut HB2.out (by rw [hlen.out]; omega) ebb) | exact bts_none hlen.out ebb)).mono ?_; rintro e w'' ⟨rfl, rfl⟩; rw [decide_eq_true (show (sec (restart T) 2).drop bb.toNat = (sec (restart S) 2).drop bb.toNat from hcut.out.2.1)])
                | (go_at_call 15; refine (write_any _ bd bs (restart T) 2 (some ⟨q, 0, none⟩) (sec (restart T) 2) 64 64 hcut.out.2.2 HD.out (blk_bts HR.out) (by intro _ a ha; cases ha; exact hqd.out) (by omega) hTf.out.2.2.2.2.1 (by have := hTf.out.2.2.2.2.2; show T.writes ≤ 1000000; omega)).mono ?_; rintro e w' ⟨rfl, hd, hk⟩; rw [ew.out]; replace HK6 := Lib.hid (HK6.out.trans hk); clear hk hd))
            go_wp2_with fail
            go_ret
            exact ⟨rfl, (hkw.out.trans (HK6.out.mono (by simp))).mono hxx.out⟩
  · replace hfew : Hid (few ops = false) := Lib.hid (by simpa using hfew)
    go_enter Try.func4, Try.ntmps4
    go_wp2_with fail
    refine (awake_any w).mono ?_
    rintro e w1 ⟨rfl, k1⟩
    replace k1 := Lib.hid k1
    go_wp2_with fail
    refine (few_any w1 A ops n c _ Hn.out hnc hc (HO.out.keep k1.out (by simp))).mono ?_
    rintro e w2 ⟨rfl, k2⟩
    rw [hfew.out]
    replace k2 := Lib.hid k2
    go_wp2_with fail
    refine (awake_any w2).mono ?_
    rintro e w3 ⟨rfl, k3⟩
    replace k3 := Lib.hid k3
    go_wp2_with fail
    go_ret
    exact ⟨rfl, (k1.out.trans k2.out).trans k3.out⟩
end Go.Proofs.Ytpjmkjcgpbpfdaa
