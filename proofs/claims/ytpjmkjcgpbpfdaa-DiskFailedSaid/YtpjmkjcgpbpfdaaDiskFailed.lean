/- The walk of the law DiskFailed. -/
import Derived.Test.YtpjmkjcgpbpfdaaDisk11
namespace Go.Proofs.Ytpjmkjcgpbpfdaa
open Go.RowKit
set_option linter.unusedSimpArgs false

/-- A write on a failed disk, a read. -/
theorem wr_down {s : St} (h : s.down = true) (i : Int) (b : List UInt8) : wr s i b = (s, 15) := by
  have : chk s i = 15 := by simp [chk, h]
  simp [wr, this]
theorem rd_down {s : St} (h : s.down = true) (i : Int) : rd s i = ([], 15) := by
  have : chk s i = 15 := by simp [chk, h]
  simp [rd, this]

set_option maxHeartbeats 3200000 in
theorem failed_law (w : World) (A : Option Addr) (ops : List OpD) (n c : Nat) (hn : ops.length = n) (hnc : n ≤ c) (hc : c ≤ 9223372036854775807) (hO : OpsAt w w.heap.size A ops)
    (o : OpD) (v : Value) (hf : o.fits) (hv : ArgB w w.heap.size v o.data) :
    Calls Try.prog 8 #[.slice A n c, .agg #[.int .i64 o.kind, .int .i64 o.sector, .int .i64 o.n, v]] w fun e w' => e = .returned (.bool true) ∧ Keeps [] w w' := by
  obtain ⟨A1, c1, rfl, hl1, hc1, hB, hA1⟩ := hv
  obtain ⟨l, hl⟩ : ∃ l, l = o.data := ⟨_, rfl⟩
  rw [← hl] at hl1 hB hA1 ⊢
  replace hl := Lib.hid hl
  have HO := Lib.hid hO
  have Hn := Lib.hid hn
  have HB := Lib.hid hB
  have HA1 := Lib.hid hA1
  clear hO hn hB hA1
  have hxw : ∀ (u : World), Keeps [] u (u.alloc (.cells #[.int .i64 o.kind, .int .i64 o.sector, .int .i64 o.n, .slice A1 l.length c1] 46)) := fun u => (Keeps.refl _ _).alloc _
  by_cases hfew : few ops = true
  · replace hfew := Lib.hid hfew
    go_enter Try.func8, Try.ntmps8
    go_wp2_with fail
    obtain ⟨w0, hw0⟩ : ∃ w0, w0 = w.alloc (.cells #[.int .i64 o.kind, .int .i64 o.sector, .int .i64 o.n, .slice A1 l.length c1] 46) := ⟨_, rfl⟩
    rw [← hw0]
    have k0 : Keeps [] w w0 := by rw [hw0]; exact hxw w
    have hb0 : Blk w0 w.heap.size 46 #[.int .i64 o.kind, .int .i64 o.sector, .int .i64 o.n, .slice A1 l.length c1] := by rw [hw0]; exact Blk.new _ _ _
    clear hw0
    refine (awake_any w0).mono ?_
    rintro e w1 ⟨rfl, k1⟩
    have hb1 := hb0.keep k1 (by simp)
    replace k1 := Lib.hid (k0.trans k1)
    replace hb1 := Lib.hid hb1
    clear hb0 k0
    go_wp2_with fail
    refine (few_any w1 A ops n c _ Hn.out hnc hc (HO.out.keep k1.out (by simp))).mono ?_
    rintro e w2 ⟨rfl, k2⟩
    rw [hfew.out]
    have hb2 := hb1.out.keep k2 (by simp)
    replace k2 := Lib.hid (k1.out.trans k2)
    have hcb := hb2.cell
    replace hb2 := Lib.hid hb2
    clear hb1 k1
    go_wp2_with fail
    have hone : OpsAt (w2.alloc (.cells #[.int .i64 o.kind, .int .i64 o.sector, .int .i64 o.n, .slice A1 l.length c1] 46)) (w2.heap.size + 1) (some ⟨w2.heap.size, 0, none⟩) [o] := by
      have hbn := Blk.new w2 46 #[.int .i64 o.kind, .int .i64 o.sector, .int .i64 o.n, .slice A1 l.length c1]
      intro i o' ho'
      match i, ho' with
      | 0, ho' =>
        simp at ho'
        subst ho'
        refine ⟨hf, w2.heap.size, 0, .slice A1 l.length c1, rfl, by omega, hbn.cell 0, hbn.cell 1, hbn.cell 2, hbn.cell 3, A1, c1, by rw [hl.out], by rw [← hl.out]; exact hl1, hc1, ?_, ?_⟩
        · rw [← hl.out]
          exact HB.out.keep (X := []) (k2.out.alloc _) (by simp)
        · rw [← hl.out]
          intro h0 a ha
          have := HA1.out h0 a ha
          have := k2.out.size
          omega
    refine (few_any _ _ [o] 1 1 _ rfl (by omega) (by omega) hone).mono ?_
    rintro e w3 ⟨rfl, k3⟩
    have k3' : Keeps [] w2 w3 := ((Keeps.refl _ _).alloc _).trans k3
    have hb3 := hb2.out.keep k3' (by simp)
    replace k3 := Lib.hid (k2.out.trans k3')
    have hcb3 := hb3.cell
    replace hb3 := Lib.hid hb3
    clear hb2 k2 hone k3' hcb
    by_cases hfo : few [o] = true
    · rw [hfo]
      replace hfo := Lib.hid hfo
      go_wp2_with fail
      refine (run_any w3 A ops n c w.heap.size Hn.out hnc hc (HO.out.keep k3.out (by simp)) k3.out.size hfew.out).mono ?_
      rintro e w4 ⟨bd, bs, bm, bS, rfl, hb, l1, l2, l3, l4, k4⟩
      have hz := hb3.out.lt
      have hb4 := hb3.out.keep k4 (by simp)
      have hnx : w.heap.size ∉ [bd, bs, bm, bS] := by simp; omega
      have hszw := k3.out.size
      have hxx : ∀ x ∈ [bd, bs, bm, bS], x ∈ ([] : List Nat) ∨ w.heap.size ≤ x := by intro x hx; simp at hx; right; omega
      obtain ⟨S, hS⟩ : ∃ S, S = runS ops := ⟨_, rfl⟩
      rw [← hS] at hb
      have hrw := runS_writes ops
      have hfew60 : ops.length ≤ 60 := by have := hfew.out; unfold few at this; simp at this; omega
      have hSw : 0 ≤ S.writes ∧ S.writes ≤ 60 ∧ S.n = 4 := by rw [hS]; exact ⟨hrw.1, by omega, hrw.2.2⟩
      have HBt := Lib.hid hb
      have HK := Lib.hid ((k3.out.trans k4).nil (X := [bd, bs, bm, bS]))
      have hcb4 := hb4.cell
      replace hb4 := Lib.hid hb4
      replace hnx := Lib.hid hnx
      replace hxx := Lib.hid hxx
      replace hSw := Lib.hid hSw
      clear hb k4 hb3 k3 hcb3 hrw hfew60 hS
      go_wp2_with fail
      -- d.Fail()
      refine (fail_any w4 bd bs S HBt.out.D).mono ?_
      rintro e w5 ⟨rfl, hd, hk⟩
      have hM5 := HBt.out.M.keepD HBt.out.D (hk.mono (by simp))
      have hb5 := hb4.out.keep (hk.mono (Y := [bd, bs, bm, bS]) (by simp)) hnx.out
      have hcb5 := hb5.cell
      have HD := Lib.hid hd
      have HM := Lib.hid hM5
      replace HK := Lib.hid (HK.out.trans (hk.mono (by simp)))
      replace hb5 := Lib.hid hb5
      clear hd hk hM5 hb4 hcb4
      go_wp2_with (go_at_call 25; refine (writes_any w5 bd bs _ HD.out).mono ?_; rintro e w6 ⟨rfl, rfl⟩)
      refine (read_any w5 bd bs _ o.sector HD.out).mono ?_
      rintro e w6 ⟨A6, c6, rfl, -, -, -, hk⟩
      rw [rd_down (s := fail S) rfl]
      have hb6 := hb5.out.keep hk (by simp)
      have hcb6 := hb6.cell
      replace HD := Lib.hid (HD.out.keep hk (by simp) (by simp))
      replace HM := Lib.hid (HM.out.keep hk (by simp) (by simp) (by simp))
      replace HK := Lib.hid (HK.out.trans hk.nil)
      replace hb6 := Lib.hid hb6
      clear hk hb5 hcb5
      go_wp2_with fail
      have q1 : w6.cell? ⟨w.heap.size, 1, none⟩ = some (.int .i64 o.sector) := by have := hcb6 1; simpa using this
      have q3 : w6.cell? ⟨w.heap.size, 3, none⟩ = some (.slice A1 l.length c1) := by have := hcb6 3; simpa using this
      clear hcb6
      have kd : Keeps [] w6 w6.drew := (Keeps.refl _ _).drew
      replace HD := Lib.hid (HD.out.keep kd (by simp) (by simp))
      replace HM := Lib.hid (HM.out.keep kd (by simp) (by simp) (by simp))
      have HB6 := Lib.hid ((HB.out.keep_of HK.out (fun h0 a ha => by have := HA1.out h0 a ha; simp; omega)).drew_)
      have HK6 : Hid (Keeps [bd, bs, bm, bS] w6 w6.drew) := Lib.hid kd.nil
      clear kd
      go_region_held3 (fun w' => w'.cell? ⟨w.heap.size, 1, none⟩ = some (.int .i64 o.sector) ∧ w'.cell? ⟨w.heap.size, 3, none⟩ = some (.slice A1 l.length c1))
        ((refine (fun (kk : Keeps [bd, bs, bm, bS] w6 _) => ⟨kk.cellEq q1 hnx.out, kk.cellEq q3 hnx.out⟩) ?_; exact HK6.out))
        (first
          | (go_at_call 14; refine (sector_any _ A1 l _ c1 rfl HB6.out).mono ?_; rintro e w' ⟨g, rfl, hg, hgl, hk⟩; replace HD := Lib.hid (HD.out.keep hk (by simp) (by simp)); replace HM := Lib.hid (HM.out.keep hk (by simp) (by simp) (by simp)); replace HK6 := Lib.hid (HK6.out.trans hk.nil); replace hg := Lib.hid hg; clear hk)
          | (go_at_call 15; refine (write_any _ bd bs (fail S) o.sector (some ⟨g, 0, none⟩) (pad l) 64 64 (pad_len _) HD.out (blk_bts hg.out) (by intro _ a ha; cases ha; exact hg.out.ne_ HD.out.d (by decide)) (by omega) hSw.out.1 (by have := hSw.out.2.1; show S.writes ≤ 1000000; omega)).mono ?_; rintro e w' ⟨rfl, hd, hk⟩; rw [wr_down (s := fail S) rfl] at hd ⊢; replace HM := Lib.hid (HM.out.keepD HD.out hk); replace HD : Hid (DRep w' bd bs (fail S)) := Lib.hid hd; replace HK6 := Lib.hid (HK6.out.trans (hk.mono (by simp))); clear hk hd hg))
      replace HK := Lib.hid (HK.out.trans HK6.out)
      have hb7 := hb6.out.keep HK6.out hnx.out
      obtain ⟨w7, hw7⟩ : ∃ w7, w7 = w' := ⟨_, rfl⟩
      rw [← hw7] at HD HM HK hb7 ⊢
      replace hb7 := Lib.hid hb7
      clear hw7 HK6 hb6 q1 q3 HB6
      go_wp2_with fail
      refine (arm_any w7 bd bs (fail S) 1 5 HD.out (by omega)).mono ?_
      rintro e w8 ⟨rfl, hd, hk⟩
      replace HM := Lib.hid (HM.out.keepD HD.out (hk.mono (by simp)))
      replace HD : Hid (DRep w8 bd bs (fail S)) := Lib.hid hd
      have hb8 := hb7.out.keep (hk.mono (Y := [bd, bs, bm, bS]) (by simp)) hnx.out
      replace HK := Lib.hid (HK.out.trans (hk.mono (by simp)))
      replace hb8 := Lib.hid hb8
      have hdn : (fail S).down = true := rfl
      clear hd hk hb7
      go_wp2_with (first
        | (go_at_call 19; refine (failed_any w8 bd bs _ HD.out).mono ?_; rintro e w9 ⟨rfl, rfl⟩)
        | (go_at_call 25; refine (writes_any w8 bd bs _ HD.out).mono ?_; rintro e w9 ⟨rfl, rfl⟩))
      refine (rfail_any w8 bm bS S HM.out).mono ?_
      rintro e w9 ⟨rfl, hd, hk⟩
      replace HD := Lib.hid (HD.out.keepM HM.out (hk.mono (by simp)))
      replace HM := Lib.hid hd
      have hb9 := hb8.out.keep (hk.mono (Y := [bd, bs, bm, bS]) (by simp)) hnx.out
      replace HK := Lib.hid (HK.out.trans (hk.mono (by simp)))
      replace hb9 := Lib.hid hb9
      clear hd hk hb8
      go_wp2_with fail
      refine (agree_any w9 0 bd bs bm bS (fail S) ⟨HD.out, HM.out, by omega, by omega, by omega, by omega⟩).mono ?_
      rintro e w10 ⟨rfl, hbt, hk⟩
      have hb10 := hb9.out.keep hk hnx.out
      have hcb10 := hb10.cell 3
      simp at hcb10
      replace HD := Lib.hid hbt.D
      replace HK := Lib.hid (HK.out.trans hk)
      clear hbt hk hb9 HM hb10
      go_wp2_with fail
      have HB10 := HB.out.keep_of HK.out (fun h0 a ha => by have := HA1.out h0 a ha; simp; omega)
      refine (sector_any w10 A1 l _ c1 rfl HB10).mono ?_
      rintro e w11 ⟨g, rfl, hg, hgl, hk⟩
      replace HD := Lib.hid (HD.out.keep hk (by simp) (by simp))
      replace HK := Lib.hid (HK.out.trans hk.nil)
      replace hg := Lib.hid hg
      clear hk HB10 hcb10
      have ew : (wr (restart (fail S)) 0 (pad l)).2 = 0 := by
        have hchk : chk (restart (fail S)) 0 = 0 := chk_up rfl (by omega) (by show (0 : Int) < (S.n : Int); rw [hSw.out.2.2]; decide)
        have hl0 : (restart (fail S)).left = 0 := rfl
        simp [wr, hchk, pad_len, hl0]
      replace ew := Lib.hid ew
      go_wp2_with fail
      refine (write_any w11 bd bs (restart (fail S)) 0 (some ⟨g, 0, none⟩) (pad l) 64 64 (pad_len _) HD.out (blk_bts hg.out) (by intro _ a ha; cases ha; exact hg.out.ne_ HD.out.d (by decide)) (by omega) hSw.out.1 (by have := hSw.out.2.1; show S.writes ≤ 1000000; omega)).mono ?_
      rintro e w12 ⟨rfl, hd, hk⟩
      rw [ew.out]
      replace HK := Lib.hid (HK.out.trans (hk.mono (by simp)))
      clear hd hk
      go_wp2_with fail
      go_ret
      exact ⟨rfl, HK.out.mono hxx.out⟩
    · replace hfo : few [o] = false := by simpa using hfo
      rw [hfo]
      replace hfo := Lib.hid hfo
      go_wp2_with fail
      refine (awake_any w3).mono ?_
      rintro e wz ⟨rfl, kz⟩
      replace kz := Lib.hid kz
      go_wp2_with fail
      go_ret
      exact ⟨rfl, k3.out.trans kz.out⟩
  · replace hfew : Hid (few ops = false) := Lib.hid (by simpa using hfew)
    go_enter Try.func8, Try.ntmps8
    go_wp2_with fail
    obtain ⟨w0, hw0⟩ : ∃ w0, w0 = w.alloc (.cells #[.int .i64 o.kind, .int .i64 o.sector, .int .i64 o.n, .slice A1 l.length c1] 46) := ⟨_, rfl⟩
    rw [← hw0]
    have k0 : Keeps [] w w0 := by rw [hw0]; exact hxw w
    clear hw0
    refine (awake_any w0).mono ?_
    rintro e w1 ⟨rfl, k1⟩
    replace k1 := Lib.hid (k0.trans k1)
    clear k0
    go_wp2_with fail
    refine (few_any w1 A ops n c _ Hn.out hnc hc (HO.out.keep k1.out (by simp))).mono ?_
    rintro e w2 ⟨rfl, k2⟩
    rw [hfew.out]
    replace k2 := Lib.hid k2
    go_wp2_with fail
    refine (awake_any w2).mono ?_
    rintro e w3 ⟨rfl, k3⟩
    replace k3 := Lib.hid k3
    go_wp2_with fail
    go_ret
    exact ⟨rfl, (k1.out.trans k2.out).trans k3.out⟩
end Go.Proofs.Ytpjmkjcgpbpfdaa
