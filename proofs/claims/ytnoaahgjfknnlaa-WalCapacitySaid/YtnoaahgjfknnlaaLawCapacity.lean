/- The walk of the statement WalCapacity. -/
import Derived.Test.YtnoaahgjfknnlaaWal4
import Derived.Test.YtnoaahgjfknnlaaWalQ
namespace Go.Proofs.Ytnoaahgjfknnlaa
open Go.RowKit
set_option linter.unusedSimpArgs false
set_option linter.unusedVariables false

theorem bts_zeros {w : World} {g n : Nat} (h : Blk w g 5 (madeCells (Value.int .u8 0).cells (n * 1))) : Bts w (some ⟨g, 0, none⟩) (List.replicate n 0) := by
  rw [Nat.mul_one, show (Value.int IntKind.u8 0).cells = Array.replicate 1 (bv 0) from rfl, madeCells_same 1 n (bv 0) (by decide), ← List.map_replicate] at h
  exact bts_new h

set_option maxHeartbeats 3200000 in
set_option maxRecDepth 100000 in
theorem law_capacity (w : World) (x : Int) (hx : -9223372036854775808 ≤ x ∧ x ≤ 9223372036854775807) :
    Calls Try.prog 3 #[.int .i64 x] w fun e w' => e = .returned (.bool true) ∧ Keeps [] w w' := by
  have hC := fun w => cap_any w x hx
  have hR := fun w => rcap_any w x hx
  obtain ⟨r, hr⟩ : ∃ r, (if x < 1 then -1 else freeOf (59 * min x 1048576)) = r := ⟨_, rfl⟩
  rw [hr] at hC hR
  replace hC := Lib.hid hC
  replace hR := Lib.hid hR
  replace hr := Lib.hid hr
  clear hx
  by_cases hbad : x < 1 ∨ (¬ x < 1 ∧ 12 < x)
  · rcases hbad with hb | ⟨hb, hb2⟩
    all_goals
      go_enter Try.func3, Try.ntmps3
      go_wp2_with fail
      refine (awake_any w).mono ?_
      rintro e w1 ⟨rfl, k1⟩
      replace k1 := Lib.hid k1
      go_wp2_with fail
      refine (hC.out w1).mono ?_
      rintro e w2 ⟨rfl, rfl⟩
      go_wp2_with fail
      refine (hR.out w1).mono ?_
      rintro e w2 ⟨rfl, rfl⟩
      go_wp2_with fail
      go_ret
      exact ⟨rfl, k1.out⟩
  · obtain ⟨n, rfl⟩ : ∃ n : Nat, x = n := ⟨x.toNat, by omega⟩
    have h1 : 1 ≤ n := by omega
    have h12 : n ≤ 12 := by omega
    have hr' : r = 59 * (n : Int) - 4 := by have := hr.out; rw [if_neg (by omega)] at this; rw [← this]; unfold freeOf; omega
    obtain ⟨C, hCn⟩ : ∃ C : Nat, 59 * n - 4 = C := ⟨_, rfl⟩
    have hrC : r = (C : Int) := by omega
    subst hrC
    have hb1 : ¬ (n : Int) < 1 := by omega
    have hb2 : ¬ (12 : Int) < (n : Int) := by omega
    clear hbad hr hr'
    have hC0 : (0 : Int) ≤ (C : Int) := by omega
    have hC1 : (C : Int) < 705 := by omega
    go_enter Try.func3, Try.ntmps3
    go_wp2_with fail
    refine (awake_any w).mono ?_
    rintro e w1 ⟨rfl, k1⟩
    replace k1 := Lib.hid k1
    go_wp2_with fail
    refine (hC.out w1).mono ?_
    rintro e w2 ⟨rfl, rfl⟩
    go_wp2_with fail
    refine (hR.out w1).mono ?_
    rintro e w2 ⟨rfl, rfl⟩
    go_wp2_with fail
    refine (new_ok w1 n h1 (by omega)).mono ?_
    rintro e w2 ⟨bd, bs, rfl, hD, hbd, hbs, k2⟩
    have HN := Lib.hid (lnew_ok [] w2 bd bs (st0 n) 0 n 1 hD (by decide) (by unfold okR; simp only [st0]; omega))
    replace hD := Lib.hid hD
    replace hbd : w.heap.size ≤ bd := Nat.le_trans k1.out.size hbd
    replace hbs : w.heap.size ≤ bs := Nat.le_trans k1.out.size hbs
    replace k2 := Lib.hid (k1.out.trans k2)
    clear hC k1
    go_wp2_with fail
    refine HN.out.mono ?_
    rintro e w3 ⟨rfl, hL, k3⟩
    have hbl : w.heap.size ≤ w2.heap.size := k2.out.size
    replace hD := Lib.hid (hD.out.keep k3 (by simp) (by simp))
    replace k3 := Lib.hid (k2.out.trans k3)
    clear HN k2
    generalize w2.heap.size = bl at *
    go_wp2_with fail
    refine (hR.out w3).mono ?_
    rintro e w4 ⟨rfl, rfl⟩
    have HF := free_any [] w3 bl bd 0 n 1 0 [] hL
    rw [show freeOf (59 * (n : Int) - (([] : List UInt8).length : Int)) = (C : Int) by unfold freeOf; simp; omega] at HF
    replace HF := Lib.hid HF
    replace hL := Lib.hid hL
    clear hR
    go_wp2_with fail
    refine HF.out.mono ?_
    rintro e w4 ⟨rfl, m, rfl⟩
    have kd := (Keeps.refl [] w3).drewN m
    replace hL := Lib.hid (hL.out.keep kd (by simp) (by simp))
    replace hD := Lib.hid (hD.out.keep kd (by simp) (by simp))
    replace k3 := Lib.hid (k3.out.trans kd)
    clear HF kd
    generalize w3.drewN m = w4 at *
    have info5 : Hid ((Try.prog.info? 5).map (fun i => (i.zero, i.size, i.bytes)) = some (some (.int .u8 0), 1, 1)) := Lib.hid (by kernel_rfl)
    have e1 : IntKind.i64.wrap ((C : Int) + 1) = (C : Int) + 1 := IntWalk.i64_in _ (by omega)
    go_wp2_with (refine wpList_make rfl 34 (.tmp 54) (.tmp 54) rfl 5 (.int .u8 0) 1 1 Try.underlying34 info5.out .i64 .i64 (C + 1) (C + 1) ?_ ?_ ?_ ?_ ?_ ?_; rfl; rfl; omega; omega; omega; intro w5 m5 k5 z5; replace k5 := Lib.hid k5; clear z5)
    have hL5 := hL.out.keep k5.out (by simp) (by simp)
    have HA := Lib.hid (app_full [] w5 bl bd 0 n 1 0 [] (List.replicate (C + 1) 0) (some ⟨w4.heap.size, 0, none⟩) (C + 1) (C + 1) hL5 (by simp) (by unfold freeOf; simp; omega))
    replace hL := Lib.hid hL5
    replace hD := Lib.hid (hD.out.keep k5.out (by simp) (by simp))
    replace k3 := Lib.hid (k3.out.trans k5.out)
    clear m5 k5 hL5
    refine HA.out.mono ?_
    rintro e w6 ⟨rfl, k6⟩
    have hL6 := hL.out.keep k6 (by simp) (by simp)
    have HRc := Lib.hid (records_any [] w6 bl bd 0 n 1 0 [] hL6)
    replace hL := Lib.hid hL6
    replace hD := Lib.hid (hD.out.keep k6 (by simp) (by simp))
    replace k3 := Lib.hid (k3.out.trans k6)
    clear k6 hL6 HA
    go_wp2_with fail
    refine HRc.out.mono ?_
    rintro e w7 ⟨rfl, rfl⟩
    clear HRc
    go_wp2_with (refine wpList_make rfl 34 (.tmp 66) (.tmp 66) rfl 5 (.int .u8 0) 1 1 Try.underlying34 info5.out .i64 .i64 C C ?_ ?_ ?_ ?_ ?_ ?_; rfl; rfl; omega; omega; omega; intro w8 m8 k8 z8; replace k8 := Lib.hid k8; clear z8)
    have hL8 := hL.out.keep k8.out (by simp) (by simp)
    have hD8 := hD.out.keep k8.out (by simp) (by simp)
    have HA := app_any [] w8 bl bd bs 0 n 1 0 (st0 n) [] (List.replicate C 0) (some ⟨w6.heap.size, 0, none⟩) C C hD8 hL8 (by simp) (Nat.le_refl _) (bts_zeros m8.out) (by unfold freeOf; simp; omega) (by simp [st0]) (by simp [st0]) (by simp) (by decide)
    have hG := wrs_good 1 (([] : List UInt8).drop (59 * (([] : List UInt8).length / 59)) ++ enc (List.replicate C 0)).length (st0 n) (0 + ([] : List UInt8).length / 59) (([] : List UInt8).drop (59 * (([] : List UInt8).length / 59)) ++ enc (List.replicate C 0)) rfl rfl (by simp [st0]) (Nat.le_refl _) (by simp [enc_len, st0]; omega)
    unfold AppPost at HA
    rw [hG.ok] at HA
    simp only [if_true] at HA
    replace k3 := Lib.hid (k3.out.trans k8.out)
    replace HA := Lib.hid HA
    clear m8 k8 hL8 hD8 hL hD hG
    refine HA.out.mono ?_
    rintro e w9 ⟨rfl, _, hL9, k9⟩
    have HF := free_any [] w9 bl bd 0 n 1 1 _ hL9
    rw [show freeOf (59 * (n : Int) - ((([] : List UInt8) ++ enc (List.replicate C 0)).length : Int)) = -1 by unfold freeOf; simp [enc_len]; omega] at HF
    replace HF := Lib.hid HF
    have k9' := Lib.hid ((k3.out.nil (X := [bl, bd, bs])).trans k9)
    replace hL9 := Lib.hid hL9
    clear HA k3 k9
    go_wp2_with fail
    refine HF.out.mono ?_
    rintro e wa ⟨rfl, m, rfl⟩
    have kd := (Keeps.refl [] w9).drewN m
    have hLa := hL9.out.keep kd (by simp) (by simp)
    replace k9' := Lib.hid (k9'.out.trans kd.nil)
    clear HF kd hL9
    generalize w9.drewN m = wa at *
    have HA := Lib.hid (app_full [] wa bl bd 0 n 1 1 _ [] none 0 0 hLa rfl (by unfold freeOf; simp [enc_len]; omega))
    clear hLa
    go_wp2_with fail
    refine HA.out.mono ?_
    rintro e wb ⟨rfl, kb⟩
    replace k9' := Lib.hid (k9'.out.trans kb.nil)
    clear HA kb
    go_wp2_with fail
    go_ret
    exact ⟨rfl, k9'.out.mono (by intro x hx; simp at hx; right; rcases hx with rfl | rfl | rfl; exact hbl; exact hbd; exact hbs)⟩
end Go.Proofs.Ytnoaahgjfknnlaa
