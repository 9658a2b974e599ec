/- The walk of the statement WalFresh. -/
import Derived.Test.YtnoaahgjfknnlaaWalF
namespace Go.Proofs.Ytnoaahgjfknnlaa
open Go.RowKit
set_option linter.unusedSimpArgs false
set_option linter.unusedVariables false

set_option maxHeartbeats 3200000 in
set_option maxRecDepth 100000 in
theorem law_fresh (w : World) (S : Int) (AO : Option Addr) (nO cO : Nat) (F Co : Int) (ep : Nat) (AR : Option Addr) (nR cR : Nat) (old rs : List (List UInt8)) (hlO : old.length = nO) (hcO : nO ≤ cO) (hmO : cO ≤ maxLen) (hO : LstAt w w.heap.size AO old) (hlR : rs.length = nR) (hcR : nR ≤ cR) (hmR : cR ≤ maxLen) (hR : LstAt w w.heap.size AR rs)
    (hF : -9223372036854775808 ≤ F ∧ F ≤ 9223372036854775807) (hCo : -9223372036854775808 ≤ Co ∧ Co ≤ 9223372036854775807) (hep : ep < 4294967296) :
    Calls Try.prog 4 #[.agg (caseV S AO nO cO F Co ep AR nR cR)] w fun e w' => e = .returned (.bool true) ∧ Keeps [] w w' := by
  have hC := Lib.hid (CaseAt.start (S := S) (nO := nO) (cO := cO) (F := F) (Co := Co) (ep := ep) (nR := nR) (cR := cR) hO hR)
  replace hmO := Lib.hid hmO
  replace hmR := Lib.hid hmR
  clear hO hR
  go_enter Try.func4, Try.ntmps4
  go_wp2_with fail
  generalize w.alloc (.cells (caseV S AO nO cO F Co ep AR nR cR) 38) = wx at *
  refine (awake_any wx).mono ?_
  rintro e w1 ⟨rfl, k1⟩
  replace hC := Lib.hid (hC.out.keep_ k1)
  have cc := hC.out.blk.cell
  clear k1
  go_wp2_with fail
  refine (small_any w1 S AO nO cO F Co ep AR nR cR rs hlR hcR hmR.out (hC.out.recs.mono hC.out.keep.size)).mono ?_
  rintro e w2 ⟨b, rfl, hb, k2⟩
  replace hC := Lib.hid (hC.out.keep_ k2)
  clear k2 cc
  cases b
  · clear hb
    go_wp2_with fail
    refine (awake_any w2).mono ?_
    rintro e w3 ⟨rfl, k3⟩
    replace hC := Lib.hid (hC.out.keep_ k3)
    clear k3
    go_wp2_with fail
    go_ret
    exact ⟨rfl, hC.out.keep⟩
  · obtain ⟨hs1, hs2, hs3, hs4, hs5⟩ := hb.1 rfl
    clear hb
    obtain ⟨n, rfl⟩ : ∃ n : Nat, S = n := ⟨S.toNat, by omega⟩
    have cc := hC.out.blk.cell
    have hz2 := Lib.hid hC.out.blk.lt
    go_wp2_with fail
    refine (disks_any w2 n AO nO cO F Co ep AR nR cR old hlO hcO hmO.out (hC.out.old.mono hC.out.keep.size) (by omega) (by omega) (by omega)).mono ?_
    rintro e w3 ⟨bd, bs, bm, bS, s, rfl, hK⟩
    replace hC := Lib.hid (hC.out.keep_ hK.keep)
    have hz0 := hC.out.keep.size
    replace hK := Lib.hid hK
    have hnew : Hid (w.heap.size < bd ∧ w.heap.size < bs ∧ w.heap.size < bm ∧ w.heap.size < bS) := Lib.hid (by
      have h1 := hK.out.hbd; have h2 := hK.out.hbs; have h3 := hK.out.hbm; have h4 := hK.out.hbS; have h5 := hz2.out
      omega)
    clear cc hz0
    have cc := hC.out.blk.cell
    have hns := hK.out.n
    by_cases hok : okR s.n F Co ep
    · have hok2 := hok
      unfold okR at hok2
      obtain ⟨fi, rfl⟩ : ∃ fi : Nat, F = fi := ⟨F.toNat, by omega⟩
      obtain ⟨co, rfl⟩ : ∃ co : Nat, Co = co := ⟨Co.toNat, by omega⟩
      have HF := Lib.hid (fresh_ok w3 bd bs s fi co ep hK.out.d hK.out.down hok hep (by omega))
      go_wp2_with fail
      refine HF.out.mono ?_
      rintro e w4 ⟨m, hm, hm32, rfl, k4⟩
      obtain ⟨er, her⟩ : ∃ er : Int, (if m = 0 then 16 else 0) = er := ⟨_, rfl⟩
      rw [her]
      replace her := Lib.hid her
      replace hm := Lib.hid hm
      have hC4 := Lib.hid (hC.out.keep_ k4)
      have hM4 := Lib.hid (hK.out.m.keep k4 (by simp) (by simp) (by simp))
      have HM := may_any w4 n fi co ep (by omega) hep hF.2 hCo.2
      rw [decide_eq_true (hns ▸ hok)] at HM
      replace HM := Lib.hid HM
      have HR := Lib.hid (rfresh_any w4 bm bS s fi co ep hM4.out (by omega) hep)
      clear cc HF k4 hC
      have cc := hC4.out.blk.cell
      go_wp2_with fail
      refine HM.out.mono ?_
      rintro e w5 ⟨rfl, rfl⟩
      clear HM
      go_wp2_with fail
      refine HR.out.mono ?_
      rintro e w6 ⟨m', hm', _, rfl, k6⟩
      obtain rfl := hm.out.unique hm'
      have kf := Lib.hid (hC4.out.keep.trans k6)
      clear HR cc hm' k6 hm
      have her' := her.out
      clear her
      by_cases hm0 : m = 0
      · rw [if_pos hm0] at her'
        subst hm0 her'
        go_wp2_with fail
        go_ret
        exact ⟨rfl, kf.out⟩
      · rw [if_neg hm0] at her'
        subst her'
        have h1 : (0 : Int) < (m : Int) := by omega
        have h2 : ((m : Int) == (m : Int)) = true := by simp
        go_wp2_with fail
        go_ret
        exact ⟨rfl, kf.out⟩
    · have HF := Lib.hid (fresh_bad w3 bd bs s F Co ep hK.out.d hep hF.2 hCo.2 hok)
      have HM := may_any w3 n F Co ep (by omega) hep hF.2 hCo.2
      rw [decide_eq_false (hns ▸ hok)] at HM
      replace HM := Lib.hid HM
      go_wp2_with fail
      refine HF.out.mono ?_
      rintro e w4 ⟨rfl, rfl⟩
      go_wp2_with fail
      refine HM.out.mono ?_
      rintro e w5 ⟨rfl, rfl⟩
      go_wp2_with fail
      go_ret
      exact ⟨rfl, hC.out.keep⟩
end Go.Proofs.Ytnoaahgjfknnlaa
