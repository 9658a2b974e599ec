/- The walk of the statement WalErrors. -/
import Derived.Test.YtnoaahgjfknnlaaWal7
namespace Go.Proofs.Ytnoaahgjfknnlaa
open Go.RowKit
set_option linter.unusedSimpArgs false
set_option linter.unusedVariables false

set_option maxHeartbeats 3200000 in
set_option maxRecDepth 100000 in
theorem law_errors (w : World) (S : Int) (AO : Option Addr) (nO cO : Nat) (F Co : Int) (ep : Nat) (AR : Option Addr) (nR cR : Nat) (old rs : List (List UInt8)) (hlO : old.length = nO) (hcO : nO ≤ cO) (hmO : cO ≤ maxLen) (hO : LstAt w w.heap.size AO old) (hlR : rs.length = nR) (hcR : nR ≤ cR) (hmR : cR ≤ maxLen) (hR : LstAt w w.heap.size AR rs)
    (hF : -9223372036854775808 ≤ F ∧ F ≤ 9223372036854775807) (hCo : -9223372036854775808 ≤ Co ∧ Co ≤ 9223372036854775807) (hep : ep < 4294967296) :
    Calls Try.prog 6 #[.agg (caseV S AO nO cO F Co ep AR nR cR)] w fun e w' => e = .returned (.bool true) ∧ Keeps [] w w' := by
  have hC := Lib.hid (CaseAt.start (S := S) (nO := nO) (cO := cO) (F := F) (Co := Co) (ep := ep) (nR := nR) (cR := cR) hO hR)
  replace hmO := Lib.hid hmO
  replace hmR := Lib.hid hmR
  clear hO hR
  go_enter Try.func6, Try.ntmps6
  go_wp2_with fail
  generalize w.alloc (.cells (caseV S AO nO cO F Co ep AR nR cR) 38) = wx at *
  refine (awake_any wx).mono ?_
  rintro e w1 ⟨rfl, k1⟩
  replace hC := Lib.hid (hC.out.keep_ k1)
  have cc := hC.out.blk.cell
  clear k1
  go_wp2_with fail
  refine (small_any w1 S AO nO cO F Co ep AR nR cR rs hlR hcR hmR.out (hC.out.recs.mono hC.out.keep.size)).mono ?_
  rintro e w2 ⟨b, rfl, hb, k2⟩
  replace hC := Lib.hid (hC.out.keep_ k2)
  clear k2 cc
  cases b
  · clear hb
    go_wp2_with fail
    refine (awake_any w2).mono ?_
    rintro e w3 ⟨rfl, k3⟩
    replace hC := Lib.hid (hC.out.keep_ k3)
    clear k3
    go_wp2_with fail
    go_ret
    exact ⟨rfl, hC.out.keep⟩
  · obtain ⟨hs1, hs2, hs3, hs4, hs5⟩ := hb.1 rfl
    clear hb
    obtain ⟨n, rfl⟩ : ∃ n : Nat, S = n := ⟨S.toNat, by omega⟩
    have cc := hC.out.blk.cell
    have hz2 := Lib.hid hC.out.blk.lt
    go_wp2_with fail
    refine (disks_any w2 n AO nO cO F Co ep AR nR cR old hlO hcO hmO.out (hC.out.old.mono hC.out.keep.size) (by omega) (by omega) (by omega)).mono ?_
    rintro e w3 ⟨bd, bs, bm, bS, s, rfl, hK⟩
    replace hC := Lib.hid (hC.out.keep_ hK.keep)
    have hz0 := hC.out.keep.size
    replace hK := Lib.hid hK
    have hnew : Hid (w.heap.size < bd ∧ w.heap.size < bs ∧ w.heap.size < bm ∧ w.heap.size < bS) := Lib.hid (by
      have h1 := hK.out.hbd; have h2 := hK.out.hbs; have h3 := hK.out.hbm; have h4 := hK.out.hbS; have h5 := hz2.out
      omega)
    clear cc hz0
    have cc := hC.out.blk.cell
    have hns := hK.out.n
    by_cases hok : okR s.n F Co ep
    · have hok2 := hok
      unfold okR at hok2
      obtain ⟨fi, rfl⟩ : ∃ fi : Nat, F = fi := ⟨F.toNat, by omega⟩
      obtain ⟨co, rfl⟩ : ∃ co : Nat, Co = co := ⟨Co.toNat, by omega⟩
      have HN := Lib.hid (lnew_ok [] w3 bd bs s fi co ep hK.out.d hep hok)
      have hlt := hK.out.d.d.lt
      go_wp2_with fail
      refine HN.out.mono ?_
      rintro e w4 ⟨rfl, hL, k4⟩
      have hC4 := Lib.hid (hC.out.keep_ k4)
      have hD4 := Lib.hid (hK.out.d.keep k4 (by simp) (by simp))
      have hM4 := Lib.hid (hK.out.m.keep k4 (by simp) (by simp) (by simp))
      have HM := may_any w4 n fi co ep (by omega) hep hF.2 hCo.2
      rw [decide_eq_true (hns ▸ hok)] at HM
      replace HM := Lib.hid HM
      replace hL := Lib.hid hL
      have hbne : w3.heap.size ≠ bd := by omega
      have hbl : Hid (w.heap.size ≤ w3.heap.size) := Lib.hid hC.out.keep.size
      generalize w3.heap.size = bl at *
      clear cc HN k4 hC
      have cc := hC4.out.blk.cell
      go_wp2_with fail
      refine HM.out.mono ?_
      rintro e w5 ⟨rfl, rfl⟩
      clear HM cc
      go_wp2_with fail
      refine (same_any w4 bd bs bm bS s hD4.out hM4.out hK.out.down).mono ?_
      rintro e w6 ⟨rfl, k6⟩
      have hC6 := Lib.hid (hC4.out.keep_ k6)
      have hD6 := Lib.hid (hD4.out.keep k6 (by simp) (by simp))
      have hL6 := Lib.hid (hL.out.keep k6 (by simp) (by simp))
      clear hC4 hD4 hM4 hL k6
      go_wp2_with fail
      refine (fail_any w6 bd bs s hD6.out).mono ?_
      rintro e w7 ⟨rfl, hD7, k7⟩
      have hC7 := Lib.hid (hC6.out.keepX k7 (by have := hnew.out; simp; omega))
      have hL7 := hL6.out.keep k7 (by simp; exact hbne) (fun g cur hg _ => by simp; exact hg.ne_ hD6.out.d (by decide))
      have HS := Lib.hid (scan_down w7 bd bs (fail s) fi co ep hD7 hep hF.2 hCo.2 hok rfl)
      have HA := app_any [] w7 bl bd bs fi co ep 0 (fail s) [] [] none 0 0 hD7 hL7 rfl (Nat.le_refl _) (.inl rfl) (by unfold freeOf; simp; omega) (by show 0 ≤ s.writes; exact hK.out.wr0) (by show s.writes ≤ 800000; have := hK.out.wr1; omega) (by simp) (by decide)
      unfold AppPost at HA
      rw [show (([] : List UInt8).drop (59 * (([] : List UInt8).length / 59)) ++ enc []) = enc [] from rfl, show (enc []).length = 3 + 1 from rfl, wrs_down (s := fail s) rfl (by simp [enc, be32])] at HA
      replace HA := Lib.hid HA
      have cc := hC7.out.blk.cell
      clear hD6 hC6 hL6 k7 hL7 hD7
      go_wp2_with fail
      refine HS.out.mono ?_
      rintro e w8 ⟨rfl, rfl⟩
      clear HS cc
      go_wp2_with fail
      refine HA.out.mono ?_
      rintro e w9 ⟨rfl, _, _, k9⟩
      clear HA
      go_wp2_with fail
      go_ret
      exact ⟨rfl, (hC7.out.keep.nil.trans k9).mono (fun x hx => .inr (by have := hnew.out; have := hbl.out; simp at hx; omega))⟩
    · have HN := Lib.hid (lnew_bad w3 bd bs s F Co ep hK.out.d hep hF.2 hCo.2 hok)
      have HM := may_any w3 n F Co ep (by omega) hep hF.2 hCo.2
      rw [decide_eq_false (hns ▸ hok)] at HM
      replace HM := Lib.hid HM
      go_wp2_with fail
      refine HN.out.mono ?_
      rintro e w4 ⟨rfl, rfl⟩
      go_wp2_with fail
      refine HM.out.mono ?_
      rintro e w5 ⟨rfl, rfl⟩
      go_wp2_with fail
      go_ret
      exact ⟨rfl, hC.out.keep⟩
end Go.Proofs.Ytnoaahgjfknnlaa
