/- The walk of the statement WalScan. -/
import Derived.Test.YtnoaahgjfknnlaaWal9
namespace Go.Proofs.Ytnoaahgjfknnlaa
open Go.RowKit
set_option linter.unusedSimpArgs false
set_option linter.unusedVariables false

theorem recs_le : ∀ (f : Nat) (s : List UInt8), (recs f s).length ≤ s.length
  | 0, s => Nat.zero_le _
  | f + 1, s => by
    unfold recs
    split
    · simp
    · split
      · simp
      · have := recs_le f (s.drop (num s + 4))
        rw [List.length_drop] at this
        simp only [List.length_cons]
        omega
theorem recs_few (s : List UInt8) : (recsOf s).length ≤ s.length := recs_le _ _

set_option maxHeartbeats 3200000 in
set_option maxRecDepth 100000 in
theorem law_scan (w : World) (S : Int) (AO : Option Addr) (nO cO : Nat) (F Co : Int) (ep : Nat) (AR : Option Addr) (nR cR : Nat) (old rs : List (List UInt8)) (hlO : old.length = nO) (hcO : nO ≤ cO) (hmO : cO ≤ maxLen) (hO : LstAt w w.heap.size AO old) (hlR : rs.length = nR) (hcR : nR ≤ cR) (hmR : cR ≤ maxLen) (hR : LstAt w w.heap.size AR rs)
    (hF : -9223372036854775808 ≤ F ∧ F ≤ 9223372036854775807) (hCo : -9223372036854775808 ≤ Co ∧ Co ≤ 9223372036854775807) (hep : ep < 4294967296) :
    Calls Try.prog 5 #[.agg (caseV S AO nO cO F Co ep AR nR cR)] w fun e w' => e = .returned (.bool true) ∧ Keeps [] w w' := by
  have hC := Lib.hid (CaseAt.start (S := S) (nO := nO) (cO := cO) (F := F) (Co := Co) (ep := ep) (nR := nR) (cR := cR) hO hR)
  replace hmO := Lib.hid hmO
  replace hmR := Lib.hid hmR
  clear hO hR
  go_enter Try.func5, Try.ntmps5
  go_wp2_with fail
  generalize w.alloc (.cells (caseV S AO nO cO F Co ep AR nR cR) 38) = wx at *
  refine (awake_any wx).mono ?_
  rintro e w1 ⟨rfl, k1⟩
  replace hC := Lib.hid (hC.out.keep_ k1)
  have cc := hC.out.blk.cell
  clear k1
  go_wp2_with fail
  refine (small_any w1 S AO nO cO F Co ep AR nR cR rs hlR hcR hmR.out (hC.out.recs.mono hC.out.keep.size)).mono ?_
  rintro e w2 ⟨b, rfl, hb, k2⟩
  replace hC := Lib.hid (hC.out.keep_ k2)
  clear k2 cc
  cases b
  · clear hb
    go_wp2_with fail
    refine (awake_any w2).mono ?_
    rintro e w3 ⟨rfl, k3⟩
    replace hC := Lib.hid (hC.out.keep_ k3)
    clear k3
    go_wp2_with fail
    go_ret
    exact ⟨rfl, hC.out.keep⟩
  · obtain ⟨hs1, hs2, hs3, hs4, hs5⟩ := hb.1 rfl
    clear hb
    obtain ⟨n, rfl⟩ : ∃ n : Nat, S = n := ⟨S.toNat, by omega⟩
    have cc := hC.out.blk.cell
    have hz2 := Lib.hid hC.out.blk.lt
    go_wp2_with fail
    refine (disks_any w2 n AO nO cO F Co ep AR nR cR old hlO hcO hmO.out (hC.out.old.mono hC.out.keep.size) (by omega) (by omega) (by omega)).mono ?_
    rintro e w3 ⟨bd, bs, bm, bS, s, rfl, hK⟩
    replace hC := Lib.hid (hC.out.keep_ hK.keep)
    have hz0 := hC.out.keep.size
    replace hK := Lib.hid hK
    have hnew : Hid (w.heap.size < bd ∧ w.heap.size < bs ∧ w.heap.size < bm ∧ w.heap.size < bS) := Lib.hid (by
      have h1 := hK.out.hbd; have h2 := hK.out.hbs; have h3 := hK.out.hbm; have h4 := hK.out.hbS; have h5 := hz2.out
      omega)
    clear cc hz0
    have cc := hC.out.blk.cell
    have hns := hK.out.n
    by_cases hok : okR s.n F Co ep
    · have hok2 := hok
      unfold okR at hok2
      obtain ⟨fi, rfl⟩ : ∃ fi : Nat, F = fi := ⟨F.toNat, by omega⟩
      obtain ⟨co, rfl⟩ : ∃ co : Nat, Co = co := ⟨Co.toNat, by omega⟩
      have HS := scan_ok w3 bd bs s fi co ep hK.out.d hK.out.down hok hep
      have hTl := strm_le (sec s) ep co fi
      have hrl := recs_few (strm (sec s) ep co fi)
      obtain ⟨RR, hRR⟩ : ∃ RR, recsOf (strm (sec s) ep co fi) = RR := ⟨_, rfl⟩
      rw [hRR] at HS hrl
      replace HS := Lib.hid HS
      replace hRR := Lib.hid hRR
      obtain ⟨ln, hln⟩ : ∃ ln, RR.length = ln := ⟨_, rfl⟩
      have hln2 : ln ≤ 1000000000 := by omega
      clear hrl hTl
      go_wp2_with fail
      refine HS.out.mono ?_
      rintro e w4 ⟨v, rfl, ho, k4⟩
      obtain ⟨A1, c1, rfl, hc1, hm1⟩ := ho.slice
      have hr1 := Lib.hid ho.rows
      have hC4 := Lib.hid (hC.out.keep_ k4)
      have hD4 := Lib.hid (hK.out.d.keep k4 (by simp) (by simp))
      have hM4 := Lib.hid (hK.out.m.keep k4 (by simp) (by simp) (by simp))
      have HM := may_any w4 n fi co ep (by omega) hep hF.2 hCo.2
      rw [decide_eq_true (hns ▸ hok)] at HM
      replace HM := Lib.hid HM
      have HR := rscan_any w4 bm bS s fi co ep hM4.out (by omega) hep
      rw [hRR.out] at HR
      replace HR := Lib.hid HR
      rw [hln] at hc1
      clear cc HS k4 hC ho
      have cc := hC4.out.blk.cell
      go_wp2_with fail
      refine HM.out.mono ?_
      rintro e w5 ⟨rfl, rfl⟩
      clear HM
      go_wp2_with fail
      refine HR.out.mono ?_
      rintro e w6 ⟨v2, rfl, ho2, k6⟩
      obtain ⟨A2, c2, rfl, hc2, hm2⟩ := ho2.slice
      have hr2 := Lib.hid ho2.rows
      have hr1' := Lib.hid (hr1.out.keep k6)
      have hC6 := Lib.hid (hC4.out.keep_ k6)
      have hD6 := Lib.hid (hD4.out.keep k6 (by simp) (by simp))
      have hM6 := Lib.hid (hM4.out.keep k6 (by simp) (by simp) (by simp))
      have HE := equal_yes w6 A1 A2 RR ln c1 c2 hln hln2 hr1'.out hr2.out
      replace HE := Lib.hid HE
      clear HR k6 ho2 hC4 hD4 hM4 cc hr1 hr1' hr2
      go_wp2_with fail
      refine HE.out.mono ?_
      rintro e w7 ⟨rfl, k7⟩
      have hC7 := Lib.hid (hC6.out.keep_ k7)
      have hD7 := Lib.hid (hD6.out.keep k7 (by simp) (by simp))
      have hM7 := Lib.hid (hM6.out.keep k7 (by simp) (by simp) (by simp))
      clear HE hC6 hD6 hM6 k7
      go_wp2_with fail
      refine (same_any w7 bd bs bm bS s hD7.out hM7.out hK.out.down).mono ?_
      rintro e w8 ⟨rfl, k8⟩
      have hC8 := Lib.hid (hC7.out.keep_ k8)
      clear hC7 hD7 hM7 k8
      go_wp2_with fail
      go_ret
      exact ⟨rfl, hC8.out.keep⟩
    · have HN := Lib.hid (scan_bad w3 bd bs s F Co ep hK.out.d hep hF.2 hCo.2 hok)
      have HM := may_any w3 n F Co ep (by omega) hep hF.2 hCo.2
      rw [decide_eq_false (hns ▸ hok)] at HM
      replace HM := Lib.hid HM
      go_wp2_with fail
      refine HN.out.mono ?_
      rintro e w4 ⟨rfl, rfl⟩
      go_wp2_with fail
      refine HM.out.mono ?_
      rintro e w5 ⟨rfl, rfl⟩
      go_wp2_with fail
      go_ret
      exact ⟨rfl, hC.out.keep⟩
end Go.Proofs.Ytnoaahgjfknnlaa
