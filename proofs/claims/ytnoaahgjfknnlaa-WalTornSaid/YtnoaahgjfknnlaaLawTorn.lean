/- The walk of the statement WalTorn. -/
import Derived.Test.YtnoaahgjfknnlaaWalS
namespace Go.Proofs.Ytnoaahgjfknnlaa
open Go.RowKit
set_option linter.unusedSimpArgs false
set_option linter.unusedVariables false

theorem recs_len : ∀ (f : Nat) (s : List UInt8), (recs f s).length ≤ f
  | 0, s => Nat.le_refl _
  | f + 1, s => by
    unfold recs
    split
    · simp
    · split
      · simp
      · have := recs_len f (s.drop (num s + 4))
        simp
        omega
/-- A scan finds no more records than bytes. -/
theorem recs_few (s : St) (ep co fi : Nat) : (recsOf (strm (sec (restart s)) ep co fi)).length ≤ 59 * co :=
  Nat.le_trans (recs_len _ _) (strm_le _ _ _ _)

theorem pair_l0 {w w' : World} {bd bs bm bS : Nat} {s s' : St} {Z : List Nat} (hd : DRep w bd bs s) (hm : MRep Z w bm bS s') (hk : Keeps [bd, bs] w w') : MRep Z w' bm bS s' := by
  obtain ⟨⟨c2, hm1⟩, c3, hS1⟩ := hm.blks
  refine hm.keep hk ?_ ?_ ?_
  · simp
    exact ⟨hm1.ne_ hd.d (by decide), hm1.ne_ hd.m (by decide)⟩
  · simp
    exact ⟨hS1.ne_ hd.d (by decide), hS1.ne_ hd.m (by decide)⟩
  · intro g cur hg _
    simp
    exact ⟨hg.ne_ hd.d (by decide), hg.ne_ hd.m (by decide)⟩

set_option maxHeartbeats 6400000 in
set_option maxRecDepth 100000 in
theorem law_torn (w : World) (S : Int) (AO : Option Addr) (nO cO : Nat) (F Co : Int) (ep : Nat) (AR : Option Addr) (nR cR : Nat) (old rs : List (List UInt8)) (hlO : old.length = nO) (hcO : nO ≤ cO) (hmO : cO ≤ maxLen) (hO : LstAt w w.heap.size AO old) (hlR : rs.length = nR) (hcR : nR ≤ cR) (hmR : cR ≤ maxLen) (hR : LstAt w w.heap.size AR rs)
    (hF : -9223372036854775808 ≤ F ∧ F ≤ 9223372036854775807) (hCo : -9223372036854775808 ≤ Co ∧ Co ≤ 9223372036854775807) (hep : ep < 4294967296) (W By : Int) (hW : 0 ≤ W ∧ W < 256) (hBy : 0 ≤ By ∧ By < 256) :
    Calls Try.prog 9 #[.agg (caseV S AO nO cO F Co ep AR nR cR), .int .u8 W, .int .u8 By] w fun e w' => e = .returned (.bool true) ∧ Keeps [] w w' := by
  have hC := Lib.hid (CaseAt.start (S := S) (nO := nO) (cO := cO) (F := F) (Co := Co) (ep := ep) (nR := nR) (cR := cR) hO hR)
  replace hmO := Lib.hid hmO
  replace hmR := Lib.hid hmR
  clear hO hR
  go_enter Try.func9, Try.ntmps9
  go_wp2_with fail
  generalize w.alloc (.cells (caseV S AO nO cO F Co ep AR nR cR) 38) = wx at *
  refine (awake_any wx).mono ?_
  rintro e w1 ⟨rfl, k1⟩
  replace hC := Lib.hid (hC.out.keep_ k1)
  have cc := hC.out.blk.cell
  clear k1
  go_wp2_with fail
  refine (small_any w1 S AO nO cO F Co ep AR nR cR rs hlR hcR hmR.out (hC.out.recs.mono hC.out.keep.size)).mono ?_
  rintro e w2 ⟨b, rfl, hb, k2⟩
  replace hC := Lib.hid (hC.out.keep_ k2)
  clear k2 cc
  cases b
  · clear hb
    go_wp2_with fail
    refine (awake_any w2).mono ?_
    rintro e w3 ⟨rfl, k3⟩
    replace hC := Lib.hid (hC.out.keep_ k3)
    clear k3
    go_wp2_with fail
    go_ret
    exact ⟨rfl, hC.out.keep⟩
  · obtain ⟨hs1, hs2, hs3, hs4, hs5⟩ := hb.1 rfl
    clear hb
    obtain ⟨n, rfl⟩ : ∃ n : Nat, S = n := ⟨S.toNat, by omega⟩
    have cc := hC.out.blk.cell
    have hz2 := Lib.hid hC.out.blk.lt
    go_wp2_with fail
    refine (disks_any w2 n AO nO cO F Co ep AR nR cR old hlO hcO hmO.out (hC.out.old.mono hC.out.keep.size) (by omega) (by omega) (by omega)).mono ?_
    rintro e w3 ⟨bd, bs, bm, bS, s, rfl, hK⟩
    replace hC := Lib.hid (hC.out.keep_ hK.keep)
    have hz0 := hC.out.keep.size
    replace hK := Lib.hid hK
    have hnew : Hid (w.heap.size < bd ∧ w.heap.size < bs ∧ w.heap.size < bm ∧ w.heap.size < bS) := Lib.hid (by
      have h1 := hK.out.hbd; have h2 := hK.out.hbs; have h3 := hK.out.hbm; have h4 := hK.out.hbS; have h5 := hz2.out
      omega)
    clear cc hz0
    have cc := hC.out.blk.cell
    have hns := hK.out.n
    have HFr := Lib.hid (cfree_any w3 bm bS s n AO nO cO F Co ep AR nR cR hK.out.m hns hF hCo hep)
    go_wp2_with fail
    refine HFr.out.mono ?_
    rintro e w4 ⟨b, rfl, hfree, k4⟩
    replace hC := Lib.hid (hC.out.keep_ k4)
    have hD4 := Lib.hid (hK.out.d.keep k4 (by simp) (by simp))
    have k4' := k4
    clear HFr cc k4
    cases b
    · clear hfree
      go_wp2_with fail
      go_ret
      exact ⟨rfl, hC.out.keep⟩
    · obtain ⟨hok, hfr⟩ := hfree rfl
      have hok2 := hok
      unfold okR at hok2
      obtain ⟨fi, rfl⟩ : ∃ fi : Nat, F = fi := ⟨F.toNat, by omega⟩
      obtain ⟨co, rfl⟩ : ∃ co : Nat, Co = co := ⟨Co.toNat, by omega⟩
      have hok3 : okR s.n fi co ep := hns.symm ▸ hok
      have HN := Lib.hid (lnew_ok [] w4 bd bs s fi co ep hD4.out hep hok3)
      have cc := hC.out.blk.cell
      clear hfree
      replace hfr := Lib.hid hfr
      go_wp2_with fail
      refine HN.out.mono ?_
      rintro e w5 ⟨rfl, hL, k5⟩
      have hbl : Hid (w.heap.size < w4.heap.size) := Lib.hid hC.out.blk.lt
      have hbne : w4.heap.size ≠ bd := by have := hD4.out.d.lt; omega
      have hbne2 : w4.heap.size ≠ bs := by have := hD4.out.m.lt; omega
      replace hC := Lib.hid (hC.out.keep_ k5)
      have hD5 := hD4.out.keep k5 (by simp) (by simp)
      generalize w4.heap.size = bl at *
      have hM5 := Lib.hid ((hK.out.m.keep k4' (by simp) (by simp) (by simp)).keep k5 (by simp) (by simp) (by simp))
      replace hL := Lib.hid hL
      have HQ := Lib.hid (rlnew_any w5 bm fi co ep (by omega) (by omega) (by omega) hep)
      have hD5 := Lib.hid hD5
      clear HN k5 hD4 k4'
      have cc := hC.out.blk.cell
      go_wp2_with fail
      refine HQ.out.mono ?_
      rintro e w6 ⟨rfl, hQ6, k6⟩
      have hbq : Hid (w.heap.size < w5.heap.size) := Lib.hid hC.out.blk.lt
      replace hC := Lib.hid (hC.out.keep_ k6)
      have hD6 := Lib.hid (hD5.out.keep k6 (by simp) (by simp))
      have hL6 := Lib.hid (hL.out.keep k6 (by simp) (by simp))
      have hM6 := Lib.hid (hM5.out.keep k6 (by simp) (by simp) (by simp))
      generalize w5.heap.size = bq at *
      replace hQ6 := Lib.hid hQ6
      clear HQ k6 hD5 hL hM5 cc
      have hL0 : Laid (sec s) fi co ep (encs []) := fun j hj => by
        rw [if_neg (by simp [encs])]
        have := hfr.out j (by omega)
        simpa using this
      replace hL0 := Lib.hid hL0
      have HArm := Lib.hid (arm_any w6 bd bs s (W % 24 + 1) (By % 65) hD6.out (by omega))
      have eW : 0 ≤ W % 24 ∧ W % 24 < 24 := by omega
      have eB : 0 ≤ By % 65 ∧ By % 65 < 65 := by omega
      go_wp2_with fail
      refine HArm.out.mono ?_
      rintro e w7 ⟨rfl, hD7, k7⟩
      obtain ⟨⟨c2, hm1⟩, c3, hS1⟩ := hM6.out.blks
      obtain ⟨⟨c1, hq1⟩, _⟩ := hQ6.out.five
      have hM7 := hM6.out.keep k7 (by simp; exact hm1.ne_ hD6.out.d (by decide)) (by simp; exact hS1.ne_ hD6.out.d (by decide)) (fun g cur hg _ => by simp; exact hg.ne_ hD6.out.d (by decide))
      have hQ7 := Lib.hid (hQ6.out.keep k7 (by simp; exact hq1.ne_ hD6.out.d (by decide)) (by simp))
      have hL7 := Lib.hid (hL6.out.keep k7 (by simp; exact hbne) (fun g cur hg _ => by simp; exact hg.ne_ hD6.out.d (by decide)))
      have hm7 := hm1.keep k7 (by simp; exact hm1.ne_ hD6.out.d (by decide))
      replace hC := Lib.hid (hC.out.keepX k7 (by have := hnew.out; simp; omega))
      have HArm2 := Lib.hid (rarm_any w7 bm bS s (W % 24 + 1) (By % 65) hM7 (by omega))
      replace hD7 := Lib.hid hD7
      replace hm7 := Lib.hid hm7
      clear HArm k7 hD6 hM6 hQ6 hL6 hm1 hS1 hq1 hM7
      go_wp2_with fail
      refine HArm2.out.mono ?_
      rintro e w8 ⟨rfl, hM6, k8⟩
      have hD6 := Lib.hid (hD7.out.keep k8 (by simp; exact hD7.out.d.ne_ hm7.out (by decide)) (by simp; exact hD7.out.m.ne_ hm7.out (by decide)))
      obtain ⟨⟨c1, hq1⟩, _⟩ := hQ7.out.five
      have hQ6 := Lib.hid (hQ7.out.keep k8 (by simp; exact hq1.ne_ hm7.out (by decide)) (by simp))
      obtain ⟨_, _, hlb, _⟩ := hL7.out.ex
      have hL6 := Lib.hid (hL7.out.keep k8 (by simp; exact hlb.ne_ hm7.out (by decide)) (fun g cur hg _ => by simp; exact hg.ne_ hm7.out (by decide)))
      replace hC := Lib.hid (hC.out.keepX k8 (by have := hnew.out; simp; omega))
      replace hM6 := Lib.hid hM6
      have hst : Hid (Run 12 n fi co ep (arm s (W % 24 + 1) (By % 65)) [] 0) := Lib.hid (by
        have hdn := hK.out.down
        have hmem := hK.out.d.len
        refine ⟨?_, ?_, ?_, ?_, ?_, ?_, ?_, ?_⟩
        all_goals first
          | (unfold arm; rw [hdn]; simp; done)
          | (unfold arm; rw [hdn]; simp; exact hns)
          | skip
        · unfold arm; rw [hdn]; simp; rw [hmem, hns]
        · have : sec (arm s (W % 24 + 1) (By % 65)) = sec s := by unfold arm; rw [hdn]; rfl
          rw [this]; exact hL0.out
        · unfold arm; rw [hdn]; simp; exact hK.out.wr0
        · unfold arm; rw [hdn]; simp; have := hK.out.wr1; omega
        · exact Nat.le_refl _
        · simp)
      generalize arm s (W % 24 + 1) (By % 65) = s1 at *
      clear HArm2 k8 hD7 hQ7 hL7 hm7 hq1 hlb hL0
      have hQP : Hid (DRep w8 bd bs s1 ∧ LRep (none : Option Nat).toList w8 bl bd fi co ep (encs []) 0 ∧ MRep (none : Option Nat).toList w8 bm bS s1 ∧ LMod w8 bq bm fi co ep (encs []) 0 none) := Lib.hid ⟨hD6.out, hL6.out, hM6.out, hQ6.out⟩
      have hX : Hid (∀ x ∈ [bl, bd, bs, bq, bm, bS], w.heap.size < x) := Lib.hid (by have := hnew.out; have := hbl.out; have := hbq.out; intro x hx; simp at hx; omega)
      have cc := hC.out.blk.cell
      have hC6 := hC
      clear hL6 hD6 hM6 hQ6 hC
      go_wp2_with fail
      have hlt6 : Hid (∀ x ∈ [bl, bd, bs, bq, bm, bS], x < w8.heap.size) := Lib.hid (by
        obtain ⟨hD, hL, hM, hQ⟩ := hQP.out
        obtain ⟨_, _, hb1, _⟩ := hL.ex
        obtain ⟨⟨c1, hq1⟩, _⟩ := hQ.five
        obtain ⟨⟨c2, hm1⟩, c3, hS1⟩ := hM.blks
        have h1 := hb1.lt; have h2 := hD.d.lt; have h3 := hD.m.lt; have h4 := hq1.lt; have h5 := hm1.lt; have h6 := hS1.lt
        intro x hx; simp at hx; omega)
      have hbase : w.heap.size ≤ w8.heap.size := hC6.out.keep.size
      have hnR : nR ≤ 12 := by omega
      have hn12 : n ≤ 12 := by omega
      have hfc : fi + co ≤ n := by omega
      clear cc
      go_loopw [81] (fun i wr => ∃ (k rc : Nat) (dn : List (List UInt8)) (s' : St) (x : Option Nat), k ≤ nR ∧ i = .int .i64 k ∧ rc ≤ k ∧ Hid (DRep wr bd bs s' ∧ LRep x.toList wr bl bd fi co ep (encs dn) rc ∧ MRep x.toList wr bm bS s' ∧ LMod wr bq bm fi co ep (encs dn) rc x) ∧ Hid (∀ g, x = some g → w8.heap.size ≤ g) ∧ Hid (Run 12 n fi co ep s' dn k) ∧ Hid (Keeps [bl, bd, bs, bq, bm, bS] w8 wr)) (fun i _ => nR - (intOf i).toNat)
      case atStart => exact ⟨0, 0, [], s1, none, Nat.zero_le _, rfl, Nat.zero_le _, hQP, Lib.hid (by simp), hst, Lib.hid (Keeps.refl _ _)⟩
      case round =>
        clear hQP hst
        obtain ⟨k, rc, dn, s', x, hk, rfl, hrc, hP, hxn, hst, hkw⟩ := hrel
        have hCr := Lib.hid (hC6.out.keepX hkw.out hX.out)
        by_cases hlt : k < nR
        · obtain ⟨r, hr⟩ : ∃ r, rs[k]? = some r := ⟨rs[k]'(by omega), List.getElem?_eq_getElem _⟩
          obtain ⟨g, o, Ar, c, rfl, hg, hcell, hrcap, hcm, hrb, hrB⟩ := hCr.out.recs k r hr
          have hr4 := hs5 r (List.mem_of_getElem? hr)
          have hki : (k : Int) < (nR : Int) := by omega
          have hki0 : (0 : Int) ≤ (k : Int) := by omega
          obtain ⟨rl, hrl⟩ : ∃ rl, r.length = rl := ⟨_, rfl⟩
          rw [hrl] at hcell hrcap hr4
          obtain ⟨f, s2, dn2, rc2, hstep, HLd, HMd⟩ := step_ex hst.out hrl hr4 hfc hn12 (by omega) (by omega) hrc
          have hrx : r ≠ [] → ∀ a, Ar = some a → a.block ∉ x.toList ∧ a.block ≠ bq := fun hre a ha => by
            have h1 := hrB hre a ha
            refine ⟨fun hx => ?_, fun hx => ?_⟩
            · have := hxn.out _ (by simpa using hx); omega
            · have := hX.out bq (by simp); omega
          have HM := HMd wr bq bm bS x Ar c hP.out.2.2.1 hP.out.2.2.2 hrb hrcap hcm hrx
          replace HM := Lib.hid HM
          replace HLd := Lib.hid HLd
          replace hstep := Lib.hid hstep
          replace hrb := Lib.hid hrb
          replace hrB := Lib.hid hrB
          replace hrx := Lib.hid hrx
          replace hrl := Lib.hid hrl
          clear HMd
          go_wp2_with fail
          refine HM.out.mono ?_
          rintro e wa ⟨rfl, x', hx', hZ', hMa, hQa, ka⟩
          obtain ⟨hDa, hLa⟩ := pair_m hP.out.1 hP.out.2.1 hP.out.2.2.1 hP.out.2.2.2 ka hx'
          have hxn' : Hid (∀ g, x' = some g → w8.heap.size ≤ g) := Lib.hid (fun g hg => by
            rcases hx' with h | ⟨g', h, hg'⟩
            · exact hxn.out g (h ▸ hg)
            · rw [h] at hg; cases hg; exact Nat.le_trans hkw.out.size hg')
          have hXa : Hid (∀ y ∈ bq :: bm :: bS :: x.toList, w.heap.size ≤ y) := Lib.hid (fun y hy => by
            simp only [List.mem_cons] at hy
            rcases hy with h | h | h | h
            · have := hX.out bq (by simp); omega
            · have := hX.out bm (by simp); omega
            · have := hX.out bS (by simp); omega
            · have := hxn.out y (by simpa using h); omega)
          have hrba : Hid (Bts wa Ar r) := Lib.hid (hrb.out.keep' ka (fun hre a ha hx => by
            have h1 := hrB.out hre a ha
            have := hXa.out _ hx
            omega))
          have hkwa : Hid (Keeps [bl, bd, bs, bq, bm, bS] w8 wa) := Lib.hid ((hkw.out.mono (Y := bl :: bd :: bs :: bq :: bm :: bS :: x.toList) (fun y hy => .inl (by simp at hy ⊢; omega))).trans (ka.mono (fun y hy => .inl (by simp at hy ⊢; rcases hy with h | h | h | h <;> simp [h]))) |>.mono (fun y hy => by
            simp only [List.mem_cons] at hy
            rcases hy with h | h | h | h | h | h | h
            iterate 6 exact .inl (by simp [h])
            exact .inr (hxn.out y (by simpa using h))))
          have hLl : Hid (∃ c0, Blk wa bl 67 c0) := Lib.hid (by obtain ⟨_, _, hb1, _⟩ := hLa.ex; exact ⟨_, hb1⟩)
          have HL := Lib.hid (HLd.out x'.toList wa bl bd bs Ar c hDa hLa hrba.out hrcap hZ')
          have hff0 : (f != f) = false := by simp
          replace hDa := Lib.hid hDa
          replace hLa := Lib.hid hLa
          replace hMa := Lib.hid hMa
          replace hQa := Lib.hid hQa
          clear hP hkw hxn ka HLd hZ' hx' HM
          go_wp2_with fail
          refine HL.out.mono ?_
          rintro e wb ⟨rfl, hDb, hLb, kb⟩
          obtain ⟨c0, hLl0⟩ := hLl.out
          have hMb := Lib.hid (pair_l1 hDa.out hLl0 hMa.out kb)
          have hkb : Hid (Keeps [bl, bd, bs, bq, bm, bS] w8 wb) := Lib.hid (hkwa.out.trans (kb.mono (fun y hy => .inl (by simp at hy ⊢; omega))))
          clear HL
          by_cases hf15 : f = 15
          · have hDx := Lib.hid hDb
            have hMx := hMb
            have hkx := hkb
            have hSn : s2.n = n := by
              rcases hstep.out with ⟨h1, _⟩ | ⟨h1, _⟩ | ⟨_, _, h, _⟩
              · omega
              · omega
              · exact h
            subst hf15
            clear hDb hMb hkb hLb kb hLl0 hDa hLa hMa hQa hstep hff0 hkwa
            have HRs := Lib.hid (restart_any wb bd bs s2 hDx.out)
            have hok4 : okR s2.n fi co ep := by rw [hSn]; exact hok
            replace hok4 := Lib.hid hok4
            replace hSn := Lib.hid hSn
            go_wp2_with fail
            refine HRs.out.mono ?_
            rintro e y1 ⟨rfl, hD1, q1⟩
            have hM1 := Lib.hid (pair_l0 hDx.out hMx.out (q1.mono (fun y hy => .inl (by simp at hy ⊢; simp [hy]))))
            have hk1 : Hid (Keeps [bl, bd, bs, bq, bm, bS] w8 y1) := Lib.hid (hkx.out.trans (q1.mono (fun y hy => .inl (by simp at hy ⊢; simp [hy]))))
            have HRm := Lib.hid (rrestart_any y1 bm bS s2 hM1.out)
            replace hD1 := Lib.hid hD1
            clear HRs q1 hDx hMx hkx
            go_wp2_with fail
            refine HRm.out.mono ?_
            rintro e y2 ⟨rfl, hM2, q2⟩
            obtain ⟨⟨c2, hm1⟩, c3, hS1⟩ := hM1.out.blks
            have hD2 := Lib.hid (hD1.out.keep q2 (by simp; exact hD1.out.d.ne_ hm1 (by decide)) (by simp; exact hD1.out.m.ne_ hm1 (by decide)))
            replace hM2 := Lib.hid hM2
            have hk2 : Hid (Keeps [bl, bd, bs, bq, bm, bS] w8 y2) := Lib.hid (hk1.out.trans (q2.mono (fun y hy => .inl (by simp at hy ⊢; simp [hy]))))
            have cc := (hC6.out.keepX hk2.out hX.out).blk.cell
            have HS := scan_ok y2 bd bs (restart s2) fi co ep hD2.out rfl hok4.out hep
            obtain ⟨RR, hRR⟩ : ∃ RR, recsOf (strm (sec (restart s2)) ep co fi) = RR := ⟨_, rfl⟩
            rw [hRR] at HS
            replace hRR := Lib.hid hRR
            replace HS := Lib.hid HS
            clear HRm hM1 hD1 hk1 q2 hm1 hS1
            go_wp2_with fail
            refine HS.out.mono ?_
            rintro e y3 ⟨v, rfl, ho, q3⟩
            obtain ⟨A1, c1, rfl, _, _⟩ := ho.slice
            have hD3 := hD2.out.keep q3 (by simp) (by simp)
            have hM3 := hM2.out.keep q3 (by simp) (by simp) (by simp)
            have HW := Lib.hid (same_any y3 bd bs bm bS (restart s2) hD3 hM3 rfl)
            have hk3 := Lib.hid (hk2.out.trans q3.nil)
            replace ho := Lib.hid ho
            clear HS hD2 hM2 hk2 cc q3 hD3
            go_wp2_with fail
            refine HW.out.mono ?_
            rintro e y4 ⟨rfl, q4⟩
            have hM4 := hM3.keep q4 (by simp) (by simp) (by simp)
            have hk4 := Lib.hid (hk3.out.trans q4.nil)
            have ho4 := Lib.hid (ho.out.keep q4)
            have cc := (hC6.out.keepX hk4.out hX.out).blk.cell
            have HR := rscan_any y4 bm bS (restart s2) fi co ep hM4 (by show fi + co ≤ s2.n; have := hok4.out; unfold okR at this; omega) hep
            rw [hRR.out] at HR
            replace HR := Lib.hid HR
            clear HW hM3 hk3 q4 hM4 ho
            go_wp2_with fail
            refine HR.out.mono ?_
            rintro e y5 ⟨v2, rfl, ho2, q5⟩
            obtain ⟨A2, c2', rfl, _, _⟩ := ho2.slice
            have HE := Lib.hid (equal_yes y5 A1 A2 RR RR.length c1 c2' rfl (by have h1 := recs_few s2 ep co fi; rw [hRR.out] at h1; omega) (ho4.out.keep q5).rows ho2.rows)
            have hk5 := Lib.hid (hk4.out.trans q5.nil)
            clear HR hk4 ho4 ho2 q5 cc
            go_wp2_with fail
            refine HE.out.mono ?_
            rintro e y6 ⟨rfl, q6⟩
            clear HE
            go_wp2_with fail
            go_ret
            exact ⟨rfl, ((hC6.out.keep.nil.trans hk5.out).trans q6.nil).mono (fun x hx => .inr (by have := hX.out x hx; omega))⟩
          · have hff : Hid (Run 12 n fi co ep s2 dn2 (k + 1) ∧ rc2 ≤ k + 1) := Lib.hid (by
              rcases hstep.out with ⟨h1, h2, h3, h4, _⟩ | ⟨h1, h2, h3, _, h4⟩ | ⟨h, _⟩
              · exact ⟨h4, by omega⟩
              · exact ⟨h4, by omega⟩
              · exact absurd h hf15)
            have hQb := pair_l2 hDa.out hLl0 (hQa.out hf15) kb
            have hPb := Lib.hid (And.intro hDb (And.intro (hLb hf15) (And.intro hMb.out hQb)))
            have hf16 : (f == 15) = false := by simp [hf15]
            have hrun := Lib.hid hff.out.1
            have hrc2 := hff.out.2
            clear hDb hMb hLb kb hLl0 hDa hLa hMa hQa hQb hstep hff0 hkwa hff
            go_wp2_with fail
            go_roundw
            case rel => exact ⟨k + 1, rc2, dn2, s2, x', by omega, by go_num, hrc2, hPb, hxn', hrun, hkb⟩
            case measure => simp [intOf]; omega
        · obtain rfl : k = nR := by omega
          have hDx := Lib.hid hP.out.1
          have hMx := Lib.hid hP.out.2.2.1
          have hkx := hkw
          have hSn : s'.n = n := hst.out.sz
          clear hP hkw
          have HRs := Lib.hid (restart_any wr bd bs s' hDx.out)
          have hok4 : okR s'.n fi co ep := by rw [hSn]; exact hok
          replace hok4 := Lib.hid hok4
          replace hSn := Lib.hid hSn
          go_wp2_with fail
          refine HRs.out.mono ?_
          rintro e y1 ⟨rfl, hD1, q1⟩
          have hM1 := Lib.hid (pair_l0 hDx.out hMx.out (q1.mono (fun y hy => .inl (by simp at hy ⊢; simp [hy]))))
          have hk1 : Hid (Keeps [bl, bd, bs, bq, bm, bS] w8 y1) := Lib.hid (hkx.out.trans (q1.mono (fun y hy => .inl (by simp at hy ⊢; simp [hy]))))
          have HRm := Lib.hid (rrestart_any y1 bm bS s' hM1.out)
          replace hD1 := Lib.hid hD1
          clear HRs q1 hDx hMx hkx
          go_wp2_with fail
          refine HRm.out.mono ?_
          rintro e y2 ⟨rfl, hM2, q2⟩
          obtain ⟨⟨c2, hm1⟩, c3, hS1⟩ := hM1.out.blks
          have hD2 := Lib.hid (hD1.out.keep q2 (by simp; exact hD1.out.d.ne_ hm1 (by decide)) (by simp; exact hD1.out.m.ne_ hm1 (by decide)))
          replace hM2 := Lib.hid hM2
          have hk2 : Hid (Keeps [bl, bd, bs, bq, bm, bS] w8 y2) := Lib.hid (hk1.out.trans (q2.mono (fun y hy => .inl (by simp at hy ⊢; simp [hy]))))
          have cc := (hC6.out.keepX hk2.out hX.out).blk.cell
          have HS := scan_ok y2 bd bs (restart s') fi co ep hD2.out rfl hok4.out hep
          obtain ⟨RR, hRR⟩ : ∃ RR, recsOf (strm (sec (restart s')) ep co fi) = RR := ⟨_, rfl⟩
          rw [hRR] at HS
          replace hRR := Lib.hid hRR
          replace HS := Lib.hid HS
          clear HRm hM1 hD1 hk1 q2 hm1 hS1
          go_wp2_with fail
          refine HS.out.mono ?_
          rintro e y3 ⟨v, rfl, ho, q3⟩
          obtain ⟨A1, c1, rfl, _, _⟩ := ho.slice
          have hD3 := hD2.out.keep q3 (by simp) (by simp)
          have hM3 := hM2.out.keep q3 (by simp) (by simp) (by simp)
          have HW := Lib.hid (same_any y3 bd bs bm bS (restart s') hD3 hM3 rfl)
          have hk3 := Lib.hid (hk2.out.trans q3.nil)
          replace ho := Lib.hid ho
          clear HS hD2 hM2 hk2 cc q3 hD3
          go_wp2_with fail
          refine HW.out.mono ?_
          rintro e y4 ⟨rfl, q4⟩
          have hM4 := hM3.keep q4 (by simp) (by simp) (by simp)
          have hk4 := Lib.hid (hk3.out.trans q4.nil)
          have ho4 := Lib.hid (ho.out.keep q4)
          have cc := (hC6.out.keepX hk4.out hX.out).blk.cell
          have HR := rscan_any y4 bm bS (restart s') fi co ep hM4 (by show fi + co ≤ s'.n; have := hok4.out; unfold okR at this; omega) hep
          rw [hRR.out] at HR
          replace HR := Lib.hid HR
          clear HW hM3 hk3 q4 hM4 ho
          go_wp2_with fail
          refine HR.out.mono ?_
          rintro e y5 ⟨v2, rfl, ho2, q5⟩
          obtain ⟨A2, c2', rfl, _, _⟩ := ho2.slice
          have HE := Lib.hid (equal_yes y5 A1 A2 RR RR.length c1 c2' rfl (by have h1 := recs_few s' ep co fi; rw [hRR.out] at h1; omega) (ho4.out.keep q5).rows ho2.rows)
          have hk5 := Lib.hid (hk4.out.trans q5.nil)
          clear HR hk4 ho4 ho2 q5 cc
          go_wp2_with fail
          refine HE.out.mono ?_
          rintro e y6 ⟨rfl, q6⟩
          clear HE
          go_wp2_with fail
          go_ret
          exact ⟨rfl, ((hC6.out.keep.nil.trans hk5.out).trans q6.nil).mono (fun x hx => .inr (by have := hX.out x hx; omega))⟩
end Go.Proofs.Ytnoaahgjfknnlaa
