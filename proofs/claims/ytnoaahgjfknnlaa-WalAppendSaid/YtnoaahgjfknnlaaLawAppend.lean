/- The walk of the statement WalAppend. -/
import Derived.Test.YtnoaahgjfknnlaaWalS
namespace Go.Proofs.Ytnoaahgjfknnlaa
open Go.RowKit
set_option linter.unusedSimpArgs false
set_option linter.unusedVariables false

set_option maxHeartbeats 6400000 in
set_option maxRecDepth 100000 in
theorem law_append (w : World) (S : Int) (AO : Option Addr) (nO cO : Nat) (F Co : Int) (ep : Nat) (AR : Option Addr) (nR cR : Nat) (old rs : List (List UInt8)) (hlO : old.length = nO) (hcO : nO ≤ cO) (hmO : cO ≤ maxLen) (hO : LstAt w w.heap.size AO old) (hlR : rs.length = nR) (hcR : nR ≤ cR) (hmR : cR ≤ maxLen) (hR : LstAt w w.heap.size AR rs)
    (hF : -9223372036854775808 ≤ F ∧ F ≤ 9223372036854775807) (hCo : -9223372036854775808 ≤ Co ∧ Co ≤ 9223372036854775807) (hep : ep < 4294967296) :
    Calls Try.prog 7 #[.agg (caseV S AO nO cO F Co ep AR nR cR)] w fun e w' => e = .returned (.bool true) ∧ Keeps [] w w' := by
  have hC := Lib.hid (CaseAt.start (S := S) (nO := nO) (cO := cO) (F := F) (Co := Co) (ep := ep) (nR := nR) (cR := cR) hO hR)
  replace hmO := Lib.hid hmO
  replace hmR := Lib.hid hmR
  clear hO hR
  go_enter Try.func7, Try.ntmps7
  go_wp2_with fail
  generalize w.alloc (.cells (caseV S AO nO cO F Co ep AR nR cR) 38) = wx at *
  refine (awake_any wx).mono ?_
  rintro e w1 ⟨rfl, k1⟩
  replace hC := Lib.hid (hC.out.keep_ k1)
  have cc := hC.out.blk.cell
  clear k1
  go_wp2_with fail
  refine (small_any w1 S AO nO cO F Co ep AR nR cR rs hlR hcR hmR.out (hC.out.recs.mono hC.out.keep.size)).mono ?_
  rintro e w2 ⟨b, rfl, hb, k2⟩
  replace hC := Lib.hid (hC.out.keep_ k2)
  clear k2 cc
  cases b
  · clear hb
    go_wp2_with fail
    refine (awake_any w2).mono ?_
    rintro e w3 ⟨rfl, k3⟩
    replace hC := Lib.hid (hC.out.keep_ k3)
    clear k3
    go_wp2_with fail
    go_ret
    exact ⟨rfl, hC.out.keep⟩
  · obtain ⟨hs1, hs2, hs3, hs4, hs5⟩ := hb.1 rfl
    clear hb
    obtain ⟨n, rfl⟩ : ∃ n : Nat, S = n := ⟨S.toNat, by omega⟩
    have cc := hC.out.blk.cell
    have hz2 := Lib.hid hC.out.blk.lt
    go_wp2_with fail
    refine (disks_any w2 n AO nO cO F Co ep AR nR cR old hlO hcO hmO.out (hC.out.old.mono hC.out.keep.size) (by omega) (by omega) (by omega)).mono ?_
    rintro e w3 ⟨bd, bs, bm, bS, s, rfl, hK⟩
    replace hC := Lib.hid (hC.out.keep_ hK.keep)
    have hz0 := hC.out.keep.size
    replace hK := Lib.hid hK
    have hnew : Hid (w.heap.size < bd ∧ w.heap.size < bs ∧ w.heap.size < bm ∧ w.heap.size < bS) := Lib.hid (by
      have h1 := hK.out.hbd; have h2 := hK.out.hbs; have h3 := hK.out.hbm; have h4 := hK.out.hbS; have h5 := hz2.out
      omega)
    clear cc hz0
    have cc := hC.out.blk.cell
    have hns := hK.out.n
    have HFr := Lib.hid (cfree_any w3 bm bS s n AO nO cO F Co ep AR nR cR hK.out.m hns hF hCo hep)
    go_wp2_with fail
    refine HFr.out.mono ?_
    rintro e w4 ⟨b, rfl, hfree, k4⟩
    replace hC := Lib.hid (hC.out.keep_ k4)
    have hD4 := Lib.hid (hK.out.d.keep k4 (by simp) (by simp))
    have k4' := k4
    clear HFr cc k4
    cases b
    · clear hfree
      go_wp2_with fail
      go_ret
      exact ⟨rfl, hC.out.keep⟩
    · obtain ⟨hok, hfr⟩ := hfree rfl
      have hok2 := hok
      unfold okR at hok2
      obtain ⟨fi, rfl⟩ : ∃ fi : Nat, F = fi := ⟨F.toNat, by omega⟩
      obtain ⟨co, rfl⟩ : ∃ co : Nat, Co = co := ⟨Co.toNat, by omega⟩
      have hok3 : okR s.n fi co ep := hns.symm ▸ hok
      have HN := Lib.hid (lnew_ok [] w4 bd bs s fi co ep hD4.out hep hok3)
      have cc := hC.out.blk.cell
      clear hfree
      replace hfr := Lib.hid hfr
      go_wp2_with fail
      refine HN.out.mono ?_
      rintro e w5 ⟨rfl, hL, k5⟩
      have hbl : Hid (w.heap.size < w4.heap.size) := Lib.hid hC.out.blk.lt
      have hbne : w4.heap.size ≠ bd := by have := hD4.out.d.lt; omega
      have hbne2 : w4.heap.size ≠ bs := by have := hD4.out.m.lt; omega
      replace hC := Lib.hid (hC.out.keep_ k5)
      have hD5 := hD4.out.keep k5 (by simp) (by simp)
      generalize w4.heap.size = bl at *
      have hM5 := Lib.hid ((hK.out.m.keep k4' (by simp) (by simp) (by simp)).keep k5 (by simp) (by simp) (by simp))
      replace hL := Lib.hid hL
      have HQ := Lib.hid (rlnew_any w5 bm fi co ep (by omega) (by omega) (by omega) hep)
      have hD5 := Lib.hid hD5
      clear HN k5 hD4 k4'
      have cc := hC.out.blk.cell
      go_wp2_with fail
      refine HQ.out.mono ?_
      rintro e w6 ⟨rfl, hQ6, k6⟩
      have hbq : Hid (w.heap.size < w5.heap.size) := Lib.hid hC.out.blk.lt
      replace hC := Lib.hid (hC.out.keep_ k6)
      have hD6 := Lib.hid (hD5.out.keep k6 (by simp) (by simp))
      have hL6 := Lib.hid (hL.out.keep k6 (by simp) (by simp))
      have hM6 := Lib.hid (hM5.out.keep k6 (by simp) (by simp) (by simp))
      generalize w5.heap.size = bq at *
      replace hQ6 := Lib.hid hQ6
      clear HQ k6 hD5 hL hM5 cc
      have hL0 : Laid (sec s) fi co ep (encs []) := fun j hj => by
        rw [if_neg (by simp [encs])]
        have := hfr.out j (by omega)
        simpa using this
      replace hL0 := Lib.hid hL0
      have hst : Hid (Run 12 n fi co ep s [] 0) := Lib.hid ⟨hK.out.down, hns, by rw [hK.out.d.len, hns], hL0.out, hK.out.wr0, by have := hK.out.wr1; omega, Nat.le_refl _, by simp⟩
      have hleft : s.left = 0 := hK.out.left
      have hQP : Hid (DRep w6 bd bs s ∧ LRep (none : Option Nat).toList w6 bl bd fi co ep (encs []) 0 ∧ MRep (none : Option Nat).toList w6 bm bS s ∧ LMod w6 bq bm fi co ep (encs []) 0 none) := Lib.hid ⟨hD6.out, hL6.out, hM6.out, hQ6.out⟩
      have hX : Hid (∀ x ∈ [bl, bd, bs, bq, bm, bS], w.heap.size < x) := Lib.hid (by have := hnew.out; have := hbl.out; have := hbq.out; intro x hx; simp at hx; omega)
      have cc := hC.out.blk.cell
      have hC6 := hC
      clear hL6 hD6 hM6 hQ6 hC
      go_wp2_with fail
      have hlt6 : Hid (∀ x ∈ [bl, bd, bs, bq, bm, bS], x < w6.heap.size) := Lib.hid (by
        obtain ⟨hD, hL, hM, hQ⟩ := hQP.out
        obtain ⟨_, _, hb1, _⟩ := hL.ex
        obtain ⟨⟨c1, hq1⟩, _⟩ := hQ.five
        obtain ⟨⟨c2, hm1⟩, c3, hS1⟩ := hM.blks
        have h1 := hb1.lt; have h2 := hD.d.lt; have h3 := hD.m.lt; have h4 := hq1.lt; have h5 := hm1.lt; have h6 := hS1.lt
        intro x hx; simp at hx; omega)
      have hbase : w.heap.size ≤ w6.heap.size := hC6.out.keep.size
      have hnR : nR ≤ 12 := by omega
      have hn12 : n ≤ 12 := by omega
      have hfc : fi + co ≤ n := by omega
      clear cc
      have hdn0 := Lib.hid (DoneAt.nil w6.heap.size w.heap.size w6)
      obtain ⟨i0, hi, hz0, hz1, hz2x⟩ := info_parts info34
      replace hi := Lib.hid hi
      replace hz0 := Lib.hid hz0
      replace hz1 := Lib.hid hz1
      replace hz2x := Lib.hid hz2x
      go_loopw [8, 60] (fun dv i wr => ∃ (k rc : Nat) (dn : List (List UInt8)) (s' : St) (x : Option Nat), k ≤ nR ∧ i = .int .i64 k ∧ rc ≤ k ∧ s'.left = 0 ∧ Hid (DRep wr bd bs s' ∧ LRep x.toList wr bl bd fi co ep (encs dn) rc ∧ MRep x.toList wr bm bS s' ∧ LMod wr bq bm fi co ep (encs dn) rc x) ∧ Hid (∀ g, x = some g → w6.heap.size ≤ g) ∧ Hid (Run 12 n fi co ep s' dn k) ∧ Hid (DoneAt w6.heap.size w.heap.size wr dv dn) ∧ Hid (Keeps [bl, bd, bs, bq, bm, bS] w6 wr)) (fun _ i _ => nR - (intOf i).toNat)
      case atStart => exact ⟨0, 0, [], s, none, Nat.zero_le _, rfl, Nat.zero_le _, hleft, hQP, Lib.hid (by simp), hst, hdn0, Lib.hid (Keeps.refl _ _)⟩
      case round =>
        clear hQP hst hdn0 hL0
        obtain ⟨k, rc, dn, s', x, hk, rfl, hrc, hsl, hP, hxn, hst, hdone, hkw⟩ := hrel
        have hCr := Lib.hid (hC6.out.keepX hkw.out hX.out)
        by_cases hlt : k < nR
        · obtain ⟨r, hr⟩ : ∃ r, rs[k]? = some r := ⟨rs[k]'(by omega), List.getElem?_eq_getElem _⟩
          obtain ⟨g, o, Ar, c, rfl, hg, hcell, hrcap, hcm, hrb, hrB⟩ := hCr.out.recs k r hr
          have hr4 := hs5 r (List.mem_of_getElem? hr)
          have hki : (k : Int) < (nR : Int) := by omega
          have hki0 : (0 : Int) ≤ (k : Int) := by omega
          obtain ⟨rl, hrl⟩ : ∃ rl, r.length = rl := ⟨_, rfl⟩
          rw [hrl] at hcell hrcap hr4
          obtain ⟨f, s2, dn2, rc2, hstep, HLd, HMd⟩ := step_ex hst.out hrl hr4 hfc hn12 (by omega) (by omega) hrc
          have hrx : r ≠ [] → ∀ a, Ar = some a → a.block ∉ x.toList ∧ a.block ≠ bq := fun hre a ha => by
            have h1 := hrB hre a ha
            refine ⟨fun hx => ?_, fun hx => ?_⟩
            · have := hxn.out _ (by simpa using hx); omega
            · have := hX.out bq (by simp); omega
          have HM := HMd wr bq bm bS x Ar c hP.out.2.2.1 hP.out.2.2.2 hrb hrcap hcm hrx
          replace HM := Lib.hid HM
          replace HLd := Lib.hid HLd
          replace hstep := Lib.hid hstep
          replace hrb := Lib.hid hrb
          replace hrB := Lib.hid hrB
          replace hrx := Lib.hid hrx
          replace hrl := Lib.hid hrl
          clear HMd
          go_wp2_with fail
          refine HM.out.mono ?_
          rintro e wa ⟨rfl, x', hx', hZ', hMa, hQa, ka⟩
          obtain ⟨hDa, hLa⟩ := pair_m hP.out.1 hP.out.2.1 hP.out.2.2.1 hP.out.2.2.2 ka hx'
          have hxn' : Hid (∀ g, x' = some g → w6.heap.size ≤ g) := Lib.hid (fun g hg => by
            rcases hx' with h | ⟨g', h, hg'⟩
            · exact hxn.out g (h ▸ hg)
            · rw [h] at hg; cases hg; exact Nat.le_trans hkw.out.size hg')
          have hXa : Hid (∀ y ∈ bq :: bm :: bS :: x.toList, w.heap.size ≤ y) := Lib.hid (fun y hy => by
            simp only [List.mem_cons] at hy
            rcases hy with h | h | h | h
            · have := hX.out bq (by simp); omega
            · have := hX.out bm (by simp); omega
            · have := hX.out bS (by simp); omega
            · have := hxn.out y (by simpa using h); omega)
          have hrba : Hid (Bts wa Ar r) := Lib.hid (hrb.out.keep' ka (fun hre a ha hx => by
            have h1 := hrB.out hre a ha
            have := hXa.out _ hx
            omega))
          have hkwa : Hid (Keeps [bl, bd, bs, bq, bm, bS] w6 wa) := Lib.hid ((hkw.out.mono (Y := bl :: bd :: bs :: bq :: bm :: bS :: x.toList) (fun y hy => .inl (by simp at hy ⊢; omega))).trans (ka.mono (fun y hy => .inl (by simp at hy ⊢; rcases hy with h | h | h | h <;> simp [h]))) |>.mono (fun y hy => by
            simp only [List.mem_cons] at hy
            rcases hy with h | h | h | h | h | h | h
            iterate 6 exact .inl (by simp [h])
            exact .inr (hxn.out y (by simpa using h))))
          have hLl : Hid (∃ c0, Blk wa bl 67 c0) := Lib.hid (by obtain ⟨_, _, hb1, _⟩ := hLa.ex; exact ⟨_, hb1⟩)
          have hdo : ∀ g, u8.ownBlock = some g → g ∉ bq :: bm :: bS :: x.toList := hdone.out.apart (fun y hy => by
            simp only [List.mem_cons] at hy
            rcases hy with h | h | h | h
            · exact .inl (by rw [h]; exact hlt6.out bq (by simp))
            · exact .inl (by rw [h]; exact hlt6.out bm (by simp))
            · exact .inl (by rw [h]; exact hlt6.out bS (by simp))
            · exact .inr (hP.out.2.2.2.five.2 y (by simpa using h)))
          have hdoneA := Lib.hid (hdone.out.keep ka hdo hXa.out)
          have hff : Hid ((f = 0 ∧ dn2 = dn ++ [r] ∧ rc2 = rc + 1 ∧ Run 12 n fi co ep s2 dn2 (k + 1)) ∨ (f = 16 ∧ dn2 = dn ∧ rc2 = rc ∧ Run 12 n fi co ep s2 dn2 (k + 1))) := Lib.hid (by
            rcases hstep.out with ⟨h1, h2, h3, h4, _⟩ | ⟨h1, h2, h3, _, h4⟩ | ⟨_, h, _⟩
            · exact .inl ⟨h1, h2, h3, h4⟩
            · exact .inr ⟨h1, h2, h3, h4⟩
            · exact absurd hsl h)
          have hs2l : s2.left = 0 := by
            rcases hstep.out with ⟨_, _, _, _, h⟩ | ⟨_, _, _, h, _⟩ | ⟨_, h, _⟩
            · exact h hsl
            · rw [h]; exact hsl
            · exact absurd hsl h
          have hf15 : Hid (f ≠ 15) := Lib.hid (by rcases hff.out with ⟨h, _⟩ | ⟨h, _⟩ <;> omega)
          have hrc2 : rc2 ≤ k + 1 := by rcases hff.out with ⟨_, _, h, _⟩ | ⟨_, _, h, _⟩ <;> omega
          replace hQa := Lib.hid (hQa hf15.out)
          have hc5 : Hid (wa.cell? ⟨bq, 5, none⟩ = some (.int .i64 rc2)) := Lib.hid (by obtain ⟨sv, b1, _⟩ := hQa.out.ex; exact (b1.cell 5).trans rfl)
          have hbqn : Hid (bq ∉ [bl, bd, bs]) := Lib.hid (by
            obtain ⟨⟨c1, hq1⟩, _⟩ := hQa.out.five
            obtain ⟨c0, hl0⟩ := hLl.out
            simp
            exact ⟨hq1.ne_ hl0 (by decide), hq1.ne_ hDa.d (by decide), hq1.ne_ hDa.m (by decide)⟩)
          have HL := Lib.hid (HLd.out x'.toList wa.drew bl bd bs Ar c (hDa.keep (Keeps.refl [] wa).drew (by simp) (by simp)) (hLa.keep (Keeps.refl [] wa).drew (by simp) (by simp)) (hrba.out.drew_) hrcap hZ')
          replace hDa := Lib.hid hDa
          replace hLa := Lib.hid hLa
          replace hMa := Lib.hid hMa
          have hff0 : (f != f) = false := by simp
          obtain ⟨fr, hfr3⟩ : ∃ fr, freeOf (59 * (co : Int) - ((encs dn2).length : Int)) = fr := ⟨_, rfl⟩
          have hfr2 := Lib.hid hfr3
          have hfr4 : (fr != fr) = false := by simp
          have hrr : ((rc2 : Int) != (rc2 : Int)) = false := by simp
          clear hP hkw hxn ka HLd hZ' hdone hsl hstep hfr3 hx' HM hdo
          go_wp2_with fail
          refine wp_region_I (S := (fun w' => w'.cell? ⟨bq, 5, none⟩ = some (.int .i64 rc2))) (n := 21) (by kernel_rfl) ?_
          have HS : wa.drew.cell? ⟨bq, 5, none⟩ = some (.int .i64 rc2) := hc5.out
          refine wpAnyI_takeN (i := 0) (v := ?_) (by kernel_rfl) rfl (by kernel_rfl) (by kernel_rfl) (by kernel_rfl) (fun _ _ _ h => h) HS (Or.inl ⟨by rfl, ?_⟩) ?_
          rotate_left
          · (intro w hSw; obtain q1 := hSw; go_simp; try with_reducible rfl)
          try simp only [Act.put, List.getElem_toArray, List.getElem_cons_succ, List.getElem_cons_zero, List.setIfInBounds_toArray, List.set_cons_zero, List.set_cons_succ]
          refine wpAnyI_takeN (i := 1) (v := ?_) (by kernel_rfl) rfl (by kernel_rfl) (by kernel_rfl) (by kernel_rfl) (fun _ _ _ h => h) HS (Or.inl ⟨by rfl, ?_⟩) ?_
          rotate_left
          · (intro w hSw; obtain q1 := hSw; go_simp; try with_reducible rfl)
          try simp only [Act.put, List.getElem_toArray, List.getElem_cons_succ, List.getElem_cons_zero, List.setIfInBounds_toArray, List.set_cons_zero, List.set_cons_succ]
          refine wpAnyI_takeN (i := 3) (v := ?_) (by kernel_rfl) rfl (by kernel_rfl) (by kernel_rfl) (by kernel_rfl) (fun _ _ _ h => h) HS (Or.inl ⟨by rfl, ?_⟩) ?_
          rotate_left
          · (intro w hSw; obtain q1 := hSw; go_simp; try with_reducible rfl)
          try simp only [Act.put, List.getElem_toArray, List.getElem_cons_succ, List.getElem_cons_zero, List.setIfInBounds_toArray, List.set_cons_zero, List.set_cons_succ]
          refine wpAnyI_one (i := 2) rfl (by kernel_rfl) (fun K hK => ?_)
          dsimp only [List.getElem_toArray, List.getElem_cons_succ, List.getElem_cons_zero]
          go_simp
          go_wp2_with ((refine HL.out.mono ?_); rintro e wb ⟨rfl, hDb, hLb, kb⟩)
          have kab : Keeps [bl, bd, bs] wa wb := (Keeps.refl _ _).drew.trans kb
          have HS := kab.cellEq hc5.out hbqn.out
          obtain ⟨c0, hLl0⟩ := hLl.out
          have hMb := Lib.hid (pair_l1 hDa.out hLl0 hMa.out kab)
          have hQb := Lib.hid (pair_l2 hDa.out hLl0 hQa.out kab)
          replace hLb := Lib.hid (hLb hf15.out)
          replace hDb := Lib.hid hDb
          replace kab := Lib.hid kab
          clear kb hLl0
          refine hK _ _ (Or.inr HS) ?_
          clear hK K
          try simp only [Act.put, List.getElem_toArray, List.getElem_cons_succ, List.getElem_cons_zero, List.setIfInBounds_toArray, List.set_cons_zero, List.set_cons_succ]
          refine wpAnyI_takeN (i := 4) (v := ?_) (by kernel_rfl) rfl (by kernel_rfl) (by kernel_rfl) (by kernel_rfl) (fun _ _ _ h => h) HS (Or.inl ⟨by rfl, ?_⟩) ?_
          rotate_left
          · (intro w hSw; obtain q1 := hSw; go_simp; try with_reducible rfl)
          try simp only [Act.put, List.getElem_toArray, List.getElem_cons_succ, List.getElem_cons_zero, List.setIfInBounds_toArray, List.set_cons_zero, List.set_cons_succ]
          refine wpAnyI_takeN (i := 5) (v := ?_) (by kernel_rfl) rfl (by kernel_rfl) (by kernel_rfl) (by kernel_rfl) (fun _ _ _ h => h) HS (Or.inl ⟨by rfl, ?_⟩) ?_
          rotate_left
          · (intro w hSw; obtain q1 := hSw; go_simp; try with_reducible rfl)
          try simp only [Act.put, List.getElem_toArray, List.getElem_cons_succ, List.getElem_cons_zero, List.setIfInBounds_toArray, List.set_cons_zero, List.set_cons_succ]
          refine wpAnyI_takeN (i := 6) (v := ?_) (by kernel_rfl) rfl (by kernel_rfl) (by kernel_rfl) (by kernel_rfl) (fun _ _ _ h => h) HS (Or.inl ⟨by rfl, ?_⟩) ?_
          rotate_left
          · (intro w hSw; obtain q1 := hSw; go_simp; try with_reducible rfl)
          try simp only [Act.put, List.getElem_toArray, List.getElem_cons_succ, List.getElem_cons_zero, List.setIfInBounds_toArray, List.set_cons_zero, List.set_cons_succ]
          refine wpAnyI_takeN (i := 8) (v := ?_) (by kernel_rfl) rfl (by kernel_rfl) (by kernel_rfl) (by kernel_rfl) (fun _ _ _ h => h) HS (Or.inl ⟨by rfl, ?_⟩) ?_
          rotate_left
          · (intro w hSw; obtain q1 := hSw; go_simp; try with_reducible rfl)
          try simp only [Act.put, List.getElem_toArray, List.getElem_cons_succ, List.getElem_cons_zero, List.setIfInBounds_toArray, List.set_cons_zero, List.set_cons_succ]
          refine wpAnyI_one (i := 7) rfl (by kernel_rfl) (fun K hK => ?_)
          dsimp only [List.getElem_toArray, List.getElem_cons_succ, List.getElem_cons_zero]
          go_simp
          go_wp2_with ((refine (free_any _ _ bl bd fi co ep rc2 (encs dn2) hLb.out).mono ?_); rintro e wf ⟨rfl, m1, rfl⟩)
          have kf := (Keeps.refl [] wb).drewN m1
          replace hDb := Lib.hid (hDb.out.keep kf (by simp) (by simp))
          replace hLb := Lib.hid (hLb.out.keep kf (by simp) (by simp))
          replace hMb := Lib.hid (hMb.out.keep kf (by simp) (by simp) (by simp))
          replace hQb := Lib.hid (hQb.out.keep kf (by simp) (by simp))
          replace kab := Lib.hid (kab.out.trans kf.nil)
          replace HS := kf.cellEq HS (by simp)
          clear kf
          generalize wb.drewN m1 = wf at *
          rw [hfr2.out]
          refine hK _ _ (Or.inr HS) ?_
          clear hK K
          try simp only [Act.put, List.getElem_toArray, List.getElem_cons_succ, List.getElem_cons_zero, List.setIfInBounds_toArray, List.set_cons_zero, List.set_cons_succ]
          refine wpAnyI_one (i := 9) rfl (by kernel_rfl) (fun K hK => ?_)
          dsimp only [List.getElem_toArray, List.getElem_cons_succ, List.getElem_cons_zero]
          go_simp
          go_wp2_with ((refine (rfree_any _ bq bm fi co ep rc2 (encs dn2) x' hQb.out).mono ?_); rintro e wh ⟨rfl, m2, rfl⟩)
          have kf := (Keeps.refl [] wf).drewN m2
          replace hDb := Lib.hid (hDb.out.keep kf (by simp) (by simp))
          replace hLb := Lib.hid (hLb.out.keep kf (by simp) (by simp))
          replace hMb := Lib.hid (hMb.out.keep kf (by simp) (by simp) (by simp))
          replace hQb := Lib.hid (hQb.out.keep kf (by simp) (by simp))
          replace kab := Lib.hid (kab.out.trans kf.nil)
          replace HS := kf.cellEq HS (by simp)
          clear kf
          generalize wf.drewN m2 = wh at *
          rw [hfr2.out]
          refine hK _ _ (Or.inr HS) ?_
          clear hK K
          try simp only [Act.put, List.getElem_toArray, List.getElem_cons_succ, List.getElem_cons_zero, List.setIfInBounds_toArray, List.set_cons_zero, List.set_cons_succ]
          refine wpAnyI_takeN (i := 10) (v := ?_) (by kernel_rfl) rfl (by kernel_rfl) (by kernel_rfl) (by kernel_rfl) (fun _ _ _ h => h) HS (Or.inl ⟨by rfl, ?_⟩) ?_
          rotate_left
          · (intro w hSw; obtain q1 := hSw; go_simp; try with_reducible rfl)
          try simp only [Act.put, List.getElem_toArray, List.getElem_cons_succ, List.getElem_cons_zero, List.setIfInBounds_toArray, List.set_cons_zero, List.set_cons_succ]
          refine wpAnyI_takeN (i := 11) (v := ?_) (by kernel_rfl) rfl (by kernel_rfl) (by kernel_rfl) (by kernel_rfl) (fun _ _ _ h => h) HS (Or.inl ⟨by rfl, ?_⟩) ?_
          rotate_left
          · (intro w hSw; obtain q1 := hSw; go_simp; try with_reducible rfl)
          try simp only [Act.put, List.getElem_toArray, List.getElem_cons_succ, List.getElem_cons_zero, List.setIfInBounds_toArray, List.set_cons_zero, List.set_cons_succ]
          refine wpAnyI_takeN (i := 12) (v := ?_) (by kernel_rfl) rfl (by kernel_rfl) (by kernel_rfl) (by kernel_rfl) (fun _ _ _ h => h) HS (Or.inl ⟨by rfl, ?_⟩) ?_
          rotate_left
          · (intro w hSw; obtain q1 := hSw; go_simp; try with_reducible rfl)
          try simp only [Act.put, List.getElem_toArray, List.getElem_cons_succ, List.getElem_cons_zero, List.setIfInBounds_toArray, List.set_cons_zero, List.set_cons_succ]
          refine wpAnyI_takeN (i := 13) (v := ?_) (by kernel_rfl) rfl (by kernel_rfl) (by kernel_rfl) (by kernel_rfl) (fun _ _ _ h => h) HS (Or.inl ⟨by rfl, ?_⟩) ?_
          rotate_left
          · (intro w hSw; obtain q1 := hSw; go_simp; try with_reducible rfl)
          try simp only [Act.put, List.getElem_toArray, List.getElem_cons_succ, List.getElem_cons_zero, List.setIfInBounds_toArray, List.set_cons_zero, List.set_cons_succ]
          refine wpAnyI_takeN (i := 15) (v := ?_) (by kernel_rfl) rfl (by kernel_rfl) (by kernel_rfl) (by kernel_rfl) (fun _ _ _ h => h) HS (Or.inl ⟨by rfl, ?_⟩) ?_
          rotate_left
          · (intro w hSw; obtain q1 := hSw; go_simp; try with_reducible rfl)
          try simp only [Act.put, List.getElem_toArray, List.getElem_cons_succ, List.getElem_cons_zero, List.setIfInBounds_toArray, List.set_cons_zero, List.set_cons_succ]
          refine wpAnyI_takeN (i := 16) (v := ?_) (by kernel_rfl) rfl (by kernel_rfl) (by kernel_rfl) (by kernel_rfl) (fun _ _ _ h => h) HS (Or.inl ⟨by rfl, ?_⟩) ?_
          rotate_left
          · (intro w hSw; obtain q1 := hSw; go_simp; try with_reducible rfl)
          try simp only [Act.put, List.getElem_toArray, List.getElem_cons_succ, List.getElem_cons_zero, List.setIfInBounds_toArray, List.set_cons_zero, List.set_cons_succ]
          refine wpAnyI_takeN (i := 17) (v := ?_) (by kernel_rfl) rfl (by kernel_rfl) (by kernel_rfl) (by kernel_rfl) (fun _ _ _ h => h) HS (Or.inl ⟨by rfl, ?_⟩) ?_
          rotate_left
          · (intro w hSw; obtain q1 := hSw; go_simp; try with_reducible rfl)
          try simp only [Act.put, List.getElem_toArray, List.getElem_cons_succ, List.getElem_cons_zero, List.setIfInBounds_toArray, List.set_cons_zero, List.set_cons_succ]
          refine wpAnyI_takeN (i := 18) (v := ?_) (by kernel_rfl) rfl (by kernel_rfl) (by kernel_rfl) (by kernel_rfl) (fun _ _ _ h => h) HS (Or.inl ⟨by rfl, ?_⟩) ?_
          rotate_left
          · (intro w hSw; obtain q1 := hSw; go_simp; try with_reducible rfl)
          try simp only [Act.put, List.getElem_toArray, List.getElem_cons_succ, List.getElem_cons_zero, List.setIfInBounds_toArray, List.set_cons_zero, List.set_cons_succ]
          refine wpAnyI_one (i := 14) rfl (by kernel_rfl) (fun K hK => ?_)
          dsimp only [List.getElem_toArray, List.getElem_cons_succ, List.getElem_cons_zero]
          go_simp
          go_wp2_with ((refine (records_any _ _ bl bd fi co ep rc2 (encs dn2) hLb.out).mono ?_); rintro e wi ⟨rfl, rfl⟩)
          refine hK _ _ (Or.inr HS) ?_
          clear hK K
          try simp only [Act.put, List.getElem_toArray, List.getElem_cons_succ, List.getElem_cons_zero, List.setIfInBounds_toArray, List.set_cons_zero, List.set_cons_succ]
          refine wpAnyI_takeN (i := 19) (v := ?_) (by kernel_rfl) rfl (by kernel_rfl) (by kernel_rfl) (by kernel_rfl) (fun _ _ _ h => h) HS (Or.inl ⟨by rfl, ?_⟩) ?_
          rotate_left
          · (intro w hSw; obtain q1 := hSw; go_simp; try with_reducible rfl)
          try simp only [Act.put, List.getElem_toArray, List.getElem_cons_succ, List.getElem_cons_zero, List.setIfInBounds_toArray, List.set_cons_zero, List.set_cons_succ]
          refine wpAnyI_takeN (i := 20) (v := ?_) (by kernel_rfl) rfl (by kernel_rfl) (by kernel_rfl) (by kernel_rfl) (fun _ _ _ h => h) HS (Or.inl ⟨by rfl, ?_⟩) ?_
          rotate_left
          · (intro w hSw; obtain q1 := hSw; go_simp; try with_reducible rfl)
          try simp only [Act.put, List.getElem_toArray, List.getElem_cons_succ, List.getElem_cons_zero, List.setIfInBounds_toArray, List.set_cons_zero, List.set_cons_succ]
          refine wpAnyI_done (by kernel_rfl) ?_ _
          have hkb := Lib.hid (hkwa.out.trans (kab.out.mono (fun y hy => .inl (by simp at hy ⊢; omega))))
          have hdoneB := Lib.hid (hdoneA.out.keep kab.out (hdoneA.out.apart (fun y hy => .inl (hlt6.out y (by simp at hy ⊢; omega)))) (fun y hy => by have := hX.out y (by simp at hy ⊢; omega); omega))
          have hrbb : Hid (Bts wh Ar r) := Lib.hid (hrba.out.keep' kab.out (fun hre a ha hx => by
            have h1 := hrB.out hre a ha
            have := hX.out a.block (by simp at hx ⊢; omega)
            omega))
          have hPb : Hid (DRep wh bd bs s2 ∧ LRep x'.toList wh bl bd fi co ep (encs dn2) rc2 ∧ MRep x'.toList wh bm bS s2 ∧ LMod wh bq bm fi co ep (encs dn2) rc2 x') := Lib.hid ⟨hDb.out, hLb.out, hMb.out, hQb.out⟩
          clear hDb hLb hMb hQb kab HS hc5 hDa hLa hMa hQa hkwa hdoneA hrba HL hff0 hfr4 hrr hfr2 hCr
          rcases hff.out with ⟨rfl, hd2, hr2, hrun⟩ | ⟨rfl, hd2, hr2, hrun⟩
          · obtain ⟨vs, hv1, hv2⟩ := hdoneB.out
            replace hv1 := Lib.hid hv1
            replace hv2 := Lib.hid hv2
            have hfew := hrun.few
            have hdnl : dn.length ≤ 12 := by rw [hd2, List.length_append, List.length_singleton] at hfew; omega
            replace hd2 := Lib.hid hd2
            replace hrun := Lib.hid hrun
            clear hff hf15 hr2 hfew hdoneB
            go_wp2_with (at_builtin; refine wpList_append_own _ rfl (.tmp 90) (.tmp 92) 36 rfl w6.heap.size 34 i0 (.slice none 0 0) 1 24 Try.underlying36 hi.out hz0.out hz1.out hz2x.out rfl (by decide) u8 dn.length vs rfl (hv1.out.alloc _) ⟨wh.heap.size, 0, none⟩ 1 1 [.slice Ar rl c] rfl rfl (World.news_of_block (cs := #[.slice Ar rl c]) (t := 34) (fr := (0, 0)) (heap_alloc_new wh _)) (by simp [Value.oneCell']) ?_ ?_ ?_ ?_; (unfold maxLen; omega); omega; (have := hkb.out.size; simp; omega); intro v' wj ho1 hgr hn1; have ho := Lib.hid (DoneAt.push hrl.out hbase hv2.out hv1.out hrbb.out hrB.out ho1 hgr); have kj := Lib.hid (keep_grown2 (hv1.out.alloc (.cells #[.slice Ar rl c] 34)) (hkb.out.alloc _) (Nat.le_refl _) hgr); have kj2 := Lib.hid (keeps_of_grown (w := wh) (hv1.out.alloc (.cells #[.slice Ar rl c] 34)) hgr ((Keeps.refl [] wh).alloc _)); clear hn1 ho1 hgr)
            have hne : ∀ g, g ∈ u8.ownBlock.toList → w6.heap.size ≤ g ∧ ∃ cur, Blk wh g 34 cur := fun g hg => own_blk hv1.out (by simpa using hg)
            have hnX : ∀ y ∈ [bl, bd, bs, bq, bm, bS], y ∉ u8.ownBlock.toList := fun y hy hx => by
              have h1 := (hne y hx).1
              have h2 := hlt6.out y hy
              omega
            have hn5 : ∀ g cur, Blk wh g 5 cur → g ∉ u8.ownBlock.toList := fun g cur hg hx => by
              obtain ⟨_, cur2, hc⟩ := hne _ hx
              exact hg.ne_ hc (by decide) rfl
            obtain ⟨hDb, hLb, hMb, hQb⟩ := hPb.out
            have hPj : Hid (DRep wj bd bs s2 ∧ LRep x'.toList wj bl bd fi co ep (encs dn2) rc2 ∧ MRep x'.toList wj bm bS s2 ∧ LMod wj bq bm fi co ep (encs dn2) rc2 x') := Lib.hid
              ⟨hDb.keep kj2.out (hnX _ (by simp)) (hnX _ (by simp)), hLb.keep kj2.out (hnX _ (by simp)) (fun g cur hg _ => hn5 g cur hg), hMb.keep kj2.out (hnX _ (by simp)) (hnX _ (by simp)) (fun g cur hg _ => hn5 g cur hg),
                hQb.keep kj2.out (hnX _ (by simp)) (fun g hg => by obtain ⟨cur, hc⟩ := hQb.five.2 g hg; exact hn5 g cur hc)⟩
            rw [← hd2.out] at ho
            go_roundw
            case rel => exact ⟨k + 1, rc2, dn2, s2, x', by omega, by go_num, hrc2, hs2l, hPj, hxn', hrun, ho, kj⟩
            case measure => simp [intOf]; omega
          · rw [← hd2] at hdoneB
            replace hrun := Lib.hid hrun
            clear hff hf15 hr2 hd2
            go_wp2_with fail
            go_roundw
            case rel => exact ⟨k + 1, rc2, dn2, s2, x', by omega, by go_num, hrc2, hs2l, hPb, hxn', hrun, hdoneB, hkb⟩
            case measure => simp [intOf]; omega
        · obtain rfl : k = nR := by omega
          have hS : recsOf (strm (sec s') ep co fi) = dn := by
            rw [strm_of hst.out.laid hP.out.2.1.len hep]
            have := recsOf_encs dn [] (fun x hx => by have := hst.out.small x hx; omega)
            rw [List.append_nil] at this
            rw [this, recsOf_short (by simp), List.append_nil]
          have HS := scan_ok wr bd bs s' fi co ep hP.out.1 hst.out.down (by rw [hst.out.sz]; exact hok) hep
          rw [hS] at HS
          replace HS := Lib.hid HS
          obtain ⟨Ad, cd, rfl, _, _⟩ := hdone.out.slice
          have cc := hCr.out.blk.cell
          have hfew := hst.out.few
          go_wp2_with fail
          refine HS.out.mono ?_
          rintro e wa ⟨v, rfl, ho, ka⟩
          obtain ⟨A1, c1, rfl, _, _⟩ := ho.slice
          have HE := Lib.hid (equal_yes wa A1 Ad dn dn.length c1 cd rfl (by omega) ho.rows (hdone.out.rows.keep ka))
          have hDa := Lib.hid (hP.out.1.keep ka (by simp) (by simp))
          have hMa := Lib.hid (hP.out.2.2.1.keep ka (by simp) (by simp) (by simp))
          have kf := Lib.hid (hC6.out.keep.nil.trans (hkw.out.trans ka.nil))
          clear HS cc ho ka
          go_wp2_with fail
          refine HE.out.mono ?_
          rintro e wb ⟨rfl, kb⟩
          have HW := Lib.hid (same_any wb bd bs bm bS s' (hDa.out.keep kb (by simp) (by simp)) (hMa.out.keep kb (by simp) (by simp) (by simp)) hst.out.down)
          clear HE
          go_wp2_with fail
          refine HW.out.mono ?_
          rintro e wc ⟨rfl, kc⟩
          clear HW
          go_wp2_with fail
          go_ret
          exact ⟨rfl, ((kf.out.trans kb.nil).trans kc.nil).mono (fun x hx => .inr (by have := hX.out x hx; omega))⟩
end Go.Proofs.Ytnoaahgjfknnlaa
