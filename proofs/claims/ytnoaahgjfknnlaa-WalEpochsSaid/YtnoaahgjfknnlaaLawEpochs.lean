/- The walk of the statement WalEpochs. -/
import Derived.Test.YtnoaahgjfknnlaaWalS
import Derived.Test.YtnoaahgjfknnlaaWalF
namespace Go.Proofs.Ytnoaahgjfknnlaa
open Go.RowKit
set_option linter.unusedSimpArgs false
set_option linter.unusedVariables false

theorem pigeon : ∀ (co : Nat) (f : Nat → Nat) (a : Nat), ¬ (∀ e, a ≤ e → e ≤ a + co → ∃ j, j < co ∧ f j = e)
  | 0, f, a, h => by
    obtain ⟨j, hj, _⟩ := h a (Nat.le_refl _) (Nat.le_refl _)
    omega
  | co + 1, f, a, h => by
    refine pigeon co (fun j => if f co < f j then f j - 1 else f j) a (fun e h1 h2 => ?_)
    by_cases hv : e < f co
    · obtain ⟨j, hj, hf⟩ := h e h1 (by omega)
      have hjc : j ≠ co := by rintro rfl; omega
      refine ⟨j, by omega, ?_⟩
      show (if f co < f j then f j - 1 else f j) = e
      rw [if_neg (by omega)]
      exact hf
    · obtain ⟨j, hj, hf⟩ := h (e + 1) (by omega) (by omega)
      have hjc : j ≠ co := by rintro rfl; omega
      refine ⟨j, by omega, ?_⟩
      show (if f co < f j then f j - 1 else f j) = e
      rw [if_pos (by omega)]
      omega

theorem fresh_some {s : St} {fi co ep m : Nat} (h : FreshIs (Used s fi co) ep m) (hep : ep + co < 4294967296) : ep ≤ m ∧ m < 4294967296 ∧ ¬ Used s fi co m := by
  rcases h with ⟨h1, h2, h3, _⟩ | ⟨_, h⟩
  · exact ⟨h1, h2, h3⟩
  · exact absurd (fun e h1 h2 => h e h1 (by omega)) (pigeon co (fun j => epo (sec s (fi + j))) ep)

set_option maxHeartbeats 6400000 in
set_option maxRecDepth 100000 in
theorem law_epochs (w : World) (S : Int) (AO : Option Addr) (nO cO : Nat) (F Co : Int) (ep : Nat) (AR : Option Addr) (nR cR : Nat) (old rs : List (List UInt8)) (hlO : old.length = nO) (hcO : nO ≤ cO) (hmO : cO ≤ maxLen) (hO : LstAt w w.heap.size AO old) (hlR : rs.length = nR) (hcR : nR ≤ cR) (hmR : cR ≤ maxLen) (hR : LstAt w w.heap.size AR rs)
    (hF : -9223372036854775808 ≤ F ∧ F ≤ 9223372036854775807) (hCo : -9223372036854775808 ≤ Co ∧ Co ≤ 9223372036854775807) (hep : ep < 4294967296)
    (AT : Option Addr) (nT cT : Nat) (ts : List (List UInt8)) (hlT : ts.length = nT) (hcT : nT ≤ cT) (hmT : cT ≤ maxLen) (hT : LstAt w w.heap.size AT ts) (W : Int) (hW : 0 ≤ W ∧ W < 256) :
    Calls Try.prog 10 #[.agg (caseV S AO nO cO F Co ep AR nR cR), .slice AT nT cT, .int .u8 W] w fun e w' => e = .returned (.bool true) ∧ Keeps [] w w' := by
  have hC := CaseAt.start (S := S) (nO := nO) (cO := cO) (F := F) (Co := Co) (ep := ep) (nR := nR) (cR := cR) hO hR
  replace hC := Lib.hid (hC.keep_ ((Keeps.refl [] (w.alloc (.cells (caseV S AO nO cO F Co ep AR nR cR) 38))).alloc (.cells #[.int .i64 S, .slice none 0 0, .int .i64 0, .int .i64 0, .int .u32 0, .slice AT nT cT] 38)))
  have hN0 : Blk ((w.alloc (.cells (caseV S AO nO cO F Co ep AR nR cR) 38)).alloc (.cells #[.int .i64 S, .slice none 0 0, .int .i64 0, .int .i64 0, .int .u32 0, .slice AT nT cT] 38)) (w.heap.size + 1) 38 #[.int .i64 S, .slice none 0 0, .int .i64 0, .int .i64 0, .int .u32 0, .slice AT nT cT] := by
    have := Blk.new (w.alloc (.cells (caseV S AO nO cO F Co ep AR nR cR) 38)) 38 #[.int .i64 S, .slice none 0 0, .int .i64 0, .int .i64 0, .int .u32 0, .slice AT nT cT]
    simpa using this
  replace hN0 := Lib.hid hN0
  replace hmO := Lib.hid hmO
  replace hmR := Lib.hid hmR
  replace hmT := Lib.hid hmT
  replace hT := Lib.hid hT
  clear hO hR
  go_enter Try.func10, Try.ntmps10
  go_wp2_with fail
  generalize (w.alloc (.cells (caseV S AO nO cO F Co ep AR nR cR) 38)).alloc (.cells #[.int .i64 S, .slice none 0 0, .int .i64 0, .int .i64 0, .int .u32 0, .slice AT nT cT] 38) = wx at *
  refine (awake_any wx).mono ?_
  rintro e w1 ⟨rfl, k1⟩
  replace hC := Lib.hid (hC.out.keep_ k1)
  have hN1 := Lib.hid (hN0.out.keep k1 (by simp))
  have cc := hC.out.blk.cell
  clear k1 hN0
  go_wp2_with fail
  refine (small_any w1 S AO nO cO F Co ep AR nR cR rs hlR hcR hmR.out (hC.out.recs.mono hC.out.keep.size)).mono ?_
  rintro e w2 ⟨b, rfl, hb, k2⟩
  replace hC := Lib.hid (hC.out.keep_ k2)
  have hN2 := Lib.hid (hN1.out.keep k2 (by simp))
  clear k2 cc hN1
  cases b
  · clear hb
    go_wp2_with fail
    refine (awake_any w2).mono ?_
    rintro e w3 ⟨rfl, k3⟩
    replace hC := Lib.hid (hC.out.keep_ k3)
    clear k3
    go_wp2_with fail
    go_ret
    exact ⟨rfl, hC.out.keep⟩
  · obtain ⟨hs1, hs2, hs3, hs4, hs5⟩ := hb.1 rfl
    clear hb
    obtain ⟨n, rfl⟩ : ∃ n : Nat, S = n := ⟨S.toNat, by omega⟩
    have cn := hN2.out.cell
    have HS2 := small_any w2 n none 0 0 0 0 0 AT nT cT ts hlT hcT hmT.out ((hT.out.keep hC.out.keep (by simp)).mono hC.out.keep.size)
    have HS3 : Hid (Calls Try.prog 19 #[.agg #[.int .i64 (n : Int), .slice none 0 0, .int .i64 0, .int .i64 0, .int .u32 0, .slice AT nT cT]] w2 (SmallPost n 0 ts w2)) := Lib.hid HS2
    clear HS2
    go_wp2_with fail
    refine HS3.out.mono ?_
    rintro e w2b ⟨b, rfl, hb, k2⟩
    replace hC := Lib.hid (hC.out.keep_ k2)
    clear k2 cn hN2 HS3
    cases b
    · clear hb
      go_wp2_with fail
      refine (awake_any w2b).mono ?_
      rintro e w3 ⟨rfl, k3⟩
      replace hC := Lib.hid (hC.out.keep_ k3)
      clear k3
      go_wp2_with fail
      go_ret
      exact ⟨rfl, hC.out.keep⟩
    · obtain ⟨_, _, _, ht4, ht5⟩ := hb.1 rfl
      clear hb
      have cc := hC.out.blk.cell
      have hz2 := Lib.hid hC.out.blk.lt
      go_wp2_with fail
      refine (disks_any w2b n AO nO cO F Co ep AR nR cR old hlO hcO hmO.out (hC.out.old.mono hC.out.keep.size) (by omega) (by omega) (by omega)).mono ?_
      rintro e w3 ⟨bd, bs, bm, bS, s, rfl, hK⟩
      replace hC := Lib.hid (hC.out.keep_ hK.keep)
      have hz0 := hC.out.keep.size
      replace hK := Lib.hid hK
      have hnew : Hid (w.heap.size < bd ∧ w.heap.size < bs ∧ w.heap.size < bm ∧ w.heap.size < bS) := Lib.hid (by
        have h1 := hK.out.hbd; have h2 := hK.out.hbs; have h3 := hK.out.hbm; have h4 := hK.out.hbS; have h5 := hz2.out
        omega)
      clear cc hz0
      have cc := hC.out.blk.cell
      have hns := hK.out.n
      have HFr := Lib.hid (cfree_any w3 bm bS s n AO nO cO F Co ep AR nR cR hK.out.m hns hF hCo hep)
      go_wp2_with fail
      refine HFr.out.mono ?_
      rintro e w4 ⟨b, rfl, hfree, k4⟩
      replace hC := Lib.hid (hC.out.keep_ k4)
      have hD4 := Lib.hid (hK.out.d.keep k4 (by simp) (by simp))
      clear HFr cc k4
      cases b
      · clear hfree
        go_wp2_with fail
        go_ret
        exact ⟨rfl, hC.out.keep⟩
      · obtain ⟨hok, hfr⟩ := hfree rfl
        have hok2 := hok
        unfold okR at hok2
        obtain ⟨fi, rfl⟩ : ∃ fi : Nat, F = fi := ⟨F.toNat, by omega⟩
        obtain ⟨co, rfl⟩ : ∃ co : Nat, Co = co := ⟨Co.toNat, by omega⟩
        have hok3 : okR s.n fi co ep := hns.symm ▸ hok
        have cc := hC.out.blk.cell
        clear hfree
        replace hfr := Lib.hid hfr
        by_cases hbig : (2147483648 : Int) < (ep : Int)
        · go_wp2_with fail
          go_ret
          exact ⟨rfl, hC.out.keep⟩
        · have HN := Lib.hid (lnew_ok [] w4 bd bs s fi co ep hD4.out hep hok3)
          go_wp2_with fail
          refine HN.out.mono ?_
          rintro e w5 ⟨rfl, hL, k5⟩
          have hbl : Hid (w.heap.size < w4.heap.size) := Lib.hid hC.out.blk.lt
          have hbne : w4.heap.size ≠ bd := by have := hD4.out.d.lt; omega
          have hbne2 : w4.heap.size ≠ bs := by have := hD4.out.m.lt; omega
          replace hC := Lib.hid (hC.out.keep_ k5)
          have hD5 := hD4.out.keep k5 (by simp) (by simp)
          generalize w4.heap.size = bl at *
          obtain ⟨Wn, rfl⟩ : ∃ Wn : Nat, W = Wn := ⟨W.toNat, by omega⟩
          have HArm := Lib.hid (fun b => arm_any w5 bd bs s ((Wn : Int) % 24 + 1) b hD5 (by omega))
          replace hL := Lib.hid hL
          clear HN cc k5 hD4
          have eW : 0 ≤ (Wn : Int) % 24 ∧ (Wn : Int) % 24 < 24 := by omega
          go_wp2_with fail
          refine (HArm.out _).mono ?_
          rintro e w6 ⟨rfl, hD6, k6⟩
          replace hC := Lib.hid (hC.out.keepX k6 (by have := hnew.out; simp; omega))
          have hL6 := Lib.hid (hL.out.keep k6 (by simp; exact hbne) (fun g cur hg _ => by simp; exact hg.ne_ hD5.d (by decide)))
          have hL0 : Laid (sec s) fi co ep (encs []) := fun j hj => by
            rw [if_neg (by simp [encs])]
            have := hfr.out j (by omega)
            simpa using this
          obtain ⟨By, hBy⟩ : ∃ By, By = (Wn : Int) / 4 := ⟨_, rfl⟩
          rw [← hBy] at hD6
          have hst : Hid (Run 12 n fi co ep (arm s ((Wn : Int) % 24 + 1) By) [] 0) := Lib.hid (by
            have hdn := hK.out.down
            have hmem := hK.out.d.len
            refine ⟨?_, ?_, ?_, ?_, ?_, ?_, ?_, ?_⟩
            all_goals first
              | (unfold arm; rw [hdn]; simp; done)
              | (unfold arm; rw [hdn]; simp; exact hns)
              | skip
            · unfold arm; rw [hdn]; simp; rw [hmem, hns]
            · have : sec (arm s ((Wn : Int) % 24 + 1) By) = sec s := by unfold arm; rw [hdn]; rfl
              rw [this]; exact hL0
            · unfold arm; rw [hdn]; simp; exact hK.out.wr0
            · unfold arm; rw [hdn]; simp; have := hK.out.wr1; omega
            · exact Nat.le_refl _
            · simp)
          generalize arm s ((Wn : Int) % 24 + 1) By = s1 at *
          clear HArm hL k6 hD5 hL0 hBy
          have hDL : Hid (DRep w6 bd bs s1 ∧ LRep [] w6 bl bd fi co ep (encs []) 0) := Lib.hid ⟨hD6, hL6.out⟩
          have hX : Hid (∀ x ∈ [bl, bd, bs], w.heap.size < x) := Lib.hid (by have := hnew.out; have := hbl.out; intro x hx; simp at hx; omega)
          have cc := hC.out.blk.cell
          have hC6 := hC
          have hn12 : n ≤ 12 := by omega
          have hfc : fi + co ≤ n := by omega
          clear hL6 hD6 hC
          have hnR : nR ≤ 12 := by omega
          go_upto_block 0 with fail
          go_cut [13] from 78 to 89 (fun s13 wx => ∃ s2 : St, Hid (DRep wx bd bs s2 ∧ s2.n = n ∧ s2.mem.length = 64 * n ∧ 0 ≤ s2.writes ∧ s2.writes ≤ 620) ∧ Hid (Keeps [bl, bd, bs] w6 wx))
          case first =>
            go_wp2_with fail
            clear cc
            go_loopw [81] (fun i wr => ∃ (k rc : Nat) (dn : List (List UInt8)) (s' : St), k ≤ nR ∧ i = .int .i64 k ∧ rc ≤ k ∧ Hid (DRep wr bd bs s' ∧ LRep [] wr bl bd fi co ep (encs dn) rc) ∧ Hid (Run 12 n fi co ep s' dn k) ∧ Hid (Keeps [bl, bd, bs] w6 wr)) (fun i _ => nR - (intOf i).toNat)
            case atStart => exact ⟨0, 0, [], s1, Nat.zero_le _, rfl, Nat.zero_le _, hDL, hst, Lib.hid (Keeps.refl _ _)⟩
            case round =>
              clear hDL hst
              obtain ⟨k, rc, dn, s', hk, rfl, hrc, hP, hst, hkw⟩ := hrel
              have hCr := Lib.hid (hC6.out.keepX hkw.out hX.out)
              by_cases hlt : k < nR
              · obtain ⟨r, hr⟩ : ∃ r, rs[k]? = some r := ⟨rs[k]'(by omega), List.getElem?_eq_getElem _⟩
                obtain ⟨g, o, Ar, c, rfl, hg, hcell, hrcap, hcm, hrb, hrB⟩ := hCr.out.recs k r hr
                have hr4 := hs5 r (List.mem_of_getElem? hr)
                have hki : (k : Int) < (nR : Int) := by omega
                have hki0 : (0 : Int) ≤ (k : Int) := by omega
                obtain ⟨rl, hrl⟩ : ∃ rl, r.length = rl := ⟨_, rfl⟩
                rw [hrl] at hcell hrcap hr4
                obtain ⟨f, s2, dn2, rc2, hstep, HLd, _⟩ := step_ex hst.out hrl hr4 hfc hn12 (by omega) (by omega) hrc
                have HL := Lib.hid (HLd [] wr bl bd bs Ar c hP.out.1 hP.out.2 hrb hrcap (by simp))
                replace hstep := Lib.hid hstep
                clear HLd hrb hrB
                go_wp2_with fail
                refine HL.out.mono ?_
                rintro e wa ⟨rfl, hDa, hLa, ka⟩
                have hka := Lib.hid (hkw.out.trans ka)
                clear HL
                by_cases hf15 : f = 15
                · have hfin : Hid (DRep wa bd bs s2 ∧ s2.n = n ∧ s2.mem.length = 64 * n ∧ 0 ≤ s2.writes ∧ s2.writes ≤ 620) := Lib.hid (by
                    rcases hstep.out with ⟨h1, _⟩ | ⟨h1, _⟩ | ⟨_, _, h1, h2, h3, h4⟩
                    · omega
                    · omega
                    · exact ⟨hDa, h1, h2, h3, by omega⟩)
                  subst hf15
                  clear hDa hLa hstep ka
                  go_wp2_with fail
                  go_meet
                  exact ⟨s2, hfin, hka⟩
                · have hnext : Hid (DRep wa bd bs s2 ∧ LRep [] wa bl bd fi co ep (encs dn2) rc2) := Lib.hid ⟨hDa, hLa hf15⟩
                  have hrun : Hid (Run 12 n fi co ep s2 dn2 (k + 1) ∧ rc2 ≤ k + 1) := Lib.hid (by
                    rcases hstep.out with ⟨h1, h2, h3, h4, _⟩ | ⟨h1, h2, h3, _, h4⟩ | ⟨h, _⟩
                    · exact ⟨h4, by omega⟩
                    · exact ⟨h4, by omega⟩
                    · exact absurd h hf15)
                  have hf16 : (f == 15) = false := by simp [hf15]
                  have hrc2 := hrun.out.2
                  clear hDa hLa hstep ka
                  go_wp2_with fail
                  go_roundw
                  case rel => exact ⟨k + 1, rc2, dn2, s2, by omega, by go_num, hrc2, hnext, Lib.hid hrun.out.1, hka⟩
                  case measure => simp [intOf]; omega
              · obtain rfl : k = nR := by omega
                have hst' := hst.out
                have hfin : Hid (DRep wr bd bs s' ∧ s'.n = n ∧ s'.mem.length = 64 * n ∧ 0 ≤ s'.writes ∧ s'.writes ≤ 620) := Lib.hid ⟨hP.out.1, hst'.sz, hst'.len, hst'.w0, by have := hst'.w1; omega⟩
                clear hst' hP hst
                go_wp2_with fail
                go_meet
                exact ⟨s', hfin, hkw⟩
          case rest =>
            obtain ⟨s2, hfin, hkw⟩ := hcut
            clear hDL hst cc
            have HRs := Lib.hid (restart_any wc bd bs s2 hfin.out.1)
            go_wp2_with fail
            refine HRs.out.mono ?_
            rintro e y1 ⟨rfl, hD1, q1⟩
            have hk1 : Hid (Keeps [bl, bd, bs] w6 y1) := Lib.hid (hkw.out.trans (q1.mono (fun y hy => .inl (by simp at hy ⊢; simp [hy]))))
            have HA := Lib.hid (arm_any y1 bd bs (restart s2) 0 0 hD1 (by omega))
            clear HRs q1 hD1 hkw
            go_wp2_with fail
            refine HA.out.mono ?_
            rintro e y2 ⟨rfl, hD2, q2⟩
            have hk2 : Hid (Keeps [bl, bd, bs] w6 y2) := Lib.hid (hk1.out.trans (q2.mono (fun y hy => .inl (by simp at hy ⊢; simp [hy]))))
            have hs3 : (arm (restart s2) 0 0).down = false ∧ (arm (restart s2) 0 0).left = 0 ∧ (arm (restart s2) 0 0).n = n ∧ (arm (restart s2) 0 0).mem.length = 64 * n ∧ 0 ≤ (arm (restart s2) 0 0).writes ∧ (arm (restart s2) 0 0).writes ≤ 620 := by
              have := hfin.out
              refine ⟨rfl, rfl, this.2.1, this.2.2.1, this.2.2.2.1, this.2.2.2.2⟩
            generalize arm (restart s2) 0 0 = s3 at *
            obtain ⟨h31, h32, h33, h34, h35, h36⟩ := hs3
            have HF := fresh_ok y2 bd bs s3 fi co (ep + 1) hD2 h31 (by rw [h33]; unfold okR; omega) (by omega) (by omega)
            rw [show ((ep + 1 : Nat) : Int) = (ep : Int) + 1 by omega] at HF
            replace HF := Lib.hid HF
            have ew1 : IntKind.u32.wrap ((ep : Int) + 1) = (ep : Int) + 1 := by rw [IntKind.wrap_u32']; omega
            have ew2 : ((ep : Int) + 1) % 4294967296 = (ep : Int) + 1 := by omega
            have cc := (hC6.out.keepX hk2.out hX.out).blk.cell
            replace hD2 := Lib.hid hD2
            clear HA q2 hk1 hfin
            go_wp2_with fail
            refine HF.out.mono ?_
            rintro e y3 ⟨m, hm, hm32, rfl, q3⟩
            obtain ⟨hm1, hm2, hm3⟩ := fresh_some hm (by omega)
            rw [if_neg (by omega)]
            have hk3 := Lib.hid (hk2.out.trans q3.nil)
            have hD3 := Lib.hid (hD2.out.keep q3 (by simp) (by simp))
            have hml : ¬ (m : Int) ≤ (ep : Int) := by omega
            have hm3' := Lib.hid hm3
            have HN2 := Lib.hid (lnew_ok [] y3 bd bs s3 fi co m hD3.out hm2 (by rw [h33]; unfold okR; omega))
            clear cc HF q3 hk2 hD2 hm hm3
            have hCy := Lib.hid (hC6.out.keepX hk3.out hX.out)
            have cc := hCy.out.blk.cell
            go_wp2_with fail
            refine HN2.out.mono ?_
            rintro e y4 ⟨rfl, hL4, q4⟩
            have hb2 : Hid (w.heap.size < y3.heap.size) := Lib.hid hCy.out.blk.lt
            have hD4 := Lib.hid (hD3.out.keep q4 (by simp) (by simp))
            have hC4 := Lib.hid (hCy.out.keep_ q4)
            generalize y3.heap.size = bl2 at *
            have hDL2 : Hid (DRep y4 bd bs s3 ∧ LRep [] y4 bl2 bd fi co m (encs []) 0) := Lib.hid ⟨hD4.out, hL4⟩
            have hst2 : Hid (Run 1000 n fi co m s3 [] 0) := Lib.hid ⟨h31, h33, h34, (fun j hj => by
              rw [if_neg (by simp [encs])]
              exact fun he => hm3'.out ⟨j, hj, he⟩), h35, by omega, Nat.le_refl _, by simp⟩
            have hX2 : Hid (∀ x ∈ [bl2, bd, bs], w.heap.size < x) := Lib.hid (by have := hnew.out; have := hb2.out; intro x hx; simp at hx; omega)
            clear cc HN2 q4 hk3 hD3 hD4 hL4 hCy hm3'
            have cc := hC4.out.blk.cell
            go_wp2_with fail
            have hdn0 := Lib.hid (DoneAt.nil y4.heap.size w.heap.size y4)
            have hlt6 : Hid (∀ x ∈ [bl2, bd, bs], x < y4.heap.size) := Lib.hid (by
              obtain ⟨_, _, hb1, _⟩ := hDL2.out.2.ex
              have h1 := hb1.lt; have h2 := hDL2.out.1.d.lt; have h3 := hDL2.out.1.m.lt
              intro x hx; simp at hx; omega)
            have hbase : w.heap.size ≤ y4.heap.size := hC4.out.keep.size
            obtain ⟨i0, hi, hz0, hz1, hz2x⟩ := info_parts info34
            replace hi := Lib.hid hi
            replace hz0 := Lib.hid hz0
            replace hz1 := Lib.hid hz1
            replace hz2x := Lib.hid hz2x
            have hnT : nT ≤ 12 := by omega
            clear cc
            go_loopw [15, 132] (fun dv i wr => ∃ (k rc : Nat) (dn : List (List UInt8)) (s' : St), k ≤ nT ∧ i = .int .i64 k ∧ rc ≤ k ∧ s'.left = 0 ∧ Hid (DRep wr bd bs s' ∧ LRep [] wr bl2 bd fi co m (encs dn) rc) ∧ Hid (Run 1000 n fi co m s' dn k) ∧ Hid (DoneAt y4.heap.size w.heap.size wr dv dn) ∧ Hid (Keeps [bl2, bd, bs] y4 wr)) (fun _ i _ => nT - (intOf i).toNat)
            case atStart => exact ⟨0, 0, [], s3, Nat.zero_le _, rfl, Nat.zero_le _, h32, hDL2, hst2, hdn0, Lib.hid (Keeps.refl _ _)⟩
            case round =>
              clear hDL2 hst2 hdn0
              obtain ⟨k, rc, dn, s', hk, rfl, hrc, hsl, hP, hst, hdone, hkw⟩ := hrel
              have hkall : Keeps [bl2, bd, bs] w wr := hC4.out.keep.nil.trans hkw.out
              have hCr := Lib.hid (hC4.out.keepX hkw.out hX2.out)
              by_cases hlt : k < nT
              · obtain ⟨r, hr⟩ : ∃ r, ts[k]? = some r := ⟨ts[k]'(by omega), List.getElem?_eq_getElem _⟩
                obtain ⟨g, o, Ar, c, rfl, hg, hcell, hrcap, hcm, hrb, hrB⟩ := hT.out.keep hkall (fun x hx => by have := hX2.out x hx; omega) k r hr
                have hr4 := ht5 r (List.mem_of_getElem? hr)
                have hki : (k : Int) < (nT : Int) := by omega
                have hki0 : (0 : Int) ≤ (k : Int) := by omega
                obtain ⟨rl, hrl⟩ : ∃ rl, r.length = rl := ⟨_, rfl⟩
                rw [hrl] at hcell hrcap hr4
                obtain ⟨f, s4, dn2, rc2, hstep, HLd, _⟩ := step_ex hst.out hrl hr4 hfc hn12 (by omega) (by omega) hrc
                have HL := Lib.hid (HLd [] wr bl2 bd bs Ar c hP.out.1 hP.out.2 hrb hrcap (by simp))
                have hff : Hid ((f = 0 ∧ dn2 = dn ++ [r] ∧ rc2 = rc + 1 ∧ Run 1000 n fi co m s4 dn2 (k + 1) ∧ s4.left = 0) ∨ (f = 16 ∧ dn2 = dn ∧ rc2 = rc ∧ Run 1000 n fi co m s4 dn2 (k + 1) ∧ s4.left = 0)) := Lib.hid (by
                  rcases hstep with ⟨h1, h2, h3, h4, h5⟩ | ⟨h1, h2, h3, h5, h4⟩ | ⟨_, h, _⟩
                  · exact .inl ⟨h1, h2, h3, h4, h5 hsl⟩
                  · exact .inr ⟨h1, h2, h3, h4, by rw [h5]; exact hsl⟩
                  · exact absurd hsl h)
                replace hrb := Lib.hid hrb
                replace hrB := Lib.hid hrB
                replace hrl := Lib.hid hrl
                clear HLd hstep hkall hCr
                go_wp2_with fail
                refine HL.out.mono ?_
                rintro e wa ⟨rfl, hDa, hLa, ka⟩
                have hka := Lib.hid (hkw.out.trans ka)
                have hdoneA := Lib.hid (hdone.out.keep ka (hdone.out.apart (fun y hy => .inl (hlt6.out y hy))) (fun y hy => by have := hX2.out y hy; omega))
                have hrba : Hid (Bts wa Ar r) := Lib.hid (hrb.out.keep' ka (fun hre a ha hx => by
                  have h1 := hrB.out hre a ha
                  have := hX2.out _ hx
                  omega))
                have hPa : Hid (DRep wa bd bs s4 ∧ LRep [] wa bl2 bd fi co m (encs dn2) rc2) := Lib.hid ⟨hDa, hLa (by rcases hff.out with ⟨h, _⟩ | ⟨h, _⟩ <;> omega)⟩
                have hrc2 : rc2 ≤ k + 1 := by rcases hff.out with ⟨_, _, h, _⟩ | ⟨_, _, h, _⟩ <;> omega
                clear HL hDa hLa ka hdone hkw hP hrb
                rcases hff.out with ⟨rfl, hd2, hr2, hrun, hs4l⟩ | ⟨rfl, hd2, hr2, hrun, hs4l⟩
                · obtain ⟨vs, hv1, hv2⟩ := hdoneA.out
                  replace hv1 := Lib.hid hv1
                  replace hv2 := Lib.hid hv2
                  have hfew := hrun.few
                  have hdnl : dn.length ≤ 12 := by rw [hd2, List.length_append, List.length_singleton] at hfew; omega
                  replace hd2 := Lib.hid hd2
                  replace hrun := Lib.hid hrun
                  clear hff hr2 hfew hdoneA
                  go_wp2_with (at_builtin; refine wpList_append_own _ rfl (.tmp 140) (.tmp 142) 36 rfl y4.heap.size 34 i0 (.slice none 0 0) 1 24 Try.underlying36 hi.out hz0.out hz1.out hz2x.out rfl (by decide) u15 dn.length vs rfl (hv1.out.alloc _) ⟨wa.heap.size, 0, none⟩ 1 1 [.slice Ar rl c] rfl rfl (World.news_of_block (cs := #[.slice Ar rl c]) (t := 34) (fr := (0, 0)) (heap_alloc_new wa _)) (by simp [Value.oneCell']) ?_ ?_ ?_ ?_; (unfold maxLen; omega); omega; (have := hka.out.size; simp; omega); intro v' wj ho1 hgr hn1; have ho := Lib.hid (DoneAt.push hrl.out hbase hv2.out hv1.out hrba.out hrB.out ho1 hgr); have kj := Lib.hid (keep_grown2 (hv1.out.alloc (.cells #[.slice Ar rl c] 34)) (hka.out.alloc _) (Nat.le_refl _) hgr); have kj2 := Lib.hid (keeps_of_grown (w := wa) (hv1.out.alloc (.cells #[.slice Ar rl c] 34)) hgr ((Keeps.refl [] wa).alloc _)); clear hn1 ho1 hgr)
                  have hne : ∀ g, g ∈ u15.ownBlock.toList → y4.heap.size ≤ g ∧ ∃ cur, Blk wa g 34 cur := fun g hg => own_blk hv1.out (by simpa using hg)
                  have hnX : ∀ y ∈ [bl2, bd, bs], y ∉ u15.ownBlock.toList := fun y hy hx => by
                    have h1 := (hne y hx).1
                    have h2 := hlt6.out y hy
                    omega
                  have hPj : Hid (DRep wj bd bs s4 ∧ LRep [] wj bl2 bd fi co m (encs dn2) rc2) := Lib.hid
                    ⟨hPa.out.1.keep kj2.out (hnX _ (by simp)) (hnX _ (by simp)), hPa.out.2.keep kj2.out (hnX _ (by simp)) (fun g cur hg _ hx => by
                      obtain ⟨_, cur2, hc⟩ := hne _ hx
                      exact hg.ne_ hc (by decide) rfl)⟩
                  rw [← hd2.out] at ho
                  go_roundw
                  case rel => exact ⟨k + 1, rc2, dn2, s4, by omega, by go_num, hrc2, hs4l, hPj, hrun, ho, kj⟩
                  case measure => simp [intOf]; omega
                · rw [← hd2] at hdoneA
                  replace hrun := Lib.hid hrun
                  clear hff hr2 hd2
                  go_wp2_with fail
                  go_roundw
                  case rel => exact ⟨k + 1, rc2, dn2, s4, by omega, by go_num, hrc2, hs4l, hPa, hrun, hdoneA, hka⟩
                  case measure => simp [intOf]; omega
              · obtain rfl : k = nT := by omega
                have hS : recsOf (strm (sec s') m co fi) = dn := by
                  rw [strm_of hst.out.laid hP.out.2.len hm2]
                  have := recsOf_encs dn [] (fun x hx => by have := hst.out.small x hx; omega)
                  rw [List.append_nil] at this
                  rw [this, recsOf_short (by simp), List.append_nil]
                have HS := scan_ok wr bd bs s' fi co m hP.out.1 hst.out.down (by rw [hst.out.sz]; unfold okR; omega) hm2
                rw [hS] at HS
                replace HS := Lib.hid HS
                obtain ⟨Ad, cd, rfl, _, _⟩ := hdone.out.slice
                have cc := hCr.out.blk.cell
                have hfew := hst.out.few
                go_wp2_with fail
                refine HS.out.mono ?_
                rintro e wa ⟨v, rfl, ho, ka⟩
                obtain ⟨A1, c1, rfl, _, _⟩ := ho.slice
                have HE := Lib.hid (equal_yes wa A1 Ad dn dn.length c1 cd rfl (by omega) ho.rows (hdone.out.rows.keep ka))
                have kf := Lib.hid (hC4.out.keep.nil.trans (hkw.out.trans ka.nil))
                clear HS cc ho ka
                go_wp2_with fail
                refine HE.out.mono ?_
                rintro e wb ⟨rfl, kb⟩
                clear HE
                go_wp2_with fail
                go_ret
                exact ⟨rfl, (kf.out.trans kb.nil).mono (fun x hx => .inr (by have := hX2.out x hx; omega))⟩
end Go.Proofs.Ytnoaahgjfknnlaa
