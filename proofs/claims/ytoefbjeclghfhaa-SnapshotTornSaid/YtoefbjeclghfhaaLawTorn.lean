/- The walk of the statement SnapshotTorn. -/
import Derived.Test.YtoefbjeclghfhaaSnapV
namespace Go.Proofs.Ytoefbjeclghfhaa
open Go.RowKit
set_option linter.unusedSimpArgs false
set_option linter.unusedVariables false

set_option maxHeartbeats 3200000 in
set_option maxRecDepth 100000 in
theorem law_torn (w : World) (S : Int) (ep : Nat) (A : Option Addr) (n c : Nat) (l : List UInt8) (hl : l.length = n) (hnc : n ≤ c) (hcm : c ≤ maxLen) (hB : BtsB w.heap.size w A l) (hS : 0 ≤ S ∧ S < 256) (hep : ep < 4294967296) (A2 : Option Addr) (n2 c2 : Nat) (ol : List UInt8) (hl2 : ol.length = n2) (hnc2 : n2 ≤ c2) (hcm2 : c2 ≤ maxLen) (hB2 : BtsB w.heap.size w A2 ol) (x0 x1 x2 : Int) (hx0 : 0 ≤ x0 ∧ x0 < 256) (hx1 : 0 ≤ x1 ∧ x1 < 256) (hx2 : 0 ≤ x2 ∧ x2 < 256) :
    Calls Try.prog 9 #[.agg (verV S ep A n c), .slice A2 n2 c2, .agg #[.int .u8 x0, .int .u8 x1, .int .u8 x2]] w fun e w' => e = .returned (.bool true) ∧ Keeps [] w w' := by
  have ka := (Keeps.refl [] (w.alloc (.cells (verV S ep A n c) 37))).alloc (.cells #[.int .u8 x0, .int .u8 x1, .int .u8 x2] 63)
  have hC := Lib.hid ((VerAt.start (S := S) (ep := ep) (n := n) (c := c) hB).keep_ ka)
  have hX : Hid (Blk ((w.alloc (.cells (verV S ep A n c) 37)).alloc (.cells #[.int .u8 x0, .int .u8 x1, .int .u8 x2] 63)) (w.heap.size + 1) 63 #[.int .u8 x0, .int .u8 x1, .int .u8 x2]) := Lib.hid (by
    have := Blk.new (w.alloc (.cells (verV S ep A n c) 37)) 63 #[.int .u8 x0, .int .u8 x1, .int .u8 x2]
    simpa using this)
  have hO := Lib.hid ((hB2.keep ((Keeps.refl [] w).alloc (.cells (verV S ep A n c) 37)) (by simp)).keep ka (by simp))
  replace hcm := Lib.hid hcm
  replace hcm2 := Lib.hid hcm2
  clear hB hB2 ka
  have cc := hC.out.cc
  go_enter Try.func9, Try.ntmps9
  go_wp2_with fail
  clear cc
  generalize (w.alloc (.cells (verV S ep A n c) 37)).alloc (.cells #[.int .u8 x0, .int .u8 x1, .int .u8 x2] 63) = wx at *
  generalize w.heap.size + 1 = gx at *
  refine (fresh_any wx S ep A n c hS hep).mono ?_
  rintro e w1 (⟨hno, rfl, k⟩ | ⟨hok, bd, bs, rfl, hD, hbd, hbs, k⟩)
  · replace hC := Lib.hid (hC.out.keep_ k)
    clear k
    go_wp2_with fail
    refine (awake_any w1).mono ?_
    rintro e w2 ⟨rfl, k⟩
    replace hC := Lib.hid (hC.out.keep_ k)
    clear k
    go_wp2_with fail
    refine (awake_any w2).mono ?_
    rintro e w3 ⟨rfl, k⟩
    replace hC := Lib.hid (hC.out.keep_ k)
    clear k
    go_wp2_with fail
    go_ret
    exact ⟨rfl, hC.out.keep⟩
  · obtain ⟨m, rfl⟩ : ∃ m : Nat, S = m := ⟨S.toNat, by omega⟩
    obtain ⟨h7, h60, hcap, h600, h1⟩ := hok
    rw [Int.toNat_natCast] at hD
    have hnew : Hid (w.heap.size < bd ∧ w.heap.size < bs) := Lib.hid (by have := hC.out.keep.size; omega)
    have hXX : Hid (∀ x ∈ [bd, bs], w.heap.size < x) := Lib.hid (by have := hnew.out; simp; omega)
    have hgx : Hid (gx ∉ [bd, bs]) := Lib.hid (by have := hX.out.lt; simp; omega)
    replace hD := Lib.hid hD
    replace hC := Lib.hid (hC.out.keep_ k)
    replace hX := Lib.hid (hX.out.keep k (by simp))
    replace hO := Lib.hid (hO.out.keep k (by simp))
    clear k
    clear hbd hbs
    have hcl : Hid (capOf (m : Int) = 64 * area m) := Lib.hid (by unfold capOf; rw [if_neg (by omega)]; simp)
    replace hcap := Lib.hid hcap
    have HA := Lib.hid (fun w' => awake_any w')
    have HCap := Lib.hid (fun w' => rcap_any w' m)
    go_wp2_with fail
    refine (HA.out w1).mono ?_
    rintro e w2 ⟨rfl, k⟩
    replace hC := Lib.hid (hC.out.keep_ k)
    replace hD := Lib.hid (hD.out.keep k (by simp) (by simp))
    replace hX := Lib.hid (hX.out.keep k (by simp))
    replace hO := Lib.hid (hO.out.keep k (by simp))
    clear k
    have cc := hC.out.cc
    have ewm : IntKind.i64.wrap (m : Int) = (m : Int) := IntWalk.i64_in _ (by omega)
    go_wp2_with fail
    refine (HCap.out w2).mono ?_
    rintro e w3 ⟨rfl, k⟩
    replace hC := Lib.hid (hC.out.keep_ k)
    replace hD := Lib.hid (hD.out.keep k (by simp) (by simp))
    replace hX := Lib.hid (hX.out.keep k (by simp))
    replace hO := Lib.hid (hO.out.keep k (by simp))
    clear k
    clear cc HCap ewm
    by_cases hbig : ((capOf (m : Int) : Nat) : Int) < (n2 : Int)
    · have hbb := decide_eq_true hbig
      go_wp2_with fail
      refine (HA.out w3).mono ?_
      rintro e w4 ⟨rfl, k⟩
      replace hC := Lib.hid (hC.out.keep_ k)
      clear k
      go_wp2_with fail
      go_ret
      exact ⟨rfl, hC.out.keep⟩
    have hbb : decide (capOf (m : Int) < n2) = false := decide_eq_false (by omega)
    by_cases h602 : 600 < (n2 : Int)
    · have hbc := decide_eq_true h602
      go_wp2_with fail
      refine (HA.out w3).mono ?_
      rintro e w4 ⟨rfl, k⟩
      replace hC := Lib.hid (hC.out.keep_ k)
      clear k
      go_wp2_with fail
      go_ret
      exact ⟨rfl, hC.out.keep⟩
    have hbc := decide_eq_false h602
    have hlc : Hid (ol.length ≤ 64 * area m ∧ ol.length ≤ 600) := Lib.hid (by rw [← hcl.out, hl2]; omega)
    have hlv : Hid (l.length ≤ 64 * area m ∧ l.length ≤ 600) := Lib.hid (by have := hcap.out; rw [← hcl.out, hl]; omega)
    have hn2 : Hid (n2 ≤ 600) := Lib.hid (by omega)
    have e6 : 0 ≤ x0 % 6 ∧ x0 % 6 < 6 := by omega
    obtain ⟨kk, hkk⟩ : ∃ kk : Nat, x0 % 6 = kk := ⟨(x0 % 6).toNat, by omega⟩
    have hk6 : kk < 6 := by omega
    have xc := hX.out.cell
    go_wp2_with fail
    clear xc hbb hbc e6
    replace hkk := Lib.hid hkk
    go_loopw [9] (fun i wr => ∃ (j : Nat) (s' : St), j ≤ kk ∧ i = .int .u32 ((j : Int) + 1) ∧ Hid (DRep wr bd bs s') ∧ Hid (After m s' j ol) ∧ Hid (Keeps [bd, bs] w3 wr)) (fun i _ => kk + 1 - (intOf i).toNat)
    case atStart => exact ⟨0, st0 m, Nat.zero_le _, rfl, hD, Lib.hid (after_zero (by omega) (by omega) ol), Lib.hid (Keeps.refl _ _)⟩
    case round =>
      obtain ⟨j, s', hj, rfl, hDr, hAr, hkr⟩ := hrel
      have hCr := Lib.hid (hC.out.keepX hkr.out hXX.out)
      have hOr := Lib.hid (hO.out.keep hkr.out (fun x hx => by have := hXX.out x hx; omega))
      have hXr := Lib.hid (hX.out.keep hkr.out hgx.out)
      by_cases hlt : j < kk
      · have hle : ((j : Int) + 1) ≤ (kk : Int) := by omega
        have HCp := Lib.hid (cp_any wr A2 ol n2 c2 hOr.out.bts hl2 hn2.out)
        obtain ⟨hw0, hAn⟩ := after_write hAr.out (by omega) hlc.out.1 hlc.out.2
        obtain ⟨s2, hs2⟩ : ∃ s2, swrite s' (j + 1) ol = (s2, 0) := ⟨_, Prod.ext rfl hw0⟩
        rw [hs2] at hAn
        have HW : Hid (∀ (w1 : World) (A : Option Addr) (c : Nat), w1.ownsRow wr.heap.size 5 1 (.slice A n2 c) n2 (ol.map bv) → Keeps [] wr w1 → Calls Try.prog 16 #[.pointer (some ⟨bd, 0, none⟩), .int .u32 ((j : Int) + 1), .slice A n2 c] w1 fun e w' => e = .returned (.int .i64 0) ∧ DRep w' bd bs s2 ∧ Keeps [bd, bs] wr w') :=
          Lib.hid (fun w1 A c ho hk => swrite_own wr bd bs s' s2 0 (j + 1) ol n2 hs2 (by omega) hAr.out.w0 (by have := hAr.out.w1; omega) w1 A c ho hk hDr.out)
        replace hAn := Lib.hid hAn
        clear hw0 hs2
        go_wp2_with fail
        refine HCp.out.mono ?_
        rintro e wa ⟨A1, c1, rfl, o1, ka⟩
        have HWa := Lib.hid (HW.out wa A1 c1 o1 ka)
        clear HCp HW o1 ka
        go_wp2_with fail
        refine HWa.out.mono ?_
        rintro e wb ⟨rfl, hDb, kb⟩
        replace hDb := Lib.hid hDb
        have hkb := Lib.hid (hkr.out.trans kb)
        clear HWa kb
        go_wp2_with fail
        go_roundw
        case rel => exact ⟨j + 1, s2, by omega, by go_num, hDb, hAn, hkb⟩
        case measure => simp [intOf]; omega
      · obtain rfl : j = kk := by omega
        have hgt : ¬ ((j : Int) + 1 ≤ (j : Int)) := by omega
        have e12 : 0 ≤ x1 % 12 ∧ x1 % 12 < 12 := by omega
        have e65 : 0 ≤ x2 % 65 ∧ x2 % 65 < 65 := by omega
        have HArm := Lib.hid (arm_any wr bd bs s' (1 + x1 % 12) (x2 % 65) hDr.out (by omega))
        have hsee := torn_sees hAr.out (by omega) hlv.out.1 hlv.out.2 (1 + x1 % 12) (x2 % 65)
        have hw9 : 0 ≤ (arm s' (1 + x1 % 12) (x2 % 65)).writes ∧ (arm s' (1 + x1 % 12) (x2 % 65)).writes ≤ 900000 := by
          have h1 := hAr.out.w0
          have h2 := hAr.out.w1
          unfold arm
          split
          · exact ⟨h1, by omega⟩
          · exact ⟨h1, by show s'.writes ≤ _; omega⟩
        obtain ⟨s3, hs3⟩ : ∃ s3, arm s' (1 + x1 % 12) (x2 % 65) = s3 := ⟨_, rfl⟩
        rw [hs3] at HArm hsee hw9
        obtain ⟨u, xx, hq⟩ : ∃ u xx, swrite s3 (j + 1) l = (u, xx) := ⟨_, _, rfl⟩
        rw [hq] at hsee
        dsimp only at hsee
        obtain ⟨rb, re, rx, hr⟩ : ∃ rb re rx, sread (restart u) = (rb, re, rx) := ⟨_, _, _, rfl⟩
        rw [hr] at hsee
        replace hsee := Lib.hid hsee
        replace hq := Lib.hid hq
        replace hr := Lib.hid hr
        replace hw9 := Lib.hid hw9
        clear hs3
        have xc := hXr.out.cell
        go_wp2_with fail
        refine HArm.out.mono ?_
        rintro e wa ⟨rfl, hDa, ka⟩
        have ka2 : Keeps [bd, bs] wr wa := ka.mono (fun x hx => .inl (by simp at hx; simp [hx]))
        have hCa := Lib.hid (hCr.out.keepX ka2 hXX.out)
        have hOa := Lib.hid (hOr.out.keep ka2 (fun x hx => by have := hXX.out x hx; omega))
        have HCp := Lib.hid (cp_any wa A l n c hCa.out.data.bts hl h600)
        have HW : Hid (∀ (w1 : World) (A : Option Addr) (c : Nat), w1.ownsRow wa.heap.size 5 1 (.slice A n c) n (l.map bv) → Keeps [] wa w1 → Calls Try.prog 16 #[.pointer (some ⟨bd, 0, none⟩), .int .u32 ((j : Int) + 1), .slice A n c] w1 fun e w' => e = .returned (.int .i64 xx) ∧ DRep w' bd bs u ∧ Keeps [bd, bs] wa w') :=
          Lib.hid (fun w1 A c ho hk => swrite_own wa bd bs s3 u xx (j + 1) l n hq.out (by omega) hw9.out.1 hw9.out.2 w1 A c ho hk hDa)
        have cc := hCa.out.cc
        clear HArm ka ka2 hDa xc hXr hOr hCr hDr
        go_wp2_with fail
        refine HCp.out.mono ?_
        rintro e wb ⟨A1, c1, rfl, o1, kb⟩
        have HWb := Lib.hid (HW.out wb A1 c1 o1 kb)
        clear HCp HW o1 kb cc
        go_wp2_with fail
        refine HWb.out.mono ?_
        rintro e wc ⟨rfl, hDc, kc⟩
        have hCc := Lib.hid (hCa.out.keepX kc hXX.out)
        have hOc := Lib.hid (hOa.out.keep kc (fun x hx => by have := hXX.out x hx; omega))
        have HF := Lib.hid (restart_any wc bd bs u hDc)
        clear HWb kc hDc hCa hOa
        go_wp2_with fail
        refine HF.out.mono ?_
        rintro e wd ⟨rfl, hDd, kd⟩
        have kd2 : Keeps [bd, bs] wc wd := kd.mono (fun x hx => .inl (by simp at hx; simp [hx]))
        have hCd := Lib.hid (hCc.out.keepX kd2 hXX.out)
        have hOd := Lib.hid (hOc.out.keep kd2 (fun x hx => by have := hXX.out x hx; omega))
        obtain ⟨rn, hrn⟩ : ∃ rn, rb.length = rn := ⟨_, rfl⟩
        have HR := Lib.hid (sread_to wd bd bs (restart u) rb re rn rx hr.out hrn hDd)
        replace hrn := Lib.hid hrn
        clear HF kd kd2 hDd hCc hOc
        go_wp2_with fail
        refine HR.out.mono ?_
        rintro e we ⟨A3, c3, rfl, hb3, ke⟩
        have hCe := Lib.hid (hCd.out.keep_ ke)
        have hOe := Lib.hid (hOd.out.keep ke (by simp))
        replace hb3 := Lib.hid hb3
        have cc := hCe.out.cc
        clear HR ke hCd hOd
        rcases hsee.out with ⟨hx15, hk0, hrr⟩ | ⟨hx15, hk0, hrr⟩ | ⟨hxo, hrr⟩
        · simp only [Prod.mk.injEq] at hrr
          obtain ⟨rfl, rfl, rfl⟩ := hrr
          subst hx15
          subst hk0
          obtain rfl : rn = 0 := hrn.out.symm
          go_wp2_with fail
          go_ret
          exact ⟨rfl, hCe.out.keep⟩
        · simp only [Prod.mk.injEq] at hrr
          obtain ⟨rfl, rfl, rfl⟩ := hrr
          subst hx15
          obtain rfl : rn = n2 := hrn.out.symm.trans hl2
          have hj0 : ((re : Int) == 0) = false := by simp; omega
          have cv := run_convert_bts (P := Try.prog) (w := we) 35 9 5 Try.underlying35 Try.underlying5 Try.underlying9 A3 rb rn c3 hl2 hb3.out
          have cw := run_convert_bts (P := Try.prog) (w := we) 35 9 5 Try.underlying35 Try.underlying5 Try.underlying9 A2 rb rn c2 hl2 hOe.out.bts
          go_wp2_with fail
          go_ret
          exact ⟨rfl, hCe.out.keep⟩
        · simp only [Prod.mk.injEq] at hrr
          obtain ⟨rfl, rfl, rfl⟩ := hrr
          obtain rfl : rn = n := hrn.out.symm.trans hl
          have cv := run_convert_bts (P := Try.prog) (w := we) 35 9 5 Try.underlying35 Try.underlying5 Try.underlying9 A3 rb rn c3 hl hb3.out
          have cw := run_convert_bts (P := Try.prog) (w := we) 35 9 5 Try.underlying35 Try.underlying5 Try.underlying9 A rb rn c hl hCe.out.data.bts
          rcases hxo with rfl | rfl
          · go_wp2_with fail
            all_goals (go_ret; exact ⟨rfl, hCe.out.keep⟩)
          · go_wp2_with fail
            all_goals (go_ret; exact ⟨rfl, hCe.out.keep⟩)
end Go.Proofs.Ytoefbjeclghfhaa
