/- Contracts: Meet and Solve. -/
import Derived.Test.YtbinnmcodlejmaaCong3
namespace Go.Proofs.Ytbinnmcodlejmaa
open Go.RowKit
set_option linter.unusedSimpArgs false
set_option linter.unusedVariables false

theorem ab_nn {a : Int} (h : 0 ≤ a) : ab a = a := by
  unfold ab; rw [if_neg (by omega), if_neg (by omega)]

theorem tmod_zero {d g : Int} (hg : 1 ≤ g) : d.tmod g = 0 ↔ d % g = 0 := by
  have h1 := Int.tmod_eq_emod (a := d) (b := g)
  have := Int.emod_lt_of_pos d (show 0 < g by omega)
  have := Int.emod_nonneg d (show g ≠ 0 by omega)
  split at h1 <;> omega

theorem tdiv_same {d g : Int} (hg : 1 ≤ g) (h : d % g = 0) : d.tdiv g = d / g := Int.tdiv_eq_ediv_of_dvd (Int.dvd_of_emod_eq_zero h)

theorem quo_bd {q g d : Int} (hg : 1 ≤ g) (h : q * g = d) (B : Int) (h1 : -B ≤ d) (h2 : d ≤ B) : -B ≤ q ∧ q ≤ B := by
  have : 0 ≤ B := by omega
  constructor
  · rcases Int.lt_or_le q 0 with h3 | h3
    · have := Int.mul_le_mul_of_nonneg_left hg (show 0 ≤ -q by omega)
      rw [Int.neg_mul, Int.neg_mul] at this
      omega
    · omega
  · rcases Int.lt_or_le q 0 with h3 | h3
    · omega
    · have := Int.mul_le_mul_of_nonneg_left hg h3
      omega

theorem Ext.one {a b g x y : Int} (h : Ext a b g x y) (ha : 0 ≤ a) (hb : 1 ≤ b) (hg : Int.gcd a b = 1) : a * x + b * y = 1 ∧ -b ≤ x ∧ x ≤ b := by
  obtain ⟨h1, h2, U, V, hU, hV, e1, e2, b1, b2⟩ := h
  have pa : pm a = a := by unfold pm; rw [if_neg (by omega), ab_nn ha]
  have pb : pm b = b := by unfold pm; rw [if_neg (by omega), ab_nn (by omega)]
  rw [ab_nn ha, ab_nn (by omega), hg] at h1
  rw [pa, pb] at h2
  rw [h1, ab_nn (by omega)] at e1
  subst h1
  omega

def trip (r m : Int) (ok : Bool) (er : Int) : Value := .tuple #[.agg #[.int .i64 r, .int .i64 m], .bool ok, .int .i64 er]
def MeetPost (aR aM bR bM : Int) (w : World) (e : Ending) (w' : World) : Prop :=
  ∃ cR cM ok er, e = .returned (trip cR cM ok er) ∧ MeetRes aR aM bR bM cR cM ok er ∧ Keeps [] w w'
def SolvePost (a b m : Int) (w : World) (e : Ending) (w' : World) : Prop :=
  ∃ cR cM ok er, e = .returned (trip cR cM ok er) ∧ SolveRes a b m cR cM ok er ∧ Keeps [] w w'

set_option maxHeartbeats 1600000 in
theorem meet_any (aR aM bR bM : Int) (w : World) : Calls Try.prog 16 #[.agg #[.int .i64 aR, .int .i64 aM], .agg #[.int .i64 bR, .int .i64 bM]] w (MeetPost aR aM bR bM w) := by
  by_cases ha : Val aR aM
  · by_cases hb : Val bR bM
    · have hga := gcd_pos_l (b := bM) ha.1
      have ha' := Lib.hid ha
      have hb' := Lib.hid hb
      obtain ⟨ha1, ha2, ha3, ha4⟩ := ha
      obtain ⟨hb1, hb2, hb3, hb4⟩ := hb
      go_enter Try.func16, Try.ntmps16
      go_wp2_with fail
      refine (valid_yes _ _ _ ha'.out).mono ?_
      rintro e w' ⟨rfl, rfl⟩
      go_wp2_with fail
      refine (valid_yes _ _ _ hb'.out).mono ?_
      rintro e w' ⟨rfl, rfl⟩
      go_wp2_with fail
      refine (gcd_any aM bM _ (by omega) (by omega) (by omega) (by omega)).mono ?_
      rintro e w' ⟨rfl, n, rfl⟩
      rw [ab_nn (show 0 ≤ aM by omega), ab_nn (show 0 ≤ bM by omega)]
      have e1 := mul_div_gcd_l aM bM
      have e2 := mul_div_gcd_r aM bM
      have hone := gcd_one aM bM hb1
      generalize hG : (Int.gcd aM bM : Int) = g at *
      have hgb : g ≤ aM := Int.le_of_dvd (by omega) ⟨_, (by rw [Int.mul_comm]; exact e1.symm)⟩
      replace hone := Lib.hid hone
      replace e1 := Lib.hid e1
      have hn := div_bd hga hb1 e2
      have ha5 := div_bd hga ha1 e1.out
      replace e2 := Lib.hid e2
      replace hG := Lib.hid hG
      have htm := tmod_bd (bR - aR) g (by omega)
      by_cases hd : (bR - aR).tmod g = 0
      · have hd0 := (tmod_zero hga).1 hd
        have hq := tdiv_same hga hd0
        have hqg : (bR - aR) / g * g = bR - aR := Int.ediv_mul_cancel (Int.dvd_of_emod_eq_zero hd0)
        have hqb := quo_bd hga hqg 4611686018427387904 (by omega) (by omega)
        replace hqg := Lib.hid hqg
        replace hd0 := Lib.hid hd0
        have hT : ((bR - aR).tmod g == 0) = true := by simpa using hd
        have hT2 : ((bR - aR).tmod g != 0) = false := by simpa using hd
        replace hd := Lib.hid hd
        generalize hN : bM / g = n at *
        have hN' := Lib.hid hN
        by_cases hL : 4611686018427387904 / n < aM
        · have hL2 : 4611686018427387904 < aM * n := by
            rw [Int.ediv_lt_iff_lt_mul (by omega)] at hL
            omega
          go_wp2_with fail
          go_quiet (fail)
          go_wp2_with fail
          refine bodyPost_ret (v := trip 0 0 false 3) (by simp [results, Try.results16, go_sem, trip]) rfl ⟨_, _, _, _, rfl, .inr ⟨ha'.out, hb'.out, .inr (.inl ⟨by rw [hG.out]; exact hd0.out, by rw [hG.out, hN'.out]; exact hL2, rfl, rfl, rfl, rfl⟩)⟩, ?_⟩
          repeat first | exact Keeps.refl _ _ | apply Keeps.drewN | apply Keeps.drew | apply Keeps.alloc | refine Keeps.setCell ?_ (.inr (by simp <;> omega)) _
        · have hL2 : aM * n ≤ 4611686018427387904 := by
            rw [Int.ediv_lt_iff_lt_mul (by omega)] at hL
            omega
          go_wp2_with fail
          go_quiet (fail)
          go_wp2_with fail
          have h0n : 0 ≤ aM / g := by omega
          refine (ext_any (aM / g) n _ (by omega) (by omega) (by omega) (by omega) (by omega)).mono ?_
          rintro e w' ⟨gg, x, y, rfl, hE, rfl⟩
          obtain ⟨hx1, hx2, hx3⟩ := hE.one (by omega) (by omega) hone.out
          have hmm := meet_math ha'.out hb'.out hG.out.symm hd0.out hN'.out.symm hx1 rfl
          generalize hK : ((bR - aR) / g % n * (x % n)) % n = k at *
          obtain ⟨⟨k0, k1⟩, ⟨k2, k3⟩, k4, k5⟩ := hmm
          replace k4 := Lib.hid k4
          replace k5 := Lib.hid k5
          replace hx1 := Lib.hid hx1
          generalize (bR - aR) / g = q at *
          have C1 := Lib.hid (fun w => mod_any q n w (by omega) (by omega) (by omega) (by omega))
          have C2 := Lib.hid (fun w => mod_any x n w (by omega) (by omega) (by omega) (by omega))
          have hm1 := emod_bd q n (by omega)
          have hm2 := emod_bd x n (by omega)
          have C3 := Lib.hid (fun w => product_any (q % n) (x % n) n w hm1.1 hm1.2 hm2.1 hm2.2 (by omega))
          rw [hK] at C3
          replace hK := Lib.hid hK
          go_wp2_with fail
          refine (C1.out _).mono ?_
          rintro e w' ⟨rfl, rfl⟩
          go_wp2_with fail
          refine (C2.out _).mono ?_
          rintro e w' ⟨rfl, rfl⟩
          go_wp2_with fail
          refine (C3.out _).mono ?_
          rintro e w' ⟨rfl, nn, rfl⟩
          go_wp2_with fail
          refine bodyPost_ret (v := trip (aR + aM * k) (aM * n) true 0) (by simp [results, Try.results16, go_sem, trip]) rfl ⟨_, _, _, _, rfl, .inr ⟨ha'.out, hb'.out, .inr (.inr ⟨by rw [hG.out]; exact hd0.out, by rw [hG.out, hN'.out], ⟨?_, hL2, by omega, by omega⟩, k4.out, k5.out, rfl, rfl⟩)⟩, ?_⟩
          · have := Int.mul_le_mul_of_nonneg_left hn.1 (show 0 ≤ aM by omega)
            omega
          · repeat first | exact Keeps.refl _ _ | apply Keeps.drewN | apply Keeps.drew | apply Keeps.alloc | refine Keeps.setCell ?_ (.inr (by simp <;> omega)) _
      · have hT : ((bR - aR).tmod g == 0) = false := by simpa using hd
        have hT2 : ((bR - aR).tmod g != 0) = true := by simpa using hd
        replace hd := Lib.hid hd
        go_wp2_with fail
        refine bodyPost_ret (v := trip 0 0 false 0) (by simp [results, Try.results16, go_sem, trip]) rfl ⟨0, 0, false, 0, rfl, .inr ⟨ha'.out, hb'.out, .inl ⟨by rw [hG.out]; exact fun h => hd.out ((tmod_zero hga).2 h), rfl, rfl, rfl, rfl⟩⟩, ?_⟩
        repeat first | exact Keeps.refl _ _ | apply Keeps.drewN | apply Keeps.drew | apply Keeps.alloc | refine Keeps.setCell ?_ (.inr (by simp <;> omega)) _
    · have ha := Lib.hid ha
      have hb := Lib.hid hb
      go_enter Try.func16, Try.ntmps16
      go_wp2_with fail
      refine (valid_yes _ _ _ ha.out).mono ?_
      rintro e w' ⟨rfl, rfl⟩
      go_wp2_with fail
      refine (valid_no _ _ _ hb.out).mono ?_
      rintro e w' ⟨rfl, rfl⟩
      go_wp2_with fail
      refine bodyPost_ret (v := trip 0 0 false 1) (by simp [results, Try.results16, go_sem, trip]) rfl ⟨_, _, _, _, rfl, .inl ⟨fun h => hb.out h.2, rfl, rfl, rfl, rfl⟩, ?_⟩
      repeat first | exact Keeps.refl _ _ | apply Keeps.drewN | apply Keeps.drew | apply Keeps.alloc | refine Keeps.setCell ?_ (.inr (by simp <;> omega)) _
  · have ha := Lib.hid ha
    go_enter Try.func16, Try.ntmps16
    go_wp2_with fail
    refine (valid_no _ _ _ ha.out).mono ?_
    rintro e w' ⟨rfl, rfl⟩
    go_wp2_with fail
    refine bodyPost_ret (v := trip 0 0 false 1) (by simp [results, Try.results16, go_sem, trip]) rfl ⟨_, _, _, _, rfl, .inl ⟨fun h => ha.out h.1, rfl, rfl, rfl, rfl⟩, ?_⟩
    repeat first | exact Keeps.refl _ _ | apply Keeps.drewN | apply Keeps.drew | apply Keeps.alloc | refine Keeps.setCell ?_ (.inr (by simp <;> omega)) _

set_option maxHeartbeats 1600000 in
theorem solve_any (a b m : Int) (w : World) (h0 : -9223372036854775808 ≤ a) (h1 : a ≤ 9223372036854775807) (h2 : -9223372036854775808 ≤ b) (h3 : b ≤ 9223372036854775807) :
    Calls Try.prog 26 #[.int .i64 a, .int .i64 b, .int .i64 m] w (SolvePost a b m w) := by
  by_cases hm1 : m < 1
  · go_enter Try.func26, Try.ntmps26
    go_wp2_with fail
    refine bodyPost_ret (v := trip 0 0 false 1) (by simp [results, Try.results26, go_sem, trip]) rfl ⟨_, _, _, _, rfl, .inl ⟨fun h => by omega, rfl, rfl, rfl, rfl⟩, ?_⟩
    repeat first | exact Keeps.refl _ _ | apply Keeps.drewN | apply Keeps.drew | apply Keeps.alloc | refine Keeps.setCell ?_ (.inr (by simp <;> omega)) _
  · by_cases hm2 : 4611686018427387904 < m
    · go_enter Try.func26, Try.ntmps26
      go_wp2_with fail
      refine bodyPost_ret (v := trip 0 0 false 1) (by simp [results, Try.results26, go_sem, trip]) rfl ⟨_, _, _, _, rfl, .inl ⟨fun h => by omega, rfl, rfl, rfl, rfl⟩, ?_⟩
      repeat first | exact Keeps.refl _ _ | apply Keeps.drewN | apply Keeps.drew | apply Keeps.alloc | refine Keeps.setCell ?_ (.inr (by simp <;> omega)) _
    · have hm3 : 1 ≤ m := by omega
      have hm4 : m ≤ 4611686018427387904 := by omega
      clear hm1 hm2
      have D1 := Lib.hid (fun w => mod_any a m w (by omega) (by omega) (by omega) (by omega))
      have D2 := Lib.hid (fun w => mod_any b m w (by omega) (by omega) (by omega) (by omega))
      have ra := emod_bd a m (by omega)
      have rb := emod_bd b m (by omega)
      have hga := gcd_pos_r (a := a % m) hm3
      go_enter Try.func26, Try.ntmps26
      go_wp2_with fail
      refine (D1.out _).mono ?_
      rintro e w' ⟨rfl, rfl⟩
      go_wp2_with fail
      refine (D2.out _).mono ?_
      rintro e w' ⟨rfl, rfl⟩
      have e1 := mul_div_gcd_l (a % m) m
      have e2 := mul_div_gcd_r (a % m) m
      have hone := gcd_one (a % m) m hm3
      have hmath := fun k g n x y => @solve_math a b m k g n x y hm3
      replace hmath := Lib.hid hmath
      clear D1 D2
      generalize ha0 : a % m = a0 at *
      generalize hb0 : b % m = b0 at *
      replace ha0 := Lib.hid ha0
      replace hb0 := Lib.hid hb0
      go_wp2_with fail
      refine (gcd_any a0 m _ (by omega) (by omega) (by omega) (by omega)).mono ?_
      rintro e w' ⟨rfl, n, rfl⟩
      rw [ab_nn (show 0 ≤ a0 by omega), ab_nn (show 0 ≤ m by omega)]
      generalize hG : (Int.gcd a0 m : Int) = g at *
      have hgm : g ≤ m := Int.le_of_dvd (by omega) ⟨_, (by rw [Int.mul_comm]; exact e2.symm)⟩
      replace hone := Lib.hid hone
      have hn := div_bd hga hm3 e2
      have ha5 : 0 ≤ a0 / g ∧ a0 / g ≤ a0 := ⟨Int.ediv_nonneg (by omega) (by omega), Int.ediv_le_self g (by omega)⟩
      replace e1 := Lib.hid e1
      replace e2 := Lib.hid e2
      replace hG := Lib.hid hG
      by_cases hd : b0 % g = 0
      · have hT : (b0 % g == 0) = true := by simpa using hd
        have hT2 : (b0 % g != 0) = false := by simpa using hd
        have hqg : b0 / g * g = b0 := Int.ediv_mul_cancel (Int.dvd_of_emod_eq_zero hd)
        have hqb := quo_bd hga hqg 4611686018427387904 (by omega) (by omega)
        replace hqg := Lib.hid hqg
        replace hd := Lib.hid hd
        generalize hN : m / g = n at *
        have hN' := Lib.hid hN
        go_wp2_with fail
        refine (ext_any (a0 / g) n _ (by omega) (by omega) (by omega) (by omega) (by omega)).mono ?_
        rintro e w' ⟨gg, x, y, rfl, hE, rfl⟩
        obtain ⟨hx1, hx2, hx3⟩ := hE.one (by omega) (by omega) hone.out
        have hmm := hmath.out _ _ _ _ _ rfl hd.out hN'.out.symm hx1 rfl
        generalize hK : (b0 / g % n * (x % n)) % n = k at *
        obtain ⟨⟨k0, k1⟩, k4⟩ := hmm
        replace k4 := Lib.hid k4
        replace hx1 := Lib.hid hx1
        generalize hQ : b0 / g = q at *
        have C1 := Lib.hid (fun w => mod_any q n w (by omega) (by omega) (by omega) (by omega))
        have C2 := Lib.hid (fun w => mod_any x n w (by omega) (by omega) (by omega) (by omega))
        have hm1 := emod_bd q n (by omega)
        have hm2 := emod_bd x n (by omega)
        have C3 := Lib.hid (fun w => product_any (q % n) (x % n) n w hm1.1 hm1.2 hm2.1 hm2.2 (by omega))
        rw [hK] at C3
        replace hK := Lib.hid hK
        go_wp2_with fail
        refine (C1.out _).mono ?_
        rintro e w' ⟨rfl, rfl⟩
        go_wp2_with fail
        refine (C2.out _).mono ?_
        rintro e w' ⟨rfl, rfl⟩
        go_wp2_with fail
        refine (C3.out _).mono ?_
        rintro e w' ⟨rfl, nn, rfl⟩
        go_wp2_with fail
        refine bodyPost_ret (v := trip k n true 0) (by simp [results, Try.results26, go_sem, trip]) rfl ⟨_, _, _, _, rfl, .inr ⟨⟨hm3, hm4⟩, .inr ⟨by rw [ha0.out, hb0.out, hG.out]; exact hd.out, by rw [ha0.out, hG.out, hN'.out], k0, k1, by rw [hb0.out]; exact k4.out, rfl, rfl⟩⟩, ?_⟩
        repeat first | exact Keeps.refl _ _ | apply Keeps.drewN | apply Keeps.drew | apply Keeps.alloc | refine Keeps.setCell ?_ (.inr (by simp <;> omega)) _
      · have hT : (b0 % g == 0) = false := by simpa using hd
        have hT2 : (b0 % g != 0) = true := by simpa using hd
        replace hd := Lib.hid hd
        go_wp2_with fail
        refine bodyPost_ret (v := trip 0 0 false 0) (by simp [results, Try.results26, go_sem, trip]) rfl ⟨_, _, _, _, rfl, .inr ⟨⟨hm3, hm4⟩, .inl ⟨by rw [ha0.out, hb0.out, hG.out]; exact hd.out, rfl, rfl, rfl, rfl⟩⟩, ?_⟩
        repeat first | exact Keeps.refl _ _ | apply Keeps.drewN | apply Keeps.drew | apply Keeps.alloc | refine Keeps.setCell ?_ (.inr (by simp <;> omega)) _
end Go.Proofs.Ytbinnmcodlejmaa
