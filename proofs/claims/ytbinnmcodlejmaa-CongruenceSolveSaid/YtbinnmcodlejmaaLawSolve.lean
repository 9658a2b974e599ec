/- The walk of the law CongruenceSolve: it returns true, and of what was there nothing has turned. -/
import Derived.Test.YtbinnmcodlejmaaCong7
import Derived.Test.YtbinnmcodlejmaaCong9
namespace Go.Proofs.Ytbinnmcodlejmaa
open Go.RowKit
set_option linter.unusedSimpArgs false
set_option linter.unusedVariables false

theorem mod_mod_gcd (b a m : Int) : b % m % (Int.gcd a m : Int) = b % (Int.gcd a m : Int) := Int.emod_emod_of_dvd b (Int.gcd_dvd_right a m)

theorem rvalid_keeps (r m : Int) (w : World) (h : Val r m) : Calls Try.prog 18 #[.agg #[.int .i64 r, .int .i64 m]] w (Gives (.bool true) w) :=
  (rvalid_yes r m w h).mono fun e w' ⟨he, n, hw⟩ => ⟨he, by rw [hw]; exact ((Keeps.refl _ _).alloc _).drewN _⟩

set_option maxHeartbeats 3200000 in
theorem law_solve (a b m : Int) (w : World) (h0 : -9223372036854775808 ≤ a) (h1 : a ≤ 9223372036854775807) (h2 : -9223372036854775808 ≤ b) (h3 : b ≤ 9223372036854775807)
    (h4 : -9223372036854775808 ≤ m) (h5 : m ≤ 9223372036854775807) :
    Calls Try.prog 8 #[.int .i64 a, .int .i64 b, .int .i64 m] w (Gives (.bool true) w) := by
  go_enter Try.func8, Try.ntmps8
  go_wp2_with fail
  refine (awake_any _).mono ?_
  rintro e w1 ⟨rfl, k1⟩
  replace k1 := Lib.hid k1
  go_wp2_with fail
  refine (solve_any a b m _ h0 h1 h2 h3).mono ?_
  rintro e w2 ⟨cR, cM, ok, er, rfl, hS, k2⟩
  replace k2 := Lib.hid (k1.out.trans k2)
  clear k1
  unfold trip
  rcases hS with ⟨hm, rfl, rfl, rfl, rfl⟩ | ⟨⟨hm1, hm2⟩, ⟨hd, rfl, rfl, rfl, rfl⟩ | ⟨hd, hcM, hc1, hc2, hc3, rfl, rfl⟩⟩
  · have hmm : m < 1 ∨ (1 ≤ m ∧ 4611686018427387904 < m) := by omega
    rcases hmm with hmm | ⟨hmm, hmm2⟩
    · go_wp2_with fail
      go_ret
      refine ⟨rfl, ?_⟩
      repeat first | exact k2.out | exact Keeps.refl _ _ | apply Keeps.drewN | apply Keeps.drew | apply Keeps.alloc | refine Keeps.setCell ?_ (.inr (by simp <;> omega)) _
    · go_wp2_with fail
      go_ret
      refine ⟨rfl, ?_⟩
      repeat first | exact k2.out | exact Keeps.refl _ _ | apply Keeps.drewN | apply Keeps.drew | apply Keeps.alloc | refine Keeps.setCell ?_ (.inr (by simp <;> omega)) _
  · have S1 := fun w => solvable_any a b m w h0 h1 h2 h3 hm1 hm2
    have hB : solvableB a b m = false := by
      unfold solvableB
      rw [mod_mod_gcd] at hd
      simpa using hd
    rw [hB] at S1
    replace S1 := Lib.hid S1
    clear hB hd
    go_wp2_with fail
    refine (S1.out _).mono ?_
    rintro e w3 ⟨rfl, k3⟩
    have A := (Blk.new w2 24 #[.int .i64 0, .int .i64 0]).keep k3 (by simp)
    have cA := A.cell
    have lA := A.lt
    replace k3 := Lib.hid (k2.out.trans (((Keeps.refl [] w2).alloc _).trans k3))
    clear A k2
    go_wp2_with fail
    go_ret
    refine ⟨rfl, ?_⟩
    repeat first | exact k3.out | exact Keeps.refl _ _ | apply Keeps.drewN | apply Keeps.drew | apply Keeps.alloc | refine Keeps.setCell ?_ (.inr (by simp <;> omega)) _
  · have S1 := fun w => solvable_any a b m w h0 h1 h2 h3 hm1 hm2
    have hB : solvableB a b m = true := by
      unfold solvableB
      rw [mod_mod_gcd] at hd
      simpa using hd
    rw [hB] at S1
    replace S1 := Lib.hid S1
    have hg := gcd_pos_r (a := a % m) hm1
    have e2 := mul_div_gcd_r (a % m) m
    have hdb := div_bd hg hm1 e2
    have ra := emod_bd a m (by omega)
    have M1 := Lib.hid (fun w => rmod_any a m w h0 h1 (by omega) (by omega))
    have G1 := fun w => rgcd_any (a % m) m w (by omega) (by omega) (by omega) (by omega)
    rw [ab_nn (by omega), ab_nn (by omega)] at G1
    rw [← hcM] at hdb
    have hV : Val cR cM := ⟨by omega, by omega, hc1, hc2⟩
    have S2 := fun w => solves_any a b m cR w h0 h1 h2 h3 hm1 hm2 hc1 (by omega)
    have hB2 : solvesB a b m cR = true := by unfold solvesB; simpa using hc3
    rw [hB2] at S2
    generalize (Int.gcd (a % m) m : Int) = g at *
    generalize a % m = A at *
    have hq : m.tdiv g = cM := by rw [hcM]; exact Int.tdiv_eq_ediv_of_nonneg (by omega)
    have hq2 : m / g = cM := hcM.symm
    have hg0 : (g == 0) = false := by simp; omega
    have hg1 : ¬ g = 0 := by omega
    have hq4 : IntKind.i64.wrap cM = cM := IntWalk.i64_in _ (by omega)
    have hq5 : IntKind.i64.wrap (m.tdiv g) = cM := by rw [hq]; exact hq4
    have hgm : g ≤ m := by
      have := Int.le_of_dvd (show 0 < m by omega) (show g ∣ m from ⟨m / g, by rw [Int.mul_comm]; exact e2.symm⟩)
      exact this
    replace e2 := Lib.hid e2
    replace G1 := Lib.hid G1
    replace S2 := Lib.hid S2
    replace hcM := Lib.hid hcM
    replace hV := Lib.hid hV
    replace hc3 := Lib.hid hc3
    clear hB hd hB2
    go_wp2_with fail
    refine (S1.out _).mono ?_
    rintro e w3 ⟨rfl, k3⟩
    have A := (Blk.new w2 24 #[.int .i64 cR, .int .i64 cM]).keep k3 (by simp)
    have cA := A.cell
    have lA := A.lt
    replace k3 := Lib.hid (k2.out.trans (((Keeps.refl [] w2).alloc _).trans k3))
    clear k2
    go_wp2_with fail
    have a0 : w3.cell? ⟨w2.heap.size, 0, none⟩ = some (.int .i64 cR) := by have := A.cell 0; simpa using this
    have a1 : w3.cell? ⟨w2.heap.size, 1, none⟩ = some (.int .i64 cM) := by have := A.cell 1; simpa using this
    have HK : Hid (Keeps [] w3 w3.drew) := Lib.hid (Keeps.refl _ _).drew
    clear A cA lA
    go_region_held3 (fun w' => w'.cell? ⟨w2.heap.size, 0, none⟩ = some (.int .i64 cR) ∧ w'.cell? ⟨w2.heap.size, 1, none⟩ = some (.int .i64 cM))
      ((refine (fun (kk : Keeps [] w3 _) => ⟨kk.cellEq a0 (by simp), kk.cellEq a1 (by simp)⟩) ?_; exact HK.out))
      (first
        | (go_at_call 15; refine (of_keeps _ _ _).mono ?_; rintro e w' ⟨rfl, hk⟩; replace HK := Lib.hid (HK.out.trans hk); clear hk)
        | (go_at_call 18; refine (rvalid_keeps _ _ _ hV.out).mono ?_; rintro e w' ⟨rfl, hk⟩; replace HK := Lib.hid (HK.out.trans hk); clear hk)
        | (go_at_call 29; refine (M1.out _).mono ?_; rintro e w' ⟨rfl, rfl⟩)
        | (go_at_call 28; refine (G1.out _).mono ?_; rintro e w' ⟨rfl, nn, rfl⟩; replace HK := Lib.hid (HK.out.drewN nn))
        | (go_at_call 30; refine (S2.out _).mono ?_; rintro e w' ⟨rfl, hk⟩; replace HK := Lib.hid (HK.out.trans hk); clear hk))
    all_goals
      go_wp2_with fail
      go_ret
      exact ⟨by simp, k3.out.trans HK.out⟩
end Go.Proofs.Ytbinnmcodlejmaa
