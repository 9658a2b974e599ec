/- The walk of the law CongruenceCount: it returns true, and of what was there nothing has turned. -/
import Derived.Test.YtbinnmcodlejmaaCong7
namespace Go.Proofs.Ytbinnmcodlejmaa
open Go.RowKit
set_option linter.unusedSimpArgs false
set_option linter.unusedVariables false

theorem div_of {a m t : Int} (hm : 0 < m) (h1 : m * t ≤ a) (h2 : a < m * t + m) : a / m = t := by
  have e : a = (a - m * t) + m * t := by omega
  rw [e, Int.add_mul_ediv_left _ _ (by omega), Int.ediv_eq_zero_of_lt (by omega) (by omega)]
  omega

theorem first_form {r m lo : Int} (hv : Val r m) : ∃ t, lo + gap r m lo = r + m * t ∧ (lo - 1 - r) / m = t - 1 := by
  obtain ⟨v1, v2, v3, v4⟩ := hv
  obtain ⟨t1, e1⟩ := mod_as lo m
  obtain ⟨t2, e2⟩ := mod_as (r - lo % m) m
  have hg : 0 ≤ gap r m lo ∧ gap r m lo < m := emod_bd _ m (by omega)
  have e3 : lo + gap r m lo = r + m * (t2 - t1) := by unfold gap; rw [e2, e1]; grind
  refine ⟨t2 - t1, e3, div_of (by omega) ?_ ?_⟩
  · rw [Int.mul_sub m (t2 - t1) 1]; omega
  · rw [Int.mul_sub m (t2 - t1) 1]; omega

/-- Count, where nothing overflows. -/
theorem cnt_form {r m lo hi : Int} (hv : Val r m) (h0 : -1099511627776 ≤ lo) (h1 : lo ≤ hi + 1) (h2 : hi ≤ 1099511627776) : cnt r m lo hi = (hi - r) / m - (lo - 1 - r) / m := by
  obtain ⟨t, e1, e2⟩ := first_form (lo := lo) hv
  obtain ⟨v1, v2, v3, v4⟩ := id hv
  have hg : 0 ≤ gap r m lo ∧ gap r m lo < m := emod_bd _ m (by omega)
  have hfit : lo ≤ 9223372036854775807 - gap r m lo := by omega
  rw [e2]
  have hdm := Int.mul_ediv_add_emod (hi - r) m
  have hr0 := Int.emod_nonneg (hi - r) (show m ≠ 0 by omega)
  have hr1 := Int.emod_lt_of_pos (hi - r) (show 0 < m by omega)
  by_cases hf : lo + gap r m lo ≤ hi
  · have hc : cnt r m lo hi = min 9223372036854775807 ((hi - (lo + gap r m lo)) / m + 1) := if_pos ⟨hv, hfit, hf⟩
    have e3 : (hi - (lo + gap r m lo)) / m = (hi - r) / m - t := by
      rw [e1, show hi - (r + m * t) = hi - r + m * (-t) by grind, Int.add_mul_ediv_left _ _ (by omega)]
      omega
    have hle : (hi - (lo + gap r m lo)) / m ≤ hi - (lo + gap r m lo) := Int.ediv_le_self m (by omega)
    rw [hc, Int.min_eq_right (by omega), e3]
    omega
  · have hc : cnt r m lo hi = 0 := if_neg (fun h => hf h.2.2)
    have e3 : (hi - r) / m = t - 1 := by
      refine div_of (by omega) ?_ ?_
      · rw [Int.mul_sub m t 1]; omega
      · rw [Int.mul_sub m t 1]; omega
    rw [hc, e3]
    omega

theorem cnt_add {r m lo hi mid : Int} (h0 : -1099511627776 ≤ lo) (h1 : lo ≤ mid) (h2 : mid ≤ hi) (h3 : hi ≤ 1099511627776) : cnt r m lo mid + cnt r m (mid + 1) hi = cnt r m lo hi := by
  by_cases hv : Val r m
  · rw [cnt_form hv (by omega) (by omega) (by omega), cnt_form hv (by omega) (by omega) (by omega), cnt_form hv (by omega) (by omega) (by omega)]
    rw [show mid + 1 - 1 - r = mid - r by omega]
    omega
  · have hz : ∀ a b, cnt r m a b = 0 := fun a b => if_neg (fun h => hv h.1)
    rw [hz, hz, hz]
    rfl
theorem cnt_bd (r m lo hi : Int) (hl : -9223372036854775808 ≤ lo) : 0 ≤ cnt r m lo hi ∧ cnt r m lo hi ≤ 9223372036854775807 := by
  unfold cnt
  split
  · rename_i h
    have := Int.ediv_nonneg (show 0 ≤ hi - (lo + gap r m lo) by omega) (show 0 ≤ m by have := h.1.1; omega)
    omega
  · omega

set_option maxHeartbeats 1600000 in
theorem law_count (r m lo hi : Int) (w : World) (h0 : -9223372036854775808 ≤ lo) (h1 : lo ≤ 9223372036854775807) (h2 : -9223372036854775808 ≤ hi) (h3 : hi ≤ 9223372036854775807) :
    Calls Try.prog 7 #[.agg #[.int .i64 r, .int .i64 m], .int .i64 lo, .int .i64 hi] w (Gives (.bool true) w) := by
  have N1 := fun w => count_any r m lo hi w h0 h1 h2 h3
  have N2 := fun w => rcount_any r m lo hi w h0 h1 h2 h3
  have hadd := fun mid => @cnt_add r m lo hi mid
  have hbd := cnt_bd r m
  have hCb := cnt_bd r m lo hi h0
  generalize hC : cnt r m lo hi = C at *
  replace N1 := Lib.hid N1
  replace N2 := Lib.hid N2
  replace hadd := Lib.hid hadd
  replace hbd := Lib.hid hbd
  clear hC
  go_enter Try.func7, Try.ntmps7
  go_wp2_with fail
  refine (awake_any _).mono ?_
  rintro e w1 ⟨rfl, k1⟩
  have A := (Blk.new w 28 #[.int .i64 r, .int .i64 m]).keep k1 (by simp)
  replace k1 := Lib.hid (((Keeps.refl [] w).alloc _).trans k1)
  have cA := A.cell
  replace A := Lib.hid A
  go_wp2_with fail
  refine (to_keeps _ _ _).mono ?_
  rintro e w2 ⟨rfl, k2⟩
  replace A := A.out.keep k2 (by simp)
  replace k2 := Lib.hid (k1.out.trans k2)
  clear cA k1
  go_wp2_with fail
  refine (N1.out _).mono ?_
  rintro e w3 ⟨rfl, k3⟩
  replace A := A.keep k3 (by simp)
  replace k3 := Lib.hid (k2.out.trans k3)
  have cA := A.cell
  replace A := Lib.hid A
  clear k2
  go_wp2_with fail
  refine (N2.out _).mono ?_
  rintro e w4 ⟨rfl, k4⟩
  replace A := A.out.keep k4 (by simp)
  replace k4 := Lib.hid (k3.out.trans k4)
  clear cA k3
  have dec : (hi ≤ lo ∨ (lo < hi ∧ lo < -1099511627776) ∨ (lo < hi ∧ -1099511627776 ≤ lo ∧ 1099511627776 < hi)) ∨ (lo < hi ∧ -1099511627776 ≤ lo ∧ hi ≤ 1099511627776) := by omega
  rcases dec with (d | ⟨d, d2⟩ | ⟨d, d2, d3⟩) | ⟨d1, d2, d3⟩
  · go_wp2_with fail
    go_ret
    exact ⟨rfl, k4.out⟩
  · go_wp2_with fail
    go_ret
    exact ⟨rfl, k4.out⟩
  · go_wp2_with fail
    go_ret
    exact ⟨rfl, k4.out⟩
  · have hmid : lo ≤ lo + (hi - lo) / 2 ∧ lo + (hi - lo) / 2 < hi := by omega
    go_wp2_with fail
    generalize lo + (hi - lo) / 2 = mid at *
    have hs := hadd.out mid d2 hmid.1 (by omega) d3
    have b1 := hbd.out lo mid h0
    have b2 := hbd.out (mid + 1) hi (by omega)
    have C1 := Lib.hid (fun w => count_any r m lo mid w h0 h1 (by omega) (by omega))
    have C2 := Lib.hid (fun w => count_any r m (mid + 1) hi w (by omega) (by omega) h2 h3)
    generalize cnt r m lo mid = x at *
    generalize cnt r m (mid + 1) hi = y at *
    have e1 : IntKind.i64.wrap (mid + 1) = mid + 1 := IntWalk.i64_in _ (by omega)
    have e2 : IntKind.i64.wrap (x + y) = C := by rw [hs]; exact IntWalk.i64_in _ (by omega)
    replace hs := Lib.hid hs
    obtain ⟨w0, rfl⟩ : ∃ w0, w0 = w4 := ⟨_, rfl⟩
    have a0 : w0.cell? ⟨w.heap.size, 0, none⟩ = some (.int .i64 r) := by have := A.cell 0; simpa using this
    have a1 : w0.cell? ⟨w.heap.size, 1, none⟩ = some (.int .i64 m) := by have := A.cell 1; simpa using this
    have HK : Hid (Keeps [] w0 w0.drew) := Lib.hid (Keeps.refl _ _).drew
    clear A hbd hadd N1 N2
    go_region_held3 (fun w' => w'.cell? ⟨w.heap.size, 0, none⟩ = some (.int .i64 r) ∧ w'.cell? ⟨w.heap.size, 1, none⟩ = some (.int .i64 m))
      ((refine (fun (kk : Keeps [] w0 _) => ⟨kk.cellEq a0 (by simp), kk.cellEq a1 (by simp)⟩) ?_; exact HK.out))
      (first
        | (go_at_call 17; refine (to_keeps _ _ _).mono ?_; rintro e w' ⟨rfl, hk⟩; replace HK := Lib.hid (HK.out.trans hk); clear hk)
        | (go_at_call 24; ((with_reducible refine (C1.out _).mono ?_); rintro e w' ⟨rfl, hk⟩; replace HK := Lib.hid (HK.out.trans hk); clear hk))
        | (go_at_call 24; ((with_reducible refine (C2.out _).mono ?_); rintro e w' ⟨rfl, hk⟩; replace HK := Lib.hid (HK.out.trans hk); clear hk)))
    all_goals
      go_wp2_with fail
      go_ret
      exact ⟨by simp, k4.out.trans HK.out⟩
end Go.Proofs.Ytbinnmcodlejmaa
