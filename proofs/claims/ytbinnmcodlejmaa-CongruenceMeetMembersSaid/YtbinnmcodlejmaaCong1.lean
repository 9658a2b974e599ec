/- Contracts of the leaves of the package congruence: remainder, absolute value, the greatest common divisor, the extended Euclid. -/
import Derived.WalkKit
import Derived.WalkSpells
import Derived.WalkLawsBesides
import Derived.Lib.Hide
import Derived.IntWalk
import Derived.Outline
import Derived.Deep.QuietTactic
import Derived.BigQuiet
import Derived.Test.YtbinnmcodlejmaaRows
import Derived.Test.YtbinnmcodlejmaaCong0
namespace Go.Proofs.Ytbinnmcodlejmaa
open Go.RowKit
set_option linter.unusedSimpArgs false
set_option linter.unusedVariables false

/-- The call returns v; the world is as it was, but that it may have drawn. -/
def Still (v : Value) (w : World) (e : Ending) (w' : World) : Prop := e = .returned v ∧ ∃ n, w' = w.drewN n
theorem Still.mk {v : Value} {w : World} {n : Nat} {e : Ending} (h : e = .returned v) : Still v w e (w.drewN n) := ⟨h, n, rfl⟩
theorem emod_bd (x y : Int) (hy : 0 < y) : 0 ≤ x % y ∧ x % y < y := ⟨Int.emod_nonneg x (by omega), Int.emod_lt_of_pos x hy⟩

theorem ret_int {k : IntKind} {a b : Int} (h : a = b) : Ending.returned (.int k a) = .returned (.int k b) := by rw [h]

theorem tmod_fix (n m : Int) (hm : 0 < m) : n.tmod m < 0 → n.tmod m + m = n % m := by
  intro h
  have h1 := Int.tmod_eq_emod (a := n) (b := m)
  have := Int.emod_lt_of_pos n hm
  have := Int.emod_nonneg n (by omega : m ≠ 0)
  split at h1 <;> omega
theorem tmod_fix0 (n m : Int) (hm : 0 < m) : ¬ n.tmod m < 0 → n.tmod m = n % m := by
  intro h
  have h1 := Int.tmod_eq_emod (a := n) (b := m)
  have := Int.emod_lt_of_pos n hm
  have := Int.emod_nonneg n (by omega : m ≠ 0)
  split at h1 <;> omega
theorem tmod_bd (n m : Int) (hm : 0 < m) : -m < n.tmod m ∧ n.tmod m < m := by
  have h1 := Int.tmod_eq_emod (a := n) (b := m)
  have := Int.emod_lt_of_pos n hm
  have := Int.emod_nonneg n (by omega : m ≠ 0)
  split at h1 <;> omega


set_option maxHeartbeats 400000 in
theorem mod_any (n m : Int) (w : World) (h0 : -9223372036854775808 ≤ n) (h1 : n ≤ 9223372036854775807) (hm : 0 < m) (hm' : m ≤ 9223372036854775807) :
    Calls Try.prog 35 #[.int .i64 n, .int .i64 m] w fun e w' => e = .returned (.int .i64 (n % m)) ∧ w = w' := by
  have hb := tmod_bd n m hm
  have hf := Lib.hid (tmod_fix n m hm)
  have hf0 := Lib.hid (tmod_fix0 n m hm)
  by_cases hn : n.tmod m < 0
  · go_enter Try.func35, Try.ntmps35
    go_wp2
    go_ret
    exact ⟨ret_int (hf.out hn), rfl⟩
  · go_enter Try.func35, Try.ntmps35
    go_wp2
    go_ret
    exact ⟨ret_int (hf0.out hn), rfl⟩

set_option maxHeartbeats 400000 in
theorem rmod_any (n m : Int) (w : World) (h0 : -9223372036854775808 ≤ n) (h1 : n ≤ 9223372036854775807) (hm : 0 < m) (hm' : m ≤ 9223372036854775807) :
    Calls Try.prog 29 #[.int .i64 n, .int .i64 m] w fun e w' => e = .returned (.int .i64 (n % m)) ∧ w = w' := by
  have hb := tmod_bd n m hm
  have hf := Lib.hid (tmod_fix n m hm)
  have hf0 := Lib.hid (tmod_fix0 n m hm)
  by_cases hn : n.tmod m < 0
  · go_enter Try.func29, Try.ntmps29
    go_wp2
    go_ret
    exact ⟨ret_int (hf.out hn), rfl⟩
  · go_enter Try.func29, Try.ntmps29
    go_wp2
    go_ret
    exact ⟨ret_int (hf0.out hn), rfl⟩

set_option maxHeartbeats 400000 in
theorem abs_any (n : Int) (w : World) (h0 : -9223372036854775808 ≤ n) (h1 : n ≤ 9223372036854775807) :
    Calls Try.prog 40 #[.int .i64 n] w fun e w' => e = .returned (.int .i64 (ab n)) ∧ w = w' := by
  by_cases h2 : n = -9223372036854775808
  · subst h2
    go_enter Try.func40, Try.ntmps40
    go_wp2
    go_ret
    exact ⟨rfl, rfl⟩
  · obtain ⟨v, hv⟩ : ∃ v, v = ab n := ⟨_, rfl⟩
    have ha := Lib.hid hv
    rw [← hv]
    clear hv
    have h4 : -9223372036854775808 < n := by omega
    by_cases h3 : n < 0
    all_goals
      go_enter Try.func40, Try.ntmps40
      go_wp2
      go_ret
      exact ⟨ret_int (by rw [ha.out]; unfold ab; rw [if_neg h2]; first | exact (if_pos h3).symm | exact (if_neg (by omega)).symm), rfl⟩

set_option maxHeartbeats 400000 in
theorem rabs_any (n : Int) (w : World) (h0 : -9223372036854775808 ≤ n) (h1 : n ≤ 9223372036854775807) :
    Calls Try.prog 33 #[.int .i64 n] w fun e w' => e = .returned (.int .i64 (ab n)) ∧ w = w' := by
  by_cases h2 : n = -9223372036854775808
  · subst h2
    go_enter Try.func33, Try.ntmps33
    go_wp2
    go_ret
    exact ⟨rfl, rfl⟩
  · obtain ⟨v, hv⟩ : ∃ v, v = ab n := ⟨_, rfl⟩
    have ha := Lib.hid hv
    rw [← hv]
    clear hv
    have h4 : -9223372036854775808 < n := by omega
    by_cases h3 : n < 0
    all_goals
      go_enter Try.func33, Try.ntmps33
      go_wp2
      go_ret
      exact ⟨ret_int (by rw [ha.out]; unfold ab; rw [if_neg h2]; first | exact (if_pos h3).symm | exact (if_neg (by omega)).symm), rfl⟩



set_option maxHeartbeats 400000 in
theorem gcd_any (a b : Int) (w : World) (h0 : -9223372036854775808 ≤ a) (h1 : a ≤ 9223372036854775807) (h2 : -9223372036854775808 ≤ b) (h3 : b ≤ 9223372036854775807) :
    Calls Try.prog 32 #[.int .i64 a, .int .i64 b] w (Still (.int .i64 (Int.gcd (ab a) (ab b))) w) := by
  have ba := ab_bd a h0 h1
  have bb := ab_bd b h2 h3
  go_enter Try.func32, Try.ntmps32
  go_wp2_with fail
  refine (abs_any a _ h0 h1).mono ?_
  rintro e w' ⟨rfl, rfl⟩
  go_wp2_with fail
  refine (abs_any b _ h2 h3).mono ?_
  rintro e w' ⟨rfl, rfl⟩
  go_wp2_with fail
  generalize ab a = A at *
  generalize ab b = B at *
  go_loopw [0, 1] (fun s t wr => ∃ x y : Int, 0 ≤ x ∧ x ≤ 9223372036854775807 ∧ 0 ≤ y ∧ y ≤ 9223372036854775807 ∧ Hid (Int.gcd x y = Int.gcd A B) ∧ s = .int .i64 x ∧ t = .int .i64 y ∧ ∃ k, wr = w.drewN k)
    (fun _ t _ => (intOf t).toNat)
  case atStart => exact ⟨A, B, by omega, by omega, by omega, by omega, Lib.hid rfl, rfl, rfl, 0, rfl⟩
  case round =>
    obtain ⟨x, y, hx0, hx1, hy0, hy1, hg, rfl, rfl, k, rfl⟩ := hrel
    by_cases hy : y = 0
    · subst hy
      go_wp2_with fail
      go_ret
      refine Still.mk (ret_int ?_)
      rw [← hg.out]
      simp
      omega
    · have hy2 : 0 < y := by omega
      have hm := emod_bd x y hy2
      clear hy
      go_wp2_with fail
      go_quiet (fail)
      go_wp2_with fail
      go_roundw
      case rel => exact ⟨y, x % y, by omega, by omega, by omega, by omega, Lib.hid ((gcd_step x y hx0 hy2).trans hg.out), rfl, rfl, _, by rw [World.drewN_drewN]⟩
      case measure => simp [intOf]; omega

set_option maxHeartbeats 400000 in
theorem rgcd_any (a b : Int) (w : World) (h0 : -9223372036854775808 ≤ a) (h1 : a ≤ 9223372036854775807) (h2 : -9223372036854775808 ≤ b) (h3 : b ≤ 9223372036854775807) :
    Calls Try.prog 28 #[.int .i64 a, .int .i64 b] w (Still (.int .i64 (Int.gcd (ab a) (ab b))) w) := by
  have ba := ab_bd a h0 h1
  have bb := ab_bd b h2 h3
  go_enter Try.func28, Try.ntmps28
  go_wp2_with fail
  refine (rabs_any a _ h0 h1).mono ?_
  rintro e w' ⟨rfl, rfl⟩
  go_wp2_with fail
  refine (rabs_any b _ h2 h3).mono ?_
  rintro e w' ⟨rfl, rfl⟩
  go_wp2_with fail
  generalize ab a = A at *
  generalize ab b = B at *
  go_loopw [0, 1] (fun s t wr => ∃ x y : Int, 0 ≤ x ∧ x ≤ 9223372036854775807 ∧ 0 ≤ y ∧ y ≤ 9223372036854775807 ∧ Hid (Int.gcd x y = Int.gcd A B) ∧ s = .int .i64 x ∧ t = .int .i64 y ∧ ∃ k, wr = w.drewN k)
    (fun _ t _ => (intOf t).toNat)
  case atStart => exact ⟨A, B, by omega, by omega, by omega, by omega, Lib.hid rfl, rfl, rfl, 0, rfl⟩
  case round =>
    obtain ⟨x, y, hx0, hx1, hy0, hy1, hg, rfl, rfl, k, rfl⟩ := hrel
    by_cases hy : y = 0
    · subst hy
      go_wp2_with fail
      go_ret
      refine Still.mk (ret_int ?_)
      rw [← hg.out]
      simp
      omega
    · have hy2 : 0 < y := by omega
      have hm := emod_bd x y hy2
      clear hy
      go_wp2_with fail
      go_quiet (fail)
      go_wp2_with fail
      go_roundw
      case rel => exact ⟨y, x % y, by omega, by omega, by omega, by omega, Lib.hid ((gcd_step x y hx0 hy2).trans hg.out), rfl, rfl, _, by rw [World.drewN_drewN]⟩
      case measure => simp [intOf]; omega

/-- The number whose absolute value counts: that of the least integer is its successor's. -/
def pm (a : Int) : Int := if a < 0 then -(ab a) else ab a

/-- What Extended hands back for a and b, not both 0. -/
def Ext (a b g x y : Int) : Prop :=
  g = (Int.gcd (ab a) (ab b) : Int) ∧ pm a * x + pm b * y = g ∧ ∃ U V : Int, 0 ≤ U ∧ 0 ≤ V ∧ U * g = ab b ∧ V * g = ab a ∧ (-(max 1 U) ≤ x ∧ x ≤ max 1 U) ∧ (-(max 1 V) ≤ y ∧ y ≤ max 1 V)

def ExtPost (a b : Int) (w : World) (e : Ending) (w' : World) : Prop :=
  ∃ g x y : Int, e = .returned (.tuple #[.int .i64 g, .int .i64 x, .int .i64 y]) ∧ Ext a b g x y ∧ w = w'

theorem Ext.of_inv {a b r x y : Int} (h : Inv (ab a) (ab b) r 0 x 0 y 0 ∨ ∃ u v, Inv (ab a) (ab b) r 0 x u y v) :
    Ext a b r (if a < 0 then -x else x) (if b < 0 then -y else y) := by
  obtain ⟨u, v, h⟩ : ∃ u v, Inv (ab a) (ab b) r 0 x u y v := h.elim (fun h => ⟨_, _, h⟩) id
  obtain ⟨hg, he, U, V, hU, hV, e1, e2, b1, b2⟩ := h.done
  refine ⟨hg, ?_, U, V, hU, hV, e1, e2, ?_, ?_⟩
  · unfold pm
    by_cases ha : a < 0 <;> by_cases hb : b < 0 <;> simp only [ha, hb, if_true, if_false, Int.neg_mul_neg] <;> exact he
  · by_cases ha : a < 0 <;> simp only [ha, if_true, if_false] <;> omega
  · by_cases hb : b < 0 <;> simp only [hb, if_true, if_false] <;> omega

set_option maxHeartbeats 1600000 in
theorem ext_any (a b : Int) (w : World) (h0 : -9223372036854775808 ≤ a) (h1 : a ≤ 9223372036854775807) (h2 : -9223372036854775808 ≤ b) (h3 : b ≤ 9223372036854775807) (hn : ¬ (a = 0 ∧ b = 0)) :
    Calls Try.prog 31 #[.int .i64 a, .int .i64 b] w (ExtPost a b w) := by
  have ba := ab_bd a h0 h1
  have bb := ab_bd b h2 h3
  have hc : (a == 0) = false ∨ ((a == 0) = true ∧ (b == 0) = false) := by
    by_cases h : a = 0
    · exact .inr ⟨by simpa using h, by simpa using fun hb => hn ⟨h, hb⟩⟩
    · exact .inl (by simpa using h)
  clear hn
  rcases hc with c1 | ⟨c1, c2⟩
  all_goals
    go_enter Try.func31, Try.ntmps31
    go_wp2_with fail
    refine (abs_any _ _ (by omega) (by omega)).mono ?_
    rintro e w' ⟨rfl, rfl⟩
    go_wp2_with fail
    refine (abs_any _ _ (by omega) (by omega)).mono ?_
    rintro e w' ⟨rfl, rfl⟩
    go_wp2_with fail
    go_loop [7, 8, 9, 10, 11, 12] (fun s7 s8 s9 s10 s11 s12 => ∃ r n x u y v : Int, 0 ≤ r ∧ r ≤ 9223372036854775807 ∧ 0 ≤ n ∧ n ≤ 9223372036854775807 ∧
        (-9223372036854775807 ≤ x ∧ x ≤ 9223372036854775807) ∧ (-9223372036854775807 ≤ y ∧ y ≤ 9223372036854775807) ∧
        (-9223372036854775807 ≤ u ∧ u ≤ 9223372036854775807) ∧ (-9223372036854775807 ≤ v ∧ v ≤ 9223372036854775807) ∧ Hid (Inv (ab a) (ab b) r n x u y v) ∧
        s7 = .int .i64 r ∧ s8 = .int .i64 n ∧ s9 = .int .i64 x ∧ s10 = .int .i64 u ∧ s11 = .int .i64 y ∧ s12 = .int .i64 v)
      (fun _ s _ _ _ _ => (intOf s).toNat)
    case atStart => exact ⟨ab a, ab b, 1, 0, 0, 1, by omega, by omega, by omega, by omega, by omega, by omega, by omega, by omega, Lib.hid (Inv.start _ _ (by omega) (by omega)), rfl, rfl, rfl, rfl, rfl, rfl⟩
    case round =>
      obtain ⟨r, n, x, u, y, v, hr0, hr1, hn0, hn1, bx, bY, bu, bv, hI, rfl, rfl, rfl, rfl, rfl, rfl⟩ := hrel
      clear c1
      by_cases hz : n = 0
      · subst hz
        have hE := Ext.of_inv (.inr ⟨u, v, hI.out⟩)
        by_cases ha : a < 0 <;> by_cases hb : b < 0
        all_goals
          simp only [ha, hb, if_true, if_false] at hE
          replace hE := Lib.hid hE
          go_wp2_with fail
          go_ret3
          exact ⟨_, _, _, rfl, hE.out, rfl⟩
      · have hn : 0 < n := by omega
        have hs := hI.out.size hn (by omega) (by omega)
        have hm := emod_bd r n hn
        have hq := quot_rem r n
        have hI' := Lib.hid (hI.out.step hn)
        clear hz
        obtain ⟨hs1, hs2, hs3, hs4, hs5⟩ := hs
        have hr' : 0 ≤ r - r / n * n ∧ r - r / n * n < n := by omega
        clear hm hq
        go_wp2_with fail
        go_round
        case rel => exact ⟨n, r - r / n * n, u, x - r / n * u, v, y - r / n * v, by omega, by omega, by omega, by omega, bu, bv, by omega, by omega, hI', rfl, rfl, rfl, rfl, rfl, rfl⟩
        case measure => simp [intOf]; omega
end Go.Proofs.Ytbinnmcodlejmaa
