/- Plain arithmetic: what Meet and Solve hand back, and why it is right; no program in sight. -/
import Derived.Test.YtbinnmcodlejmaaCong0
namespace Go.Proofs.Ytbinnmcodlejmaa
set_option linter.unusedVariables false

/-- A class is valid. -/
def Val (r m : Int) : Prop := 1 ≤ m ∧ m ≤ 4611686018427387904 ∧ 0 ≤ r ∧ r < m

theorem mod_as (a n : Int) : ∃ t, a % n = a + n * t := ⟨-(a / n), by have := Int.mul_ediv_add_emod a n; grind⟩

theorem inv_mod {A D n x y : Int} (h : A * x + n * y = 1) : ∃ t, A * ((D % n * (x % n)) % n) - D = n * t := by
  obtain ⟨t1, e1⟩ := mod_as D n
  obtain ⟨t2, e2⟩ := mod_as x n
  obtain ⟨t3, e3⟩ := mod_as (D % n * (x % n)) n
  rw [e3, e1, e2]
  refine ⟨A * (D * t2 + t1 * x + n * t1 * t2 + t3) - D * y, ?_⟩
  have : A * x = 1 - n * y := by omega
  grind

theorem gcd_pos_l {a b : Int} (h : 1 ≤ a) : 1 ≤ (Int.gcd a b : Int) := by
  have := Int.gcd_pos_of_ne_zero_left b (show a ≠ 0 by omega)
  omega
theorem gcd_pos_r {a b : Int} (h : 1 ≤ b) : 1 ≤ (Int.gcd a b : Int) := by
  have := Int.gcd_pos_of_ne_zero_right a (show b ≠ 0 by omega)
  omega

theorem mul_div_gcd_l (a b : Int) : a / (Int.gcd a b : Int) * (Int.gcd a b : Int) = a := Int.ediv_mul_cancel (Int.gcd_dvd_left a b)
theorem mul_div_gcd_r (a b : Int) : b / (Int.gcd a b : Int) * (Int.gcd a b : Int) = b := Int.ediv_mul_cancel (Int.gcd_dvd_right a b)

theorem gcd_one (a b : Int) (h : 1 ≤ b) : Int.gcd (a / (Int.gcd a b : Int)) (b / (Int.gcd a b : Int)) = 1 :=
  Int.gcd_ediv_gcd_ediv_gcd (by have := gcd_pos_r (a := a) h; omega)

/-- A quotient of a divisor. -/
theorem div_bd {b g : Int} (hg : 1 ≤ g) (hb : 1 ≤ b) (h : b / g * g = b) : 1 ≤ b / g ∧ b / g ≤ b := by
  have h0 : 0 ≤ b / g := Int.ediv_nonneg (by omega) (by omega)
  have h1 : b / g ≠ 0 := fun e => by rw [e] at h; omega
  have h2 := Int.mul_le_mul_of_nonneg_left hg h0
  omega

/-- The residue that Meet computes. -/
theorem meet_math {aR aM bR bM k g n x y : Int} (ha : Val aR aM) (hb : Val bR bM) (hg : g = (Int.gcd aM bM : Int)) (hd : (bR - aR) % g = 0) (hn : n = bM / g) (hx : aM / g * x + n * y = 1)
    (hk : k = ((bR - aR) / g % n * (x % n)) % n) :
    (0 ≤ k ∧ k < n) ∧ (0 ≤ aM * k ∧ aM * k ≤ aM * n - aM) ∧ (aR + aM * k) % aM = aR ∧ (aR + aM * k) % bM = bR := by
  obtain ⟨ha1, ha2, ha3, ha4⟩ := ha
  obtain ⟨hb1, hb2, hb3, hb4⟩ := hb
  have hgp : 1 ≤ g := by rw [hg]; exact gcd_pos_l ha1
  have e1 : aM / g * g = aM := by rw [hg]; exact mul_div_gcd_l aM bM
  have e2 : bM / g * g = bM := by rw [hg]; exact mul_div_gcd_r aM bM
  have hn1 := div_bd hgp hb1 e2
  rw [← hn] at hn1 e2
  have hk0 : 0 ≤ k ∧ k < n := by rw [hk]; exact ⟨Int.emod_nonneg _ (by omega), Int.emod_lt_of_pos _ (by omega)⟩
  obtain ⟨t, ht⟩ := inv_mod (D := (bR - aR) / g) hx
  rw [← hk] at ht
  have e3 : (bR - aR) / g * g = bR - aR := Int.ediv_mul_cancel (Int.dvd_of_emod_eq_zero hd)
  have h0 : 0 ≤ aM * k := Int.mul_nonneg (by omega) hk0.1
  have h1 : aM * k ≤ aM * (n - 1) := Int.mul_le_mul_of_nonneg_left (by omega) (by omega)
  rw [Int.mul_sub, Int.mul_one] at h1
  refine ⟨hk0, ⟨h0, h1⟩, ?_, ?_⟩
  · rw [Int.add_mul_emod_self_left]
    exact Int.emod_eq_of_lt ha3 ha4
  · have : aR + aM * k = bR + bM * t := by
      have h3 : aM * k = aM / g * k * g := by rw [← e1]; grind
      have h4 : aM / g * k = (bR - aR) / g + n * t := by omega
      rw [h3, h4, Int.add_mul, e3, ← e2]
      grind
    rw [this, Int.add_mul_emod_self_left]
    exact Int.emod_eq_of_lt hb3 hb4

/-- What Meet hands back. -/
def MeetRes (aR aM bR bM cR cM : Int) (ok : Bool) (er : Int) : Prop :=
  (¬ (Val aR aM ∧ Val bR bM) ∧ cR = 0 ∧ cM = 0 ∧ ok = false ∧ er = 1) ∨
  (Val aR aM ∧ Val bR bM ∧
    (((bR - aR) % (Int.gcd aM bM : Int) ≠ 0 ∧ cR = 0 ∧ cM = 0 ∧ ok = false ∧ er = 0) ∨
     ((bR - aR) % (Int.gcd aM bM : Int) = 0 ∧ 4611686018427387904 < aM * (bM / (Int.gcd aM bM : Int)) ∧ cR = 0 ∧ cM = 0 ∧ ok = false ∧ er = 3) ∨
     ((bR - aR) % (Int.gcd aM bM : Int) = 0 ∧ cM = aM * (bM / (Int.gcd aM bM : Int)) ∧ Val cR cM ∧ cR % aM = aR ∧ cR % bM = bR ∧ ok = true ∧ er = 0)))

/-- The residue that Solve computes. -/
theorem solve_math {a b m k g n x y : Int} (hm : 1 ≤ m) (hg : g = (Int.gcd (a % m) m : Int)) (hd : b % m % g = 0) (hn : n = m / g) (hx : a % m / g * x + n * y = 1)
    (hk : k = (b % m / g % n * (x % n)) % n) : (0 ≤ k ∧ k < n) ∧ (a * k) % m = b % m := by
  have hgp : 1 ≤ g := by rw [hg]; exact gcd_pos_r hm
  have e1 : a % m / g * g = a % m := by rw [hg]; exact mul_div_gcd_l _ m
  have e2 : m / g * g = m := by rw [hg]; exact mul_div_gcd_r _ m
  have hn1 := div_bd hgp hm e2
  rw [← hn] at hn1 e2
  have hk0 : 0 ≤ k ∧ k < n := by rw [hk]; exact ⟨Int.emod_nonneg _ (by omega), Int.emod_lt_of_pos _ (by omega)⟩
  obtain ⟨t, ht⟩ := inv_mod (D := b % m / g) hx
  rw [← hk] at ht
  have e3 : b % m / g * g = b % m := Int.ediv_mul_cancel (Int.dvd_of_emod_eq_zero hd)
  refine ⟨hk0, ?_⟩
  have h3 : a % m * k = a % m / g * k * g := by
    have h5 : a % m / g * k * g = a % m / g * g * k := by grind
    rw [h5, e1]
  have h4 : a % m / g * k = b % m / g + n * t := by omega
  have h5 : a % m * k = b % m + m * t := by
    rw [h3, h4, Int.add_mul, e3]
    have : n * t * g = n * g * t := by grind
    rw [this, e2]
  have h6 : a * k = b % m + m * (t + a / m * k) := by
    have := Int.mul_ediv_add_emod a m
    have h7 : a * k = m * (a / m) * k + a % m * k := by rw [← Int.add_mul, this]
    rw [h7, h5]
    grind
  rw [h6, Int.add_mul_emod_self_left, Int.emod_emod]

/-- What Solve hands back. -/
def SolveRes (a b m cR cM : Int) (ok : Bool) (er : Int) : Prop :=
  (¬ (1 ≤ m ∧ m ≤ 4611686018427387904) ∧ cR = 0 ∧ cM = 0 ∧ ok = false ∧ er = 1) ∨
  ((1 ≤ m ∧ m ≤ 4611686018427387904) ∧
    ((b % m % (Int.gcd (a % m) m : Int) ≠ 0 ∧ cR = 0 ∧ cM = 0 ∧ ok = false ∧ er = 0) ∨
     (b % m % (Int.gcd (a % m) m : Int) = 0 ∧ cM = m / (Int.gcd (a % m) m : Int) ∧ 0 ≤ cR ∧ cR < cM ∧ (a * cR) % m = b % m ∧ ok = true ∧ er = 0)))
end Go.Proofs.Ytbinnmcodlejmaa
