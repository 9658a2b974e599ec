/- Plain arithmetic of a division of 128 bits by 64 bits in two steps of 32 bits: what the shift to the left prepares, what a step finds; no program in sight. -/
import Derived.WalkKit
import Derived.Laws.Bits64b
import Derived.Lib.ItoaNum
namespace Go.Proofs.Ytbinnmcodlejmaa
open Go.RowKit
set_option linter.unusedVariables false

theorem or_add (a b : Int) (k : Nat) (ha : 0 ≤ a) (hb : 0 ≤ b) (hbk : b < 2 ^ k) (hs : a * 2 ^ k < 18446744073709551616) (hk : (2 : Int) ^ k ≤ 18446744073709551616) :
    bits .or .u64 (a * 2 ^ k) b = a * 2 ^ k + b := by
  obtain ⟨m, rfl⟩ := Int.eq_ofNat_of_zero_le ha
  obtain ⟨n, rfl⟩ := Int.eq_ofNat_of_zero_le hb
  have e : ((m : Int) * 2 ^ k) = ((m * 2 ^ k : Nat) : Int) := by simp
  have e2 : ((2 : Int) ^ k) = ((2 ^ k : Nat) : Int) := by simp
  rw [e] at hs ⊢
  rw [e2] at hbk hk
  rw [bits_or_u64_nat _ _ (by omega) (by omega), Nat.mul_comm m, ← Nat.two_pow_add_eq_or_of_lt (by omega)]
  simp

theorem pow_split (k : Nat) (hk : k ≤ 64) : (2 : Int) ^ k * 2 ^ (64 - k) = 18446744073709551616 := by
  rw [← Int.pow_add, show k + (64 - k) = 64 by omega]
  rfl

theorem div_prep (hi lo y : Int) (k : Nat) (hk : k ≤ 64) (hh : 0 ≤ hi) (hhy : hi < y) (h0 : 0 ≤ lo) (h1 : lo < 18446744073709551616) (hy : y * 2 ^ k < 18446744073709551616) :
    bits .or .u64 (hi * 2 ^ k) (lo / 2 ^ (64 - k)) = hi * 2 ^ k + lo / 2 ^ (64 - k) ∧ 0 ≤ hi * 2 ^ k ∧ 0 ≤ lo / 2 ^ (64 - k) ∧
    hi * 2 ^ k + lo / 2 ^ (64 - k) < y * 2 ^ k ∧
    (hi * 2 ^ k + lo / 2 ^ (64 - k)) * 18446744073709551616 + lo * 2 ^ k % 18446744073709551616 = (hi * 18446744073709551616 + lo) * 2 ^ k := by
  have hPQ := pow_split k hk
  have hP : (0 : Int) < 2 ^ k := Int.pow_pos (by omega)
  have hQ : (0 : Int) < 2 ^ (64 - k) := Int.pow_pos (by omega)
  have hle : (2 : Int) ^ k ≤ 18446744073709551616 := by
    rw [← hPQ]
    have := Int.mul_le_mul_of_nonneg_left (show (1 : Int) ≤ 2 ^ (64 - k) by omega) (Int.le_of_lt hP)
    omega
  have ha0 : 0 ≤ lo / 2 ^ (64 - k) := Int.ediv_nonneg h0 (by omega)
  have hdm := Int.mul_ediv_add_emod lo (2 ^ (64 - k))
  have hb0 := Int.emod_nonneg lo (show (2 : Int) ^ (64 - k) ≠ 0 by omega)
  have hb1 := Int.emod_lt_of_pos lo hQ
  have haP : lo / 2 ^ (64 - k) < 2 ^ k := Int.ediv_lt_of_lt_mul hQ (by rw [hPQ]; exact h1)
  have hHy : hi * 2 ^ k + 2 ^ k ≤ y * 2 ^ k := by
    have := Int.mul_le_mul_of_nonneg_right (show hi + 1 ≤ y by omega) (Int.le_of_lt hP)
    rw [Int.add_mul] at this
    omega
  have hh0 : 0 ≤ hi * 2 ^ k := Int.mul_nonneg hh (Int.le_of_lt hP)
  refine ⟨or_add hi _ k hh ha0 haP (by omega) hle, hh0, ha0, by omega, ?_⟩
  generalize lo / 2 ^ (64 - k) = a at *
  generalize lo % 2 ^ (64 - k) = b at *
  generalize (2 : Int) ^ (64 - k) = Q at *
  generalize (2 : Int) ^ k = P at *
  have hbP : 0 ≤ b * P ∧ b * P < 18446744073709551616 := by
    refine ⟨Int.mul_nonneg hb0 (by omega), ?_⟩
    rw [← hPQ, Int.mul_comm P Q]
    exact Int.mul_lt_mul_of_pos_right hb1 hP
  have e : lo * P = b * P + a * 18446744073709551616 := by rw [← hPQ, ← hdm]; grind
  rw [e, Int.add_mul_emod_self_right, Int.emod_eq_of_lt hbP.1 hbP.2, Int.add_mul _ lo, e]
  grind

/-- What holds at each round of the search for a digit. -/
def Dig (H l D1 D0 q r : Int) : Prop := q * D1 + r = H ∧ H * 4294967296 + l < (q + 1) * (D1 * 4294967296 + D0)

/-- The digit is found. -/
def DigEnd (H l Y q : Int) : Prop := 0 ≤ q ∧ q < 4294967296 ∧ q * Y ≤ H * 4294967296 + l ∧ H * 4294967296 + l < (q + 1) * Y

theorem quot_rem' (r n : Int) : r - r / n * n = r % n := by
  have := Int.mul_ediv_add_emod r n
  rw [Int.mul_comm] at this
  omega

variable {H l D1 D0 q r : Int}

theorem Dig.start (hD1 : 2147483648 ≤ D1) (hD1' : D1 < 4294967296) (hD0 : 0 ≤ D0) (hD0' : D0 < 4294967296) (hH : 0 ≤ H) (hHy : H < D1 * 4294967296 + D0) (hl : l < 4294967296) :
    Dig H l D1 D0 (H / D1) (H - H / D1 * D1) ∧ 0 ≤ H / D1 ∧ H / D1 ≤ 4294967297 ∧ 0 ≤ H / D1 * D1 ∧ H / D1 * D1 ≤ H ∧ 0 ≤ H - H / D1 * D1 ∧ H - H / D1 * D1 ≤ 4294967295 := by
  have hq := Int.ediv_nonneg hH (show 0 ≤ D1 by omega)
  have hqr := quot_rem' H D1
  have hm0 := Int.emod_nonneg H (show D1 ≠ 0 by omega)
  have hm1 := Int.emod_lt_of_pos H (show 0 < D1 by omega)
  have hp : 0 ≤ H / D1 * D1 := Int.mul_nonneg hq (by omega)
  have hle : H / D1 ≤ 4294967297 := by
    have : H / D1 < 4294967298 := Int.ediv_lt_of_lt_mul (by omega) (by omega)
    omega
  refine ⟨⟨by omega, ?_⟩, hq, hle, hp, by omega, by omega, by omega⟩
  rw [show (H / D1 + 1) * (D1 * 4294967296 + D0) = (H / D1 * D1) * 4294967296 + D1 * 4294967296 + (H / D1 * D0 + D0) by grind]
  have : 0 ≤ H / D1 * D0 := Int.mul_nonneg hq hD0
  omega

theorem Dig.size (hq0 : 0 ≤ q) (hq : q ≤ 4294967297) (hD0 : 0 ≤ D0) (hD0' : D0 < 4294967296) : 0 ≤ q * D0 ∧ q * D0 ≤ 18446744073709551615 := by
  refine ⟨Int.mul_nonneg hq0 hD0, ?_⟩
  have h1 := Int.mul_le_mul_of_nonneg_right hq hD0
  omega

/-- A guess that is too great is lowered. -/
theorem Dig.step (h : Dig H l D1 D0 q r) (hD0 : 0 ≤ D0) (hD0' : D0 < 4294967296) (hHy : H < D1 * 4294967296 + D0) (hl : l < 4294967296) (hD1 : 2147483648 ≤ D1)
    (ht : 4294967296 ≤ q ∨ 4294967296 * r + l < q * D0) : Dig H l D1 D0 (q - 1) (r + D1) := by
  obtain ⟨e, hb⟩ := h
  refine ⟨by grind, ?_⟩
  rw [show q - 1 + 1 = q by omega]
  rcases ht with ht | ht
  · have : 4294967296 * (D1 * 4294967296 + D0) ≤ q * (D1 * 4294967296 + D0) := Int.mul_le_mul_of_nonneg_right ht (by omega)
    omega
  · rw [show q * (D1 * 4294967296 + D0) = (q * D1) * 4294967296 + q * D0 by grind]
    omega

theorem Dig.pos (h : Dig H l D1 D0 q r) (hq : 0 ≤ q) (hr : 0 ≤ r) (hl : 0 ≤ l) (ht : 4294967296 ≤ q ∨ 4294967296 * r + l < q * D0) : 1 ≤ q := by
  rcases ht with ht | ht
  · omega
  · by_cases h0 : q = 0
    · subst h0; omega
    · omega

theorem Dig.found (h : Dig H l D1 D0 q r) (hq : 0 ≤ q) (ht : q < 4294967296 ∧ q * D0 ≤ 4294967296 * r + l) : DigEnd H l (D1 * 4294967296 + D0) q := by
  obtain ⟨e, hb⟩ := h
  refine ⟨hq, ht.1, ?_, hb⟩
  rw [show q * (D1 * 4294967296 + D0) = (q * D1) * 4294967296 + q * D0 by grind]
  omega

theorem Dig.left (h : Dig H l D1 D0 q r) (hq : 0 ≤ q) (hr : 4294967296 ≤ r) (hD1 : 2147483648 ≤ D1) (hD0 : 0 ≤ D0) (hD0' : D0 < 4294967296) (hHy : H < D1 * 4294967296 + D0) (hl : 0 ≤ l) :
    DigEnd H l (D1 * 4294967296 + D0) q := by
  obtain ⟨e, hb⟩ := h
  have hq' : q < 4294967296 := by
    rcases Int.lt_or_le q 4294967296 with h1 | h1
    · exact h1
    · have := Int.mul_le_mul_of_nonneg_right h1 (show 0 ≤ D1 by omega)
      omega
  refine ⟨hq, hq', ?_, hb⟩
  rw [show q * (D1 * 4294967296 + D0) = (q * D1) * 4294967296 + q * D0 by grind]
  have h1 := Int.mul_le_mul_of_nonneg_left (show D0 ≤ 4294967295 by omega) hq
  omega

theorem DigEnd.rest {Y : Int} (h : DigEnd H l Y q) : 0 ≤ H * 4294967296 + l - q * Y ∧ H * 4294967296 + l - q * Y < Y := by
  obtain ⟨h0, h1, h2, h3⟩ := h
  rw [Int.add_mul] at h3
  omega

/-- The two digits' rest, shifted back, is the remainder. -/
theorem div_last {hi lo y P H L Y q1 q0 U : Int} (hP : 0 < P) (hy : 0 < y) (hY : Y = y * P) (hHL : H * 18446744073709551616 + L = (hi * 18446744073709551616 + lo) * P)
    (h1 : U = H * 4294967296 + L / 4294967296 - q1 * Y) (h2 : DigEnd U (L % 4294967296) Y q0) :
    (U * 4294967296 + L % 4294967296 - q0 * Y) / P = (hi * 18446744073709551616 + lo) % y := by
  have hr := h2.rest
  generalize hi * 18446744073709551616 + lo = X at *
  have e : U * 4294967296 + L % 4294967296 - q0 * Y = X * P - (q1 * 4294967296 + q0) * y * P := by
    rw [← hHL, h1, hY]
    have := Int.mul_ediv_add_emod L 4294967296
    grind
  rw [e] at hr ⊢
  rw [show X * P - (q1 * 4294967296 + q0) * y * P = (X - (q1 * 4294967296 + q0) * y) * P by grind] at hr ⊢
  rw [Int.mul_ediv_cancel _ (by omega)]
  rw [hY] at hr
  have g1 : 0 ≤ X - (q1 * 4294967296 + q0) * y := by
    rcases Int.lt_or_le (X - (q1 * 4294967296 + q0) * y) 0 with h | h
    · have := Int.mul_neg_of_neg_of_pos h hP
      omega
    · exact h
  have g2 : X - (q1 * 4294967296 + q0) * y < y := Int.lt_of_mul_lt_mul_right hr.2 (Int.le_of_lt hP)
  rw [← Int.emod_eq_of_lt g1 g2, Int.sub_mul_emod_self_right]
end Go.Proofs.Ytbinnmcodlejmaa
