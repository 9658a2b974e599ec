/- The contract of the division of 128 bits by 64 bits (a divisor of at most 2^62): its second result is the remainder. -/
import Derived.Test.YtbinnmcodlejmaaCong1
import Derived.Test.YtbinnmcodlejmaaShelf
import Derived.Test.YtbinnmcodlejmaaDiv0
namespace Go.Proofs.Ytbinnmcodlejmaa
open Go.RowKit
set_option linter.unusedSimpArgs false
set_option linter.unusedVariables false

def DivPost (hi lo y : Int) (w : World) (e : Ending) (w' : World) : Prop :=
  ∃ q : Int, e = .returned (.tuple #[.int .u64 q, .int .u64 ((hi * 18446744073709551616 + lo) % y)]) ∧ ∃ n, w' = w.drewN n

set_option maxHeartbeats 400000 in
theorem div_small (lo y : Int) (w : World) (h0 : 0 ≤ lo) (h1 : lo < 18446744073709551616) (hy : 0 < y) (hy' : y ≤ 4611686018427387904) :
   Calls Try.prog 42 #[.int .u64 0, .int .u64 lo, .int .u64 y] w (DivPost 0 lo y w) := by
  have c1 : (y == 0) = false := by simp; omega
  go_enter Try.func42, Try.ntmps42
  go_wp2_with fail
  go_quiet (fail)
  go_wp2_with fail
  go_ret2
  exact ⟨_, by rw [show 0 * 18446744073709551616 + lo = lo by omega]; rfl, _, rfl⟩

theorem lz (y : Int) (hy : 0 < y) (hy' : y ≤ 4611686018427387904) :
    ((1 : Int) ≤ 64 - ↑(Lib.bitLen y.toNat) ∧ 64 - ↑(Lib.bitLen y.toNat) ≤ (63 : Int)) ∧
    9223372036854775808 ≤ y * 2 ^ (64 - (Lib.bitLen y.toNat : Int)).toNat ∧ y * 2 ^ (64 - (Lib.bitLen y.toNat : Int)).toNat < 18446744073709551616 := by
  obtain ⟨n, rfl⟩ := Int.eq_ofNat_of_zero_le (Int.le_of_lt hy)
  rw [Int.toNat_natCast]
  have hb := Lib.bitLenAux_bounds 64 n (by omega) (by omega)
  change 1 ≤ Lib.bitLen n ∧ 2 ^ (Lib.bitLen n - 1) ≤ n ∧ n < 2 ^ Lib.bitLen n at hb
  obtain ⟨b1, b2, b3⟩ := hb
  have b4 : Lib.bitLen n ≤ 63 := Lib.bitLen_le n 63 (by omega) (by omega)
  generalize Lib.bitLen n = b at *
  have e : (64 - (b : Int)).toNat = 64 - b := by omega
  rw [e]
  have e2 : ((n : Int) * 2 ^ (64 - b)) = ((n * 2 ^ (64 - b) : Nat) : Int) := by simp
  rw [e2]
  have f1 : 2 ^ (b - 1) * 2 ^ (64 - b) = 9223372036854775808 := by
    rw [← Nat.pow_add, show b - 1 + (64 - b) = 63 by omega]
  have f2 : 2 ^ b * 2 ^ (64 - b) = 18446744073709551616 := by
    rw [← Nat.pow_add, show b + (64 - b) = 64 by omega]
  have g1 := Nat.mul_le_mul_right (2 ^ (64 - b)) b2
  have g2 : n * 2 ^ (64 - b) < 2 ^ b * 2 ^ (64 - b) := Nat.mul_lt_mul_of_pos_right b3 (Nat.pow_pos (by omega))
  rw [f1] at g1
  rw [f2] at g2
  exact ⟨⟨by omega, by omega⟩, by omega, by omega⟩

theorem mask32 (a : Int) (h0 : 0 ≤ a) (h1 : a < 18446744073709551616) : bits .and .u64 a 4294967295 = a % 4294967296 := by
  obtain ⟨n, rfl⟩ := Int.eq_ofNat_of_zero_le h0
  have h := bits_and_u64_nat n 4294967295 (by omega) (by omega)
  have e : n &&& 4294967295 = n % 4294967296 := Nat.and_two_pow_sub_one_eq_mod n 32
  rw [e] at h
  exact h

theorem wrap_in (a : Int) (h0 : 0 ≤ a) (h1 : a < 18446744073709551616) : IntKind.u64.wrap a = a := by rw [IntKind.wrap_u64]; omega

/-- The ways out of a round of the search. -/
theorem Dig.ways {H l D1 D0 Y q r : Int} (h : Hid (Dig H l D1 D0 q r)) (hq0 : 0 ≤ q) (hr0 : 0 ≤ r) (hD1 : 2147483648 ≤ D1) (hD0 : 0 ≤ D0) (hD0' : D0 < 4294967296)
    (hHy : H < D1 * 4294967296 + D0) (hl : 0 ≤ l) (hl' : l < 4294967296) (hY : D1 * 4294967296 + D0 = Y) :
    ((4294967296 ≤ q ∧ 4294967296 ≤ r + D1 ∧ 1 ≤ q ∧ ∃ Q, q - 1 = Q ∧ Hid (DigEnd H l Y Q)) ∨ (q < 4294967296 ∧ 4294967296 * r + l < q * D0 ∧ 4294967296 ≤ r + D1 ∧ 1 ≤ q ∧ ∃ Q, q - 1 = Q ∧ Hid (DigEnd H l Y Q)) ∨
      (q < 4294967296 ∧ q * D0 ≤ 4294967296 * r + l ∧ ∃ Q, q = Q ∧ Hid (DigEnd H l Y Q))) ∨
    ((4294967296 ≤ q ∧ r + D1 < 4294967296 ∧ 1 ≤ q ∧ Hid (Dig H l D1 D0 (q - 1) (r + D1))) ∨ (q < 4294967296 ∧ 4294967296 * r + l < q * D0 ∧ r + D1 < 4294967296 ∧ 1 ≤ q ∧ Hid (Dig H l D1 D0 (q - 1) (r + D1)))) := by
  subst hY
  by_cases h1 : 4294967296 ≤ q
  · have hs := h.out.step hD0 hD0' hHy hl' hD1 (.inl h1)
    by_cases h2 : 4294967296 ≤ r + D1
    · exact .inl (.inl ⟨h1, h2, by omega, _, rfl, Lib.hid (hs.left (by omega) h2 hD1 hD0 hD0' hHy hl)⟩)
    · exact .inr (.inl ⟨h1, by omega, by omega, Lib.hid hs⟩)
  · by_cases h3 : 4294967296 * r + l < q * D0
    · have hs := h.out.step hD0 hD0' hHy hl' hD1 (.inr h3)
      have hp := h.out.pos hq0 hr0 hl (.inr h3)
      by_cases h2 : 4294967296 ≤ r + D1
      · exact .inl (.inr (.inl ⟨by omega, h3, h2, hp, _, rfl, Lib.hid (hs.left (by omega) h2 hD1 hD0 hD0' hHy hl)⟩))
      · exact .inr (.inr ⟨by omega, h3, by omega, hp, Lib.hid hs⟩)
    · exact .inl (.inr (.inr ⟨by omega, by omega, _, rfl, Lib.hid (h.out.found hq0 ⟨by omega, by omega⟩)⟩))

/-- The rest, computed modulo 2^64. -/
theorem rest_of {H l Y Q : Int} (h : DigEnd H l Y Q) (hY : Y < 18446744073709551616) :
    ∃ U, IntKind.u64.wrap (IntKind.u64.wrap (IntKind.u64.wrap (H * 4294967296) + l) - IntKind.u64.wrap (Q * Y)) = U ∧ Hid (U = H * 4294967296 + l - Q * Y) ∧ 0 ≤ U ∧ U < Y := by
  have hr := h.rest
  refine ⟨_, ?_, Lib.hid rfl, hr.1, hr.2⟩
  rw [IntKind.wrap_u64, IntKind.wrap_u64, IntKind.wrap_u64, IntKind.wrap_u64]
  generalize Q * Y = X at *
  omega

set_option maxHeartbeats 3200000 in
theorem div_big (hi lo y : Int) (w : World) (hh : 0 < hi) (hhy : hi < y) (h0 : 0 ≤ lo) (h1 : lo < 18446744073709551616) (hy' : y ≤ 4611686018427387904) :
   Calls Try.prog 42 #[.int .u64 hi, .int .u64 lo, .int .u64 y] w (DivPost hi lo y w) := by
  have c1 : (y == 0) = false := by simp; omega
  have c2 : (hi == 0) = false := by simp; omega
  go_enter Try.func42, Try.ntmps42
  go_wp2_with fail
  refine (Try.bits_LeadingZeros64 y _ (by omega) (by omega)).mono ?_
  rintro e w' ⟨rfl, rfl⟩
  obtain ⟨hs, hY0, hY1⟩ := lz y (by omega) hy'
  generalize 64 - (Lib.bitLen y.toNat : Int) = s at *
  obtain ⟨k, rfl⟩ := Int.eq_ofNat_of_zero_le (show 0 ≤ s by omega)
  have ek : ((k : Int)).toNat = k := rfl
  rw [ek] at hY0 hY1
  obtain ⟨p1, p2, p3, p4, p5⟩ := div_prep hi lo y k (by omega) (by omega) hhy h0 h1 hY1
  have hP : (0 : Int) < 2 ^ k := Int.pow_pos (by omega)
  have eL : IntKind.u64.wrap (lo * 2 ^ k) = lo * 2 ^ k % 18446744073709551616 := IntKind.wrap_u64 _
  have bL0 := Int.emod_nonneg (lo * 2 ^ k) (show (18446744073709551616 : Int) ≠ 0 by omega)
  have bL1 := Int.emod_lt_of_pos (lo * 2 ^ k) (show (0 : Int) < 18446744073709551616 by omega)
  have eH : IntKind.u64.wrap (hi * 2 ^ k) = hi * 2 ^ k := wrap_in _ p2 (by omega)
  have hH0 : 0 ≤ hi * 2 ^ k + lo / 2 ^ (64 - k) := by omega
  generalize hHH : hi * 2 ^ k + lo / 2 ^ (64 - k) = H at *
  generalize hLL : lo * 2 ^ k % 18446744073709551616 = L at *
  generalize hYY : y * 2 ^ k = Y at *
  have eY : bits .and .u64 Y 4294967295 = Y % 4294967296 := mask32 Y (by omega) hY1
  have eL2 : bits .and .u64 L 4294967295 = L % 4294967296 := mask32 L bL0 bL1
  replace p5 := Lib.hid p5
  clear hLL hHH
  have hYd : Y / 4294967296 * 4294967296 + Y % 4294967296 = Y := by omega
  have bl0 : 0 ≤ L / 4294967296 ∧ L / 4294967296 < 4294967296 := by omega
  have bl1 : 0 ≤ L % 4294967296 ∧ L % 4294967296 < 4294967296 := by omega
  have bd0 : 0 ≤ Y % 4294967296 ∧ Y % 4294967296 < 4294967296 := by omega
  have hd1 : 2147483648 ≤ Y / 4294967296 := by omega
  have hd2 : Y / 4294967296 ≤ 4294967295 := by omega
  obtain ⟨s1, s2, s3, s4, s5, s6, s7⟩ := Dig.start (H := H) (l := L / 4294967296) (D1 := Y / 4294967296) (D0 := Y % 4294967296) (by omega) (by omega) (by omega) (by omega) hH0 (by omega) (by omega)
  replace s1 := Lib.hid s1
  have fin : ∀ Q Q0 U, Hid (U = H * 4294967296 + L / 4294967296 - Q * Y) → Hid (DigEnd U (L % 4294967296) Y Q0) → (U * 4294967296 + L % 4294967296 - Q0 * Y) / 2 ^ k = (hi * 18446744073709551616 + lo) % y :=
    fun Q Q0 U a b => div_last hP (by omega) hYY.symm p5.out a.out b.out
  replace fin := Lib.hid fin
  replace hYd := Lib.hid hYd
  go_wp2_with fail
  replace hYY := Lib.hid hYY
  go_loop [15, 16] (fun a b => ∃ q r : Int, Hid (Dig H (L / 4294967296) (Y / 4294967296) (Y % 4294967296) q r) ∧ 0 ≤ q ∧ q ≤ 4294967297 ∧ 0 ≤ r ∧ r ≤ 4294967295 ∧ a = .int .u64 q ∧ b = .int .u64 r) (fun a _ => (intOf a).toNat)
  case atStart => exact ⟨_, _, s1, s2, s3, s6, s7, rfl, rfl⟩
  case round =>
    obtain ⟨q, r, hd, hq0, hq1, hr0, hr1, rfl, rfl⟩ := hrel
    clear s1 s2 s3 s4 s5 s6 s7 eL eH p1 p2 p3 p5 eY eL2 bL0 bL1
    have hz := Dig.size hq0 hq1 (D0 := Y % 4294967296) (by omega) (by omega)
    have hw := Dig.ways hd hq0 hr0 hd1 bd0.1 bd0.2 (by rw [hYd.out]; exact p4) bl0.1 bl0.2 hYd.out
    rcases hw with hw | hw
    · rcases hw with ⟨t1, t2, t4, Q, tQ, tD⟩ | ⟨t1, t2, t3, t4, Q, tQ, tD⟩ | ⟨t1, t2, Q, rfl, tD⟩
      all_goals
        obtain ⟨U, eU, vU, U0, U1⟩ := rest_of tD.out hY1
        obtain ⟨s1, s2, s3, s4, s5, s6, s7⟩ := Dig.start (H := U) (l := L % 4294967296) (D1 := Y / 4294967296) (D0 := Y % 4294967296) hd1 (by omega) bd0.1 bd0.2 U0 (by rw [hYd.out]; exact U1) bl1.2
        replace s1 := Lib.hid s1
        go_wp2_with fail
        go_loop [18, 16] (fun a b => ∃ q r : Int, Hid (Dig U (L % 4294967296) (Y / 4294967296) (Y % 4294967296) q r) ∧ 0 ≤ q ∧ q ≤ 4294967297 ∧ 0 ≤ r ∧ r ≤ 4294967295 ∧ a = .int .u64 q ∧ b = .int .u64 r) (fun a _ => (intOf a).toNat)
        case atStart => exact ⟨_, _, s1, s2, s3, s6, s7, rfl, rfl⟩
        case round =>
          clear hd hq0 hq1 hr0 hr1 hz tD s1 s2 s3 s4 s5 s6 s7 eU
          obtain ⟨q0, r0, hd, hq0, hq1, hr0, hr1, rfl, rfl⟩ := hrel
          have hz := Dig.size hq0 hq1 (D0 := Y % 4294967296) (by omega) (by omega)
          have hw := Dig.ways hd hq0 hr0 hd1 bd0.1 bd0.2 (by rw [hYd.out]; exact U1) bl1.1 bl1.2 hYd.out
          rcases hw with hw | hw
          · rcases hw with ⟨v1, v2, v4, Q0, tQ0, tD0⟩ | ⟨v1, v2, v3, v4, Q0, tQ0, tD0⟩ | ⟨v1, v2, Q0, rfl, tD0⟩
            all_goals
              obtain ⟨V, eV, vV, V0, V1⟩ := rest_of tD0.out hY1
              have hfin := Lib.hid (fin.out _ _ _ vU tD0)
              rw [← vV.out] at hfin
              go_wp2_with fail
              go_ret2
              exact ⟨_, by rw [← hfin.out]; rfl, 0, rfl⟩
          · rcases hw with ⟨v1, v2, v4, tD⟩ | ⟨v1, v2, v3, v4, tD⟩
            all_goals
              go_wp2_with fail
              go_round
              case rel => exact ⟨q0 - 1, r0 + Y / 4294967296, tD, by omega, by omega, by omega, by omega, rfl, rfl⟩
              case measure => simp [intOf]; omega
    · rcases hw with ⟨t1, t2, t4, tD⟩ | ⟨t1, t2, t3, t4, tD⟩
      all_goals
        go_wp2_with fail
        go_round
        case rel => exact ⟨q - 1, r + Y / 4294967296, tD, by omega, by omega, by omega, by omega, rfl, rfl⟩
        case measure => simp [intOf]; omega

theorem div_any (hi lo y : Int) (w : World) (hh : 0 ≤ hi) (hhy : hi < y) (h0 : 0 ≤ lo) (h1 : lo < 18446744073709551616) (hy' : y ≤ 4611686018427387904) :
    Calls Try.prog 42 #[.int .u64 hi, .int .u64 lo, .int .u64 y] w (DivPost hi lo y w) := by
  by_cases h : hi = 0
  · subst h; exact div_small lo y w h0 h1 hhy hy'
  · exact div_big hi lo y w (by omega) hhy h0 h1 hy'
end Go.Proofs.Ytbinnmcodlejmaa
