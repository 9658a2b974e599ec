/- The snapshot in plain Lean: numbers, the checksum, what a write and a read do to a disk's state. -/
namespace Go.Proofs.Ytoefbjeclghfhaa
set_option linter.unusedVariables false
set_option linter.unusedSimpArgs false

/-- The number that bytes represent, the most significant one first. -/
def val (b : List UInt8) : Nat := b.foldl (fun n x => 256 * n + x.toNat) 0
/-- A number in k bytes. -/
def be : Nat → Nat → List UInt8
  | 0, _ => []
  | k + 1, n => be k (n / 256) ++ [UInt8.ofNat n]

theorem be_len : ∀ k n, (be k n).length = k
  | 0, _ => rfl
  | k + 1, n => by show (be k (n / 256) ++ [UInt8.ofNat n]).length = k + 1; rw [List.length_append, be_len k]; rfl
theorem val_snoc (b : List UInt8) (x : UInt8) : val (b ++ [x]) = 256 * val b + x.toNat := by
  unfold val; rw [List.foldl_append]; rfl
theorem val_be : ∀ k n, val (be k n) = n % 256 ^ k
  | 0, n => by rw [Nat.pow_zero, Nat.mod_one]; rfl
  | k + 1, n => by
    show val (be k (n / 256) ++ [UInt8.ofNat n]) = _
    have h2 : 256 ^ (k + 1) = 256 * 256 ^ k := by rw [Nat.pow_succ, Nat.mul_comm]
    rw [val_snoc, val_be k, UInt8.toNat_ofNat', h2, Nat.mod_mul]
    omega
theorem val_lt : ∀ (k : Nat) (b : List UInt8), b.length = k → val b < 256 ^ k
  | 0, b, h => by
    obtain rfl := List.eq_nil_of_length_eq_zero h
    decide
  | k + 1, b, h => by
    obtain ⟨c, x, rfl⟩ : ∃ c x, b = c ++ [x] := by
      rcases List.eq_nil_or_concat b with h0 | ⟨c, x, h0⟩
      · subst h0; simp at h
      · exact ⟨c, x, by simpa using h0⟩
    have hc : c.length = k := by simpa using h
    have ih := val_lt k c hc
    have hx := x.toNat_lt
    rw [val_snoc, Nat.pow_succ]
    omega

/-- The checksum's register after one bit. -/
def crcBit (x : Nat) : Nat := if x % 2 = 1 then (x / 2) ^^^ 14514072000185962306 else x / 2
def crc8 : Nat → Nat → Nat
  | 0, x => x
  | k + 1, x => crc8 k (crcBit x)
def crcByte (x : Nat) (c : UInt8) : Nat := crc8 8 (x ^^^ c.toNat)
def crcReg (x : Nat) (b : List UInt8) : Nat := b.foldl crcByte x
/-- The checksum of bytes. -/
def crc (b : List UInt8) : Nat := 18446744073709551615 - crcReg 18446744073709551615 b

theorem crcBit_lt {x : Nat} (h : x < 2 ^ 64) : crcBit x < 2 ^ 64 := by
  unfold crcBit
  split
  · exact Nat.xor_lt_two_pow (by omega) (by decide)
  · omega
theorem crc8_lt : ∀ k {x : Nat}, x < 2 ^ 64 → crc8 k x < 2 ^ 64
  | 0, _, h => h
  | k + 1, _, h => crc8_lt k (crcBit_lt h)
theorem crcByte_lt {x : Nat} (c : UInt8) (h : x < 2 ^ 64) : crcByte x c < 2 ^ 64 :=
  crc8_lt 8 (Nat.xor_lt_two_pow h (Nat.lt_of_lt_of_le c.toNat_lt (by decide)))
theorem crcReg_lt : ∀ (b : List UInt8) {x : Nat}, x < 2 ^ 64 → crcReg x b < 2 ^ 64
  | [], _, h => h
  | c :: b, _, h => crcReg_lt b (crcByte_lt c h)
theorem crc_lt (b : List UInt8) : crc b < 2 ^ 64 := by
  unfold crc; omega

theorem xor_left {a b c : Nat} (h : a ^^^ c = b ^^^ c) : a = b := by
  have := congrArg (fun z => z ^^^ c) h
  simpa [Nat.xor_assoc] using this
theorem xor_right {a b c : Nat} (h : a ^^^ b = a ^^^ c) : b = c := by
  rw [Nat.xor_comm a b, Nat.xor_comm a c] at h
  exact xor_left h
theorem top_low {x : Nat} (h : x < 2 ^ 63) : x.testBit 63 = false := Nat.testBit_lt_two_pow h
theorem crcBit_inj {x y : Nat} (hx : x < 2 ^ 64) (hy : y < 2 ^ 64) (h : crcBit x = crcBit y) : x = y := by
  unfold crcBit at h
  have hx2 : (x / 2).testBit 63 = false := top_low (by omega)
  have hy2 : (y / 2).testBit 63 = false := top_low (by omega)
  have hp : (14514072000185962306 : Nat).testBit 63 = true := by decide
  split at h <;> split at h
  · have := xor_left h
    omega
  · have h1 := congrArg (fun z => z.testBit 63) h
    simp only [Nat.testBit_xor, hx2, hy2, hp] at h1
    cases h1
  · have h1 := congrArg (fun z => z.testBit 63) h
    simp only [Nat.testBit_xor, hx2, hy2, hp] at h1
    cases h1
  · omega
theorem crc8_inj : ∀ k {x y : Nat}, x < 2 ^ 64 → y < 2 ^ 64 → crc8 k x = crc8 k y → x = y
  | 0, _, _, _, _, h => h
  | k + 1, _, _, hx, hy, h => crcBit_inj hx hy (crc8_inj k (crcBit_lt hx) (crcBit_lt hy) h)
theorem byte_64 (c : UInt8) : c.toNat < 2 ^ 64 := Nat.lt_of_lt_of_le c.toNat_lt (by decide)
theorem crcByte_inj {x y : Nat} (c : UInt8) (hx : x < 2 ^ 64) (hy : y < 2 ^ 64) (h : crcByte x c = crcByte y c) : x = y :=
  xor_left (crc8_inj 8 (Nat.xor_lt_two_pow hx (byte_64 c)) (Nat.xor_lt_two_pow hy (byte_64 c)) h)
theorem crcByte_ne {x : Nat} {c d : UInt8} (hx : x < 2 ^ 64) (h : crcByte x c = crcByte x d) : c = d := by
  have := xor_right (crc8_inj 8 (Nat.xor_lt_two_pow hx (byte_64 c)) (Nat.xor_lt_two_pow hx (byte_64 d)) h)
  exact UInt8.toNat_inj.1 this
theorem crcReg_inj : ∀ (b : List UInt8) {x y : Nat}, x < 2 ^ 64 → y < 2 ^ 64 → crcReg x b = crcReg y b → x = y
  | [], _, _, _, _, h => h
  | c :: b, _, _, hx, hy, h => crcByte_inj c hx hy (crcReg_inj b (crcByte_lt c hx) (crcByte_lt c hy) h)
theorem crcReg_append (x : Nat) (a b : List UInt8) : crcReg x (a ++ b) = crcReg (crcReg x a) b := List.foldl_append
/-- Bytes that differ in one place have other checksums. -/
theorem crc_one {a b : List UInt8} {c d : UInt8} (h : c ≠ d) : crc (a ++ c :: b) ≠ crc (a ++ d :: b) := by
  intro he
  unfold crc at he
  have h1 := crcReg_lt (a ++ c :: b) (x := 18446744073709551615) (by decide)
  have h2 := crcReg_lt (a ++ d :: b) (x := 18446744073709551615) (by decide)
  have h3 : crcReg 18446744073709551615 (a ++ c :: b) = crcReg 18446744073709551615 (a ++ d :: b) := by omega
  rw [crcReg_append, crcReg_append] at h3
  have ha := crcReg_lt a (x := 18446744073709551615) (by decide)
  exact h (crcByte_ne ha (crcReg_inj b (crcByte_lt c ha) (crcByte_lt d ha) h3))
end Go.Proofs.Ytoefbjeclghfhaa
