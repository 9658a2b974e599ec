/- Plain arithmetic of residue classes: the extended Euclid's invariant, a step of it, its end; no program in sight. -/
namespace Go.Proofs.Ytbinnmcodlejmaa

/-- The absolute value, the least integer counted as its successor. -/
def ab (n : Int) : Int := if n = -9223372036854775808 then 9223372036854775807 else if n < 0 then -n else n

theorem ab_bd (n : Int) (h : -9223372036854775808 ≤ n) (h' : n ≤ 9223372036854775807) : 0 ≤ ab n ∧ ab n ≤ 9223372036854775807 := by
  unfold ab
  by_cases h1 : n = -9223372036854775808
  · rw [if_pos h1]; omega
  · rw [if_neg h1]
    by_cases h2 : n < 0
    · rw [if_pos h2]; omega
    · rw [if_neg h2]; omega

/-- What holds at each round of the extended Euclid: X, U, Y, V are the absolute values of x, u, y, v, and s is their sign. -/
def Inv (A B r n x u y v : Int) : Prop :=
  ∃ X U Y V s : Int, 0 ≤ X ∧ 0 ≤ U ∧ 0 ≤ Y ∧ 0 ≤ V ∧ (s = 1 ∨ s = -1) ∧ x = s * X ∧ u = -(s * U) ∧ y = -(s * Y) ∧ v = s * V ∧
    U * r + X * n = B ∧ V * r + Y * n = A ∧ X * V - U * Y = s ∧ 0 ≤ r ∧ 0 ≤ n ∧ Int.gcd r n = Int.gcd A B ∧
    (n < r ∨ (X = 1 ∧ U = 0 ∧ Y = 0 ∧ V = 1)) ∧ X ≤ max 1 U ∧ Y ≤ max 1 V

theorem Inv.start (A B : Int) (hA : 0 ≤ A) (hB : 0 ≤ B) : Inv A B A B 1 0 0 1 :=
  ⟨1, 0, 0, 1, 1, by omega, by omega, by omega, by omega, .inl rfl, by omega, by omega, by omega, by omega, by omega, by omega, by omega, hA, hB, rfl,
    .inr ⟨rfl, rfl, rfl, rfl⟩, by omega, by omega⟩

theorem quot_rem (r n : Int) : r - r / n * n = r % n := by
  have := Int.mul_ediv_add_emod r n
  rw [Int.mul_comm] at this
  omega

theorem gcd_step (r n : Int) (hr : 0 ≤ r) (hn : 0 < n) : Int.gcd n (r % n) = Int.gcd r n := by
  obtain ⟨a, rfl⟩ := Int.eq_ofNat_of_zero_le hr
  obtain ⟨b, rfl⟩ := Int.eq_ofNat_of_zero_le (Int.le_of_lt hn)
  rw [← Int.natCast_emod]
  show Nat.gcd b (a % b) = Nat.gcd a b
  rw [Nat.gcd_comm, Nat.gcd_comm a b]
  exact (Nat.gcd_rec b a).symm

theorem Inv.step {A B r n x u y v : Int} (h : Inv A B r n x u y v) (hn : 0 < n) :
    Inv A B n (r - r / n * n) u (x - r / n * u) v (y - r / n * v) := by
  obtain ⟨X, U, Y, V, s, hX, hU, hY, hV, hs, rfl, rfl, rfl, rfl, e1, e2, e3, hr, hn0, hg, ho, h1, h2⟩ := h
  have hq : 0 ≤ r / n := Int.ediv_nonneg hr hn0
  have hqr := quot_rem r n
  have hm0 : 0 ≤ r % n := Int.emod_nonneg r (by omega)
  have hm1 : r % n < n := Int.emod_lt_of_pos r hn
  have p1 : 0 ≤ r / n * U := Int.mul_nonneg hq hU
  have p2 : 0 ≤ r / n * V := Int.mul_nonneg hq hV
  have hq1 : n < r → 1 ≤ r / n := fun h => by
    have := Int.le_ediv_of_mul_le hn (a := 1) (b := r) (by omega)
    exact this
  have hgc : Int.gcd n (r % n) = Int.gcd r n := gcd_step r n hr hn
  refine ⟨U, X + r / n * U, V, Y + r / n * V, -s, hU, by omega, hV, by omega, by omega, by grind, by grind, by grind, by grind, ?_, ?_, by grind, hn0, by omega, by rw [hqr, hgc, hg], .inl (by omega), ?_, ?_⟩
  · rw [← e1]; grind
  · rw [← e2]; grind
  · rcases ho with ho | ⟨rfl, rfl, rfl, rfl⟩
    · have : U ≤ r / n * U := by
        have := Int.mul_le_mul_of_nonneg_right (hq1 ho) hU
        omega
      omega
    · omega
  · rcases ho with ho | ⟨rfl, rfl, rfl, rfl⟩
    · have : V ≤ r / n * V := by
        have := Int.mul_le_mul_of_nonneg_right (hq1 ho) hV
        omega
      omega
    · omega

/-- A factor of a sum that is not greater than B is not greater than B. -/
theorem le_of_mul_add {a b c B : Int} (ha : 0 ≤ a) (hb : 1 ≤ b) (hc : 0 ≤ c) (h : a * b + c = B) : a ≤ B := by
  have : a * 1 ≤ a * b := Int.mul_le_mul_of_nonneg_left hb ha
  omega

/-- The sizes of all that a round computes. -/
theorem Inv.size {A B r n x u y v : Int} (h : Inv A B r n x u y v) (hn : 0 < n) (hA : A ≤ 9223372036854775807) (hB : B ≤ 9223372036854775807) :
    (0 ≤ r / n ∧ 0 ≤ r / n * n ∧ r / n * n ≤ r) ∧
    (-9223372036854775807 ≤ r / n * u ∧ r / n * u ≤ 9223372036854775807) ∧ (-9223372036854775807 ≤ x - r / n * u ∧ x - r / n * u ≤ 9223372036854775807) ∧
    (-9223372036854775807 ≤ r / n * v ∧ r / n * v ≤ 9223372036854775807) ∧ (-9223372036854775807 ≤ y - r / n * v ∧ y - r / n * v ≤ 9223372036854775807) := by
  obtain ⟨X, U, Y, V, s, hX, hU, hY, hV, hs, rfl, rfl, rfl, rfl, e1, e2, e3, hr, hn0, hg, ho, h1, h2⟩ := h
  have hq : 0 ≤ r / n := Int.ediv_nonneg hr hn0
  have hqr := quot_rem r n
  have hm0 : 0 ≤ r % n := Int.emod_nonneg r (by omega)
  have p1 : 0 ≤ r / n * U := Int.mul_nonneg hq hU
  have p2 : 0 ≤ r / n * V := Int.mul_nonneg hq hV
  have p0 : 0 ≤ r / n * n := Int.mul_nonneg hq hn0
  have q1 : X + r / n * U ≤ B := le_of_mul_add (b := n) (c := U * (r % n)) (by omega) hn (Int.mul_nonneg hU hm0) (by rw [← hqr, ← e1]; grind)
  have q2 : Y + r / n * V ≤ A := le_of_mul_add (b := n) (c := V * (r % n)) (by omega) hn (Int.mul_nonneg hV hm0) (by rw [← hqr, ← e2]; grind)
  refine ⟨⟨hq, p0, by omega⟩, ?_⟩
  rcases hs with rfl | rfl
  · rw [show r / n * -(1 * U) = -(r / n * U) by grind, show r / n * (1 * V) = r / n * V by grind]
    omega
  · rw [show r / n * -(-1 * U) = r / n * U by grind, show r / n * (-1 * V) = -(r / n * V) by grind]
    omega

/-- What the extended Euclid is left with. -/
theorem Inv.done {A B r x u y v : Int} (h : Inv A B r 0 x u y v) :
    r = (Int.gcd A B : Int) ∧ A * x + B * y = r ∧ (∃ U V : Int, 0 ≤ U ∧ 0 ≤ V ∧ U * r = B ∧ V * r = A ∧ (-(max 1 U) ≤ x ∧ x ≤ max 1 U) ∧ (-(max 1 V) ≤ y ∧ y ≤ max 1 V)) := by
  obtain ⟨X, U, Y, V, s, hX, hU, hY, hV, hs, rfl, rfl, rfl, rfl, e1, e2, e3, hr, hn0, hg, ho, h1, h2⟩ := h
  have hg' : r = (Int.gcd A B : Int) := by
    rw [← hg]
    simp
    omega
  refine ⟨hg', ?_, U, V, hU, hV, by omega, by omega, ?_, ?_⟩
  · rw [← e1, ← e2]
    have : s * s = 1 := by rcases hs with rfl | rfl <;> rfl
    grind
  · rcases hs with rfl | rfl <;> omega
  · rcases hs with rfl | rfl <;> omega
end Go.Proofs.Ytbinnmcodlejmaa
