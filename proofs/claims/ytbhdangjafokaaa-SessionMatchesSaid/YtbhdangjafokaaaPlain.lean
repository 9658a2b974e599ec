/- Sessions in plain Lean: where the transactions of a script begin and end. -/
namespace Go.Proofs.Ytbhdangjafokaaa

def isFin (ks : List Int) (i : Nat) : Bool := ks.getD i 0 == 7 || ks.getD i 0 == 8

def ext (ks : List Int) : Nat → Nat → Nat
  | 0, last => last
  | f + 1, last => if last + 1 < ks.length ∧ isFin ks last = false then ext ks f (last + 1) else last

/-- The last statement of the transaction that begins at i. -/
def stop (ks : List Int) (i : Nat) : Nat := if ks.getD i 0 = 6 then ext ks ks.length i else i

def spl (ks : List Int) : Nat → Nat → List (Nat × Nat)
  | 0, _ => []
  | f + 1, i => if i < ks.length then (i, stop ks i) :: spl ks f (stop ks i + 1) else []

def split (ks : List Int) : List (Nat × Nat) := spl ks ks.length 0

/-- What makes the last statement the one it is. -/
structure IsStop (ks : List Int) (i L : Nat) : Prop where
  ge : i ≤ L
  lt : L < ks.length
  mid : ∀ j, i ≤ j → j < L → isFin ks j = false
  fin : isFin ks L = true ∨ L + 1 = ks.length

theorem IsStop.unique {ks : List Int} {i L M : Nat} (h : IsStop ks i L) (k : IsStop ks i M) : L = M := by
  rcases Nat.lt_trichotomy L M with hl | hl | hl
  · have h1 := k.mid L h.ge hl
    rcases h.fin with h2 | h2
    · rw [h1] at h2; cases h2
    · have := k.lt; omega
  · exact hl
  · have h1 := h.mid M k.ge hl
    rcases k.fin with h2 | h2
    · rw [h1] at h2; cases h2
    · have := h.lt; omega

theorem ext_stop (ks : List Int) : ∀ f last, last < ks.length → ks.length ≤ last + f → IsStop ks last (ext ks f last)
  | 0, last, h, hf => absurd hf (by omega)
  | f + 1, last, h, hf => by
    unfold ext
    split
    · rename_i hc
      have ih := ext_stop ks f (last + 1) hc.1 (by omega)
      refine ⟨by have := ih.ge; omega, ih.lt, fun j h1 h2 => ?_, ih.fin⟩
      by_cases hj : j = last
      · subst hj; exact hc.2
      · exact ih.mid j (by omega) h2
    · rename_i hc
      refine ⟨Nat.le_refl _, h, fun j h1 h2 => absurd h2 (by omega), ?_⟩
      by_cases h1 : last + 1 < ks.length
      · left
        cases hx : isFin ks last
        · exact absurd ⟨h1, hx⟩ hc
        · rfl
      · right; omega

/-- One step of the program's inner loop. -/
theorem ext_step {ks : List Int} {f last : Nat} (h : last + 1 < ks.length) (hx : isFin ks last = false) : ext ks (f + 1) last = ext ks f (last + 1) := by
  show (if last + 1 < ks.length ∧ isFin ks last = false then ext ks f (last + 1) else last) = _
  rw [if_pos ⟨h, hx⟩]
theorem ext_more (ks : List Int) : ∀ f g last, last < ks.length → ks.length ≤ last + f → ks.length ≤ last + g → ext ks f last = ext ks g last :=
  fun f g last h h1 h2 => (ext_stop ks f last h h1).unique (ext_stop ks g last h h2)

theorem stop_ge (ks : List Int) {i : Nat} (hi : i < ks.length) : i ≤ stop ks i ∧ stop ks i < ks.length := by
  unfold stop
  split
  · have := ext_stop ks ks.length i hi (by omega)
    exact ⟨this.ge, this.lt⟩
  · exact ⟨Nat.le_refl _, hi⟩

theorem spl_more (ks : List Int) : ∀ f g i, ks.length ≤ i + f → ks.length ≤ i + g → spl ks f i = spl ks g i
  | 0, 0, i, h, _ => rfl
  | 0, g + 1, i, h, _ => by
    unfold spl
    rw [if_neg (by omega)]
  | f + 1, 0, i, _, h => by
    unfold spl
    rw [if_neg (by omega)]
  | f + 1, g + 1, i, h1, h2 => by
    unfold spl
    by_cases hi : i < ks.length
    · rw [if_pos hi, if_pos hi]
      have := stop_ge ks hi
      rw [spl_more ks f g (stop ks i + 1) (by omega) (by omega)]
    · rw [if_neg hi, if_neg hi]

/-- The transactions from statement i on. -/
def from_ (ks : List Int) (i : Nat) : List (Nat × Nat) := spl ks (ks.length - i) i

theorem from_step {ks : List Int} {i : Nat} (hi : i < ks.length) : from_ ks i = (i, stop ks i) :: from_ ks (stop ks i + 1) := by
  have hg := stop_ge ks hi
  unfold from_
  obtain ⟨f, hf⟩ : ∃ f, ks.length - i = f + 1 := ⟨ks.length - i - 1, by omega⟩
  rw [hf]
  show (if i < ks.length then (i, stop ks i) :: spl ks f (stop ks i + 1) else []) = _
  rw [if_pos hi, spl_more ks f (ks.length - (stop ks i + 1)) (stop ks i + 1) (by omega) (by omega)]
theorem from_end {ks : List Int} {i : Nat} (hi : ks.length ≤ i) : from_ ks i = [] := by
  unfold from_
  rw [show ks.length - i = 0 by omega]
  rfl
theorem split_eq (ks : List Int) : split ks = from_ ks 0 := rfl

/-- The reference's inner loop, downwards: the least end behind k. -/
structure Down (ks : List Int) (k L : Nat) : Prop where
  gt : k < L ∨ L + 1 = ks.length
  lt : L < ks.length
  mid : ∀ j, k < j → j < L → isFin ks j = false
  fin : isFin ks L = true ∨ L + 1 = ks.length

theorem Down.start {ks : List Int} (h : 0 < ks.length) : Down ks (ks.length - 1) (ks.length - 1) :=
  ⟨.inr (by omega), by omega, fun j h1 h2 => absurd h2 (by omega), .inr (by omega)⟩
theorem Down.hit {ks : List Int} {k : Nat} (hk : k + 1 < ks.length) (hx : isFin ks (k + 1) = true) : Down ks k (k + 1) :=
  ⟨.inl (by omega), hk, fun j h1 h2 => absurd h2 (by omega), .inl hx⟩
theorem Down.miss {ks : List Int} {k L : Nat} (h : Down ks (k + 1) L) (hx : isFin ks (k + 1) = false) : Down ks k L := by
  refine ⟨?_, h.lt, fun j h1 h2 => ?_, h.fin⟩
  · rcases h.gt with h1 | h1
    · left; omega
    · exact .inr h1
  · by_cases hj : j = k + 1
    · subst hj; exact hx
    · exact h.mid j (by omega) h2
theorem Down.stop {ks : List Int} {i L : Nat} (h : Down ks i L) (hi : i < ks.length) (hx : isFin ks i = false) : IsStop ks i L := by
  refine ⟨by rcases h.gt with h1 | h1 <;> omega, h.lt, fun j h1 h2 => ?_, h.fin⟩
  by_cases hj : j = i
  · subst hj; exact hx
  · exact h.mid j (by omega) h2

theorem not_fin_six {ks : List Int} {i : Nat} (h : ks.getD i 0 = 6) : isFin ks i = false := by
  unfold isFin; rw [h]; rfl

theorem Down.stop_eq {ks : List Int} {i L : Nat} (h : Down ks i L) (hi : i < ks.length) (h6 : ks.getD i 0 = 6) : L = Go.Proofs.Ytbhdangjafokaaa.stop ks i := by
  unfold Go.Proofs.Ytbhdangjafokaaa.stop
  rw [if_pos h6]
  exact (h.stop hi (not_fin_six h6)).unique (ext_stop ks ks.length i hi (by omega))
end Go.Proofs.Ytbhdangjafokaaa
