/- Sets of integers as lists of intervals, in plain Lean. -/
import Derived.RowKit
namespace Go.Proofs.Ythmnolpamllabaa
set_option linter.unusedSimpArgs false
set_option linter.unusedVariables false

/-- An interval: its least and its greatest integer; empty if these are the wrong way round. -/
abbrev Iv := Int × Int

def inn (l : List Iv) (n : Int) : Prop := ∃ x ∈ l, x.1 ≤ n ∧ n ≤ x.2

theorem inn_nil (n : Int) : ¬ inn [] n := fun ⟨_, h, _⟩ => by cases h
theorem inn_cons {x : Iv} {l : List Iv} {n : Int} : inn (x :: l) n ↔ (x.1 ≤ n ∧ n ≤ x.2) ∨ inn l n := by
  unfold inn
  constructor
  · rintro ⟨y, hy, h⟩
    rcases List.mem_cons.1 hy with rfl | hy
    · exact .inl h
    · exact .inr ⟨y, hy, h⟩
  · rintro (h | ⟨y, hy, h⟩)
    · exact ⟨x, List.mem_cons_self, h⟩
    · exact ⟨y, List.mem_cons_of_mem _ hy, h⟩
theorem inn_append {a b : List Iv} {n : Int} : inn (a ++ b) n ↔ inn a n ∨ inn b n := by
  unfold inn
  constructor
  · rintro ⟨y, hy, h⟩
    rcases List.mem_append.1 hy with hy | hy
    · exact .inl ⟨y, hy, h⟩
    · exact .inr ⟨y, hy, h⟩
  · rintro (⟨y, hy, h⟩ | ⟨y, hy, h⟩)
    · exact ⟨y, List.mem_append_left _ hy, h⟩
    · exact ⟨y, List.mem_append_right _ hy, h⟩

/-- The only representation: ascending, neither touching nor empty. -/
def Canon : List Iv → Prop
  | [] => True
  | x :: r => x.1 ≤ x.2 ∧ (∀ y ∈ r, x.2 + 1 < y.1) ∧ Canon r

theorem canon_unique : ∀ {a b : List Iv}, Canon a → Canon b → (∀ n, inn a n ↔ inn b n) → a = b
  | [], [], _, _, _ => rfl
  | [], y :: s, _, hb, h => absurd ((h y.1).2 (inn_cons.2 (.inl ⟨Int.le_refl _, hb.1⟩))) (inn_nil _)
  | x :: r, [], ha, _, h => absurd ((h x.1).1 (inn_cons.2 (.inl ⟨Int.le_refl _, ha.1⟩))) (inn_nil _)
  | x :: r, y :: s, ha, hb, h => by
    have far : ∀ {z : Iv} {t : List Iv} {n : Int}, Canon (z :: t) → inn t n → z.2 + 1 < n := by
      rintro z t n hz ⟨u, hu, h1, _⟩
      have := hz.2.1 u hu
      omega
    have least : ∀ {z : Iv} {t : List Iv} {n : Int}, Canon (z :: t) → inn (z :: t) n → z.1 ≤ n := by
      intro z t n hz hn
      rcases inn_cons.1 hn with h1 | h1
      · exact h1.1
      · have := far hz h1; have := hz.1; omega
    have e1 : x.1 = y.1 := by
      have h1 := least hb ((h x.1).1 (inn_cons.2 (.inl ⟨Int.le_refl _, ha.1⟩)))
      have h2 := least ha ((h y.1).2 (inn_cons.2 (.inl ⟨Int.le_refl _, hb.1⟩)))
      omega
    have ha1 := ha.1
    have hb1 := hb.1
    have e2 : x.2 = y.2 := by
      rcases Int.lt_trichotomy x.2 y.2 with hlt | heq | hgt
      · exfalso
        have h1 := (h (x.2 + 1)).2 (inn_cons.2 (.inl ⟨by omega, by omega⟩))
        rcases inn_cons.1 h1 with h2 | h2
        · omega
        · have := far ha h2; omega
      · exact heq
      · exfalso
        have h1 := (h (y.2 + 1)).1 (inn_cons.2 (.inl ⟨by omega, by omega⟩))
        rcases inn_cons.1 h1 with h2 | h2
        · omega
        · have := far hb h2; omega
    obtain ⟨x1, x2⟩ := x
    obtain ⟨y1, y2⟩ := y
    simp only at e1 e2
    subst e1 e2
    rw [canon_unique ha.2.2 hb.2.2 (fun n => ?_)]
    constructor
    · intro hn
      have h1 := far ha hn
      rcases inn_cons.1 ((h n).1 (inn_cons.2 (.inr hn))) with h2 | h2
      · simp only at h1 h2; omega
      · exact h2
    · intro hn
      have h1 := far hb hn
      rcases inn_cons.1 ((h n).2 (inn_cons.2 (.inr hn))) with h2 | h2
      · simp only at h1 h2; omega
      · exact h2

theorem canon_snoc : ∀ {a : List Iv} {z : Iv}, Canon (a ++ [z]) ↔ Canon a ∧ z.1 ≤ z.2 ∧ ∀ y ∈ a, y.2 + 1 < z.1
  | [], z => by simp [Canon]
  | x :: r, z => by
    rw [List.cons_append]
    unfold Canon
    rw [canon_snoc (a := r)]
    constructor
    · rintro ⟨h1, h2, h3, h4, h5⟩
      refine ⟨⟨h1, fun y hy => h2 y (List.mem_append_left _ hy), h3⟩, h4, fun y hy => ?_⟩
      rcases List.mem_cons.1 hy with rfl | hy
      · exact h2 z (by simp)
      · exact h5 y hy
    · rintro ⟨⟨h1, h2, h3⟩, h4, h5⟩
      refine ⟨h1, fun y hy => ?_, h3, h4, fun y hy => h5 y (List.mem_cons_of_mem _ hy)⟩
      rcases List.mem_append.1 hy with hy | hy
      · exact h2 y hy
      · obtain rfl : y = z := by simpa using hy
        exact h5 x List.mem_cons_self

/-- Merging: what the loop of Of keeps. P: what was taken so far, of a list that ascends. -/
structure Merged (P out : List Iv) : Prop where
  can : Canon out
  same : ∀ n, inn out n ↔ inn P n

theorem merged_nil : Merged [] [] := ⟨trivial, fun _ => Iff.rfl⟩
theorem merged_first {x : Iv} (h : x.1 ≤ x.2) : Merged [x] [x] := ⟨⟨h, by simp, trivial⟩, fun _ => Iff.rfl⟩
/-- The next interval touches the last one. -/
theorem merged_touch {P a : List Iv} {y x : Iv} (h : Merged P (a ++ [y])) (hlow : y.1 ≤ x.1) (hx : x.1 ≤ x.2) (ht : x.1 ≤ y.2 + 1) : Merged (P ++ [x]) (a ++ [(y.1, max y.2 x.2)]) := by
  obtain ⟨h1, h2, h3⟩ := canon_snoc.1 h.can
  refine ⟨canon_snoc.2 ⟨h1, ?_, h3⟩, fun n => ?_⟩
  · show y.1 ≤ max y.2 x.2
    omega
  · rw [inn_append, inn_append (a := P), ← h.same, inn_append (a := a) (b := [y]), inn_cons, inn_cons, inn_cons]
    simp only [inn_nil, or_false]
    constructor
    · rintro (h4 | h4)
      · exact .inl (.inl h4)
      · by_cases hn : n ≤ y.2
        · exact .inl (.inr ⟨h4.1, hn⟩)
        · exact .inr ⟨by omega, by have := h4.2; omega⟩
    · rintro ((h4 | h4) | h4)
      · exact .inl h4
      · exact .inr ⟨h4.1, by have := h4.2; show n ≤ max y.2 x.2; omega⟩
      · exact .inr ⟨by have := h4.1; show y.1 ≤ n; omega, by have := h4.2; show n ≤ max y.2 x.2; omega⟩
/-- It does not. -/
theorem merged_apart {P a : List Iv} {y x : Iv} (h : Merged P (a ++ [y])) (hx : x.1 ≤ x.2) (ht : y.2 + 1 < x.1) : Merged (P ++ [x]) (a ++ [y] ++ [x]) := by
  obtain ⟨h1, h2, h3⟩ := canon_snoc.1 h.can
  refine ⟨canon_snoc.2 ⟨h.can, hx, fun z hz => ?_⟩, fun n => ?_⟩
  · rcases List.mem_append.1 hz with hz | hz
    · have := h3 z hz; omega
    · obtain rfl : z = y := by simpa using hz
      exact ht
  · rw [inn_append, inn_append (a := P), h.same]

/-- The greatest integer so far. -/
def top (out : List Iv) : Option Int := out.getLast?.map (·.2)
def past (t : Option Int) (n : Int) : Prop := ∀ h, t = some h → h < n
def upto (t : Option Int) (x : Iv) : Bool := match t with
  | none => false
  | some h => decide (x.1 ≤ x.2 ∧ x.2 ≤ h)
theorem top_nil : top [] = none := rfl
theorem top_snoc (a : List Iv) (z : Iv) : top (a ++ [z]) = some z.2 := by unfold top; rw [List.getLast?_append]; rfl

/-- The reference's Of: what the outer loop keeps. -/
structure ROut (l out : List Iv) : Prop where
  can : Canon out
  ex : ∀ n, inn out n ↔ inn l n ∧ ¬ past (top out) n
  end_ : ∀ h, top out = some h → ¬ inn l (h + 1)
  few : out.length ≤ l.countP (upto (top out))

theorem rout_nil (l : List Iv) : ROut l [] := ⟨trivial, (fun n => ⟨fun h => absurd h (inn_nil n), fun h => absurd (fun k (e : top [] = some k) => (by cases e)) h.2⟩), (fun h e => by cases e), (by simp)⟩

/-- The scan for the least integer that is past the greatest one. -/
structure Scan (l : List Iv) (t : Option Int) (k : Nat) (low : Int) (found : Bool) : Prop where
  no : found = false → ∀ n, inn (l.take k) n → ¬ past t n
  yes : found = true → inn (l.take k) low ∧ past t low ∧ ∀ n, inn (l.take k) n → past t n → low ≤ n

theorem scan_nil (l : List Iv) (t : Option Int) (low : Int) : Scan l t 0 low false := ⟨fun _ n h => absurd h (by rw [List.take_zero]; exact inn_nil n), fun h => by cases h⟩
theorem inn_take {l : List Iv} {k : Nat} {x : Iv} (hx : l[k]? = some x) {n : Int} : inn (l.take (k + 1)) n ↔ inn (l.take k) n ∨ (x.1 ≤ n ∧ n ≤ x.2) := by
  rw [List.take_add_one, hx, inn_append]
  show _ ∨ inn [x] n ↔ _
  rw [inn_cons]
  simp only [inn_nil, or_false]
theorem scan_skip {l : List Iv} {t : Option Int} {k : Nat} {low : Int} {found : Bool} {x : Iv} (hx : l[k]? = some x) (h : Scan l t k low found) (hs : ∀ n, x.1 ≤ n → n ≤ x.2 → ¬ past t n) : Scan l t (k + 1) low found := by
  refine ⟨fun hf n hn => ?_, fun hf => ?_⟩
  · rcases (inn_take hx).1 hn with h1 | h1
    · exact h.no hf n h1
    · exact hs n h1.1 h1.2
  · obtain ⟨h1, h2, h3⟩ := h.yes hf
    refine ⟨(inn_take hx).2 (.inl h1), h2, fun n hn hp => ?_⟩
    rcases (inn_take hx).1 hn with h4 | h4
    · exact h3 n h4 hp
    · exact absurd hp (hs n h4.1 h4.2)
/-- The interval's least integer past the greatest one is m: it is less than the least one so far. -/
theorem scan_take {l : List Iv} {t : Option Int} {k : Nat} {low : Int} {found : Bool} {x : Iv} {m : Int} (hx : l[k]? = some x) (h : Scan l t k low found) (h1 : x.1 ≤ m) (h2 : m ≤ x.2) (hp : past t m) (hm : ∀ n, x.1 ≤ n → n ≤ x.2 → past t n → m ≤ n)
    (hl : found = false ∨ m < low) : Scan l t (k + 1) m true := by
  refine ⟨fun hf => (by cases hf), fun _ => ⟨(inn_take hx).2 (.inr ⟨h1, h2⟩), hp, fun n hn hq => ?_⟩⟩
  rcases (inn_take hx).1 hn with h4 | h4
  · cases hf : found
    · exact absurd hq (h.no hf n h4)
    · have := (h.yes hf).2.2 n h4 hq
      rcases hl with h5 | h5
      · rw [hf] at h5; cases h5
      · omega
  · exact hm n h4.1 h4.2 hq
theorem scan_keep {l : List Iv} {t : Option Int} {k : Nat} {low : Int} {x : Iv} {m : Int} (hx : l[k]? = some x) (h : Scan l t k low true) (hm : ∀ n, x.1 ≤ n → n ≤ x.2 → past t n → m ≤ n) (hl : ¬ m < low) : Scan l t (k + 1) low true := by
  obtain ⟨h1, h2, h3⟩ := h.yes rfl
  refine ⟨fun hf => (by cases hf), fun _ => ⟨(inn_take hx).2 (.inl h1), h2, fun n hn hq => ?_⟩⟩
  rcases (inn_take hx).1 hn with h4 | h4
  · exact h3 n h4 hq
  · have := hm n h4.1 h4.2 hq; omega

/-- Nothing is past the greatest integer: the list is whole. -/
theorem rout_done {l out : List Iv} {low : Int} (h : ROut l out) (hs : Scan l (top out) l.length low false) : ∀ n, inn out n ↔ inn l n := fun n => by
  rw [h.ex]
  have := hs.no rfl n
  rw [List.take_length] at this
  exact ⟨fun h => h.1, fun h => ⟨h, this h⟩⟩

/-- From low to high all are in it, and no interval of the first k carries on beyond high. -/
structure High (l : List Iv) (low high : Int) : Prop where
  le : low ≤ high
  all : ∀ n, low ≤ n → n ≤ high → inn l n
def Still (l : List Iv) (k : Nat) (high : Int) : Prop := ∀ x ∈ l.take k, x.1 ≤ x.2 → high < x.2 → high + 1 < x.1

theorem high_start {l : List Iv} {low : Int} (h : inn l low) : High l low low := ⟨Int.le_refl _, fun n h1 h2 => by obtain rfl : n = low := (by omega); exact h⟩
theorem high_more {l : List Iv} {low high : Int} {k : Nat} {x : Iv} (h : High l low high) (hx : l[k]? = some x) (h1 : x.1 ≤ high + 1) (h2 : high < x.2) : High l low x.2 :=
  ⟨by have := h.le; omega, fun n h3 h4 => by
    by_cases hn : n ≤ high
    · exact h.all n h3 hn
    · exact ⟨x, List.mem_of_getElem? hx, by omega, h4⟩⟩
theorem still_zero (l : List Iv) (high : Int) : Still l 0 high := fun x h => by rw [List.take_zero] at h; cases h
theorem still_step {l : List Iv} {k : Nat} {high : Int} {x : Iv} (h : Still l k high) (hx : l[k]? = some x) (h1 : x.1 ≤ x.2 → high < x.2 → high + 1 < x.1) : Still l (k + 1) high := fun y hy => by
  rw [List.take_add_one, hx] at hy
  rcases List.mem_append.1 hy with hy | hy
  · exact h y hy
  · obtain rfl : y = x := by simpa using hy
    exact h1
/-- How many reach beyond. -/
def beyond (l : List Iv) (high : Int) : Nat := l.countP fun x => decide (high < x.2)
theorem beyond_lt {l : List Iv} {high : Int} {k : Nat} {x : Iv} (hx : l[k]? = some x) (h : high < x.2) : beyond l x.2 < beyond l high := by
  have hm := List.mem_of_getElem? hx
  unfold beyond
  clear hx
  induction l with
  | nil => cases hm
  | cons y r ih =>
    have mono : (r.countP fun z => decide (x.2 < z.2)) ≤ r.countP fun z => decide (high < z.2) := List.countP_mono_left (fun z _ hz => by simp at hz ⊢; omega)
    rcases List.mem_cons.1 hm with rfl | hm
    · rw [List.countP_cons_of_neg (by simp), List.countP_cons_of_pos (by simpa using h)]
      omega
    · have := ih hm
      by_cases h1 : x.2 < y.2
      · rw [List.countP_cons_of_pos (by simpa using h1), List.countP_cons_of_pos (by simp; omega)]
        omega
      · rw [List.countP_cons_of_neg (by simpa using h1)]
        have : (r.countP fun z => decide (high < z.2)) ≤ (y :: r).countP fun z => decide (high < z.2) := by rw [List.countP_cons]; omega
        omega

theorem rout_snoc {l out : List Iv} {low high : Int} (h : ROut l out) (hs : Scan l (top out) l.length low true) (hh : High l low high) (hw : Still l l.length high) : ROut l (out ++ [(low, high)]) := by
  obtain ⟨h1, h2, h3⟩ := hs.yes rfl
  rw [List.take_length] at h1 h3
  have hle := hh.le
  have hend : ¬ inn l (high + 1) := by
    rintro ⟨x, hx, h4, h5⟩
    have := hw x (by rw [List.take_length]; exact hx) (by omega) (by omega)
    omega
  have hlast : ∀ y ∈ out, y.2 + 1 < low := by
    intro y hy
    obtain ⟨a, z, rfl⟩ : ∃ a z, out = a ++ [z] := by
      rcases List.eq_nil_or_concat out with rfl | ⟨a, z, rfl⟩
      · cases hy
      · exact ⟨a, z, by simp⟩
    have hz := h2 z.2 (top_snoc a z)
    have hz1 : z.2 + 1 < low := by
      rcases Int.lt_or_le (z.2 + 1) low with h6 | h6
      · exact h6
      · exact absurd h1 (by rw [show low = z.2 + 1 by omega]; exact h.end_ z.2 (top_snoc a z))
    rcases List.mem_append.1 hy with hy | hy
    · obtain ⟨h7, h8, h9⟩ := canon_snoc.1 h.can
      have := h9 y hy
      omega
    · obtain rfl : y = z := by simpa using hy
      exact hz1
  refine ⟨canon_snoc.2 ⟨h.can, hle, hlast⟩, fun n => ?_, fun k hk => ?_, ?_⟩
  · rw [inn_append, inn_cons, h.ex, top_snoc]
    simp only [inn_nil, or_false]
    constructor
    · rintro (⟨h4, h5⟩ | h4)
      · refine ⟨h4, fun hp => h5 fun k hk => ?_⟩
        have := hp high rfl
        have := h2 k hk
        omega
      · exact ⟨hh.all n h4.1 h4.2, fun hp => by have := hp high rfl; omega⟩
    · rintro ⟨h4, h5⟩
      by_cases hp : past (top out) n
      · refine .inr ⟨h3 n h4 hp, ?_⟩
        rcases Int.lt_or_le high n with h6 | h6
        · exact absurd (fun k hk => by cases hk; exact h6) h5
        · exact h6
      · exact .inl ⟨h4, hp⟩
  · rw [top_snoc] at hk
    cases hk
    exact hend
  · rw [List.length_append, top_snoc]
    refine Nat.le_trans (Nat.succ_le_succ h.few) ?_
    obtain ⟨x, hx, h4, h5⟩ := h1
    have hx2 : x.2 ≤ high := by
      rcases Int.lt_or_le high x.2 with h6 | h6
      · have := hw x (by rw [List.take_length]; exact hx) (by omega) h6
        omega
      · exact h6
    have hno : upto (top out) x = false := by
      cases ht : top out with
      | none => rfl
      | some k => have := h2 k ht; simp [upto]; omega
    have hyes : upto (some high) x = true := by simp [upto]; omega
    have hmono : ∀ z, upto (top out) z = true → upto (some high) z = true := by
      intro z hz
      cases ht : top out with
      | none => rw [ht] at hz; cases hz
      | some k => rw [ht] at hz; have := h2 k ht; simp [upto] at hz ⊢; omega
    clear h3 hend hlast hh hw hs h
    induction l with
    | nil => cases hx
    | cons y r ih =>
      have mono : r.countP (upto (top out)) ≤ r.countP (upto (some high)) := List.countP_mono_left (fun z _ hz => hmono z hz)
      rcases List.mem_cons.1 hx with rfl | hx
      · rw [List.countP_cons_of_neg (by simp [hno]), List.countP_cons_of_pos hyes]
        omega
      · have := ih hx
        rw [List.countP_cons, List.countP_cons]
        by_cases h6 : upto (top out) y = true
        · rw [if_pos h6, if_pos (hmono y h6)]
          omega
        · rw [if_neg h6]
          omega
theorem rout_few {l out : List Iv} (h : ROut l out) : out.length ≤ l.length := Nat.le_trans h.few (List.countP_le_length)
end Go.Proofs.Ythmnolpamllabaa
