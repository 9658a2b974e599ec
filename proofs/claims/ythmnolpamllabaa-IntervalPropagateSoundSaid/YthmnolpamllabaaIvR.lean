/- What the reference's Propagate leans on: rows of any element, rows cut in two, domains that shrink. -/
import Derived.Test.YthmnolpamllabaaIvProb
namespace Go.Proofs.Ythmnolpamllabaa
open Go.RowKit Go.Lib
set_option linter.unusedSimpArgs false
set_option linter.unusedVariables false

theorem info50 : (Try.prog.info? 50).map (fun i => (i.zero, i.size, i.bytes)) = some (some (.agg #[.int .i64 0, .int .i64 0]), 2, 16) := by kernel_rfl

theorem own_splitE {w : World} {base m e : Nat} {v : Value} {E : List Iv} (h : w.ownsRow base e 2 v m (flat E)) (hm : E.length = m) (h0 : 0 < m) :
    ∃ gd c tail, v = .slice (some ⟨gd, 0, none⟩) m c ∧ base ≤ gd ∧ Blk w gd e (flat E ++ tail).toArray ∧ m ≤ c ∧ c ≤ maxLen ∧ (flat E ++ tail).length = c * 2 := by
  rcases h.2 with ⟨_, h1⟩ | ⟨gd, cap, cur, hv, h1, h2, h3, h4, h5, h6⟩
  · omega
  · have e : cur.toList = flat E ++ cur.toList.drop (m * 2) := by rw [← h6, List.take_append_drop]
    refine ⟨gd, cap, cur.toList.drop (m * 2), hv, h1, ?_, h3, h4, ?_⟩
    · rw [← e]; exact h2
    · rw [← e]; simpa using h5
theorem own_joinE {w : World} {base m gd c e : Nat} {E : List Iv} {tail : List Value} (hb : base ≤ gd) (hB : Blk w gd e (flat E ++ tail).toArray) (hmc : m ≤ c) (hcm : c ≤ maxLen) (hl : (flat E ++ tail).length = c * 2) (hE : E.length = m) :
    w.ownsRow base e 2 (.slice (some ⟨gd, 0, none⟩) m c) m (flat E) := by
  refine ⟨by rw [flat_len, hE], .inr ⟨gd, c, (flat E ++ tail).toArray, rfl, hb, hB, hmc, hcm, by simpa using hl, ?_⟩⟩
  show (flat E ++ tail).take (m * 2) = flat E
  rw [List.take_append_of_le_length (by rw [flat_len, hE]; exact Nat.le_refl _), List.take_of_length_le (by rw [flat_len, hE]; exact Nat.le_refl _)]
theorem flat_set2 : ∀ (E : List Iv) (n : Nat) (a b : Int) (tail : List Value), n < E.length → ((flat E ++ tail).set (n * 2) (.int .i64 a)).set (n * 2 + 1) (.int .i64 b) = flat (E.set n (a, b)) ++ tail
  | y :: E, 0, a, b, tail, _ => rfl
  | y :: E, n + 1, a, b, tail, h => by
    have ih := flat_set2 E n a b tail (by simpa using h)
    rw [show (n + 1) * 2 = n * 2 + 1 + 1 by omega, List.set_cons_succ]
    show .int .i64 y.1 :: .int .i64 y.2 :: ((flat E ++ tail).set (n * 2) (.int .i64 a)).set (n * 2 + 1) (.int .i64 b) = _
    rw [ih]
    rfl
/-- One interval of a row that the call owns is set. -/
theorem own_put {w : World} {base m e gd c : Nat} {E : List Iv} (h : w.ownsRow base e 2 (.slice (some ⟨gd, 0, none⟩) m c) m (flat E)) (hm : E.length = m) (n : Nat) (hn : n < m) (a b : Int) :
    ((w.setCell ⟨gd, n * 2, none⟩ (.int .i64 a)).setCell ⟨gd, n * 2 + 1, none⟩ (.int .i64 b)).ownsRow base e 2 (.slice (some ⟨gd, 0, none⟩) m c) m (flat (E.set n (a, b))) := by
  obtain ⟨g', c', tail, hv, hb, hB, hmc, hcm, hl⟩ := own_splitE h hm (by omega)
  simp only [Value.slice.injEq, Option.some.injEq, Addr.mk.injEq] at hv
  obtain ⟨⟨rfl, _⟩, _, rfl⟩ := hv
  have h2 := (hB.set_ (n * 2) (.int .i64 a)).set_ (n * 2 + 1) (.int .i64 b)
  rw [List.setIfInBounds_toArray, List.setIfInBounds_toArray, flat_set2 E n a b tail (by omega)] at h2
  exact own_joinE hb h2 hmc hcm (by rw [List.length_append, flat_len] at hl ⊢; rw [List.length_set]; exact hl) (by rw [List.length_set]; exact hm)

theorem IvAt.take_ {w : World} {B : Nat} {A : Option Addr} {l : List Iv} (h : IvAt w B A l) (k : Nat) : IvAt w B A (l.take k) := fun i x hi => by
  rw [List.getElem?_take] at hi
  split at hi
  · exact h i x hi
  · cases hi
/-- The part of a row behind its first k elements: how the model cuts it. -/
theorem src_drop {w : World} {B ga oa cc : Nat} {l : List Iv} (h : IvAt w B (some ⟨ga, oa, none⟩) l) (k : Nat) (hl : l.length ≤ cc) :
    SrcAt w (if cc = k then some ⟨ga, oa, none⟩ else some ⟨ga, oa + k * 2, none⟩) (l.length - k) (flat (l.drop k)) := by
  by_cases hk : l.length ≤ k
  · exact .inl (by omega)
  · rw [if_neg (by omega)]
    have h2 : IvAt w B (some ⟨ga, oa + k * 2, none⟩) (l.drop k) := fun i x hi => by
      rw [List.getElem?_drop] at hi
      obtain ⟨g, off, he, hg, c0, c1⟩ := h (k + i) x hi
      simp only [Option.some.injEq, Addr.mk.injEq] at he
      obtain ⟨rfl, rfl, _⟩ := he
      refine ⟨ga, oa + k * 2, rfl, hg, ?_, ?_⟩
      · rw [show oa + k * 2 + i * 2 = oa + (k + i) * 2 by omega]; exact c0
      · rw [show oa + k * 2 + i * 2 + 1 = oa + (k + i) * 2 + 1 by omega]; exact c1
    have := src_iv h2
    rwa [List.length_drop] at this

/-- Domains that shrink. -/
def Nar (D E : List Iv) : Prop := D.length = E.length ∧ ∀ (i : Nat) (x y : Iv), D[i]? = some x → E[i]? = some y → x.1 ≤ y.1 ∧ y.2 ≤ x.2
theorem Nar.refl (D : List Iv) : Nar D D := ⟨rfl, fun i x y hx hy => by rw [hx] at hy; cases hy; exact ⟨Int.le_refl _, Int.le_refl _⟩⟩
theorem Nar.trans {D E F : List Iv} (h : Nar D E) (k : Nar E F) : Nar D F := ⟨h.1.trans k.1, fun i x z hx hz => by
  have hi : i < E.length := by rw [← h.1]; exact (List.getElem?_eq_some_iff.1 hx).1
  have h1 := h.2 i x E[i] hx (List.getElem?_eq_getElem hi)
  have h2 := k.2 i E[i] z (List.getElem?_eq_getElem hi) hz
  omega⟩
theorem Nar.anti {D E : List Iv} (h : Nar D E) (k : Nar E D) : D = E := by
  refine List.ext_getElem? fun i => ?_
  rcases Nat.lt_or_ge i D.length with hi | hi
  · have hi' : i < E.length := by rw [← h.1]; exact hi
    have h1 := h.2 i _ _ (List.getElem?_eq_getElem hi) (List.getElem?_eq_getElem hi')
    have h2 := k.2 i _ _ (List.getElem?_eq_getElem hi') (List.getElem?_eq_getElem hi)
    rw [List.getElem?_eq_getElem hi, List.getElem?_eq_getElem hi']
    congr 1
    exact Prod.ext (by omega) (by omega)
  · rw [List.getElem?_eq_none hi, List.getElem?_eq_none (by rw [← h.1]; exact hi)]
theorem Nar.set {E : List Iv} {n : Nat} {d y : Iv} (hd : E[n]? = some d) (h1 : d.1 ≤ y.1) (h2 : y.2 ≤ d.2) : Nar E (E.set n y) := ⟨(List.length_set).symm, fun i x z hx hz => by
  by_cases hi : n = i
  · subst hi
    rw [hd] at hx
    cases hx
    rw [List.getElem?_set_self (List.getElem?_eq_some_iff.1 hd).1] at hz
    cases hz
    exact ⟨h1, h2⟩
  · rw [List.getElem?_set_ne hi, hx] at hz
    cases hz
    exact ⟨Int.le_refl _, Int.le_refl _⟩⟩
/-- What the round has turned so far. -/
structure Turned (D E : List Iv) (ch : Bool) : Prop where
  nar : Nar D E
  ch : ch = false ↔ D = E
theorem Turned.start (D : List Iv) : Turned D D false := ⟨Nar.refl D, ⟨fun _ => rfl, fun _ => rfl⟩⟩
theorem set_same {E : List Iv} {n : Nat} {d : Iv} (hd : E[n]? = some d) : E.set n d = E := by
  obtain ⟨h1, h2⟩ := List.getElem?_eq_some_iff.1 hd
  rw [← h2]
  exact List.set_getElem_self h1
theorem Turned.same {D E : List Iv} {ch : Bool} {n : Nat} {d : Iv} (h : Turned D E ch) (hd : E[n]? = some d) : Turned D (E.set n d) ch := by rw [set_same hd]; exact h
theorem Turned.turn {D E : List Iv} {ch : Bool} {n : Nat} {d y : Iv} (h : Turned D E ch) (hd : E[n]? = some d) (h1 : d.1 ≤ y.1) (h2 : y.2 ≤ d.2) (hne : y ≠ d) : Turned D (E.set n y) true :=
  ⟨h.nar.trans (Nar.set hd h1 h2), ⟨fun h => (by cases h), fun he => by
    exfalso
    have k : Nar (E.set n y) E := he ▸ h.nar
    have := (Nar.set hd h1 h2).anti k
    rw [this] at hd
    rw [List.getElem?_set_self (by have := (List.getElem?_eq_some_iff.1 hd).1; rw [List.length_set] at this; exact this)] at hd
    cases hd
    exact hne rfl⟩⟩

/-- The form without its term number j. -/
theorem rest_in {co : List Iv} {j : Nat} {x : Iv} (h : x ∈ co.take j ++ co.drop (j + 1)) : x ∈ co := by
  rcases List.mem_append.1 h with h | h
  · exact List.mem_of_mem_take h
  · exact List.mem_of_mem_drop h
theorem rest_len {co : List Iv} {j : Nat} (hj : j < co.length) : (co.take j ++ co.drop (j + 1)).length = j + (co.length - (j + 1)) := by
  rw [List.length_append, List.length_take, List.length_drop]
  omega
theorem goodL_rest {D co : List Iv} {c : Int} {j : Nat} (h : GoodL D co c) (hj : j < co.length) : GoodL D (co.take j ++ co.drop (j + 1)) c :=
  ⟨h.dm, fun x hx => h.var x (rest_in hx), fun x hx => h.fac x (rest_in hx), h.con, by have := h.few; rw [rest_len hj]; omega⟩
theorem woM_rest {D co : List Iv} {c : Int} {j : Nat} {x : Iv} (hx : co[j]? = some x) : woM D x.1 (co.take j ++ co.drop (j + 1)) c = woM D x.1 co c := by
  obtain ⟨hj, hx'⟩ := List.getElem?_eq_some_iff.1 hx
  have e : co = co.take j ++ x :: co.drop (j + 1) := by
    rw [← hx', List.getElem_cons_drop hj, List.take_append_drop]
  unfold woM
  conv => rhs; rw [e]
  rw [List.foldl_append, List.foldl_append, List.foldl_cons]
  congr 1
  generalize List.foldl (stepW D x.1) (c, c) (co.take j) = acc
  unfold stepW
  rw [if_pos (.inl rfl)]
theorem rrM_rest {D co : List Iv} {c : Int} {j : Nat} {x : Iv} (hx : co[j]? = some x) (ha : AscV co) (hv : ∀ y ∈ co, 0 ≤ y.1 ∧ y.1 < (D.length : Int)) (hd : ∀ d ∈ D, d.1 ≤ d.2) :
    rrM D (co.take j ++ co.drop (j + 1)) c = woM D x.1 co c := by
  rw [← woM_rest hx]
  refine rrM_woM (fun y hy => ?_) (fun y hy => ?_)
  · have h1 := hv y (rest_in hy)
    have hl : y.1.toNat < D.length := by omega
    unfold hole full
    rw [List.getD_eq_getElem?_getD, List.getElem?_eq_getElem hl]
    have := hd _ (List.getElem_mem hl)
    simp
    intro _
    exact this
  · rcases List.mem_append.1 hy with h | h
    · obtain ⟨i, hi⟩ := List.getElem?_of_mem h
      have hij : i < j := by
        have := (List.getElem?_eq_some_iff.1 hi).1
        rw [List.length_take] at this
        omega
      rw [List.getElem?_take_of_lt hij] at hi
      have := ascV_lt ha hi hx hij
      omega
    · obtain ⟨i, hi⟩ := List.getElem?_of_mem h
      rw [List.getElem?_drop] at hi
      have := ascV_lt ha hx hi (by omega)
      omega
/-- A whole struct in two cells, far from a block. -/
theorem keeps_two {w : World} {X : List Nat} {w0 : World} (h : Keeps X w0 w) {g i j : Nat} (hg : g ∈ X ∨ w0.heap.size ≤ g) (u v : Value) : Keeps X w0 ((w.setCell ⟨g, i, none⟩ u).setCell ⟨g, j, none⟩ v) :=
  (h.setCell (p := ⟨g, i, none⟩) hg u).setCell (p := ⟨g, j, none⟩) hg v
end Go.Proofs.Ythmnolpamllabaa
