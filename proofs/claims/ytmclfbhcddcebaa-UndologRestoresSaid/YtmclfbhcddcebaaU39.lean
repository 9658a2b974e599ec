/- The operations of a statement, in plain Lean. -/
import Derived.Test.YtmclfbhcddcebaaU37
namespace Go.Proofs.Ytmclfbhcddcebaa
open Go.RowKit Go.Shelf
set_option linter.unusedSimpArgs false
set_option linter.unusedVariables false

def kd (o : Oo) : Int := o.k.tmod 5
def stL (L : List Chg) (S : List Pnt) (o : Oo) : List Chg :=
  if kd o = 1 then L
  else if kd o = 2 then (if findI S o.s < 0 then L else L.take (markAt S (findI S o.s).toNat))
  else if kd o = 3 then L
  else if kd o = 4 then (if undoOk L S o.n then L.take (L.length - o.n.toNat) else L)
  else if addOk L o.c then L ++ [o.c] else L
def stS (L : List Chg) (S : List Pnt) (o : Oo) : List Pnt :=
  if kd o = 1 then (if o.s = ⟨#[]⟩ then S else saveS S o.s L.length)
  else if kd o = 2 then (if findI S o.s < 0 then S else S.take ((findI S o.s).toNat + 1))
  else if kd o = 3 then (if findI S o.s < 0 then S else S.take (findI S o.s).toNat)
  else S
/-- What holds of the savepoints of a log. -/
structure Good (L : List Chg) (S : List Pnt) : Prop where
  nd : (S.map (·.1)).Nodup
  asc : S.Pairwise (fun a b => a.2 ≤ b.2)
  le : ∀ p ∈ S, p.2 ≤ L.length
theorem Good.nil : Good [] [] := ⟨List.Pairwise.nil, List.Pairwise.nil, fun p h => by cases h⟩
theorem Good.take {L : List Chg} {S : List Pnt} (h : Good L S) (k : Nat) : Good L (S.take k) :=
  ⟨by rw [List.map_take]; exact (List.take_sublist _ _).nodup h.nd, h.asc.sublist (List.take_sublist _ _), fun p hp => h.le p (List.mem_of_mem_take hp)⟩
theorem sans_nd {S : List Pnt} (nm : ByteArray) (h : (S.map (·.1)).Nodup) (n : Nat) : ((sans S nm ++ [(nm, n)]).map (·.1)).Nodup := by
  rw [List.map_append, List.nodup_append]
  refine ⟨(List.Sublist.map _ List.filter_sublist).nodup h, by simp, fun a ha b hb => ?_⟩
  simp only [List.map_cons, List.map_nil, List.mem_singleton] at hb
  rw [hb]
  intro e
  obtain ⟨p, hp, hpe⟩ := List.mem_map.1 ha
  unfold sans at hp
  have := (List.mem_filter.1 hp).2
  simp at this
  exact this (hpe.trans e)
theorem save_sans {S : List Pnt} (nm : ByteArray) (h : (S.map (·.1)).Nodup) (n : Nat) : saveS S nm n = sans S nm ++ [(nm, n)] := by
  unfold saveS
  congr 1
  rcases findI_cases S nm with ⟨h1, h2⟩ | ⟨i, x, h1, h2, h3, h4⟩
  · rw [h1, if_pos (by omega)]
    unfold sans
    exact (List.filter_eq_self.2 (fun p hp => by simp [h2 p hp])).symm
  · rw [h1, if_neg (by omega)]
    have hi := (List.getElem?_eq_some_iff.1 h2).1
    show S.eraseIdx ((i : Int)).toNat = _
    rw [Int.toNat_natCast, ← erase_eq]
    have e : S = S.take i ++ x :: S.drop (i + 1) := by
      have h8 : S[i] = x := by rw [List.getElem?_eq_getElem hi] at h2; exact Option.some.inj h2
      rw [← h8, List.getElem_cons_drop, List.take_append_drop]
    unfold sans
    conv => rhs; rw [e]
    rw [List.filter_append, List.filter_cons]
    have hx : (!decide (x.1 = nm)) = false := by simp [h3]
    rw [hx]
    have e1 : (S.take i).filter (fun p => !decide (p.1 = nm)) = S.take i := List.filter_eq_self.2 (fun p hp => by simp [h4 p hp])
    have e2 : (S.drop (i + 1)).filter (fun p => !decide (p.1 = nm)) = S.drop (i + 1) := List.filter_eq_self.2 (fun p hp => by
      have hnd := h
      rw [e, List.map_append, List.map_cons, List.nodup_append] at hnd
      have h5 := (List.nodup_cons.1 hnd.2.1).1
      have : ¬ p.1 = nm := fun he => h5 (by rw [h3, ← he]; exact List.mem_map_of_mem hp)
      simp [this])
    rw [e1, e2]
    rfl
theorem good_save {L : List Chg} {S : List Pnt} (h : Good L S) (nm : ByteArray) : Good L (saveS S nm L.length) := by
  rw [save_sans nm h.nd]
  refine ⟨sans_nd nm h.nd _, ?_, fun p hp => ?_⟩
  · rw [List.pairwise_append]
    refine ⟨h.asc.sublist List.filter_sublist, by simp, fun a ha b hb => ?_⟩
    rw [List.mem_singleton.1 hb]
    exact h.le a (List.mem_filter.1 ha).1
  · rcases List.mem_append.1 hp with hp | hp
    · exact h.le p (List.mem_filter.1 hp).1
    · rw [List.mem_singleton.1 hp]
      exact Nat.le_refl _
theorem asc_get {S : List Pnt} (h : S.Pairwise (fun a b => a.2 ≤ b.2)) {i j : Nat} {p q : Pnt} (hi : S[i]? = some p) (hj : S[j]? = some q) (hij : i ≤ j) : p.2 ≤ q.2 := by
  rcases Nat.lt_or_ge i j with hlt | hge
  · have hj' := (List.getElem?_eq_some_iff.1 hj).1
    have hi' := (List.getElem?_eq_some_iff.1 hi).1
    have := List.pairwise_iff_getElem.1 h i j hi' hj' hlt
    rw [List.getElem?_eq_getElem hi'] at hi
    rw [List.getElem?_eq_getElem hj'] at hj
    rw [Option.some.inj hi, Option.some.inj hj] at this
    exact this
  · have : i = j := by omega
    subst this
    rw [hi] at hj
    cases hj
    exact Nat.le_refl _
theorem good_back {L : List Chg} {S : List Pnt} (h : Good L S) {i : Nat} {p : Pnt} (hp : S[i]? = some p) : Good (L.take p.2) (S.take (i + 1)) := by
  refine ⟨(h.take _).nd, (h.take _).asc, fun q hq => ?_⟩
  have hpl := h.le p (List.mem_of_getElem? hp)
  rw [List.length_take, Nat.min_eq_left hpl]
  obtain ⟨j, hj⟩ := List.getElem?_of_mem hq
  have hjl : j < i + 1 := by
    have := (List.getElem?_eq_some_iff.1 hj).1
    rw [List.length_take] at this
    omega
  rw [List.getElem?_take_of_lt hjl] at hj
  exact asc_get h.asc hj hp (by omega)
theorem least_le {S : List Pnt} (h : S.Pairwise (fun a b => a.2 ≤ b.2)) : ∀ p ∈ S, p.2 ≤ leastM S := fun p hp => by
  obtain ⟨i, hi⟩ := List.getElem?_of_mem hp
  have hil := (List.getElem?_eq_some_iff.1 hi).1
  obtain ⟨q, hq⟩ : ∃ q, S.length = q + 1 := ⟨S.length - 1, by omega⟩
  obtain ⟨p', h1, h2⟩ := last_of hq
  rw [h2]
  exact asc_get h hi h1 (by omega)
theorem good_undo {L : List Chg} {S : List Pnt} (h : Good L S) {n : Int} (hu : undoOk L S n = true) : Good (L.take (L.length - n.toNat)) S := by
  refine ⟨h.nd, h.asc, fun p hp => ?_⟩
  have h1 := least_le h.asc p hp
  unfold undoOk at hu
  simp only [Bool.and_eq_true, decide_eq_true_eq] at hu
  rw [List.length_take]
  omega
theorem good_add {L : List Chg} {S : List Pnt} (h : Good L S) (c : Chg) : Good (L ++ [c]) S := ⟨h.nd, h.asc, fun p hp => by have := h.le p hp; simp; omega⟩
theorem markAt_of {S : List Pnt} {i : Nat} {p : Pnt} (h : S[i]? = some p) : markAt S i = p.2 := by unfold markAt; rw [h]; rfl
theorem good_step {L : List Chg} {S : List Pnt} (h : Good L S) (o : Oo) : Good (stL L S o) (stS L S o) := by
  unfold stL stS
  split
  · split
    · exact h
    · exact good_save h _
  · split
    · split
      · exact h
      · rename_i hn
        rcases findI_cases S o.s with ⟨h1, _⟩ | ⟨i, x, h1, h2, _⟩
        · exact absurd (by rw [h1]; omega) hn
        · rw [h1, Int.toNat_natCast, markAt_of h2]
          exact good_back h h2
    · split
      · split
        · exact h
        · exact h.take _
      · split
        · split
          · exact good_undo h (by assumption)
          · exact h
        · split
          · exact good_add h _
          · exact h
theorem step_len (L : List Chg) (S : List Pnt) (o : Oo) : (stL L S o).length ≤ L.length + 1 ∧ (stS L S o).length ≤ S.length + 1 := by
  have hs : ∀ nm n, (saveS S nm n).length ≤ S.length + 1 := fun nm n => by
    unfold saveS
    rw [List.length_append]
    split
    · simp
    · have : (S.eraseIdx (findI S nm).toNat).length ≤ S.length := List.length_eraseIdx_le _ _
      simp only [List.length_cons, List.length_nil]
      omega
  unfold stL stS
  constructor
  · split
    · omega
    · split
      · split
        · omega
        · rw [List.length_take]; omega
      · split
        · omega
        · split
          · split
            · rw [List.length_take]; omega
            · omega
          · split
            · simp
            · omega
  · split
    · split
      · omega
      · exact hs _ _
    · split
      · split
        · omega
        · rw [List.length_take]; omega
      · split
        · split
          · omega
          · rw [List.length_take]; omega
        · omega
theorem stL_small {L : List Chg} {S : List Pnt} {o : Oo} (h : ∀ c ∈ L, Small c) (ho : Small o.c) : ∀ c ∈ stL L S o, Small c := by
  intro c hc
  unfold stL at hc
  split at hc
  · exact h c hc
  · split at hc
    · split at hc
      · exact h c hc
      · exact h c (List.mem_of_mem_take hc)
    · split at hc
      · exact h c hc
      · split at hc
        · split at hc
          · exact h c (List.mem_of_mem_take hc)
          · exact h c hc
        · split at hc
          · rcases List.mem_append.1 hc with hc | hc
            · exact h c hc
            · rw [List.mem_singleton.1 hc]; exact ho
          · exact h c hc
end Go.Proofs.Ytmclfbhcddcebaa
