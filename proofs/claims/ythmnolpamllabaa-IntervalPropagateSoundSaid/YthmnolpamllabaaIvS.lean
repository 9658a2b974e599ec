/- Propagate loses no solution and only narrows: plain Lean. -/
import Derived.Test.YthmnolpamllabaaIvR
namespace Go.Proofs.Ythmnolpamllabaa
set_option linter.unusedSimpArgs false
set_option linter.unusedVariables false

/-- The value of a form at a point. -/
def sumT (x : List Int) : List Iv → Int
  | [] => 0
  | t :: r => t.2 * x.getD t.1.toNat 0 + sumT x r
theorem sumT_append (x : List Int) : ∀ a b : List Iv, sumT x (a ++ b) = sumT x a + sumT x b
  | [], b => by simp [sumT]
  | t :: r, b => by
    show t.2 * x.getD t.1.toNat 0 + sumT x (r ++ b) = (t.2 * x.getD t.1.toNat 0 + sumT x r) + sumT x b
    rw [sumT_append x r b]
    omega
def conH (x : List Int) (f : Con) : Prop := f.c + sumT x f.co ≤ 0 ∧ (f.eq = true → f.c + sumT x f.co = 0)
/-- The point lies in the domains. -/
def insD (D : List Iv) (x : List Int) : Prop := D.length = x.length ∧ ∀ (i : Nat) (d : Iv) (v : Int), D[i]? = some d → x[i]? = some v → d.1 ≤ v ∧ v ≤ d.2
theorem insD.at_ {D : List Iv} {x : List Int} (h : insD D x) {n : Nat} (hn : n < D.length) : (D.getD n (0, 0)).1 ≤ x.getD n 0 ∧ x.getD n 0 ≤ (D.getD n (0, 0)).2 := by
  have hx : n < x.length := by rw [← h.1]; exact hn
  rw [List.getD_eq_getElem?_getD, List.getD_eq_getElem?_getD, List.getElem?_eq_getElem hn, List.getElem?_eq_getElem hx]
  exact h.2 n _ _ (List.getElem?_eq_getElem hn) (List.getElem?_eq_getElem hx)
theorem insD.set {D : List Iv} {x : List Int} (h : insD D x) {n : Nat} {y : Iv} (hy : n < D.length → y.1 ≤ x.getD n 0 ∧ x.getD n 0 ≤ y.2) : insD (D.set n y) x := by
  refine ⟨by rw [List.length_set]; exact h.1, fun i d v hd hv => ?_⟩
  by_cases hi : n = i
  · subst hi
    have hn : n < D.length := by
      have := (List.getElem?_eq_some_iff.1 hd).1
      rwa [List.length_set] at this
    rw [List.getElem?_set_self hn] at hd
    cases hd
    have := hy hn
    rw [List.getD_eq_getElem?_getD, hv] at this
    exact this
  · rw [List.getElem?_set_ne hi] at hd
    exact h.2 i d v hd hv

theorem mul_in {n lo hi v : Int} (h1 : lo ≤ v) (h2 : v ≤ hi) : min (n * lo) (n * hi) ≤ n * v ∧ n * v ≤ max (n * lo) (n * hi) := by
  by_cases hn : 0 ≤ n
  · have a := Int.mul_le_mul_of_nonneg_left h1 hn
    have b := Int.mul_le_mul_of_nonneg_left h2 hn
    omega
  · have a := Int.mul_le_mul_of_nonpos_left (show n ≤ 0 by omega) h1
    have b := Int.mul_le_mul_of_nonpos_left (show n ≤ 0 by omega) h2
    omega
theorem foldW_in {D : List Iv} {x : List Int} {v : Int} (h : insD D x) : ∀ {co : List Iv} {acc : Iv} {s : Int}, (∀ t ∈ co, t.1 ≠ v ∧ 0 ≤ t.1 ∧ t.1 < (D.length : Int)) → acc.1 ≤ s → s ≤ acc.2 →
    (co.foldl (stepW D v) acc).1 ≤ s + sumT x co ∧ s + sumT x co ≤ (co.foldl (stepW D v) acc).2
  | [], acc, s, _, h1, h2 => by
    rw [List.foldl_nil]
    unfold sumT
    omega
  | t :: r, acc, s, hv, h1, h2 => by
    obtain ⟨hne, h0, hlt⟩ := hv t List.mem_cons_self
    have ha := h.at_ (n := t.1.toNat) (by omega)
    rw [List.foldl_cons]
    have key : (stepW D v acc t).1 ≤ s + t.2 * x.getD t.1.toNat 0 ∧ s + t.2 * x.getD t.1.toNat 0 ≤ (stepW D v acc t).2 := by
      unfold stepW
      by_cases h3 : t.1 = v ∨ t.2 = 0
      · rw [if_pos h3]
        rcases h3 with h3 | h3
        · exact absurd h3 hne
        · rw [h3]
          omega
      · rw [if_neg h3]
        have := mul_in (n := t.2) ha.1 ha.2
        dsimp only
        omega
    have ih := foldW_in h (co := r) (fun u hu => hv u (List.mem_cons_of_mem _ hu)) key.1 key.2
    unfold sumT
    omega

theorem narM_sound {x r : Iv} {a v rho : Int} {eq : Bool} (ha : a ≠ 0) (h1 : x.1 ≤ v) (h2 : v ≤ x.2) (h3 : r.1 ≤ rho) (h4 : rho ≤ r.2) (h5 : a * v + rho ≤ 0) (h6 : eq = true → a * v + rho = 0) :
    (narM x a r eq).1 ≤ v ∧ v ≤ (narM x a r eq).2 := by
  unfold narM
  by_cases hp : 0 < a
  · have e1 : v ≤ -r.1 / a := (Int.le_ediv_iff_mul_le hp).2 (by rw [Int.mul_comm]; omega)
    have e2 : eq = true → -v ≤ r.2 / a := fun he => (Int.le_ediv_iff_mul_le hp).2 (by have := h6 he; rw [Int.neg_mul, Int.mul_comm]; omega)
    have hp' : a > 0 := hp
    cases eq
    · simp [hp, hp']
      first | omega | (simp only [Int.neg_neg] at *; omega)
    · have := e2 rfl
      simp [hp, hp']
      first | omega | (simp only [Int.neg_neg] at *; omega)
  · have hb : 0 < -a := by omega
    have e1 : -v ≤ -r.1 / -a := (Int.le_ediv_iff_mul_le hb).2 (by rw [Int.neg_mul, Int.mul_neg, Int.neg_neg, Int.mul_comm]; omega)
    have e2 : eq = true → v ≤ r.2 / -a := fun he => (Int.le_ediv_iff_mul_le hb).2 (by have := h6 he; rw [Int.mul_neg, Int.mul_comm]; omega)
    cases eq
    · simp [hp]
      first | omega | (simp only [Int.ediv_neg, Int.neg_neg] at *; omega)
    · have := e2 rfl
      simp [hp]
      first | omega | (simp only [Int.ediv_neg, Int.neg_neg] at *; omega)

/-- One term of a form. -/
theorem sumT_rest {x : List Int} {co : List Iv} {j : Nat} {t : Iv} (ht : co[j]? = some t) : sumT x co = t.2 * x.getD t.1.toNat 0 + sumT x (co.take j ++ co.drop (j + 1)) := by
  obtain ⟨hj, ht'⟩ := List.getElem?_eq_some_iff.1 ht
  have e : co = co.take j ++ t :: co.drop (j + 1) := by
    rw [← ht', List.getElem_cons_drop hj, List.take_append_drop]
  conv => lhs; rw [e]
  rw [sumT_append, sumT_append]
  show _ + (t.2 * x.getD t.1.toNat 0 + sumT x (co.drop (j + 1))) = _
  omega
theorem rest_ne {co : List Iv} {j : Nat} {t u : Iv} (ha : AscV co) (ht : co[j]? = some t) (hu : u ∈ co.take j ++ co.drop (j + 1)) : u.1 ≠ t.1 := by
  rcases List.mem_append.1 hu with h | h
  · obtain ⟨i, hi⟩ := List.getElem?_of_mem h
    have hij : i < j := by
      have := (List.getElem?_eq_some_iff.1 hi).1
      rw [List.length_take] at this
      omega
    rw [List.getElem?_take_of_lt hij] at hi
    have := ascV_lt ha hi ht hij
    omega
  · obtain ⟨i, hi⟩ := List.getElem?_of_mem h
    rw [List.getElem?_drop] at hi
    have := ascV_lt ha ht hi (by omega)
    omega
/-- The terms lose no solution. -/
theorem coefP_sound {f : Con} {x : List Int} (ha : AscV f.co) (hH : conH x f) : ∀ {r : List Iv} {D : List Iv} {s : Bool}, (∀ t ∈ r, t ∈ f.co) → (∀ t ∈ f.co, 0 ≤ t.1 ∧ t.1 < (D.length : Int)) → insD D x → ∃ D' s', coefP f r D s = some (D', s') ∧ insD D' x ∧ (s' = false → s = false ∧ ∀ t ∈ r, t.2 = 0)
  | [], D, s, _, _, h => ⟨D, s, rfl, h, fun hs => ⟨hs, fun t ht => by cases ht⟩⟩
  | t :: r, D, s, hr, hv, h => by
    unfold coefP
    by_cases h0 : t.2 = 0
    · rw [if_pos h0]
      obtain ⟨D', s', h1, h2, h3⟩ := coefP_sound ha hH (r := r) (s := s) (fun u hu => hr u (List.mem_cons_of_mem _ hu)) hv h
      refine ⟨D', s', h1, h2, fun hs => ⟨(h3 hs).1, fun u hu => ?_⟩⟩
      rcases List.mem_cons.1 hu with rfl | hu
      · exact h0
      · exact (h3 hs).2 u hu
    · rw [if_neg h0]
      obtain ⟨j, ht⟩ := List.getElem?_of_mem (hr t List.mem_cons_self)
      have htv := hv t (hr t List.mem_cons_self)
      have hat := h.at_ (n := t.1.toNat) (by omega)
      have hw := foldW_in h (v := t.1) (co := f.co.take j ++ f.co.drop (j + 1)) (acc := (f.c, f.c)) (s := f.c) (fun u hu => ⟨rest_ne ha ht hu, hv u (rest_in hu)⟩) (Int.le_refl _) (Int.le_refl _)
      have hs := sumT_rest (x := x) ht
      have hwr : woM D t.1 f.co f.c = (f.co.take j ++ f.co.drop (j + 1)).foldl (stepW D t.1) (f.c, f.c) := (woM_rest ht).symm
      rw [← hwr] at hw
      obtain ⟨hH1, hH2⟩ := hH
      have hn := narM_sound (x := D.getD t.1.toNat (0, 0)) (r := woM D t.1 f.co f.c) (a := t.2) (v := x.getD t.1.toNat 0) (rho := f.c + sumT x (f.co.take j ++ f.co.drop (j + 1))) (eq := f.eq) h0 hat.1 hat.2 hw.1 hw.2 (by omega) (fun he => by have := hH2 he; omega)
      rw [if_pos (by unfold full; exact decide_eq_true (by omega))]
      obtain ⟨D', s', h1, h2, h3⟩ := coefP_sound ha ⟨hH1, hH2⟩ (r := r) (D := D.set t.1.toNat (narM (D.getD t.1.toNat (0, 0)) t.2 (woM D t.1 f.co f.c) f.eq)) (s := true) (fun u hu => hr u (List.mem_cons_of_mem _ hu)) (fun u hu => by rw [List.length_set]; exact hv u hu) (h.set (fun _ => hn))
      exact ⟨D', s', h1, h2, fun hs => absurd (h3 hs).1 (by simp)⟩
theorem sumT_zero {x : List Int} : ∀ {co : List Iv}, (∀ t ∈ co, t.2 = 0) → sumT x co = 0
  | [], _ => rfl
  | t :: r, h => by
    unfold sumT
    rw [h t List.mem_cons_self, sumT_zero (fun u hu => h u (List.mem_cons_of_mem _ hu))]
    omega
theorem conP_sound {f : Con} {x : List Int} {D : List Iv} (ha : AscV f.co) (hH : conH x f) (hv : ∀ t ∈ f.co, 0 ≤ t.1 ∧ t.1 < (D.length : Int)) (h : insD D x) : ∃ D', conP f D = some D' ∧ insD D' x := by
  obtain ⟨D', s', h1, h2, h3⟩ := coefP_sound ha hH (r := f.co) (s := false) (fun _ h => h) hv h
  unfold conP
  rw [h1]
  dsimp only
  cases s'
  · have hz := sumT_zero (x := x) (h3 rfl).2
    have hl : lost f = false := by
      obtain ⟨h4, h5⟩ := hH
      rw [hz] at h4 h5
      unfold lost
      have h6 : ¬ 0 < f.c := by omega
      cases he : f.eq
      · simp [h6]
      · have := h5 he
        simp [h6]
        omega
    rw [if_neg (by rw [hl]; simp)]
    exact ⟨D', rfl, h2⟩
  · rw [if_neg (by simp)]
    exact ⟨D', rfl, h2⟩
theorem roundP_sound {x : List Int} {m : Nat} : ∀ {l : List Con} {D : List Iv}, (∀ f ∈ l, AscV f.co ∧ conH x f ∧ ∀ t ∈ f.co, 0 ≤ t.1 ∧ t.1 < (m : Int)) → D.length = m → insD D x → ∃ D', roundP l D = some D' ∧ insD D' x ∧ D'.length = m
  | [], D, _, hm, h => ⟨D, rfl, h, hm⟩
  | f :: r, D, hl, hm, h => by
    obtain ⟨a, b, c⟩ := hl f List.mem_cons_self
    obtain ⟨D1, h1, h2⟩ := conP_sound a b (by rw [hm]; exact c) h
    obtain ⟨D2, h3, h4, h5⟩ := roundP_sound (l := r) (fun g hg => hl g (List.mem_cons_of_mem _ hg)) (by rw [h2.1, ← h.1]; exact hm) h2
    refine ⟨D2, ?_, h4, h5⟩
    unfold roundP
    rw [h1]
    exact h3
theorem roundsP_sound {x : List Int} {m : Nat} {l : List Con} (hl : ∀ f ∈ l, AscV f.co ∧ conH x f ∧ ∀ t ∈ f.co, 0 ≤ t.1 ∧ t.1 < (m : Int)) : ∀ (k : Nat) {D : List Iv}, D.length = m → insD D x → ∃ D', roundsP l k D = some D' ∧ insD D' x
  | 0, D, _, h => ⟨D, rfl, h⟩
  | k + 1, D, hm, h => by
    obtain ⟨D1, h1, h2, h3⟩ := roundP_sound hl hm h
    unfold roundsP
    rw [h1]
    dsimp only
    by_cases he : D = D1
    · rw [if_pos he]
      exact ⟨D1, rfl, h2⟩
    · rw [if_neg he]
      exact roundsP_sound hl k h3 h2
/-- No solution is lost. -/
theorem propP_sound {x : List Int} {l : List Con} {D : List Iv} (hA : GoodA D l) (hH : ∀ f ∈ l, conH x f) (h : insD D x) : ∃ D', propP l D = some D' ∧ insD D' x := by
  unfold propP
  rw [if_neg]
  · exact roundsP_sound (m := D.length) (fun f hf => ⟨(hA.con f hf).asc, hH f hf, fun t ht => ((hA.con f hf).term t ht).1⟩) 32 rfl h
  · intro hany
    obtain ⟨d, hd, h1⟩ := List.any_eq_true.1 hany
    obtain ⟨i, hi⟩ := List.getElem?_of_mem hd
    have hx : i < x.length := by rw [← h.1]; exact (List.getElem?_eq_some_iff.1 hi).1
    have := h.2 i d _ hi (List.getElem?_eq_getElem hx)
    unfold full at h1
    simp at h1
    omega

/-- It only narrows, and leaves no domain empty. -/
theorem coefP_nar {f : Con} : ∀ {r : List Iv} {D : List Iv} {s : Bool} {q : List Iv × Bool}, coefP f r D s = some q → (∀ d ∈ D, d.1 ≤ d.2) → Nar D q.1 ∧ ∀ d ∈ q.1, d.1 ≤ d.2
  | [], D, s, q, h, hd => by cases h; exact ⟨Nar.refl D, hd⟩
  | t :: r, D, s, q, h, hd => by
    unfold coefP at h
    by_cases h0 : t.2 = 0
    · rw [if_pos h0] at h
      exact coefP_nar h hd
    · rw [if_neg h0] at h
      split at h
      · rename_i hf
        have hin := narM_in (x := D.getD t.1.toNat (0, 0)) (r := woM D t.1 f.co f.c) (a := t.2) (eq := f.eq)
        generalize narM (D.getD t.1.toNat (0, 0)) t.2 (woM D t.1 f.co f.c) f.eq = y at *
        have hy : y.1 ≤ y.2 := by unfold full at hf; simpa using hf
        obtain ⟨h1, h2⟩ := coefP_nar h (fun d hdm => by
          rcases List.mem_or_eq_of_mem_set hdm with hdm | rfl
          · exact hd d hdm
          · exact hy)
        refine ⟨?_, h2⟩
        by_cases hn : t.1.toNat < D.length
        · have hg : D[t.1.toNat]? = some (D.getD t.1.toNat (0, 0)) := by rw [List.getD_eq_getElem?_getD, List.getElem?_eq_getElem hn]; rfl
          exact (Nar.set hg hin.1 hin.2).trans h1
        · rw [List.set_eq_of_length_le (by omega)] at h1
          exact h1
      · cases h
theorem conP_nar {f : Con} {D E : List Iv} (h : conP f D = some E) (hd : ∀ d ∈ D, d.1 ≤ d.2) : Nar D E ∧ ∀ d ∈ E, d.1 ≤ d.2 := by
  unfold conP at h
  split at h
  · cases h
  · rename_i D' s hc
    split at h
    · cases h
    · cases h
      exact coefP_nar hc hd
theorem roundP_nar : ∀ {l : List Con} {D E : List Iv}, roundP l D = some E → (∀ d ∈ D, d.1 ≤ d.2) → Nar D E ∧ ∀ d ∈ E, d.1 ≤ d.2
  | [], D, E, h, hd => by cases h; exact ⟨Nar.refl D, hd⟩
  | f :: r, D, E, h, hd => by
    unfold roundP at h
    split at h
    · cases h
    · rename_i D1 hc
      obtain ⟨h1, h2⟩ := conP_nar hc hd
      obtain ⟨h3, h4⟩ := roundP_nar h h2
      exact ⟨h1.trans h3, h4⟩
theorem roundsP_nar {l : List Con} : ∀ {k : Nat} {D E : List Iv}, roundsP l k D = some E → (∀ d ∈ D, d.1 ≤ d.2) → Nar D E ∧ ∀ d ∈ E, d.1 ≤ d.2
  | 0, D, E, h, hd => by cases h; exact ⟨Nar.refl D, hd⟩
  | k + 1, D, E, h, hd => by
    unfold roundsP at h
    split at h
    · cases h
    · rename_i D1 hc
      obtain ⟨h1, h2⟩ := roundP_nar hc hd
      split at h
      · cases h
        exact ⟨h1, h2⟩
      · obtain ⟨h3, h4⟩ := roundsP_nar h h2
        exact ⟨h1.trans h3, h4⟩
theorem propP_nar {l : List Con} {D E : List Iv} (h : propP l D = some E) : Nar D E ∧ ∀ d ∈ E, d.1 ≤ d.2 := by
  unfold propP at h
  split at h
  · cases h
  · rename_i hn
    refine roundsP_nar h (fun d hd => ?_)
    have := List.any_eq_false.1 (by simpa using hn : (D.any fun x => !full x) = false) d hd
    unfold full at this
    simpa using this
end Go.Proofs.Ythmnolpamllabaa
