/- Two logs beside one another; lists of changes as sources; adds. -/
import Derived.Test.YtmclfbhcddcebaaU29
namespace Go.Proofs.Ytmclfbhcddcebaa
open Go.RowKit Go.Shelf
set_option linter.unusedSimpArgs false
set_option linter.unusedVariables false

/-- Two logs beside one another. -/
structure Duo (t1 s1 t2 s2 : TypeId) (b : Nat) (w : World) (X F1 F2 : List Nat) (g1 g2 : Nat) (L1 L2 : List Chg) (S1 S2 : List Pnt) : Prop where
  a : GLog t1 s1 b w X F1 g1 L1 S1
  c : GLog t2 s2 b w X F2 g2 L2 S2
  dj : ∀ x ∈ F1, x ∉ F2
section
variable {t1 s1 t2 s2 : TypeId} {b : Nat} {w w' : World} {X F1 F2 F' : List Nat} {g1 g2 : Nat} {L1 L2 L' : List Chg} {S1 S2 S' : List Pnt}
theorem Duo.left (d : Duo t1 s1 t2 s2 b w X F1 F2 g1 g2 L1 L2 S1 S2) (h : GLog t1 s1 b w' (F' ++ X) F' g1 L' S') (t : Turn F1 F' w w') : Duo t1 s1 t2 s2 b w' (F' ++ X) F' F2 g1 g2 L' L2 S' S2 := by
  refine ⟨h, d.c.step t.kp d.dj (fun y hy => .inl (d.a.sub y hy)) (fun x hx => ?_) (fun x hx => List.mem_append_right _ (d.c.sub x hx)), fun x hx hx2 => ?_⟩
  · rcases List.mem_append.1 hx with hx | hx
    · rcases t.nw x hx with h1 | h1
      · exact .inl (d.a.sub x h1)
      · exact .inr ⟨h1, h.hi x (List.mem_append_left _ hx)⟩
    · exact .inl hx
  · rcases t.nw x hx with h1 | h1
    · exact d.dj x h1 hx2
    · have := d.c.hi x (d.c.sub x hx2)
      omega
theorem Duo.flip (d : Duo t1 s1 t2 s2 b w X F1 F2 g1 g2 L1 L2 S1 S2) : Duo t2 s2 t1 s1 b w X F2 F1 g2 g1 L2 L1 S2 S1 := ⟨d.c, d.a, fun x h1 h2 => d.dj x h2 h1⟩
theorem Duo.right (d : Duo t1 s1 t2 s2 b w X F1 F2 g1 g2 L1 L2 S1 S2) (h : GLog t2 s2 b w' (F' ++ X) F' g2 L' S') (t : Turn F2 F' w w') : Duo t1 s1 t2 s2 b w' (F' ++ X) F1 F' g1 g2 L1 L' S1 S' := (d.flip.left h t).flip
theorem Duo.keep (d : Duo t1 s1 t2 s2 b w X F1 F2 g1 g2 L1 L2 S1 S2) (k : Keeps [] w w') : Duo t1 s1 t2 s2 b w' X F1 F2 g1 g2 L1 L2 S1 S2 := ⟨d.a.keep k, d.c.keep k, d.dj⟩
theorem Duo.left0 (d : Duo t1 s1 t2 s2 b w X F1 F2 g1 g2 L1 L2 S1 S2) (h : GLog t1 s1 b w' X F1 g1 L' S') (k : Keeps F1 w w') : Duo t1 s1 t2 s2 b w' X F1 F2 g1 g2 L' L2 S' S2 :=
  ⟨h, d.c.step k d.dj (fun y hy => .inl (d.a.sub y hy)) (fun x hx => .inl hx) d.c.sub, d.dj⟩
theorem Duo.right0 (d : Duo t1 s1 t2 s2 b w X F1 F2 g1 g2 L1 L2 S1 S2) (h : GLog t2 s2 b w' X F2 g2 L' S') (k : Keeps F2 w w') : Duo t1 s1 t2 s2 b w' X F1 F2 g1 g2 L1 L' S1 S' := (d.flip.left0 h k).flip
/-- Others' blocks are told of in X. -/
theorem Duo.wider (d : Duo t1 s1 t2 s2 b w X F1 F2 g1 g2 L1 L2 S1 S2) {Y : List Nat} (k : Keeps [] w w') (hY : ∀ y ∈ Y, w.heap.size ≤ y ∧ y < w'.heap.size) : Duo t1 s1 t2 s2 b w' (Y ++ X) F1 F2 g1 g2 L1 L2 S1 S2 := by
  refine ⟨d.a.step k (by simp) (by simp) (fun x hx => ?_) (fun x hx => List.mem_append_right _ (d.a.sub x hx)), d.c.step k (by simp) (by simp) (fun x hx => ?_) (fun x hx => List.mem_append_right _ (d.c.sub x hx)), d.dj⟩
  · rcases List.mem_append.1 hx with hx | hx
    · exact .inr (hY x hx)
    · exact .inl hx
  · rcases List.mem_append.1 hx with hx | hx
    · exact .inr (hY x hx)
    · exact .inl hx
/-- The whole law leaves the world it found. -/
theorem Duo.base {w0 : World} (d : Duo t1 s1 t2 s2 b w X F1 F2 g1 g2 L1 L2 S1 S2) (hb : b = w0.heap.size) (k : Keeps [] w0 w) {Y : List Nat} (kY : Keeps Y w w') (hY : ∀ y ∈ Y, y ∈ F1 ∨ y ∈ F2) : Keeps [] w0 w' :=
  (k.nil.trans kY).mono (fun x hx => .inr (by
    rw [← hb]
    rcases hY x hx with h | h
    · exact (d.a.lob x h).1
    · exact (d.c.lob x h).1))
end
theorem Duo.new_ (t1 s1 t2 s2 : TypeId) (w : World) (hp : GLog t1 s1 w.heap.size (w.alloc (.cells #[.slice none 0 0, .slice none 0 0] t1)) [w.heap.size] [w.heap.size] w.heap.size [] []) :
    Duo t1 s1 t2 s2 w.heap.size ((w.alloc (.cells #[.slice none 0 0, .slice none 0 0] t1)).alloc (.cells #[.slice none 0 0, .slice none 0 0] t2)) [w.heap.size + 1, w.heap.size] [w.heap.size] [w.heap.size + 1] w.heap.size (w.heap.size + 1) [] [] [] [] := by
  have h2 := GLog.new_ t2 s2 w.heap.size (w.alloc (.cells #[.slice none 0 0, .slice none 0 0] t1)) (by simp) [w.heap.size] (by simp)
  have hs : (w.alloc (.cells #[.slice none 0 0, .slice none 0 0] t1)).heap.size = w.heap.size + 1 := by simp
  rw [hs] at h2
  refine ⟨hp.step ((Keeps.refl [] _).alloc _) (by simp) (by simp) (fun x hx => ?_) (by simp), h2, ?_⟩
  · simp only [List.mem_cons, List.not_mem_nil, or_false] at hx
    rcases hx with rfl | rfl
    · right; simp
    · left; simp
  · intro x hx hx2
    simp only [List.mem_cons, List.not_mem_nil, or_false] at hx hx2
    omega

/-! ### lists of changes as sources -/
theorem choose_list {α : Type} {P : Nat → α → Prop} : ∀ (n : Nat), (∀ i, i < n → ∃ r, P i r) → ∃ R : List α, R.length = n ∧ ∀ i r, R[i]? = some r → P i r
  | 0, _ => ⟨[], rfl, fun i r h => by simp at h⟩
  | n + 1, h => by
    obtain ⟨R, h1, h2⟩ := choose_list n (fun i hi => h i (by omega))
    obtain ⟨x, hx⟩ := h n (by omega)
    refine ⟨R ++ [x], by simp [h1], fun i r hi => ?_⟩
    rcases Nat.lt_or_ge i R.length with hlt | hge
    · rw [List.getElem?_append_left hlt] at hi
      exact h2 i r hi
    · rw [List.getElem?_append_right hge] at hi
      have e : i - R.length = 0 := by
        have := (List.getElem?_eq_some_iff.1 hi).1
        simp at this
        omega
      rw [e] at hi
      obtain rfl : x = r := by simpa using hi
      obtain rfl : i = n := by omega
      exact hx
theorem chs_src {w : World} {X : List Nat} {A : Option Addr} {L : List Chg} (h : ChsAt w X A L) : ∃ R, RawsIs w X R L ∧ SrcAt w A L.length (flatC R) := by
  cases L with
  | nil => exact ⟨[], ⟨rfl, fun i r c h => by simp at h⟩, .inl rfl⟩
  | cons c0 L0 =>
    obtain ⟨g, off, _, rfl, hgX, _⟩ := h 0 c0 rfl
    obtain ⟨R, h1, h2⟩ := choose_list (P := fun i r => ∃ c, (c0 :: L0)[i]? = some c ∧ w.cell? ⟨g, off + i * 4, none⟩ = some (.int .i64 r.t) ∧ w.cell? ⟨g, off + i * 4 + 1, none⟩ = some (.int .i64 r.id) ∧ w.cell? ⟨g, off + i * 4 + 2, none⟩ = some (.slice r.Ao r.no r.co) ∧ w.cell? ⟨g, off + i * 4 + 3, none⟩ = some (.slice r.An r.nn r.cn) ∧ RawIs w X r c) (c0 :: L0).length (fun i hi => by
      obtain ⟨g', off', r, he, _, q⟩ := h i _ (List.getElem?_eq_getElem hi)
      cases he
      exact ⟨r, _, List.getElem?_eq_getElem hi, q⟩)
    refine ⟨R, ⟨h1, fun i r c hr hc => ?_⟩, .inr ⟨g, off, rfl, fun j u hj => ?_⟩⟩
    · obtain ⟨c', hc', _, _, _, _, q⟩ := h2 i r hr
      rw [hc] at hc'
      cases hc'
      exact q
    · have hjl : j < R.length * 4 := by rw [← flatC_len]; exact (List.getElem?_eq_some_iff.1 hj).1
      obtain ⟨r, hr⟩ : ∃ r, R[j / 4]? = some r := ⟨R[j / 4]'(by omega), List.getElem?_eq_getElem _⟩
      obtain ⟨c', _, q0, q1, q2, q3, _⟩ := h2 _ r hr
      obtain ⟨f0, f1, f2, f3⟩ := flatC_get R _ r hr
      have hm : j = j / 4 * 4 ∨ j = j / 4 * 4 + 1 ∨ j = j / 4 * 4 + 2 ∨ j = j / 4 * 4 + 3 := by omega
      obtain ⟨q, hq⟩ : ∃ q, q = j / 4 := ⟨_, rfl⟩
      rw [← hq] at hm q0 q1 q2 q3 f0 f1 f2 f3
      rcases hm with rfl | rfl | rfl | rfl
      · rw [f0] at hj; cases hj; exact q0
      · rw [f1] at hj; cases hj; rw [← Nat.add_assoc]; exact q1
      · rw [f2] at hj; cases hj; rw [← Nat.add_assoc]; exact q2
      · rw [f3] at hj; cases hj; rw [← Nat.add_assoc]; exact q3
theorem RawsIs.append {w : World} {X : List Nat} {R1 R2 : List Raw} {L1 L2 : List Chg} (h : RawsIs w X R1 L1) (k : RawsIs w X R2 L2) : RawsIs w X (R1 ++ R2) (L1 ++ L2) := ⟨by rw [List.length_append, List.length_append, h.1, k.1], fun i r c h1 h2 => by
  rcases Nat.lt_or_ge i R1.length with hlt | hge
  · rw [List.getElem?_append_left hlt] at h1
    rw [List.getElem?_append_left (by rw [← h.1]; exact hlt)] at h2
    exact h.2 i r c h1 h2
  · rw [List.getElem?_append_right hge] at h1
    rw [List.getElem?_append_right (by rw [← h.1]; exact hge), ← h.1] at h2
    exact k.2 _ r c h1 h2⟩
theorem flatC_oneR : ∀ (R : List Raw), ∀ u ∈ flatC R, u.oneCell' = true
  | [], u, h => by simp [flatC] at h
  | r :: R, u, h => by
    have : flatC (r :: R) = r.cells ++ flatC R := rfl
    rw [this] at h
    rcases List.mem_append.1 h with h | h
    · exact raw_one r u h
    · exact flatC_oneR R u h

/-! ### adds -/
def addTo (L : List Chg) (o : Oo) : List Chg := if addOk L o.c then L ++ [o.c] else L
def addsTo (L : List Chg) (l : List Oo) : List Chg := l.foldl addTo L
theorem addsTo_snoc (L : List Chg) (l : List Oo) (o : Oo) : addsTo L (l ++ [o]) = addTo (addsTo L l) o := by simp [addsTo, List.foldl_append]
theorem addTo_len (L : List Chg) (o : Oo) : (addTo L o).length ≤ L.length + 1 := by unfold addTo; split <;> simp
theorem addsTo_len (L : List Chg) (l : List Oo) : (addsTo L l).length ≤ L.length + l.length := by
  induction l generalizing L with
  | nil => simp [addsTo]
  | cons o l ih => have h1 := ih (addTo L o); have h2 := addTo_len L o; simp only [addsTo, List.foldl_cons, List.length_cons] at h1 ⊢; omega
theorem addsTo_pre : ∀ (l : List Oo) (L : List Chg), ∃ M, addsTo L l = L ++ M
  | [], L => ⟨[], by simp [addsTo]⟩
  | o :: l, L => by
    obtain ⟨M, hM⟩ := addsTo_pre l (addTo L o)
    have h1 : addsTo L (o :: l) = addsTo (addTo L o) l := rfl
    rw [h1, hM]
    unfold addTo
    split
    · exact ⟨o.c :: M, by simp⟩
    · exact ⟨M, rfl⟩
end Go.Proofs.Ytmclfbhcddcebaa
