/- The arguments that come in: forms, constraints, problems, points. -/
import Derived.Test.YthmnolpamllabaaIv17
import Derived.Test.YthmnolpamllabaaIvArgs
namespace Go.Proofs.Ythmnolpamllabaa
open Go.RowKit Go.ChangeShapes Go.WideShapes Go.Deep
set_option linter.unusedSimpArgs false
set_option linter.unusedVariables false

/-- Constraints, with the lengths of their terms' slices. -/
def ConsAt2 (w : World) (B : Nat) (A : Option Addr) (l : List Con) : Prop :=
  ∀ i f, l[i]? = some f → ∃ g off Ac cc, A = some ⟨g, off, none⟩ ∧ g < B ∧ w.cell? ⟨g, off + i * 3, none⟩ = some (.int .i64 f.c) ∧ w.cell? ⟨g, off + i * 3 + 1, none⟩ = some (.slice Ac f.co.length cc) ∧ w.cell? ⟨g, off + i * 3 + 2, none⟩ = some (.bool f.eq) ∧ IvAt w B Ac f.co ∧ f.co.length ≤ cc ∧ cc ≤ maxLen
theorem ConsAt2.at_ {w : World} {B : Nat} {A : Option Addr} {l : List Con} (h : ConsAt2 w B A l) : ConsAt w B A l := fun i f hf => by
  obtain ⟨g, off, Ac, cc, h1, h2, h3, h4, h5, h6, _⟩ := h i f hf
  exact ⟨g, off, Ac, cc, h1, h2, h3, h4, h5, h6⟩
theorem ConsAt2.short {w : World} {B : Nat} {A : Option Addr} {l : List Con} (h : ConsAt2 w B A l) : ConsShort l := fun f hf => by
  obtain ⟨i, hi⟩ := List.getElem?_of_mem hf
  obtain ⟨g, off, Ac, cc, h1, h2, h3, h4, h5, h6, h7, h8⟩ := h i f hi
  unfold maxLen at h8
  omega
theorem ConsAt2.keep {w w' : World} {B : Nat} {A : Option Addr} {l : List Con} {X : List Nat} (h : ConsAt2 w B A l) (hk : Keeps X w w') (hX : ∀ x ∈ X, B ≤ x) : ConsAt2 w' B A l := by
  intro i f hf
  obtain ⟨g, off, Ac, cc, rfl, hg, h0, h1, h2, h3, h4⟩ := h i f hf
  have hn : g ∉ X := fun hx => by have := hX g hx; omega
  exact ⟨g, off, Ac, cc, rfl, hg, hk.cellEq h0 hn, hk.cellEq h1 hn, hk.cellEq h2 hn, h3.keep hk hX, h4⟩

section
variable {H : Type} {enc : TypeId × Value → H} {w : World} {base : Nat} {spare : Nat → Bool} {held : Bool}

set_option maxRecDepth 100000
theorem cells4 : Try.prog.cellsOf 4 = 1 := by kernel_rfl
theorem cells22 : Try.prog.cellsOf 22 = 1 := by kernel_rfl
theorem cells23 : Try.prog.cellsOf 23 = 1 := by kernel_rfl
theorem cells25 : Try.prog.cellsOf 25 = 2 := by kernel_rfl
theorem cells42 : Try.prog.cellsOf 42 = 1 := by kernel_rfl
theorem cells44 : Try.prog.cellsOf 44 = 2 := by kernel_rfl
theorem cells46 : Try.prog.cellsOf 46 = 3 := by kernel_rfl
theorem cells50 : Try.prog.cellsOf 50 = 2 := by kernel_rfl

/-- The two cells of a term. -/
theorem open_coef {fuel : Nat} {cs : List Value} {x : DataW H × List MemPlace} (h : DataW.trod enc Try.prog w base spare held fuel 50 cs = some x) :
    ∃ (p : Iv), cs = [.int .i64 p.1, .int .i64 p.2] ∧ In64 p.1 ∧ In64 p.2 := by
  obtain ⟨xs, n, _, _, hlen, hxl, hf⟩ := DataW.trod_struct Try.underlying50 h
  rw [cells50] at hlen
  match cs, hlen with
  | [c0, c1], _ =>
    have h0 := hf 0 _ rfl
    have h1 := hf 1 _ rfl
    change DataW.trod _ _ _ _ _ _ _ 3 (List.take (Try.prog.cellsOf 3) _) = _ at h0
    change DataW.trod _ _ _ _ _ _ _ 2 (List.take (Try.prog.cellsOf 2) _) = _ at h1
    rw [cells3] at h0
    rw [cells2] at h1
    change DataW.trod _ _ _ _ _ _ _ 3 [c0] = _ at h0
    change DataW.trod _ _ _ _ _ _ _ 2 [c1] = _ at h1
    have hx : ∀ i, i < 2 → ∃ y, xs[i]? = some y := fun i hi => ⟨xs[i]'(by rw [hxl]; exact hi), List.getElem?_eq_getElem _⟩
    obtain ⟨y0, e0⟩ := hx 0 (by omega)
    obtain ⟨y1, e1⟩ := hx 1 (by omega)
    rw [e0] at h0
    rw [e1] at h1
    obtain ⟨k0, q0, _, w0⟩ := DataW.trod_int Try.underlying3 h0
    obtain ⟨k1, q1, _, w1⟩ := DataW.trod_int Try.underlying2 h1
    injection q0 with q0 _
    injection q1 with q1 _
    subst q0 q1
    have b0 := bounds_i64 w0
    have b1 := bounds_i64 w1
    exact ⟨(k0, k1), rfl, by unfold In64; omega, by unfold In64; omega⟩

/-- Terms that came in. -/
theorem open_coefs {fuel : Nat} {v : Value} {x : DataW H × List MemPlace} (h : DataW.trod enc Try.prog w base spare held fuel 42 [v] = some x) :
    ∃ A c l, v = .slice A (List.length l) c ∧ List.length l ≤ c ∧ c ≤ maxLen ∧ IvAt w w.heap.size A l := by
  rcases open_slice Try.underlying42 h with ⟨hcs, _⟩ | ⟨a, len, cap, m, n, D, Pl, hcs, _, hl, hm, hmm, _, hi⟩
  · injection hcs with hcs _
    subst hcs
    exact ⟨none, 0, [], rfl, Nat.le_refl _, by simp [maxLen], IvAt.nil _ _ _⟩
  · injection hcs with hcs _
    subst hcs
    have hlm : len ≤ m := by rw [hmm]; split <;> omega
    have key : ∀ i, i < len → ∃ p : Iv, w.cell? (a.add (i * 2)) = some (.int .i64 p.1) ∧ w.cell? ((a.add (i * 2)).add 1) = some (.int .i64 p.2) := by
      intro i hil
      obtain ⟨cs', hc, ht⟩ := hi i (by omega)
      rw [cells50] at hc
      obtain ⟨p, rfl, hf⟩ := open_coef ht
      obtain ⟨_, _, hat⟩ := World.cells?_some hc
      refine ⟨p, ?_, hat 1 (by omega)⟩
      have := hat 0 (by omega)
      simpa [Addr.add] using this
    obtain ⟨f, hf⟩ := choose_lt key
    have he : ∀ i p, ((List.range len).map f)[i]? = some p → i < len ∧ p = f i := fun i p hp => by
      have hil : i < len := by
        have := (List.getElem?_eq_some_iff.1 hp).1
        simpa using this
      rw [List.getElem?_map, List.getElem?_range hil] at hp
      exact ⟨hil, by simpa using hp.symm⟩
    refine ⟨some a, cap, (List.range len).map f, by simp, by simpa using hl, hm, fun i p hp => ?_⟩
    obtain ⟨hil, rfl⟩ := he i p hp
    obtain ⟨h0, h1⟩ := hf i hil
    have hsp : a.spot = none := by
      obtain ⟨h00, _⟩ := hf 0 (by omega)
      have := World.cell?_spot h00
      simpa [Addr.add] using this
    obtain ⟨g, off, sp⟩ := a
    subst hsp
    simp only [add_plain] at h0 h1
    exact ⟨g, off, rfl, block_lt_of_cell h0, h0, h1⟩

/-- The two cells of a form. -/
theorem open_lin {fuel : Nat} {cs : List Value} {x : DataW H × List MemPlace} (h : DataW.trod enc Try.prog w base spare held fuel 44 cs = some x) :
    ∃ (c : Int) (co : List Iv) (A : Option Addr) (cc : Nat), cs = [.int .i64 c, .slice A co.length cc] ∧ co.length ≤ cc ∧ cc ≤ maxLen ∧ IvAt w w.heap.size A co := by
  obtain ⟨xs, n, _, _, hlen, hxl, hf⟩ := DataW.trod_struct Try.underlying44 h
  rw [cells44] at hlen
  match cs, hlen with
  | [c0, c1], _ =>
    have h0 := hf 0 _ rfl
    have h1 := hf 1 _ rfl
    change DataW.trod _ _ _ _ _ _ _ 2 (List.take (Try.prog.cellsOf 2) _) = _ at h0
    change DataW.trod _ _ _ _ _ _ _ 42 (List.take (Try.prog.cellsOf 42) _) = _ at h1
    rw [cells2] at h0
    rw [cells42] at h1
    change DataW.trod _ _ _ _ _ _ _ 2 [c0] = _ at h0
    change DataW.trod _ _ _ _ _ _ _ 42 [c1] = _ at h1
    have hx : ∀ i, i < 2 → ∃ y, xs[i]? = some y := fun i hi => ⟨xs[i]'(by rw [hxl]; exact hi), List.getElem?_eq_getElem _⟩
    obtain ⟨y0, e0⟩ := hx 0 (by omega)
    obtain ⟨y1, e1⟩ := hx 1 (by omega)
    rw [e0] at h0
    rw [e1] at h1
    obtain ⟨k0, q0, _, w0⟩ := DataW.trod_int Try.underlying2 h0
    obtain ⟨A, cc, co, rfl, hl, hm, hC⟩ := open_coefs h1
    injection q0 with q0 _
    subst q0
    exact ⟨k0, co, A, cc, rfl, hl, hm, hC⟩

/-- The three cells of a constraint. -/
theorem open_con {fuel : Nat} {cs : List Value} {x : DataW H × List MemPlace} (h : DataW.trod enc Try.prog w base spare held fuel 46 cs = some x) :
    ∃ (f : Con) (A : Option Addr) (cc : Nat), cs = [.int .i64 f.c, .slice A f.co.length cc, .bool f.eq] ∧ f.co.length ≤ cc ∧ cc ≤ maxLen ∧ IvAt w w.heap.size A f.co := by
  obtain ⟨xs, n, _, _, hlen, hxl, hf⟩ := DataW.trod_struct Try.underlying46 h
  rw [cells46] at hlen
  match cs, hlen with
  | [c0, c1, c2], _ =>
    have h0 := hf 0 _ rfl
    have h1 := hf 1 _ rfl
    change DataW.trod _ _ _ _ _ _ _ 44 (List.take (Try.prog.cellsOf 44) _) = _ at h0
    change DataW.trod _ _ _ _ _ _ _ 4 (List.take (Try.prog.cellsOf 4) (List.drop (Try.prog.cellsOf 44) _)) = _ at h1
    rw [cells44] at h0
    rw [cells4, cells44] at h1
    change DataW.trod _ _ _ _ _ _ _ 44 [c0, c1] = _ at h0
    change DataW.trod _ _ _ _ _ _ _ 4 [c2] = _ at h1
    have hx : ∀ i, i < 2 → ∃ y, xs[i]? = some y := fun i hi => ⟨xs[i]'(by rw [hxl]; exact hi), List.getElem?_eq_getElem _⟩
    obtain ⟨y0, e0⟩ := hx 0 (by omega)
    obtain ⟨y1, e1⟩ := hx 1 (by omega)
    rw [e0] at h0
    rw [e1] at h1
    obtain ⟨c, co, A, cc, hcs, hl, hm, hC⟩ := open_lin h0
    obtain ⟨b, q1, _⟩ := DataW.trod_bool Try.underlying4 h1
    injection q1 with q1 _
    injection hcs with e2 e3
    injection e3 with e3 _
    subst q1 e2 e3
    exact ⟨⟨c, co, b⟩, A, cc, rfl, hl, hm, hC⟩

instance : Inhabited Con := ⟨⟨0, [], false⟩⟩
/-- Constraints that came in. -/
theorem open_cons {fuel : Nat} {v : Value} {x : DataW H × List MemPlace} (h : DataW.trod enc Try.prog w base spare held fuel 22 [v] = some x) :
    ∃ A c l, v = .slice A (List.length l) c ∧ List.length l ≤ c ∧ c ≤ maxLen ∧ ConsAt2 w w.heap.size A l := by
  rcases open_slice Try.underlying22 h with ⟨hcs, _⟩ | ⟨a, len, cap, m, n, D, Pl, hcs, _, hl, hm, hmm, _, hi⟩
  · injection hcs with hcs _
    subst hcs
    exact ⟨none, 0, [], rfl, Nat.le_refl _, by simp [maxLen], fun i f hf => by simp at hf⟩
  · injection hcs with hcs _
    subst hcs
    have hlm : len ≤ m := by rw [hmm]; split <;> omega
    have key : ∀ i, i < len → ∃ f : Con, ∃ A cc, w.cell? (a.add (i * 3)) = some (.int .i64 f.c) ∧ w.cell? ((a.add (i * 3)).add 1) = some (.slice A f.co.length cc) ∧ w.cell? ((a.add (i * 3)).add 2) = some (.bool f.eq) ∧ f.co.length ≤ cc ∧ cc ≤ maxLen ∧ IvAt w w.heap.size A f.co := by
      intro i hil
      obtain ⟨cs', hc, ht⟩ := hi i (by omega)
      rw [cells46] at hc
      obtain ⟨f, A, cc, rfl, hf⟩ := open_con ht
      obtain ⟨_, _, hat⟩ := World.cells?_some hc
      refine ⟨f, A, cc, ?_, hat 1 (by omega), hat 2 (by omega), hf⟩
      have := hat 0 (by omega)
      simpa [Addr.add] using this
    obtain ⟨f, hf⟩ := choose_lt key
    refine ⟨some a, cap, (List.range len).map f, by simp, by simpa using hl, hm, fun i p hp => ?_⟩
    have hil : i < len := by
      have := (List.getElem?_eq_some_iff.1 hp).1
      simpa using this
    have e : p = f i := by
      rw [List.getElem?_map, List.getElem?_range hil] at hp
      simpa using hp.symm
    subst e
    obtain ⟨A, cc, h0, h1, h2, h3, h4, h5⟩ := hf i hil
    have hsp : a.spot = none := by
      obtain ⟨_, _, h00, _⟩ := hf 0 (by omega)
      have := World.cell?_spot h00
      simpa [Addr.add] using this
    obtain ⟨g, off, sp⟩ := a
    subst hsp
    simp only [add_plain] at h0 h1 h2
    exact ⟨g, off, A, cc, rfl, block_lt_of_cell h0, h0, h1, h2, h5, h3, h4⟩

/-- The two cells of a problem. -/
theorem open_prob {fuel : Nat} {cs : List Value} {x : DataW H × List MemPlace} (h : DataW.trod enc Try.prog w base spare held fuel 25 cs = some x) :
    ∃ (l : List Con) (D : List Iv) (Al Ad : Option Addr) (cl cd : Nat), cs = [.slice Al l.length cl, .slice Ad D.length cd] ∧ ConsAt2 w w.heap.size Al l ∧ IvAt w w.heap.size Ad D ∧ All64 D := by
  obtain ⟨xs, n, _, _, hlen, hxl, hf⟩ := DataW.trod_struct Try.underlying25 h
  rw [cells25] at hlen
  match cs, hlen with
  | [c0, c1], _ =>
    have h0 := hf 0 _ rfl
    have h1 := hf 1 _ rfl
    change DataW.trod _ _ _ _ _ _ _ 22 (List.take (Try.prog.cellsOf 22) _) = _ at h0
    change DataW.trod _ _ _ _ _ _ _ 23 (List.take (Try.prog.cellsOf 23) (List.drop (Try.prog.cellsOf 22) _)) = _ at h1
    rw [cells22] at h0
    rw [cells23, cells22] at h1
    change DataW.trod _ _ _ _ _ _ _ 22 [c0] = _ at h0
    change DataW.trod _ _ _ _ _ _ _ 23 [c1] = _ at h1
    have hx : ∀ i, i < 2 → ∃ y, xs[i]? = some y := fun i hi => ⟨xs[i]'(by rw [hxl]; exact hi), List.getElem?_eq_getElem _⟩
    obtain ⟨y0, e0⟩ := hx 0 (by omega)
    obtain ⟨y1, e1⟩ := hx 1 (by omega)
    rw [e0] at h0
    rw [e1] at h1
    obtain ⟨Al, cl, l, rfl, _, _, hL⟩ := open_cons h0
    obtain ⟨Ad, cd, D, rfl, _, _, hD, h64⟩ := open_ivs h1
    exact ⟨l, D, Al, Ad, cl, cd, rfl, hL, hD, h64⟩
end
set_option maxRecDepth 100000 in
theorem okWide_lin {w : World} {r : Reach} {b0 : Nat} {v : Value} (h : Value.okWide Try.prog w r b0 44 v) : ∃ cs, v = .agg cs := by
  unfold Value.okWide at h
  rw [Try.underlying44] at h
  obtain ⟨cs, h1, h2, _⟩ := h
  exact ⟨cs, h1⟩
set_option maxRecDepth 100000 in
theorem okWide_prob {w : World} {r : Reach} {b0 : Nat} {v : Value} (h : Value.okWide Try.prog w r b0 25 v) : ∃ cs, v = .agg cs := by
  unfold Value.okWide at h
  rw [Try.underlying25] at h
  obtain ⟨cs, h1, h2, _⟩ := h
  exact ⟨cs, h1⟩
end Go.Proofs.Ythmnolpamllabaa
