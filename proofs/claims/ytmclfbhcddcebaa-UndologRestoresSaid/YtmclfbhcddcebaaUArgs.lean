/- The arguments that come in: changes, operations. -/
import Derived.Test.YtmclfbhcddcebaaU21
import Derived.ProofKit
import Derived.OpenShut
import Derived.Deep.Slices
import Derived.Lib.SmallJoins
namespace Go.Proofs.Ytmclfbhcddcebaa
open Go.RowKit Go.ChangeShapes Go.WideShapes Go.Deep
set_option linter.unusedSimpArgs false
set_option linter.unusedVariables false

section
variable {H : Type} {enc : TypeId × Value → H} {w : World} {base : Nat} {spare : Nat → Bool} {held : Bool}

set_option maxRecDepth 100000
theorem cells2 : Try.prog.cellsOf 2 = 1 := by kernel_rfl
theorem cells3 : Try.prog.cellsOf 3 = 1 := by kernel_rfl
theorem cells9 : Try.prog.cellsOf 9 = 1 := by kernel_rfl
theorem cells33 : Try.prog.cellsOf 33 = 1 := by kernel_rfl
theorem cells22 : Try.prog.cellsOf 22 = 1 := by kernel_rfl
theorem cells41 : Try.prog.cellsOf 41 = 3 := by kernel_rfl
theorem cells35 : Try.prog.cellsOf 35 = 4 := by kernel_rfl
theorem cells37 : Try.prog.cellsOf 37 = 7 := by kernel_rfl
theorem cells50 : Try.prog.cellsOf 50 = 3 := by kernel_rfl

instance : Inhabited Val := ⟨⟨0, 0, ⟨#[]⟩⟩⟩
/-- The cells of a value. -/
theorem open_val {fuel : Nat} {cs : List Value} {x : DataW H × List MemPlace} (h : DataW.trod enc Try.prog w base spare held fuel 41 cs = some x) :
    ∃ v : Val, cs = [.int .i64 v.k, .int .i64 v.n, .string v.s] := by
  obtain ⟨xs, n, _, _, hlen, hxl, hf⟩ := DataW.trod_struct Try.underlying41 h
  rw [cells41] at hlen
  match cs, hlen with
  | [c0, c1, c2], _ =>
    have h0 := hf 0 _ rfl
    have h1 := hf 1 _ rfl
    have h2 := hf 2 _ rfl
    change DataW.trod _ _ _ _ _ _ _ 3 (List.take (Try.prog.cellsOf 3) _) = _ at h0
    change DataW.trod _ _ _ _ _ _ _ 2 (List.take (Try.prog.cellsOf 2) _) = _ at h1
    change DataW.trod _ _ _ _ _ _ _ 9 (List.take (Try.prog.cellsOf 9) _) = _ at h2
    rw [cells3] at h0
    rw [cells2] at h1
    rw [cells9] at h2
    change DataW.trod _ _ _ _ _ _ _ 3 [c0] = _ at h0
    change DataW.trod _ _ _ _ _ _ _ 2 [c1] = _ at h1
    change DataW.trod _ _ _ _ _ _ _ 9 [c2] = _ at h2
    have hx : ∀ i, i < 3 → ∃ y, xs[i]? = some y := fun i hi => ⟨xs[i]'(by rw [hxl]; exact hi), List.getElem?_eq_getElem _⟩
    obtain ⟨y0, e0⟩ := hx 0 (by omega)
    obtain ⟨y1, e1⟩ := hx 1 (by omega)
    obtain ⟨y2, e2⟩ := hx 2 (by omega)
    rw [e0] at h0
    rw [e1] at h1
    rw [e2] at h2
    obtain ⟨k0, q0, _, w0⟩ := DataW.trod_int Try.underlying3 h0
    obtain ⟨k1, q1, _, w1⟩ := DataW.trod_int Try.underlying2 h1
    obtain ⟨s2, q2, _, w2⟩ := DataW.trod_string Try.underlying9 h2
    injection q0 with q0 _
    injection q1 with q1 _
    injection q2 with q2 _
    subst q0 q1 q2
    exact ⟨⟨k0, k1, s2⟩, rfl⟩

/-- A row that came in. -/
theorem open_row {fuel : Nat} {v : Value} {x : DataW H × List MemPlace} (h : DataW.trod enc Try.prog w base spare held fuel 33 [v] = some x) :
    ∃ A c l, v = .slice A (List.length l) c ∧ RowAt w [] A l := by
  rcases open_slice Try.underlying33 h with ⟨hcs, _⟩ | ⟨a, len, cap, m, n, D, Pl, hcs, _, hl, hm, hmm, _, hi⟩
  · injection hcs with hcs _
    subst hcs
    exact ⟨none, 0, [], rfl, RowAt.nil _ _ _⟩
  · injection hcs with hcs _
    subst hcs
    have hlm : len ≤ m := by rw [hmm]; split <;> omega
    have key : ∀ i, i < len → ∃ p : Val, w.cell? (a.add (i * 3)) = some (.int .i64 p.k) ∧ w.cell? ((a.add (i * 3)).add 1) = some (.int .i64 p.n) ∧ w.cell? ((a.add (i * 3)).add 2) = some (.string p.s) := by
      intro i hil
      obtain ⟨cs', hc, ht⟩ := hi i (by omega)
      rw [cells41] at hc
      obtain ⟨p, rfl⟩ := open_val ht
      obtain ⟨_, _, hat⟩ := World.cells?_some hc
      refine ⟨p, ?_, hat 1 (by omega), hat 2 (by omega)⟩
      have := hat 0 (by omega)
      simpa [Addr.add] using this
    obtain ⟨f, hf⟩ := choose_lt key
    have he : ∀ i p, ((List.range len).map f)[i]? = some p → i < len ∧ p = f i := fun i p hp => by
      have hil : i < len := by
        have := (List.getElem?_eq_some_iff.1 hp).1
        simpa using this
      rw [List.getElem?_map, List.getElem?_range hil] at hp
      exact ⟨hil, by simpa using hp.symm⟩
    refine ⟨some a, cap, (List.range len).map f, by simp, fun i p hp => ?_⟩
    obtain ⟨hil, rfl⟩ := he i p hp
    obtain ⟨h0, h1, h2⟩ := hf i hil
    have hsp : a.spot = none := by
      obtain ⟨h00, _⟩ := hf 0 (by omega)
      have := World.cell?_spot h00
      simpa [Addr.add] using this
    obtain ⟨g, off, sp⟩ := a
    subst hsp
    simp only [add_plain] at h0 h1 h2
    exact ⟨g, off, rfl, by simp, h0, h1, h2⟩

instance : Inhabited Chg := ⟨⟨0, 0, [], []⟩⟩
/-- The cells of a change. -/
theorem open_chg {fuel : Nat} {cs : List Value} {x : DataW H × List MemPlace} (h : DataW.trod enc Try.prog w base spare held fuel 35 cs = some x) :
    ∃ r c, cs = Raw.cells r ∧ RawIs w [] r c ∧ wfC c := by
  obtain ⟨xs, n, _, _, hlen, hxl, hf⟩ := DataW.trod_struct Try.underlying35 h
  rw [cells35] at hlen
  match cs, hlen with
  | [c0, c1, c2, c3], _ =>
    have h0 := hf 0 _ rfl
    have h1 := hf 1 _ rfl
    have h2 := hf 2 _ rfl
    have h3 := hf 3 _ rfl
    change DataW.trod _ _ _ _ _ _ _ 3 (List.take (Try.prog.cellsOf 3) _) = _ at h0
    change DataW.trod _ _ _ _ _ _ _ 2 (List.take (Try.prog.cellsOf 2) _) = _ at h1
    change DataW.trod _ _ _ _ _ _ _ 33 (List.take (Try.prog.cellsOf 33) _) = _ at h2
    change DataW.trod _ _ _ _ _ _ _ 33 (List.take (Try.prog.cellsOf 33) _) = _ at h3
    rw [cells3] at h0
    rw [cells2] at h1
    rw [cells33] at h2 h3
    change DataW.trod _ _ _ _ _ _ _ 3 [c0] = _ at h0
    change DataW.trod _ _ _ _ _ _ _ 2 [c1] = _ at h1
    change DataW.trod _ _ _ _ _ _ _ 33 [c2] = _ at h2
    change DataW.trod _ _ _ _ _ _ _ 33 [c3] = _ at h3
    have hx : ∀ i, i < 4 → ∃ y, xs[i]? = some y := fun i hi => ⟨xs[i]'(by rw [hxl]; exact hi), List.getElem?_eq_getElem _⟩
    obtain ⟨y0, e0⟩ := hx 0 (by omega)
    obtain ⟨y1, e1⟩ := hx 1 (by omega)
    obtain ⟨y2, e2⟩ := hx 2 (by omega)
    obtain ⟨y3, e3⟩ := hx 3 (by omega)
    rw [e0] at h0
    rw [e1] at h1
    rw [e2] at h2
    rw [e3] at h3
    obtain ⟨k0, q0, _, w0⟩ := DataW.trod_int Try.underlying3 h0
    obtain ⟨k1, q1, _, w1⟩ := DataW.trod_int Try.underlying2 h1
    injection q0 with q0 _
    injection q1 with q1 _
    subst q0 q1
    obtain ⟨A2, n2, l2, rfl, r2⟩ := open_row h2
    obtain ⟨A3, n3, l3, rfl, r3⟩ := open_row h3
    exact ⟨⟨k0, k1, A2, l2.length, n2, A3, l3.length, n3⟩, ⟨k0, k1, l2, l3⟩, rfl, ⟨rfl, rfl, rfl, rfl, r2, r3⟩, w0, w1⟩

instance : Inhabited Oo := ⟨⟨0, ⟨0, 0, [], []⟩, ⟨#[]⟩, 0⟩⟩
/-- The cells of an operation. -/
theorem open_op {fuel : Nat} {cs : List Value} {x : DataW H × List MemPlace} (h : DataW.trod enc Try.prog w base spare held fuel 37 cs = some x) :
    ∃ r o, cs = oCells o r ∧ RawIs w [] r o.c ∧ wfC o.c ∧ (Lit.int .i64 o.n).wf = true := by
  obtain ⟨xs, n, _, _, hlen, hxl, hf⟩ := DataW.trod_struct Try.underlying37 h
  rw [cells37] at hlen
  match cs, hlen with
  | [c0, c1, c2, c3, c4, c5, c6], _ =>
    have h0 := hf 0 _ rfl
    have h1 := hf 1 _ rfl
    have h2 := hf 2 _ rfl
    have h3 := hf 3 _ rfl
    change DataW.trod _ _ _ _ _ _ _ 3 (List.take (Try.prog.cellsOf 3) _) = _ at h0
    change DataW.trod _ _ _ _ _ _ _ 35 (List.take (Try.prog.cellsOf 35) _) = _ at h1
    change DataW.trod _ _ _ _ _ _ _ 9 (List.take (Try.prog.cellsOf 9) _) = _ at h2
    change DataW.trod _ _ _ _ _ _ _ 3 (List.take (Try.prog.cellsOf 3) _) = _ at h3
    rw [cells3] at h0 h3
    rw [cells35] at h1
    rw [cells9] at h2
    change DataW.trod _ _ _ _ _ _ _ 3 [c0] = _ at h0
    change DataW.trod _ _ _ _ _ _ _ 35 [c1, c2, c3, c4] = _ at h1
    change DataW.trod _ _ _ _ _ _ _ 9 [c5] = _ at h2
    change DataW.trod _ _ _ _ _ _ _ 3 [c6] = _ at h3
    have hx : ∀ i, i < 4 → ∃ y, xs[i]? = some y := fun i hi => ⟨xs[i]'(by rw [hxl]; exact hi), List.getElem?_eq_getElem _⟩
    obtain ⟨y0, e0⟩ := hx 0 (by omega)
    obtain ⟨y1, e1⟩ := hx 1 (by omega)
    obtain ⟨y2, e2⟩ := hx 2 (by omega)
    obtain ⟨y3, e3⟩ := hx 3 (by omega)
    rw [e0] at h0
    rw [e1] at h1
    rw [e2] at h2
    rw [e3] at h3
    obtain ⟨k0, q0, _, w0⟩ := DataW.trod_int Try.underlying3 h0
    obtain ⟨r, c, q1, ri, wf⟩ := open_chg h1
    obtain ⟨s2, q2, _, w2⟩ := DataW.trod_string Try.underlying9 h2
    obtain ⟨k3, q3, _, w3⟩ := DataW.trod_int Try.underlying3 h3
    injection q0 with q0 _
    injection q2 with q2 _
    injection q3 with q3 _
    subst q0 q2 q3
    unfold Raw.cells at q1
    injection q1 with q11 q1
    injection q1 with q12 q1
    injection q1 with q13 q1
    injection q1 with q14 q1
    subst q11 q12 q13 q14
    exact ⟨r, ⟨k0, c, s2, k3⟩, rfl, ri, wf, w3⟩

/-- Operations that came in. -/
theorem open_ops {fuel : Nat} {v : Value} {x : DataW H × List MemPlace} (h : DataW.trod enc Try.prog w base spare held fuel 22 [v] = some x) :
    ∃ A c l, v = .slice A (List.length l) c ∧ List.length l ≤ c ∧ c ≤ maxLen ∧ OpsAt w [] A l ∧ (∀ o ∈ l, wfC o.c ∧ (Lit.int .i64 o.n).wf = true) := by
  rcases open_slice Try.underlying22 h with ⟨hcs, _⟩ | ⟨a, len, cap, m, n, D, Pl, hcs, _, hl, hm, hmm, _, hi⟩
  · injection hcs with hcs _
    subst hcs
    exact ⟨none, 0, [], rfl, Nat.le_refl _, by simp [maxLen], fun i o h => by simp at h, fun x hx => by cases hx⟩
  · injection hcs with hcs _
    subst hcs
    have hlm : len ≤ m := by rw [hmm]; split <;> omega
    have key : ∀ i, i < len → ∃ o : Oo, ∃ r, RawIs w [] r o.c ∧ (wfC o.c ∧ (Lit.int .i64 o.n).wf = true) ∧ ∀ j v, (oCells o r)[j]? = some v → w.cell? ((a.add (i * 7)).add j) = some v := by
      intro i hil
      obtain ⟨cs', hc, ht⟩ := hi i (by omega)
      rw [cells37] at hc
      obtain ⟨r, o, rfl, ri, wf⟩ := open_op ht
      obtain ⟨_, _, hat⟩ := World.cells?_some hc
      have hall : ∀ j v, (oCells o r)[j]? = some v → w.cell? ((a.add (i * 7)).add j) = some v := fun j v hj => by
        have hjl : j < 7 := by have := (List.getElem?_eq_some_iff.1 hj).1; simpa [oCells] using this
        exact (hat j hjl).trans hj
      exact ⟨o, r, ri, wf, hall⟩
    obtain ⟨f, hf⟩ := choose_lt key
    have he : ∀ i p, ((List.range len).map f)[i]? = some p → i < len ∧ p = f i := fun i p hp => by
      have hil : i < len := by
        have := (List.getElem?_eq_some_iff.1 hp).1
        simpa using this
      rw [List.getElem?_map, List.getElem?_range hil] at hp
      exact ⟨hil, by simpa using hp.symm⟩
    refine ⟨some a, cap, (List.range len).map f, by simp, by simpa using hl, hm, fun i p hp => ?_, fun p hp => ?_⟩
    · obtain ⟨hil, rfl⟩ := he i p hp
      obtain ⟨r, hr, _, hc⟩ := hf i hil
      have hsp : a.spot = none := by
        obtain ⟨r0, _, _, h00⟩ := hf 0 (by omega)
        have := World.cell?_spot (h00 0 _ rfl)
        simpa [Addr.add] using this
      obtain ⟨g, off, sp⟩ := a
      dsimp only at hsp
      subst hsp
      refine ⟨g, off, r, rfl, by simp, fun j v hj => ?_, hr⟩
      have := hc j v hj
      simp only [add_plain] at this
      exact this
    · obtain ⟨i, hp⟩ := List.getElem?_of_mem hp
      obtain ⟨hil, rfl⟩ := he i p hp
      obtain ⟨r, _, hw, _⟩ := hf i hil
      exact hw
theorem okWide_chg {r : Reach} {b0 : Nat} {v : Value} (h : Value.okWide Try.prog w r b0 35 v) : ∃ cs, v = .agg cs := by
  unfold Value.okWide at h
  rw [Try.underlying35] at h
  obtain ⟨cs, h1, h2, _⟩ := h
  exact ⟨cs, h1⟩
end
end Go.Proofs.Ytmclfbhcddcebaa
