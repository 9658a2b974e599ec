/- The Acts that come in. -/
import Derived.Test.YtoefbjeclghfhaaLawMatches
import Derived.Test.YtoefbjeclghfhaaSnapArgs
namespace Go.Proofs.Ytoefbjeclghfhaa
open Go.RowKit Go.ChangeShapes Go.WideShapes Go.Deep
set_option linter.unusedSimpArgs false
set_option linter.unusedVariables false

instance : Inhabited ActO := ⟨⟨0, 0, 0, 0, []⟩⟩

section
variable {H : Type} {enc : TypeId × Value → H} {w : World} {base : Nat} {spare : Nat → Bool} {held : Bool}

theorem cells3 : Try.prog.cellsOf 3 = 1 := by kernel_rfl
theorem cells54 : Try.prog.cellsOf 54 = 5 := by kernel_rfl

def ActFits (o : ActO) : Prop := (0 ≤ o.kind ∧ o.kind < 256) ∧ o.ep < 4294967296 ∧ (-9223372036854775808 ≤ o.n ∧ o.n ≤ 9223372036854775807)

/-- The five cells of an Act. -/
theorem open_act {fuel : Nat} {cs : List Value} {x : DataW H × List MemPlace} (h : DataW.trod enc Try.prog w base spare held fuel 54 cs = some x) :
    ∃ (o : ActO) (v : Value), cs = [.int .u8 o.kind, .int .u32 o.ep, v, .int .i64 o.n, .int .i64 o.by_] ∧ ActFits o ∧ ArgB w w.heap.size v o.data := by
  obtain ⟨xs, n, _, _, hlen, hxl, hf⟩ := DataW.trod_struct Try.underlying54 h
  rw [cells54] at hlen
  match cs, hlen with
  | [c0, c1, c2, c3, c4], _ =>
    have h0 := hf 0 _ rfl
    have h1 := hf 1 _ rfl
    have h2 := hf 2 _ rfl
    have h3 := hf 3 _ rfl
    have h4 := hf 4 _ rfl
    change DataW.trod _ _ _ _ _ _ _ 5 (List.take (Try.prog.cellsOf 5) _) = _ at h0
    change DataW.trod _ _ _ _ _ _ _ 34 (List.take (Try.prog.cellsOf 34) _) = _ at h1
    change DataW.trod _ _ _ _ _ _ _ 35 (List.take (Try.prog.cellsOf 35) _) = _ at h2
    change DataW.trod _ _ _ _ _ _ _ 3 (List.take (Try.prog.cellsOf 3) _) = _ at h3
    change DataW.trod _ _ _ _ _ _ _ 3 (List.take (Try.prog.cellsOf 3) _) = _ at h4
    rw [cells5] at h0
    rw [cells34] at h1
    rw [cells35] at h2
    rw [cells3] at h3 h4
    change DataW.trod _ _ _ _ _ _ _ 5 [c0] = _ at h0
    change DataW.trod _ _ _ _ _ _ _ 34 [c1] = _ at h1
    change DataW.trod _ _ _ _ _ _ _ 35 [c2] = _ at h2
    change DataW.trod _ _ _ _ _ _ _ 3 [c3] = _ at h3
    change DataW.trod _ _ _ _ _ _ _ 3 [c4] = _ at h4
    have hx : ∀ i, i < 5 → ∃ y, xs[i]? = some y := fun i hi => ⟨xs[i]'(by rw [hxl]; exact hi), List.getElem?_eq_getElem _⟩
    obtain ⟨y0, e0⟩ := hx 0 (by omega)
    obtain ⟨y1, e1⟩ := hx 1 (by omega)
    obtain ⟨y2, e2⟩ := hx 2 (by omega)
    obtain ⟨y3, e3⟩ := hx 3 (by omega)
    obtain ⟨y4, e4⟩ := hx 4 (by omega)
    rw [e0] at h0
    rw [e1] at h1
    rw [e2] at h2
    rw [e3] at h3
    rw [e4] at h4
    obtain ⟨k0, q0, _, w0⟩ := DataW.trod_int Try.underlying5 h0
    obtain ⟨k1, q1, _, w1⟩ := DataW.trod_int Try.underlying34 h1
    obtain ⟨k3, q3, _, w3⟩ := DataW.trod_int Try.underlying3 h3
    obtain ⟨k4, q4, _, w4⟩ := DataW.trod_int Try.underlying3 h4
    obtain ⟨l, hl⟩ := open_bytes h2
    injection q0 with q0 _
    injection q1 with q1 _
    injection q3 with q3 _
    injection q4 with q4 _
    have b1 : 0 ≤ k1 ∧ k1 < 4294967296 := by
      have := w1
      simp [Lit.wf, IntKind.min, IntKind.max, IntKind.signed, IntKind.bits] at this
      omega
    obtain ⟨ep, rfl⟩ : ∃ ep : Nat, k1 = ep := ⟨k1.toNat, by omega⟩
    subst q0 q1 q3 q4
    have b0 := bounds_u8 w0
    have b3 := bounds_i64 w3
    exact ⟨⟨k0, ep, k3, k4, l⟩, c2, rfl, ⟨⟨by show 0 ≤ k0; omega, by show k0 < 256; omega⟩, by show ep < _; omega, by show _ ≤ k3; omega, by show k3 ≤ _; omega⟩, hl⟩

/-- Acts that came in. -/
theorem open_acts {fuel : Nat} {v : Value} {x : DataW H × List MemPlace} (h : DataW.trod enc Try.prog w base spare held fuel 52 [v] = some x) :
    ∃ A c acts, v = .slice A (List.length acts) c ∧ List.length acts ≤ c ∧ c ≤ maxLen ∧ ActsAt w w.heap.size A acts := by
  rcases open_slice Try.underlying52 h with ⟨hcs, _⟩ | ⟨a, len, cap, m, n, D, Pl, hcs, _, hl, hm, hmm, _, hi⟩
  · injection hcs with hcs _
    subst hcs
    exact ⟨none, 0, [], rfl, Nat.le_refl _, by simp [maxLen], fun i o ho => by simp at ho⟩
  · injection hcs with hcs _
    subst hcs
    have hlm : len ≤ m := by rw [hmm]; split <;> omega
    have key : ∀ i, i < len → ∃ o : ActO, ActFits o ∧ ∃ v, w.cell? (a.add (i * 5)) = some (.int .u8 o.kind) ∧ w.cell? ((a.add (i * 5)).add 1) = some (.int .u32 o.ep) ∧ w.cell? ((a.add (i * 5)).add 2) = some v ∧
        w.cell? ((a.add (i * 5)).add 3) = some (.int .i64 o.n) ∧ w.cell? ((a.add (i * 5)).add 4) = some (.int .i64 o.by_) ∧ ArgB w w.heap.size v o.data := by
      intro i hil
      obtain ⟨cs', hc, ht⟩ := hi i (by omega)
      rw [cells54] at hc
      obtain ⟨o, v, rfl, hf, hv⟩ := open_act ht
      obtain ⟨_, _, hat⟩ := World.cells?_some hc
      refine ⟨o, hf, v, ?_, hat 1 (by omega), hat 2 (by omega), hat 3 (by omega), hat 4 (by omega), hv⟩
      have := hat 0 (by omega)
      simpa [Addr.add] using this
    obtain ⟨f, hf⟩ := choose_lt key
    refine ⟨some a, cap, (List.range len).map f, by simp, by simpa using hl, hm, fun i o ho => ?_⟩
    have hil : i < len := by
      have := (List.getElem?_eq_some_iff.1 ho).1
      simpa using this
    have e : o = f i := by
      rw [List.getElem?_map, List.getElem?_range hil] at ho
      simpa using ho.symm
    subst e
    obtain ⟨hfit, v, h0, h1, h2, h3, h4, Ad, cd, rfl, hv1, hv2, hv3⟩ := hf i hil
    have hsp : a.spot = none := by
      obtain ⟨_, _, h00, _⟩ := hf 0 (by omega)
      have := World.cell?_spot h00
      simpa [Addr.add] using this
    obtain ⟨g, off, sp⟩ := a
    subst hsp
    simp only [add_plain] at h0 h1 h2 h3 h4
    exact ⟨hfit, g, off, Ad, cd, rfl, block_lt_of_cell h0, h0, h1, h2, h3, h4, hv1, hv2, hv3⟩
end
end Go.Proofs.Ytoefbjeclghfhaa
