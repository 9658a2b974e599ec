/- The arguments that come in: bytes, and a slice of operations. -/
import Derived.Test.YtpjmkjcgpbpfdaaDisk7
import Derived.ProofKit
import Derived.OpenShut
import Derived.Deep.Slices
import Derived.Lib.SmallJoins
namespace Go.Proofs.Ytpjmkjcgpbpfdaa
open Go.RowKit Go.ChangeShapes Go.WideShapes Go.Deep

section
variable {H : Type} {enc : TypeId × Value → H} {w : World} {base : Nat} {spare : Nat → Bool} {held : Bool}

theorem cells23 : Try.prog.cellsOf 23 = 1 := by kernel_rfl
theorem cells5 : Try.prog.cellsOf 5 = 1 := by kernel_rfl
theorem cells46 : Try.prog.cellsOf 46 = 4 := by kernel_rfl

/-- Bytes that came in. -/
theorem open_bytes {fuel : Nat} {v : Value} {x : DataW H × List MemPlace} (h : DataW.trod enc Try.prog w base spare held fuel 23 [v] = some x) : ∃ l, ArgB w w.heap.size v l := by
  rcases open_ints Try.underlying23 Try.underlying5 cells5 h with ⟨hcs, _⟩ | ⟨a, len, cap, zs, hcs, _, hl, hm, hz, _, hcell, hwz⟩
  · injection hcs with hcs _
    subst hcs
    exact ⟨[], none, 0, rfl, Nat.le_refl _, by simp [maxLen], .inl rfl, fun h0 => absurd rfl h0⟩
  · injection hcs with hcs _
    subst hcs
    have hzl : len ≤ zs.length := by rw [hz]; split <;> omega
    refine ⟨(zs.take len).map fun z => UInt8.ofNat z.toNat, some a, cap, ?_, ?_, hm, ?_, ?_⟩
    · simp [Nat.min_eq_left hzl]
    · simpa [Nat.min_eq_left hzl] using hl
    · by_cases h0 : len = 0
      · left; simp [h0]
      · have h1 := hcell 0 (by omega)
        have hsp : a.spot = none := by
          have := World.cell?_spot h1
          simpa [Addr.add] using this
        obtain ⟨g, o, sp⟩ := a
        subst hsp
        refine .inr ⟨g, o, rfl, fun j v hj => ?_⟩
        have hjl : j < len := by
          have := (List.getElem?_eq_some_iff.1 hj).1
          simp at this
          omega
        have h2 := hcell j (by omega)
        rw [add_plain] at h2
        rw [h2]
        have h3 := hwz zs[j] (List.getElem_mem (by omega))
        have h4 := bounds_u8 h3
        have e : v = UInt8.ofNat (zs[j]'(by omega)).toNat := by
          rw [List.getElem?_map, List.getElem?_take, if_pos hjl, List.getElem?_eq_getElem (by omega)] at hj
          simpa using hj.symm
        rw [e]
        have hz2 : zs.getD j 0 = zs[j]'(by omega) := by simp [List.getD, List.getElem?_eq_getElem (show j < zs.length by omega)]
        rw [hz2]
        unfold bv
        congr 2
        rw [UInt8.toNat_ofNat']
        omega
    · intro h0 b hb
      cases hb
      have h1 : 0 < len := by
        rcases Nat.eq_zero_or_pos len with h | h
        · subst h; simp at h0
        · exact h
      have := block_lt_of_cell (hcell 0 (by omega))
      simpa [Addr.add] using this

instance : Inhabited OpD := ⟨⟨0, 0, 0, []⟩⟩

theorem cells3 : Try.prog.cellsOf 3 = 1 := by kernel_rfl

/-- The four cells of an operation. -/
theorem open_op {fuel : Nat} {cs : List Value} {x : DataW H × List MemPlace} (h : DataW.trod enc Try.prog w base spare held fuel 46 cs = some x) :
    ∃ (o : OpD) (v : Value), cs = [.int .i64 o.kind, .int .i64 o.sector, .int .i64 o.n, v] ∧ o.fits ∧ ArgB w w.heap.size v o.data := by
  obtain ⟨xs, n, _, _, hlen, hxl, hf⟩ := DataW.trod_struct Try.underlying46 h
  rw [cells46] at hlen
  match cs, hlen with
  | [c0, c1, c2, c3], _ =>
    have h0 := hf 0 _ rfl
    have h1 := hf 1 _ rfl
    have h2 := hf 2 _ rfl
    have h3 := hf 3 _ rfl
    change DataW.trod _ _ _ _ _ _ _ 3 (List.take (Try.prog.cellsOf 3) _) = _ at h0
    change DataW.trod _ _ _ _ _ _ _ 3 (List.take (Try.prog.cellsOf 3) _) = _ at h1
    change DataW.trod _ _ _ _ _ _ _ 3 (List.take (Try.prog.cellsOf 3) _) = _ at h2
    change DataW.trod _ _ _ _ _ _ _ 23 (List.take (Try.prog.cellsOf 23) _) = _ at h3
    rw [cells3] at h0 h1 h2
    rw [cells23] at h3
    change DataW.trod _ _ _ _ _ _ _ 3 [c0] = _ at h0
    change DataW.trod _ _ _ _ _ _ _ 3 [c1] = _ at h1
    change DataW.trod _ _ _ _ _ _ _ 3 [c2] = _ at h2
    change DataW.trod _ _ _ _ _ _ _ 23 [c3] = _ at h3
    have hx : ∀ i, i < 4 → ∃ y, xs[i]? = some y := fun i hi => ⟨xs[i]'(by rw [hxl]; exact hi), List.getElem?_eq_getElem _⟩
    obtain ⟨y0, e0⟩ := hx 0 (by omega)
    obtain ⟨y1, e1⟩ := hx 1 (by omega)
    obtain ⟨y2, e2⟩ := hx 2 (by omega)
    obtain ⟨y3, e3⟩ := hx 3 (by omega)
    rw [e0] at h0
    rw [e1] at h1
    rw [e2] at h2
    rw [e3] at h3
    obtain ⟨k0, q0, _, w0⟩ := DataW.trod_int Try.underlying3 h0
    obtain ⟨k1, q1, _, w1⟩ := DataW.trod_int Try.underlying3 h1
    obtain ⟨k2, q2, _, w2⟩ := DataW.trod_int Try.underlying3 h2
    obtain ⟨l, hl⟩ := open_bytes h3
    injection q0 with q0 _
    injection q1 with q1 _
    injection q2 with q2 _
    subst q0 q1 q2
    exact ⟨⟨k0, k1, k2, l⟩, c3, rfl, ⟨bounds_i64 w0, bounds_i64 w1, bounds_i64 w2⟩, hl⟩

/-- Operations that came in. -/
theorem open_ops {fuel : Nat} {v : Value} {x : DataW H × List MemPlace} (h : DataW.trod enc Try.prog w base spare held fuel 22 [v] = some x) :
    ∃ A c ops, v = .slice A (List.length ops) c ∧ List.length ops ≤ c ∧ c ≤ maxLen ∧ OpsAt w w.heap.size A ops := by
  rcases open_slice Try.underlying22 h with ⟨hcs, _⟩ | ⟨a, len, cap, m, n, D, Pl, hcs, _, hl, hm, hmm, _, hi⟩
  · injection hcs with hcs _
    subst hcs
    exact ⟨none, 0, [], rfl, Nat.le_refl _, by simp [maxLen], fun i o ho => by simp at ho⟩
  · injection hcs with hcs _
    subst hcs
    have hlm : len ≤ m := by rw [hmm]; split <;> omega
    have key : ∀ i, i < len → ∃ o : OpD, o.fits ∧ ∃ v, w.cell? (a.add (i * 4)) = some (.int .i64 o.kind) ∧ w.cell? ((a.add (i * 4)).add 1) = some (.int .i64 o.sector) ∧ w.cell? ((a.add (i * 4)).add 2) = some (.int .i64 o.n) ∧
        w.cell? ((a.add (i * 4)).add 3) = some v ∧ ArgB w w.heap.size v o.data := by
      intro i hil
      obtain ⟨cs', hc, ht⟩ := hi i (by omega)
      rw [cells46] at hc
      obtain ⟨o, v, rfl, hf, hv⟩ := open_op ht
      obtain ⟨_, _, hat⟩ := World.cells?_some hc
      refine ⟨o, hf, v, ?_, hat 1 (by omega), hat 2 (by omega), hat 3 (by omega), hv⟩
      have := hat 0 (by omega)
      simpa [Addr.add] using this
    obtain ⟨f, hf⟩ := choose_lt key
    refine ⟨some a, cap, (List.range len).map f, by simp, by simpa using hl, hm, fun i o ho => ?_⟩
    have hil : i < len := by
      have := (List.getElem?_eq_some_iff.1 ho).1
      simpa using this
    have e : o = f i := by
      rw [List.getElem?_map, List.getElem?_range hil] at ho
      simpa using ho.symm
    subst e
    obtain ⟨hfit, v, h0, h1, h2, h3, hv⟩ := hf i hil
    have hsp : a.spot = none := by
      obtain ⟨_, _, h00, _⟩ := hf 0 (by omega)
      have := World.cell?_spot h00
      simpa [Addr.add] using this
    obtain ⟨g, off, sp⟩ := a
    subst hsp
    simp only [add_plain] at h0 h1 h2 h3
    exact ⟨hfit, g, off, v, rfl, block_lt_of_cell h0, h0, h1, h2, h3, hv⟩
end
end Go.Proofs.Ytpjmkjcgpbpfdaa
