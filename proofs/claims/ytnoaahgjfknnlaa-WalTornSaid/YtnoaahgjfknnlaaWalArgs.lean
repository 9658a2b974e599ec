/- The arguments that come in: bytes, lists of bytes, a case. -/
import Derived.Test.YtnoaahgjfknnlaaWal7
import Derived.ProofKit
import Derived.OpenShut
import Derived.Deep.Slices
import Derived.Lib.SmallJoins
namespace Go.Proofs.Ytnoaahgjfknnlaa
open Go.RowKit Go.ChangeShapes Go.WideShapes Go.Deep
set_option linter.unusedSimpArgs false
set_option linter.unusedVariables false

/-- A slice of bytes whose block came in. -/
def ArgB (w : World) (B : Nat) (v : Value) (l : List UInt8) : Prop := ∃ A c, v = .slice A l.length c ∧ l.length ≤ c ∧ c ≤ maxLen ∧ Bts w A l ∧ (l ≠ [] → ∀ a, A = some a → a.block < B)

section
variable {H : Type} {enc : TypeId × Value → H} {w : World} {base : Nat} {spare : Nat → Bool} {held : Bool}

theorem cells34 : Try.prog.cellsOf 34 = 1 := by kernel_rfl
theorem cells36 : Try.prog.cellsOf 36 = 1 := by kernel_rfl
theorem cells5 : Try.prog.cellsOf 5 = 1 := by kernel_rfl
theorem cells31 : Try.prog.cellsOf 31 = 1 := by kernel_rfl
theorem cells3 : Try.prog.cellsOf 3 = 1 := by kernel_rfl
theorem cells38 : Try.prog.cellsOf 38 = 6 := by kernel_rfl

/-- Bytes that came in. -/
theorem open_bytes {fuel : Nat} {v : Value} {x : DataW H × List MemPlace} (h : DataW.trod enc Try.prog w base spare held fuel 34 [v] = some x) : ∃ l, ArgB w w.heap.size v l := by
  rcases open_ints Try.underlying34 Try.underlying5 cells5 h with ⟨hcs, _⟩ | ⟨a, len, cap, zs, hcs, _, hl, hm, hz, _, hcell, hwz⟩
  · injection hcs with hcs _
    subst hcs
    exact ⟨[], none, 0, rfl, Nat.le_refl _, by simp [maxLen], .inl rfl, fun h0 => absurd rfl h0⟩
  · injection hcs with hcs _
    subst hcs
    have hzl : len ≤ zs.length := by rw [hz]; split <;> omega
    refine ⟨(zs.take len).map fun z => UInt8.ofNat z.toNat, some a, cap, ?_, ?_, hm, ?_, ?_⟩
    · simp [Nat.min_eq_left hzl]
    · simpa [Nat.min_eq_left hzl] using hl
    · by_cases h0 : len = 0
      · left; simp [h0]
      · have h1 := hcell 0 (by omega)
        have hsp : a.spot = none := by
          have := World.cell?_spot h1
          simpa [Addr.add] using this
        obtain ⟨g, o, sp⟩ := a
        subst hsp
        refine .inr ⟨g, o, rfl, fun j v hj => ?_⟩
        have hjl : j < len := by
          have := (List.getElem?_eq_some_iff.1 hj).1
          simp at this
          omega
        have h2 := hcell j (by omega)
        rw [add_plain] at h2
        rw [h2]
        have h3 := hwz zs[j] (List.getElem_mem (by omega))
        have h4 := bounds_u8 h3
        have e : v = UInt8.ofNat (zs[j]'(by omega)).toNat := by
          rw [List.getElem?_map, List.getElem?_take, if_pos hjl, List.getElem?_eq_getElem (by omega)] at hj
          simpa using hj.symm
        rw [e]
        have hz2 : zs.getD j 0 = zs[j]'(by omega) := by simp [List.getD, List.getElem?_eq_getElem (show j < zs.length by omega)]
        rw [hz2]
        unfold bv
        congr 2
        rw [UInt8.toNat_ofNat']
        omega
    · intro h0 b hb
      cases hb
      have h1 : 0 < len := by
        rcases Nat.eq_zero_or_pos len with h | h
        · subst h; simp at h0
        · exact h
      have := block_lt_of_cell (hcell 0 (by omega))
      simpa [Addr.add] using this


/-- A list of byte strings that came in. -/
theorem open_list {fuel : Nat} {v : Value} {x : DataW H × List MemPlace} (h : DataW.trod enc Try.prog w base spare held fuel 36 [v] = some x) :
    ∃ A n c rs, v = .slice A n c ∧ List.length rs = n ∧ n ≤ c ∧ c ≤ maxLen ∧ LstAt w w.heap.size A rs := by
  rcases open_slice Try.underlying36 h with ⟨hcs, _⟩ | ⟨a, len, cap, m, n, D, Pl, hcs, _, hl, hm, hmm, _, hi⟩
  · injection hcs with hcs _
    subst hcs
    exact ⟨none, 0, 0, [], rfl, rfl, Nat.le_refl _, by simp [maxLen], fun i o ho => by simp at ho⟩
  · injection hcs with hcs _
    subst hcs
    have hlm : len ≤ m := by rw [hmm]; split <;> omega
    have key : ∀ i, i < len → ∃ r : List UInt8, ∃ v, w.cell? (a.add i) = some v ∧ ArgB w w.heap.size v r := by
      intro i hil
      obtain ⟨cs', hc, ht⟩ := hi i (by omega)
      rw [cells34] at hc
      obtain ⟨hlen, _, hat⟩ := World.cells?_some hc
      match cs', hlen with
      | [v], _ =>
        obtain ⟨r, hr⟩ := open_bytes ht
        refine ⟨r, v, ?_, hr⟩
        have := hat 0 (by omega)
        simpa [Addr.add] using this
    obtain ⟨f, hf⟩ := choose_lt key
    refine ⟨some a, len, cap, (List.range len).map f, rfl, by simp, hl, hm, fun i o ho => ?_⟩
    have hil : i < len := by
      have := (List.getElem?_eq_some_iff.1 ho).1
      simpa using this
    have e : o = f i := by
      rw [List.getElem?_map, List.getElem?_range hil] at ho
      simpa using ho.symm
    subst e
    obtain ⟨v, h0, Ar, c, rfl, q1, q2, q3, q4⟩ := hf i hil
    have hsp : a.spot = none := by
      obtain ⟨_, h00, _⟩ := hf 0 (by omega)
      have := World.cell?_spot h00
      simpa [Addr.add] using this
    obtain ⟨g, off, sp⟩ := a
    subst hsp
    have hb := block_lt_of_cell h0
    simp only [add_plain] at h0 hb
    exact ⟨g, off, Ar, c, rfl, hb, h0, q1, q2, q3, q4⟩

theorem okWide_case {r : Reach} {b0 : Nat} {v : Value} (h : Value.okWide Try.prog w r b0 38 v) : ∃ cs, v = .agg cs ∧ cs.size = 6 := by
  unfold Value.okWide at h
  rw [Try.underlying38] at h
  obtain ⟨cs, h1, h2, _⟩ := h
  exact ⟨cs, h1, h2.trans cells38⟩

/-- A case that came in. -/
theorem open_case {fuel : Nat} {cs : Array Value} {x : DataW H × List MemPlace} (hsz : cs.size = 6) (h : DataW.trod enc Try.prog w base spare held fuel 38 cs.toList = some x) :
    ∃ (S : Int) (AO : Option Addr) (nO cO : Nat) (F Co : Int) (ep : Nat) (AR : Option Addr) (nR cR : Nat) (old rs : List (List UInt8)), cs = caseV S AO nO cO F Co ep AR nR cR ∧ old.length = nO ∧ nO ≤ cO ∧ cO ≤ maxLen ∧ LstAt w w.heap.size AO old ∧
      rs.length = nR ∧ nR ≤ cR ∧ cR ≤ maxLen ∧ LstAt w w.heap.size AR rs ∧ (-9223372036854775808 ≤ F ∧ F ≤ 9223372036854775807) ∧ (-9223372036854775808 ≤ Co ∧ Co ≤ 9223372036854775807) ∧ ep < 4294967296 := by
  obtain ⟨l⟩ := cs
  obtain ⟨xs, n, _, _, hlen, hxl, hf⟩ := DataW.trod_struct Try.underlying38 h
  rw [cells38] at hlen
  match l, hlen with
  | [c0, c1, c2, c3, c4, c5], _ =>
    have h0 := hf 0 _ rfl
    have h1 := hf 1 _ rfl
    have h2 := hf 2 _ rfl
    have h3 := hf 3 _ rfl
    have h4 := hf 4 _ rfl
    have h5 := hf 5 _ rfl
    change DataW.trod _ _ _ _ _ _ _ 3 (List.take (Try.prog.cellsOf 3) _) = _ at h0
    change DataW.trod _ _ _ _ _ _ _ 36 (List.take (Try.prog.cellsOf 36) _) = _ at h1
    change DataW.trod _ _ _ _ _ _ _ 3 (List.take (Try.prog.cellsOf 3) _) = _ at h2
    change DataW.trod _ _ _ _ _ _ _ 3 (List.take (Try.prog.cellsOf 3) _) = _ at h3
    change DataW.trod _ _ _ _ _ _ _ 31 (List.take (Try.prog.cellsOf 31) _) = _ at h4
    change DataW.trod _ _ _ _ _ _ _ 36 (List.take (Try.prog.cellsOf 36) _) = _ at h5
    rw [cells3] at h0 h2 h3
    rw [cells36] at h1 h5
    rw [cells31] at h4
    change DataW.trod _ _ _ _ _ _ _ 3 [c0] = _ at h0
    change DataW.trod _ _ _ _ _ _ _ 36 [c1] = _ at h1
    change DataW.trod _ _ _ _ _ _ _ 3 [c2] = _ at h2
    change DataW.trod _ _ _ _ _ _ _ 3 [c3] = _ at h3
    change DataW.trod _ _ _ _ _ _ _ 31 [c4] = _ at h4
    change DataW.trod _ _ _ _ _ _ _ 36 [c5] = _ at h5
    have hx : ∀ i, i < 6 → ∃ y, xs[i]? = some y := fun i hi => ⟨xs[i]'(by rw [hxl]; exact hi), List.getElem?_eq_getElem _⟩
    obtain ⟨y0, e0⟩ := hx 0 (by omega)
    obtain ⟨y1, e1⟩ := hx 1 (by omega)
    obtain ⟨y2, e2⟩ := hx 2 (by omega)
    obtain ⟨y3, e3⟩ := hx 3 (by omega)
    obtain ⟨y4, e4⟩ := hx 4 (by omega)
    obtain ⟨y5, e5⟩ := hx 5 (by omega)
    rw [e0] at h0
    rw [e1] at h1
    rw [e2] at h2
    rw [e3] at h3
    rw [e4] at h4
    rw [e5] at h5
    obtain ⟨k0, q0, _, w0⟩ := DataW.trod_int Try.underlying3 h0
    obtain ⟨k2, q2, _, w2⟩ := DataW.trod_int Try.underlying3 h2
    obtain ⟨k3, q3, _, w3⟩ := DataW.trod_int Try.underlying3 h3
    obtain ⟨k4, q4, _, w4⟩ := DataW.trod_int Try.underlying31 h4
    obtain ⟨A1, n1, d1, l1, r1, s1, s2, s3, s4⟩ := open_list h1
    obtain ⟨A5, n5, d5, l5, r5, t1, t2, t3, t4⟩ := open_list h5
    injection q0 with q0 _
    injection q2 with q2 _
    injection q3 with q3 _
    injection q4 with q4 _
    have b4 : 0 ≤ k4 ∧ k4 < 4294967296 := by
      have := w4
      simp [Lit.wf, IntKind.min, IntKind.max, IntKind.signed, IntKind.bits] at this
      omega
    obtain ⟨ep, rfl⟩ : ∃ ep : Nat, k4 = ep := ⟨k4.toNat, by omega⟩
    subst q0 q2 q3 q4 r1 r5
    have b2 := bounds_i64 w2
    have b3 := bounds_i64 w3
    exact ⟨k0, A1, n1, d1, k2, k3, ep, A5, n5, d5, l1, l5, rfl, s1, s2, s3, s4, t1, t2, t3, t4, by omega, by omega, by omega⟩
end
end Go.Proofs.Ytnoaahgjfknnlaa
