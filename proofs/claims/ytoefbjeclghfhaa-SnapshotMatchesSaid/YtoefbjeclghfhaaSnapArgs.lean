/- The arguments that come in: bytes, a Version. -/
import Derived.Test.YtoefbjeclghfhaaSnapV
import Derived.ProofKit
import Derived.OpenShut
import Derived.Deep.Slices
import Derived.Lib.SmallJoins
namespace Go.Proofs.Ytoefbjeclghfhaa
open Go.RowKit Go.ChangeShapes Go.WideShapes Go.Deep
set_option linter.unusedSimpArgs false
set_option linter.unusedVariables false

section
variable {H : Type} {enc : TypeId × Value → H} {w : World} {base : Nat} {spare : Nat → Bool} {held : Bool}

theorem cells35 : Try.prog.cellsOf 35 = 1 := by kernel_rfl
theorem cells5 : Try.prog.cellsOf 5 = 1 := by kernel_rfl
theorem cells34 : Try.prog.cellsOf 34 = 1 := by kernel_rfl
theorem cells37 : Try.prog.cellsOf 37 = 3 := by kernel_rfl

/-- A slice of bytes whose block came in. -/
def ArgB (w : World) (B : Nat) (v : Value) (l : List UInt8) : Prop := ∃ A c, v = .slice A l.length c ∧ l.length ≤ c ∧ c ≤ maxLen ∧ BtsB B w A l

/-- Bytes that came in. -/
theorem open_bytes {fuel : Nat} {v : Value} {x : DataW H × List MemPlace} (h : DataW.trod enc Try.prog w base spare held fuel 35 [v] = some x) : ∃ l, ArgB w w.heap.size v l := by
  rcases open_ints Try.underlying35 Try.underlying5 cells5 h with ⟨hcs, _⟩ | ⟨a, len, cap, zs, hcs, _, hl, hm, hz, _, hcell, hwz⟩
  · injection hcs with hcs _
    subst hcs
    exact ⟨[], none, 0, rfl, Nat.le_refl _, by simp [maxLen], .inl rfl, fun h0 => absurd rfl h0⟩
  · injection hcs with hcs _
    subst hcs
    have hzl : len ≤ zs.length := by rw [hz]; split <;> omega
    refine ⟨(zs.take len).map fun z => UInt8.ofNat z.toNat, some a, cap, ?_, ?_, hm, ?_, ?_⟩
    · simp [Nat.min_eq_left hzl]
    · simpa [Nat.min_eq_left hzl] using hl
    · by_cases h0 : len = 0
      · left; simp [h0]
      · have h1 := hcell 0 (by omega)
        have hsp : a.spot = none := by
          have := World.cell?_spot h1
          simpa [Addr.add] using this
        obtain ⟨g, o, sp⟩ := a
        subst hsp
        refine .inr ⟨g, o, rfl, fun j v hj => ?_⟩
        have hjl : j < len := by
          have := (List.getElem?_eq_some_iff.1 hj).1
          simp at this
          omega
        have h2 := hcell j (by omega)
        rw [add_plain] at h2
        rw [h2]
        have h3 := hwz zs[j] (List.getElem_mem (by omega))
        have h4 := bounds_u8 h3
        have e : v = UInt8.ofNat (zs[j]'(by omega)).toNat := by
          rw [List.getElem?_map, List.getElem?_take, if_pos hjl, List.getElem?_eq_getElem (by omega)] at hj
          simpa using hj.symm
        rw [e]
        have hz2 : zs.getD j 0 = zs[j]'(by omega) := by simp [List.getD, List.getElem?_eq_getElem (show j < zs.length by omega)]
        rw [hz2]
        unfold bv
        congr 2
        rw [UInt8.toNat_ofNat']
        omega
    · intro h0 b hb
      cases hb
      have h1 : 0 < len := by
        rcases Nat.eq_zero_or_pos len with h | h
        · subst h; simp at h0
        · exact h
      have := block_lt_of_cell (hcell 0 (by omega))
      simpa [Addr.add] using this

theorem okWide_ver {r : Reach} {b0 : Nat} {v : Value} (h : Value.okWide Try.prog w r b0 37 v) : ∃ cs, v = .agg cs ∧ cs.size = 3 := by
  unfold Value.okWide at h
  rw [Try.underlying37] at h
  obtain ⟨cs, h1, h2, _⟩ := h
  exact ⟨cs, h1, h2.trans cells37⟩

/-- A Version that came in. -/
theorem open_ver {fuel : Nat} {cs : Array Value} {x : DataW H × List MemPlace} (hsz : cs.size = 3) (h : DataW.trod enc Try.prog w base spare held fuel 37 cs.toList = some x) :
    ∃ (S : Int) (ep : Nat) (A : Option Addr) (c : Nat) (l : List UInt8), cs = verV S ep A l.length c ∧ (0 ≤ S ∧ S < 256) ∧ ep < 4294967296 ∧ l.length ≤ c ∧ c ≤ maxLen ∧ BtsB w.heap.size w A l := by
  obtain ⟨l⟩ := cs
  obtain ⟨xs, n, _, _, hlen, hxl, hf⟩ := DataW.trod_struct Try.underlying37 h
  rw [cells37] at hlen
  match l, hlen with
  | [c0, c1, c2], _ =>
    have h0 := hf 0 _ rfl
    have h1 := hf 1 _ rfl
    have h2 := hf 2 _ rfl
    change DataW.trod _ _ _ _ _ _ _ 5 (List.take (Try.prog.cellsOf 5) _) = _ at h0
    change DataW.trod _ _ _ _ _ _ _ 34 (List.take (Try.prog.cellsOf 34) _) = _ at h1
    change DataW.trod _ _ _ _ _ _ _ 35 (List.take (Try.prog.cellsOf 35) _) = _ at h2
    rw [cells5] at h0
    rw [cells34] at h1
    rw [cells35] at h2
    change DataW.trod _ _ _ _ _ _ _ 5 [c0] = _ at h0
    change DataW.trod _ _ _ _ _ _ _ 34 [c1] = _ at h1
    change DataW.trod _ _ _ _ _ _ _ 35 [c2] = _ at h2
    have hx : ∀ i, i < 3 → ∃ y, xs[i]? = some y := fun i hi => ⟨xs[i]'(by rw [hxl]; exact hi), List.getElem?_eq_getElem _⟩
    obtain ⟨y0, e0⟩ := hx 0 (by omega)
    obtain ⟨y1, e1⟩ := hx 1 (by omega)
    obtain ⟨y2, e2⟩ := hx 2 (by omega)
    rw [e0] at h0
    rw [e1] at h1
    rw [e2] at h2
    obtain ⟨k0, q0, _, w0⟩ := DataW.trod_int Try.underlying5 h0
    obtain ⟨k1, q1, _, w1⟩ := DataW.trod_int Try.underlying34 h1
    obtain ⟨l, A, d, r2, s1, s2, s3⟩ := open_bytes h2
    injection q0 with q0 _
    injection q1 with q1 _
    have b1 : 0 ≤ k1 ∧ k1 < 4294967296 := by
      have := w1
      simp [Lit.wf, IntKind.min, IntKind.max, IntKind.signed, IntKind.bits] at this
      omega
    obtain ⟨ep, rfl⟩ : ∃ ep : Nat, k1 = ep := ⟨k1.toNat, by omega⟩
    subst q0 q1 r2
    have b0 := bounds_u8 w0
    exact ⟨k0, ep, A, d, l, rfl, by omega, by omega, s1, s2, s3⟩

theorem cells63 : Try.prog.cellsOf 63 = 3 := by kernel_rfl
theorem okWide_arr {r : Reach} {b0 : Nat} {v : Value} (h : Value.okWide Try.prog w r b0 63 v) : ∃ cs, v = .agg cs ∧ cs.size = 3 := by
  unfold Value.okWide at h
  rw [Try.underlying63] at h
  obtain ⟨cs, h1, h2, _⟩ := h
  exact ⟨cs, h1, h2.trans cells63⟩

/-- Three bytes that came in. -/
theorem open_three {fuel : Nat} {cs : Array Value} {x : DataW H × List MemPlace} (hsz : cs.size = 3) (h : DataW.trod enc Try.prog w base spare held fuel 63 cs.toList = some x) :
    ∃ a b c : Int, cs = #[.int .u8 a, .int .u8 b, .int .u8 c] ∧ (0 ≤ a ∧ a < 256) ∧ (0 ≤ b ∧ b < 256) ∧ (0 ≤ c ∧ c < 256) := by
  obtain ⟨l⟩ := cs
  match l, hsz with
  | [c0, c1, c2], _ =>
    obtain ⟨ys, m, _, rfl, _, hl, hf⟩ := DataW.trod_array Try.underlying63 h
    match ys, hl with
    | [y0, y1, y2], _ =>
      have h0 := hf 0 (by omega)
      have h1 := hf 1 (by omega)
      have h2 := hf 2 (by omega)
      simp [cells5] at h0 h1 h2
      obtain ⟨a, e0, rfl, s0⟩ := DataW.trod_int Try.underlying5 h0
      obtain ⟨b, e1, rfl, s1⟩ := DataW.trod_int Try.underlying5 h1
      obtain ⟨c, e2, rfl, s2⟩ := DataW.trod_int Try.underlying5 h2
      simp at e0 e1 e2
      subst e0 e1 e2
      have t0 := bounds_u8 s0; have t1 := bounds_u8 s1; have t2 := bounds_u8 s2; exact ⟨a, b, c, rfl, by omega, by omega, by omega⟩
end
end Go.Proofs.Ytoefbjeclghfhaa
