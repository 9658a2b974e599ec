/- The operations that come in, and the law's function few. -/
import Derived.Test.YtpjmkjcgpbpfdaaDisk6
namespace Go.Proofs.Ytpjmkjcgpbpfdaa
open Go.RowKit
set_option linter.unusedSimpArgs false

theorem Bts.keep_of {w w' : World} {X : List Nat} {A : Option Addr} {l : List UInt8} (h : Bts w A l) (hk : Keeps X w w') (hx : l ≠ [] → ∀ a, A = some a → a.block ∉ X) : Bts w' A l := by
  by_cases h0 : l = []
  · exact .inl h0
  · exact h.keep hk (hx h0)

structure OpD where
  kind : Int
  sector : Int
  n : Int
  data : List UInt8

/-- The integers fit 64 bits. -/
def OpD.fits (o : OpD) : Prop := (-9223372036854775808 ≤ o.kind ∧ o.kind ≤ 9223372036854775807) ∧ (-9223372036854775808 ≤ o.sector ∧ o.sector ≤ 9223372036854775807) ∧ (-9223372036854775808 ≤ o.n ∧ o.n ≤ 9223372036854775807)

/-- A slice of bytes that lies below block B. -/
def ArgB (w : World) (B : Nat) (v : Value) (l : List UInt8) : Prop :=
  ∃ A c, v = .slice A l.length c ∧ l.length ≤ c ∧ c ≤ maxLen ∧ Bts w A l ∧ (l ≠ [] → ∀ a, A = some a → a.block < B)

/-- The operations behind the address A. -/
def OpsAt (w : World) (B : Nat) (A : Option Addr) (ops : List OpD) : Prop :=
  ∀ i o, ops[i]? = some o → o.fits ∧ ∃ g off v, A = some ⟨g, off, none⟩ ∧ g < B ∧ w.cell? ⟨g, off + i * 4, none⟩ = some (.int .i64 o.kind) ∧ w.cell? ⟨g, off + i * 4 + 1, none⟩ = some (.int .i64 o.sector) ∧
    w.cell? ⟨g, off + i * 4 + 2, none⟩ = some (.int .i64 o.n) ∧ w.cell? ⟨g, off + i * 4 + 3, none⟩ = some v ∧ ArgB w B v o.data

theorem ArgB.keep {w w' : World} {B : Nat} {v : Value} {l : List UInt8} {X : List Nat} (h : ArgB w B v l) (hk : Keeps X w w') (hX : ∀ x ∈ X, B ≤ x) : ArgB w' B v l := by
  obtain ⟨A, c, rfl, h1, h2, h3, h4⟩ := h
  exact ⟨A, c, rfl, h1, h2, h3.keep_of hk (fun h0 a ha hx => by have := h4 h0 a ha; have := hX _ hx; omega), h4⟩

theorem OpsAt.keep {w w' : World} {B : Nat} {A : Option Addr} {ops : List OpD} {X : List Nat} (h : OpsAt w B A ops) (hk : Keeps X w w') (hX : ∀ x ∈ X, B ≤ x) : OpsAt w' B A ops := by
  intro i o ho
  obtain ⟨hf, g, off, v, rfl, hg, h1, h2, h3, h4, h5⟩ := h i o ho
  have hx : g ∉ X := fun hx => by have := hX g hx; omega
  exact ⟨hf, g, off, v, rfl, hg, hk.cellEq h1 hx, hk.cellEq h2 hx, hk.cellEq h3 hx, hk.cellEq h4 hx, h5.keep hk hX⟩

def few (ops : List OpD) : Bool := ops.all (fun o => decide (o.data.length ≤ 100)) && decide (ops.length ≤ 60)

theorem few_false {ops : List OpD} {k : Nat} {o : OpD} (ho : ops[k]? = some o) (h : 100 < o.data.length) : few ops = false := by
  unfold few
  rw [Bool.and_eq_false_iff]
  left
  rw [List.all_eq_false]
  exact ⟨o, List.mem_of_getElem? ho, by simpa using h⟩

theorem few_all {ops : List OpD} (h : ∀ (i : Nat) (o : OpD), ops[i]? = some o → o.data.length ≤ 100) : few ops = decide (ops.length ≤ 60) := by
  unfold few
  rw [show ops.all (fun o => decide (o.data.length ≤ 100)) = true from ?_, Bool.true_and]
  rw [List.all_eq_true]
  intro o ho
  obtain ⟨i, hi⟩ := List.getElem?_of_mem ho
  simpa using h i o hi

set_option maxHeartbeats 400000 in
theorem few_any (w : World) (A : Option Addr) (ops : List OpD) (n c B : Nat) (hn : ops.length = n) (hnc : n ≤ c) (hc : c ≤ 9223372036854775807) (hO : OpsAt w B A ops) :
    Calls Try.prog 10 #[.slice A n c] w fun e w' => e = .returned (.bool (few ops)) ∧ Keeps [] w w' := by
  obtain ⟨r, hr⟩ : ∃ r, r = few ops := ⟨_, rfl⟩
  rw [← hr]
  replace hr := Lib.hid hr
  replace hO := Lib.hid hO
  replace hn := Lib.hid hn
  go_enter Try.func10, Try.ntmps10
  go_wp2
  go_loopw [7] (fun i wr => ∃ k : Nat, k ≤ n ∧ i = .int .i64 k ∧ Keeps [] w wr ∧ ∀ (j : Nat) (o : OpD), j < k → ops[j]? = some o → o.data.length ≤ 100) (fun i _ => n - (intOf i).toNat)
  case atStart => exact ⟨0, Nat.zero_le _, rfl, Keeps.refl _ _, fun j o hj => absurd hj (Nat.not_lt_zero _)⟩
  case round =>
    obtain ⟨k, hk, rfl, hkw, hall⟩ := hrel
    have hOk := hO.out.keep hkw (by simp)
    replace hkw := Lib.hid hkw
    replace hall := Lib.hid hall
    by_cases hlt : k < n
    · have hkl : k < ops.length := by rw [hn.out]; exact hlt
      obtain ⟨o, ho⟩ : ∃ o, ops[k]? = some o := ⟨ops[k], List.getElem?_eq_getElem hkl⟩
      obtain ⟨hfit, g, off, v, rfl, hg, c0, c1, c2, c3, A', c', rfl, hb1, hb2, hb3, hb4⟩ := hOk k o ho
      replace ho := Lib.hid ho
      clear hOk hb3 hb4
      by_cases hd : (100 : Int) < (o.data.length : Int)
      · go_wp2
        go_ret
        exact ⟨by rw [hr.out, few_false ho.out (by omega)]; rfl, hkw.out.alloc _⟩
      · go_wp2
        go_roundw
        case rel =>
          refine ⟨k + 1, by omega, by go_num, hkw.out.alloc _, fun j o' hj ho' => ?_⟩
          by_cases hjk : j < k
          · exact hall.out j o' hjk ho'
          · obtain rfl : j = k := by omega
            have := ho.out
            rw [ho'] at this
            injection this with this
            subst this
            omega
        case measure => simp [intOf]; omega
    · obtain rfl : k = n := by omega
      clear hOk
      have hfa := few_all (ops := ops) (fun i o ho => hall.out i o (by have := (List.getElem?_eq_some_iff.1 ho).1; have := hn.out; omega) ho)
      rw [hn.out] at hfa
      replace hfa := Lib.hid hfa
      go_wp2
      go_ret
      refine ⟨?_, hkw.out⟩
      rw [hr.out, hfa.out]
      simp
      omega
end Go.Proofs.Ytpjmkjcgpbpfdaa
