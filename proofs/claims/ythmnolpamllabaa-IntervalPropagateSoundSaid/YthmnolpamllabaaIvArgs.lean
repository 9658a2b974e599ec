/- The arguments that come in: intervals; calls on rows that the call owns. -/
import Derived.Test.YthmnolpamllabaaIv13
import Derived.ProofKit
import Derived.OpenShut
import Derived.Deep.Slices
import Derived.Lib.SmallJoins
namespace Go.Proofs.Ythmnolpamllabaa
open Go.RowKit Go.ChangeShapes Go.WideShapes Go.Deep
set_option linter.unusedSimpArgs false
set_option linter.unusedVariables false

section
variable {H : Type} {enc : TypeId × Value → H} {w : World} {base : Nat} {spare : Nat → Bool} {held : Bool}

set_option maxRecDepth 100000
theorem cells2 : Try.prog.cellsOf 2 = 1 := by kernel_rfl
theorem cells3 : Try.prog.cellsOf 3 = 1 := by kernel_rfl
theorem cells38 : Try.prog.cellsOf 38 = 2 := by kernel_rfl

/-- The two cells of an interval. -/
theorem open_iv {fuel : Nat} {cs : List Value} {x : DataW H × List MemPlace} (h : DataW.trod enc Try.prog w base spare held fuel 38 cs = some x) :
    ∃ (p : Iv), cs = [.int .i64 p.1, .int .i64 p.2] ∧ In64 p.1 ∧ In64 p.2 := by
  obtain ⟨xs, n, _, _, hlen, hxl, hf⟩ := DataW.trod_struct Try.underlying38 h
  rw [cells38] at hlen
  match cs, hlen with
  | [c0, c1], _ =>
    have h0 := hf 0 _ rfl
    have h1 := hf 1 _ rfl
    change DataW.trod _ _ _ _ _ _ _ 2 (List.take (Try.prog.cellsOf 2) _) = _ at h0
    change DataW.trod _ _ _ _ _ _ _ 2 (List.take (Try.prog.cellsOf 2) _) = _ at h1
    rw [cells2] at h0 h1
    change DataW.trod _ _ _ _ _ _ _ 2 [c0] = _ at h0
    change DataW.trod _ _ _ _ _ _ _ 2 [c1] = _ at h1
    have hx : ∀ i, i < 2 → ∃ y, xs[i]? = some y := fun i hi => ⟨xs[i]'(by rw [hxl]; exact hi), List.getElem?_eq_getElem _⟩
    obtain ⟨y0, e0⟩ := hx 0 (by omega)
    obtain ⟨y1, e1⟩ := hx 1 (by omega)
    rw [e0] at h0
    rw [e1] at h1
    obtain ⟨k0, q0, _, w0⟩ := DataW.trod_int Try.underlying2 h0
    obtain ⟨k1, q1, _, w1⟩ := DataW.trod_int Try.underlying2 h1
    injection q0 with q0 _
    injection q1 with q1 _
    subst q0 q1
    have b0 := bounds_i64 w0
    have b1 := bounds_i64 w1
    exact ⟨(k0, k1), rfl, by unfold In64; omega, by unfold In64; omega⟩

/-- Intervals that came in. -/
theorem open_ivs {fuel : Nat} {v : Value} {x : DataW H × List MemPlace} (h : DataW.trod enc Try.prog w base spare held fuel 23 [v] = some x) :
    ∃ A c l, v = .slice A (List.length l) c ∧ List.length l ≤ c ∧ c ≤ maxLen ∧ IvAt w w.heap.size A l ∧ All64 l := by
  rcases open_slice Try.underlying23 h with ⟨hcs, _⟩ | ⟨a, len, cap, m, n, D, Pl, hcs, _, hl, hm, hmm, _, hi⟩
  · injection hcs with hcs _
    subst hcs
    exact ⟨none, 0, [], rfl, Nat.le_refl _, by simp [maxLen], IvAt.nil _ _ _, fun x hx => by cases hx⟩
  · injection hcs with hcs _
    subst hcs
    have hlm : len ≤ m := by rw [hmm]; split <;> omega
    have key : ∀ i, i < len → ∃ p : Iv, (In64 p.1 ∧ In64 p.2) ∧ w.cell? (a.add (i * 2)) = some (.int .i64 p.1) ∧ w.cell? ((a.add (i * 2)).add 1) = some (.int .i64 p.2) := by
      intro i hil
      obtain ⟨cs', hc, ht⟩ := hi i (by omega)
      rw [cells38] at hc
      obtain ⟨p, rfl, hf⟩ := open_iv ht
      obtain ⟨_, _, hat⟩ := World.cells?_some hc
      refine ⟨p, hf, ?_, hat 1 (by omega)⟩
      have := hat 0 (by omega)
      simpa [Addr.add] using this
    obtain ⟨f, hf⟩ := choose_lt key
    have he : ∀ i p, ((List.range len).map f)[i]? = some p → i < len ∧ p = f i := fun i p hp => by
      have hil : i < len := by
        have := (List.getElem?_eq_some_iff.1 hp).1
        simpa using this
      rw [List.getElem?_map, List.getElem?_range hil] at hp
      exact ⟨hil, by simpa using hp.symm⟩
    refine ⟨some a, cap, (List.range len).map f, by simp, by simpa using hl, hm, fun i p hp => ?_, fun p hp => ?_⟩
    · obtain ⟨hil, rfl⟩ := he i p hp
      obtain ⟨_, h0, h1⟩ := hf i hil
      have hsp : a.spot = none := by
        obtain ⟨_, h00, _⟩ := hf 0 (by omega)
        have := World.cell?_spot h00
        simpa [Addr.add] using this
      obtain ⟨g, off, sp⟩ := a
      subst hsp
      simp only [add_plain] at h0 h1
      exact ⟨g, off, rfl, block_lt_of_cell h0, h0, h1⟩
    · obtain ⟨i, hp⟩ := List.getElem?_of_mem hp
      obtain ⟨hil, rfl⟩ := he i p hp
      exact (hf i hil).1
end

/-- A row that the call owns, and what else turned: nothing. -/
def Got (e : TypeId) (l : List Iv) (w w' : World) (en : Ending) : Prop := ∃ A c, en = .returned (.slice A l.length c) ∧ Hid (w'.ownsRow w.heap.size e 2 (.slice A l.length c) l.length (flat l)) ∧ Hid (A = none ↔ l.length = 0) ∧ Hid (Keeps [] w w')
theorem RowPost.got {e : TypeId} {l : List Iv} {w w' : World} {en : Ending} (h : RowPost e l w en w') : Got e l w w' en := by
  obtain ⟨A, c, h1, h2, h3, h4⟩ := h
  exact ⟨A, c, h1, Lib.hid h2, Lib.hid h3, Lib.hid h4⟩
theorem own_plain {w : World} {base n c : Nat} {e : TypeId} {A : Option Addr} {xs : List Value} (h : w.ownsRow base e 2 (.slice A n c) n xs) : A = none ∨ ∃ g off, A = some ⟨g, off, none⟩ := by
  rcases h.2 with ⟨hv, _⟩ | ⟨g, cap, cur, hv, _⟩
  · injection hv with hA _ _
    exact .inl hA
  · injection hv with hA _ _
    exact .inr ⟨g, 0, hA⟩
theorem to_got (w : World) (B : Nat) (A : Option Addr) (c : Nat) (l : List Iv) (hB : B ≤ w.heap.size) (hO : IvAt w B A l) (hn : l.length ≤ 1000000) : Calls Try.prog 14 #[.slice A l.length c] w fun e w' => Got 39 l w w' e :=
  (to_any w B A l l.length c rfl hB hO (by omega)).mono fun _ _ h => h.got
theorem of_got (w : World) (base : Nat) (A : Option Addr) (c : Nat) (l : List Iv) (h : w.ownsRow base 39 2 (.slice A l.length c) l.length (flat l)) (hn : l.length ≤ 1000000) : Calls Try.prog 17 #[.slice A l.length c] w fun e w' => Got 38 l w w' e :=
  (of_any w w.heap.size A l l.length c rfl (Nat.le_refl _) (IvAt.of_own h rfl) (by omega)).mono fun _ _ h => h.got
theorem of2_got (w : World) (base : Nat) (A : Option Addr) (c : Nat) (l : List Iv) (h : w.ownsRow base 39 2 (.slice A l.length c) l.length (flat l)) (h64 : All64 l) (hn : l.length ≤ 1000000) :
    Calls Try.prog 23 #[.slice A l.length c] w fun e w' => ∃ out, Hid (IsOf l out) ∧ Got 39 out w w' e :=
  (of2_any w w.heap.size A l l.length c rfl (Nat.le_refl _) (IvAt.of_own h rfl) (own_plain h) h64 (by omega)).mono fun _ _ ⟨out, h1, h2⟩ => ⟨out, Lib.hid h1, h2.got⟩
theorem rof_got (w : World) (B : Nat) (A : Option Addr) (c : Nat) (l : List Iv) (hB : B ≤ w.heap.size) (hO : IvAt w B A l) (h64 : All64 l) (hn : l.length ≤ 1000000) :
    Calls Try.prog 25 #[.slice A l.length c] w fun e w' => ∃ out, Hid (IsOf l out) ∧ Got 38 out w w' e :=
  (rof_any w B A l l.length c rfl hB hO h64 (by omega)).mono fun _ _ ⟨out, h1, h2⟩ => ⟨out, Lib.hid h1, h2.got⟩
theorem same_got (w : World) (b1 b2 e1 e2 : Nat) (A1 A2 : Option Addr) (c1 c2 : Nat) (l1 l2 : List Iv) (h1 : w.ownsRow b1 e1 2 (.slice A1 l1.length c1) l1.length (flat l1)) (h2 : w.ownsRow b2 e2 2 (.slice A2 l2.length c2) l2.length (flat l2)) (hn : l1.length ≤ 1000000) :
    Calls Try.prog 16 #[.slice A1 l1.length c1, .slice A2 l2.length c2] w fun e w' => e = .returned (.bool (decide (l1 = l2))) ∧ Hid (Keeps [] w w') :=
  (same_any w _ _ A1 A2 l1 l2 l1.length c1 l2.length c2 rfl rfl (IvAt.of_own h1 rfl) (IvAt.of_own h2 rfl) (by omega)).mono fun _ _ ⟨h1, h2⟩ => ⟨h1, Lib.hid h2⟩
theorem valid_got (w : World) (base : Nat) (A : Option Addr) (c : Nat) (l : List Iv) (h : w.ownsRow base 39 2 (.slice A l.length c) l.length (flat l)) (h64 : All64 l) (hn : l.length ≤ 1000000) :
    Calls Try.prog 27 #[.slice A l.length c] w fun e w' => ∃ b, e = .returned (.bool b) ∧ Hid (b = true ↔ Canon l) ∧ Hid (Keeps [] w w') :=
  (valid_any w w.heap.size A l l.length c rfl (Nat.le_refl _) (IvAt.of_own h rfl) h64 (by omega)).mono fun _ _ ⟨b, h1, h2, h3⟩ => ⟨b, h1, Lib.hid h2, Lib.hid h3⟩
end Go.Proofs.Ythmnolpamllabaa
