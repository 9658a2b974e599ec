/- slices.Backward over changes: its iterator's contract. -/
import Derived.Test.YtmclfbhcddcebaaU3
import Derived.RangeFuncNested
import Derived.RangeFuncBound
import Derived.RangeFuncCalls
import Derived.RangeFuncLeaves
import Derived.Shelf.Abstract
import Derived.Shelf.RegionOpen
import Derived.WalkKit
import Derived.OwnWalkIn
import Derived.TacticsInMore
import Derived.LoopNIn
import Derived.LoopIn
namespace Go.Proofs.Ytmclfbhcddcebaa
open Go.RowKit Go.Shelf
set_option linter.unusedSimpArgs false
set_option linter.unusedVariables false

attribute [local go_sem] Oper.semAt_some

def upto {α : Type} (f : Nat → α) (k : Nat) : List α := (List.range k).map f
theorem upto_succ {α : Type} (f : Nat → α) (k : Nat) : upto f (k + 1) = upto f k ++ [f k] := by simp [upto, List.range_succ]
theorem upto_length {α : Type} (f : Nat → α) (k : Nat) : (upto f k).length = k := by simp [upto]

def raw0 : Raw := ⟨0, 0, none, 0, 0, none, 0, 0⟩
def chg0 : Chg := ⟨0, 0, [], []⟩
theorem raw0_is (w : World) (X : List Nat) : RawIs w X raw0 chg0 := ⟨rfl, rfl, rfl, rfl, RowAt.nil _ _ _, RowAt.nil _ _ _⟩
/-- The cells of changes. -/
def RawsAt (w : World) (g off : Nat) (R : List Raw) : Prop := ∀ (i : Nat) (r : Raw), R[i]? = some r → w.cell? ⟨g, off + i * 4, none⟩ = some (.int .i64 r.t) ∧ w.cell? ⟨g, off + i * 4 + 1, none⟩ = some (.int .i64 r.id) ∧ w.cell? ⟨g, off + i * 4 + 2, none⟩ = some (.slice r.Ao r.no r.co) ∧ w.cell? ⟨g, off + i * 4 + 3, none⟩ = some (.slice r.An r.nn r.cn)
/-- What a round that goes on keeps: the cells of two blocks. -/
def Kp2 (Bs g : Nat) (W W' : World) : Prop := ∀ (a : Addr) (v : Value), a.block = Bs ∨ a.block = g → W.cell? a = some v → W'.cell? a = some v
theorem Kp2.refl (Bs g : Nat) (W : World) : Kp2 Bs g W W := fun _ _ _ h => h
theorem Kp2.trans {Bs g : Nat} {A B C : World} (h : Kp2 Bs g A B) (k : Kp2 Bs g B C) : Kp2 Bs g A C := fun a v ha hc => k a v ha (h a v ha hc)
theorem kp2_t {Bs g : Nat} {A B C : World} (h : Kp2 Bs g A B) (k : Kp2 Bs g B C) : Kp2 Bs g A C := h.trans k
theorem kp2_b {Bs g : Nat} {w : World} (W : World) (l : Nat) (o o' : Obj) (_ : w.heap.size ≤ l) (h : W.heap[l]? = some o) (ho : o.isCells = false) (_ : o.isWalk = false) : Kp2 Bs g W (W.putObj l o') := fun a v _ hc =>
  cell_kept hc (grownBy_putObj' W l o') (fun r e => by cases e; exact ⟨o, h, ho⟩)
theorem Kp2.of_keeps {Bs g : Nat} {X : List Nat} {W W' : World} (h : Keeps X W W') (h1 : Bs ∉ X) (h2 : g ∉ X) : Kp2 Bs g W W' := fun a v ha hc => h.cellEq hc (by rcases ha with e | e <;> rw [e] <;> assumption)
theorem RawsAt.kp {Bs g off : Nat} {A B : World} {R : List Raw} (h : RawsAt A g off R) (hb : Kp2 Bs g A B) : RawsAt B g off R := fun i r hi => by
  obtain ⟨h0, h1, h2, h3⟩ := h i r hi
  exact ⟨hb _ _ (.inr rfl) h0, hb _ _ (.inr rfl) h1, hb _ _ (.inr rfl) h2, hb _ _ (.inr rfl) h3⟩
def rAt (R : List Raw) (k : Nat) : Raw := (R[k]?).getD raw0
def encB (R : List Raw) (k : Nat) : Array Value := #[.int .i64 (k : Int), .agg (rAt R k).cells.toArray]

set_option maxRecDepth 100000 in
set_option maxHeartbeats 4000000 in
theorem back1_in (F : Fence) (n : Nat) (h49 : F.fn 49) (hro : F.round = none) (hn : 1 ≤ n) (l Bs g off cap : Nat) (R : List Raw) (hreach : R.length ≤ 1000000) (J Jx : List Nat → World → Prop)
    (hY : ∀ pre x W, J pre W → pre.length < R.length → YieldAt F (n - 1) Try.prog l (encB R x) W fun e W' =>
      (e = .returned (.bool true) ∧ J (pre ++ [x]) W' ∧ Kp2 Bs g W W') ∨ (e = .returned (.bool false) ∧ Jx (pre ++ [x]) W'))
    (W : World) (hBs : W.cell? ⟨Bs, 0, none⟩ = some (.slice (some ⟨g, off, none⟩) R.length cap)) (hc : RawsAt W g off R) (h0 : J [] W) :
    CallsIn F n Try.prog 49 #[.func (.yield l) #[] #[], .pointer (some ⟨Bs, 0, none⟩)] W fun e W' => (∃ v, e = .returned v) ∧
      ((∃ ys, ys = upto (fun j => R.length - 1 - j) R.length ∧ J ys W') ∨ (∃ pre, (∃ k, k ≤ R.length ∧ pre = upto (fun j => R.length - 1 - j) k) ∧ Jx pre W')) := by
  obtain ⟨len, hlen⟩ : ∃ len, R.length = len := ⟨_, rfl⟩
  rw [hlen] at hreach hY hBs ⊢
  replace hlen := Lib.hid hlen
  replace hc := Lib.hid hc
  have hw0 : wrap64 ((len : Int) - 1) = (len : Int) - 1 := by unfold wrap64; omega
  refine callsIn_of_wp Try.func49 rfl h49 ?_ hro
  simp only [Try.ntmps49, List.size_toArray, List.length_cons, List.length_nil, Nat.reduceAdd, Nat.reduceSub, Array.replicate_succ, Array.replicate_zero, List.push_toArray, List.append_toArray, List.nil_append, List.cons_append]
  gi_wp2
  gi_loopw [3] (fun i wr => ∃ k : Nat, k ≤ len ∧ i = .int .i64 ((len : Int) - 1 - (k : Int)) ∧ J (upto (fun j => len - 1 - j) k) wr ∧ Kp2 Bs g W wr)
    (fun i _ => (intOf i + 1).toNat)
  case atStart => exact ⟨0, Nat.zero_le _, by simp, h0, Kp2.refl _ _ _⟩
  case round =>
    obtain ⟨k, hk, rfl, hJs, hnx⟩ := hrel
    have hbs := hnx _ _ (.inl rfl) hBs
    by_cases hlt : k < len
    · obtain ⟨m, hm⟩ : ∃ m, m = len - 1 - k := ⟨_, rfl⟩
      have hmi : (len : Int) - 1 - (k : Int) = (m : Int) := by omega
      obtain ⟨r, hr⟩ : ∃ r, R[m]? = some r := ⟨R[m]'(by rw [hlen.out]; omega), List.getElem?_eq_getElem _⟩
      obtain ⟨c0, c1, c2, c3⟩ := (hc.out.kp hnx) m r hr
      obtain ⟨fn, tmps, assign, body, hy, hR⟩ := hY _ m wr hJs (by rw [upto_length]; exact hlt)
      unfold encB rAt at hy
      rw [hr] at hy
      unfold Raw.cells at hy
      dsimp only [Option.getD] at hy
      rw [hmi]
      have hml : (m : Int) < (len : Int) := by omega
      have hw1 : wrap64 ((m : Int) - 1) = (m : Int) - 1 := by unfold wrap64; omega
      have hup : Hid (upto (fun j => len - 1 - j) k ++ [m] = upto (fun j => len - 1 - j) (k + 1)) := Lib.hid (by rw [upto_succ, hm])
      have hm1 : Hid ((m : Int) - 1 = (len : Int) - 1 - ((k + 1 : Nat) : Int)) := Lib.hid (by omega)
      replace hr := Lib.hid hr
      replace hm := Lib.hid hm
      clear hmi
      gi_wp2
      refine hR.mono ?_
      rintro e W3 (⟨rfl, hJ3, hk3⟩ | ⟨rfl, hJx3⟩)
      · rw [hup.out] at hJ3
        have hbs3 := hk3 _ _ (.inl rfl) hbs
        gi_wp2
        go_roundw
        case rel => exact ⟨k + 1, by omega, by first | (rw [hm1.out]; done) | (congr 1; done) | (congr 1; have := hm1.out; omega), hJ3, hnx.trans hk3⟩
        case measure => (simp [intOf]) <;> omega
      · rw [hup.out] at hJx3
        gi_wp2
        refine bodyPost_ret (results_none rfl _ _ _) rfl ?_
        exact ⟨⟨_, rfl⟩, .inr ⟨_, ⟨k + 1, by omega, rfl⟩, hJx3⟩⟩
    · obtain rfl : k = len := by omega
      have hneg : ¬ ((k : Int) - 1 - (k : Int) ≥ 0) := by omega
      gi_wp2
      go_end0
      exact ⟨⟨_, rfl⟩, .inl hJs⟩

set_option maxRecDepth 100000 in
set_option maxHeartbeats 1000000 in
/-- .. at no change: no round. -/
theorem back1_nil_in (F : Fence) (n : Nat) (h49 : F.fn 49) (hro : F.round = none) (l Bs c : Nat) (A : Option Addr) (J : List Nat → World → Prop) (W : World) (hBs : W.cell? ⟨Bs, 0, none⟩ = some (.slice A 0 c)) (h0 : J [] W) :
    CallsIn F n Try.prog 49 #[.func (.yield l) #[] #[], .pointer (some ⟨Bs, 0, none⟩)] W fun e W' => (∃ v, e = .returned v) ∧ J [] W' := by
  refine callsIn_of_wp Try.func49 rfl h49 ?_ hro
  simp only [Try.ntmps49, List.size_toArray, List.length_cons, List.length_nil, Nat.reduceAdd, Nat.reduceSub, Array.replicate_succ, Array.replicate_zero, List.push_toArray, List.append_toArray, List.nil_append, List.cons_append]
  gi_wp2
  gi_loopw [3] (fun i wr => i = .int .i64 (-1) ∧ J [] wr) (fun _ _ => 0)
  case atStart => exact ⟨rfl, h0⟩
  case round =>
    obtain ⟨rfl, hJs⟩ := hrel
    gi_wp2
    go_end0
    exact ⟨⟨_, rfl⟩, hJs⟩

set_option maxHeartbeats 1000000 in
/-- slices.Backward: the slice is boxed; the function value captures the box. -/
theorem back_in (F : Fence) (n : Nat) (h29 : F.fn 29) (hro : F.round = none) (a : Option Addr) (len cap : Nat) (w : World) :
    CallsIn F n Try.prog 29 #[.slice a len cap] w fun e w' => e = .returned (.func (.func 49) #[] #[.pointer (some ⟨w.heap.size, 0, none⟩)]) ∧ w' = w.alloc (.cells #[.slice a len cap] 28) := by
  refine callsIn_of_wp Try.func29 rfl h29 ?_ hro
  simp only [Try.ntmps29, List.size_toArray, List.length_cons, List.length_nil, Nat.reduceAdd, Nat.reduceSub, Array.replicate_succ, Array.replicate_zero, List.push_toArray, List.append_toArray, List.nil_append, List.cons_append]
  gi_wp2
  go_ret
  exact ⟨rfl, rfl⟩

/-- slices.Backward(l): from the last change to the first one; or the first k of these. -/
theorem back_stops (F : Fence) (n : Nat) (h49 : F.fn 49) (hro : F.round = none) (hn : 1 ≤ n) (Bs g off c : Nat) (A : Option Addr) (R : List Raw) (hreach : R.length ≤ 1000000) (w : World) (hBs : Bs < w.heap.size)
    (hc : w.cell? ⟨Bs, 0, none⟩ = some (.slice A R.length c)) (hI : R = [] ∨ (A = some ⟨g, off, none⟩ ∧ g < w.heap.size ∧ RawsAt w g off R)) :
    SeqStopsK F n Try.prog 49 #[.pointer (some ⟨Bs, 0, none⟩)] (encB R) (Kp2 Bs g) (fun ys => ys = upto (fun j => R.length - 1 - j) R.length)
      (fun pre => ∃ k, k ≤ R.length ∧ pre = upto (fun j => R.length - 1 - j) k) R.length w := fun l J Jx W hW _ _ hY h0 => by
  have hc' := (hW.cell (p := ⟨Bs, 0, none⟩) hBs).trans hc
  rcases hI with rfl | ⟨rfl, hg, hR⟩
  · exact (back1_nil_in F n h49 hro l Bs c A J W hc' h0).mono fun e W' ⟨he, hj⟩ => ⟨he, .inl ⟨_, rfl, hj⟩⟩
  · refine back1_in F n h49 hro hn l Bs g off c R hreach J Jx hY W hc' (fun i r hi => ?_) h0
    obtain ⟨h0, h1, h2, h3⟩ := hR i r hi
    exact ⟨(hW.cell (p := ⟨g, _, none⟩) hg).trans h0, (hW.cell (p := ⟨g, _, none⟩) hg).trans h1, (hW.cell (p := ⟨g, _, none⟩) hg).trans h2, (hW.cell (p := ⟨g, _, none⟩) hg).trans h3⟩
end Go.Proofs.Ytmclfbhcddcebaa
