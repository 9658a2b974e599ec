/- Equal, ContainsFunc at 'empty', a store in the middle of a block; what Propagate computes. -/
import Derived.Test.YthmnolpamllabaaIv9
namespace Go.Proofs.Ythmnolpamllabaa
open Go.RowKit
set_option linter.unusedSimpArgs false
set_option linter.unusedVariables false

set_option maxHeartbeats 3200000 in
theorem equal_any (w : World) (B1 B2 : Nat) (A1 A2 : Option Addr) (l1 l2 : List Iv) (n c m d : Nat) (hl1 : l1.length = n) (hl2 : l2.length = m) (hO1 : IvAt w B1 A1 l1) (hO2 : IvAt w B2 A2 l2) (hn : n ≤ 9000000000) :
    Calls Try.prog 38 #[.slice A1 n c, .slice A2 m d] w fun e w' => e = .returned (.bool (decide (l1 = l2))) ∧ Keeps [] w w' := by
  replace hO1 := Lib.hid hO1
  replace hO2 := Lib.hid hO2
  by_cases hnm : n = m
  · subst hnm
    replace hl1 := Lib.hid hl1
    replace hl2 := Lib.hid hl2
    go_enter Try.func38, Try.ntmps38
    go_wp2_with fail
    go_loopw [13] (fun i wr => ∃ k : Nat, k ≤ n ∧ i = .int .i64 k ∧ (∃ q, wr = w.drewN q) ∧ Hid (l1.take k = l2.take k)) (fun i _ => n - (intOf i).toNat)
    case atStart => exact ⟨0, Nat.zero_le _, rfl, ⟨0, rfl⟩, Lib.hid rfl⟩
    case round =>
      obtain ⟨k, hk, rfl, ⟨q, rfl⟩, hsame⟩ := hrel
      by_cases hlt : k < n
      · obtain ⟨⟨x1, x2⟩, hx⟩ : ∃ x, l1[k]? = some x := ⟨l1[k]'(by rw [hl1.out]; exact hlt), List.getElem?_eq_getElem _⟩
        obtain ⟨⟨y1, y2⟩, hy⟩ : ∃ x, l2[k]? = some x := ⟨l2[k]'(by rw [hl2.out]; exact hlt), List.getElem?_eq_getElem _⟩
        obtain ⟨g1, o1, rfl, _, c1, c2⟩ := hO1.out k _ hx
        obtain ⟨g2, o2, rfl, _, c3, c4⟩ := hO2.out k _ hy
        replace hx := Lib.hid hx
        replace hy := Lib.hid hy
        dsimp only at c1 c2 c3 c4
        by_cases he : x1 = y1 ∧ x2 = y2
        · obtain ⟨rfl, rfl⟩ := he
          go_wp2_with fail
          go_quiet (fail)
          go_wp2_with fail
          go_roundw
          case rel => exact ⟨k + 1, by omega, by go_num, ⟨_, rfl⟩, Lib.hid (take_eq_of hx.out hy.out hsame.out)⟩
          case measure => simp [intOf]; omega
        · have hne : l1 ≠ l2 := fun h => he (by rw [h, hy.out] at hx; have := hx.out; simp at this; exact ⟨this.1.symm, this.2.symm⟩)
          have hf : decide (l1 = l2) = false := decide_eq_false hne
          replace hne := Lib.hid hne
          by_cases e1 : x1 = y1
          · have hb : (x2 == y2) = false := by simpa using fun h => he ⟨e1, h⟩
            subst e1
            replace he := Lib.hid he
            go_wp2_with fail
            go_quiet (fail)
            go_wp2_with fail
            go_ret
            exact ⟨by first | rfl | (rw [hf]; rfl), ((Keeps.refl [] w).drewN _).drewN _⟩
          · have hb : (x1 == y1) = false := by simpa using e1
            replace he := Lib.hid he
            replace e1 := Lib.hid e1
            go_wp2_with fail
            go_quiet (fail)
            go_wp2_with fail
            go_ret
            exact ⟨by first | rfl | (rw [hf]; rfl), ((Keeps.refl [] w).drewN _).drewN _⟩
      · obtain rfl : k = n := by omega
        have ht : decide (l1 = l2) = true := decide_eq_true (by
          have := hsame.out
          rwa [List.take_of_length_le (by rw [hl1.out]; exact Nat.le_refl _), List.take_of_length_le (by rw [hl2.out]; exact Nat.le_refl _)] at this)
        go_wp2_with fail
        go_ret
        exact ⟨by first | rfl | (rw [ht]; rfl), (Keeps.refl [] w).drewN _⟩
  · have hne : decide (l1 = l2) = false := decide_eq_false (fun h => hnm (by rw [← hl1, ← hl2, h]))
    replace hl1 := Lib.hid hl1
    replace hl2 := Lib.hid hl2
    have hb : ((n : Int) == (m : Int)) = false := by simpa using (by omega : ¬ (n : Int) = m)
    replace hnm : ¬ (n : Int) = m := by omega
    go_enter Try.func38, Try.ntmps38
    go_wp2_with fail
    go_ret
    exact ⟨by rw [hne]; simp [hb], Keeps.refl _ _⟩


/-- A whole struct is stored into the middle of a block, at the operation. -/
theorem wp_store_mid {P : Program} {w : World} {o : Oper} {a : Act} {K : Act → World → Prop} {Q : Exit → Act → World → Prop} (ty : TypeId) (x y : Operand) (ho : o.op = .store ty x y)
    (g off : Nat) (hx : a.eval x = .pointer (some ⟨g, off, none⟩)) (t : TypeId) (cs new : List Value) (hy : a.eval y = .agg new.toArray) (hg : Blk w g t cs.toArray)
    (hi : (P.info? ty).map (·.size) = some new.length) (hfit : off + new.length ≤ cs.length) (h1 : ∀ v ∈ new, v.oneCell' = true)
    (h : ∀ w', Hid (Blk w' g t (splice cs off new).toArray) → Keeps [g] w w' → K (a.put o.dst undef) w') : Oper.wp P o a w K Q := by
  have hst := run_storeCells_at P g off t new 0 cs.toArray w hg (by simpa using hfit) h1
  have hrun : (storeVar ty ⟨g, off, none⟩ (.agg new.toArray)).run P w = .ok () (w.setRow g (splice cs off new).toArray) := by
    cases hq : P.info? ty with
    | none => simp [hq] at hi
    | some i =>
      have hs : i.size = new.length := by simpa [hq] using hi
      simp [storeVar, Sem.run_bind, sizeOf, typeInfo, hq, hs, Value.cells, hst, splice]
  unfold Oper.wp execOp
  simp only [ho, hx, hy, Instr.storeAt, Instr.sureAddr, Sem.run_bind, Sem.run_pure, Result.andThen_ok, hrun]
  exact h _ (Lib.hid (setRow_heap w g _ _ t _ hg)) ((Keeps.refl [g] w).setRow (g := g) (.inl (List.mem_singleton.2 rfl)) _)

/-- Is one of them empty? -/
theorem contains_any (w : World) (B g n c : Nat) (l : List Iv) (hl : l.length = n) (hO : IvAt w B (some ⟨g, 0, none⟩) l) (hg : g < w.heap.size) (hn : n ≤ 1000000) :
    Calls Try.prog 34 #[.slice (some ⟨g, 0, none⟩) n c, .func (.func 35) #[] #[]] w fun e w' => e = .returned (.bool (l.any fun x => !full x)) ∧ Keeps [] w w' := by
  have := Try.slices_ContainsFunc_f34 (α := Iv) 2 Try.isAgg39 Try.sizeOf39 cv cv_len (fun x => !full x) 35 #[] enter35 g 0 n c l w (pred_empty w) (by omega) (by omega) hg (fun j hj i v hv => by
    obtain ⟨x, hx⟩ : ∃ x, l[j]? = some x := ⟨l[j], List.getElem?_eq_getElem hj⟩
    obtain ⟨g', off, he, _, h1, h2⟩ := hO j x hx
    simp only [Option.some.injEq, Addr.mk.injEq] at he
    obtain ⟨rfl, rfl, _⟩ := he
    rw [getElem!_pos l j hj, show l[j] = x by rw [List.getElem?_eq_getElem hj] at hx; exact Option.some.inj hx] at hv
    match i, hv with
    | 0, hv => simp [cv] at hv; rw [← hv]; exact h1
    | 1, hv => simp [cv] at hv; rw [← hv]; exact h2)
  rw [List.take_of_length_le (by omega)] at this
  refine this.mono ?_
  rintro e w' ⟨he, b⟩
  exact ⟨he, Keeps.of_below (X := []) b (fun z h1 h2 => absurd h2 (by omega))⟩

/-- A constraint: its constant, its terms, whether it is an equation. -/
structure Con where
  c : Int
  co : List Iv
  eq : Bool

/-- The terms of a constraint narrow the domains; none: one is empty. -/
def coefP (f : Con) : List Iv → List Iv → Bool → Option (List Iv × Bool)
  | [], D, s => some (D, s)
  | x :: r, D, s => if x.2 = 0 then coefP f r D s else
      if full (narM (D.getD x.1.toNat (0, 0)) x.2 (woM D x.1 f.co f.c) f.eq) = true then coefP f r (D.set x.1.toNat (narM (D.getD x.1.toNat (0, 0)) x.2 (woM D x.1 f.co f.c) f.eq)) true else none
/-- A constraint without terms may not hold. -/
def lost (f : Con) : Bool := decide (0 < f.c) || (f.eq && decide (f.c ≠ 0))
def conP (f : Con) (D : List Iv) : Option (List Iv) := match coefP f f.co D false with
  | none => none
  | some (D', s) => if (!s && lost f) = true then none else some D'
def roundP : List Con → List Iv → Option (List Iv)
  | [], D => some D
  | f :: r, D => match conP f D with
    | none => none
    | some D' => roundP r D'
def roundsP (l : List Con) : Nat → List Iv → Option (List Iv)
  | 0, D => some D
  | k + 1, D => match roundP l D with
    | none => none
    | some D' => if D = D' then some D' else roundsP l k D'
def propP (l : List Con) (D : List Iv) : Option (List Iv) := if (D.any fun x => !full x) = true then none else roundsP l 32 D

/-- The constraints and the domains are of the size that Good asks for, and no domain is empty. -/
structure GoodP (D : List Iv) (l : List Con) : Prop where
  lin : ∀ f ∈ l, GoodL D f.co f.c
  ok : ∀ d ∈ D, d.1 ≤ d.2
theorem narM_in {x r : Iv} {a : Int} {eq : Bool} : x.1 ≤ (narM x a r eq).1 ∧ (narM x a r eq).2 ≤ x.2 := by
  unfold narM
  split <;> cases eq <;> simp <;> omega
theorem goodL_set {D co : List Iv} {c : Int} {n : Nat} {d y : Iv} (h : GoodL D co c) (hd : D[n]? = some d) (h1 : d.1 ≤ y.1) (h2 : y.2 ≤ d.2) (h3 : y.1 ≤ y.2) : GoodL (D.set n y) co c := by
  refine ⟨fun z hz => ?_, fun x hx => by rw [List.length_set]; exact h.var x hx, h.fac, h.con, h.few⟩
  rcases List.mem_or_eq_of_mem_set hz with hz | rfl
  · exact h.dm z hz
  · have := h.dm d (List.mem_of_getElem? hd)
    omega
theorem goodP_set {D : List Iv} {l : List Con} {n : Nat} {d y : Iv} (h : GoodP D l) (hd : D[n]? = some d) (h1 : d.1 ≤ y.1) (h2 : y.2 ≤ d.2) (h3 : y.1 ≤ y.2) : GoodP (D.set n y) l :=
  ⟨fun f hf => goodL_set (h.lin f hf) hd h1 h2 h3, fun z hz => by
    rcases List.mem_or_eq_of_mem_set hz with hz | rfl
    · exact h.ok z hz
    · exact h3⟩
end Go.Proofs.Ythmnolpamllabaa
