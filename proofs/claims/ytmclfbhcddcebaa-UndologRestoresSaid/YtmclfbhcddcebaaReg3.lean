/- Drawn regions: two operations that may come up; a struct's store at a step. -/
import Derived.Test.YtmclfbhcddcebaaReg2
namespace Go.Proofs.Ytmclfbhcddcebaa
open Go.RowKit

section
variable {P : Program} {ops : Array Oper} {Q : Exit → Act → World → Prop} {md : Region.Mode} {S : World → Prop} {n : Nat}

/-- Two operations may come up. -/
theorem wpAnyI_two {i j : Nat} {oi oj : Oper} {fuel : Nat} {listed : Array Bool} {a : Act} {w : World} (hi : ops[i]? = some oi) (hj : ops[j]? = some oj) (hr : Region.ready md ops listed = [i, j])
    (h1 : ∀ K' : Act → World → Prop, (∀ a w, (i = n ∨ S w) → wpAnyI P md ops Q S n fuel (listed.setIfInBounds i true) a w → K' a w) → if Region.wanted oi (yielded ops a.tmps) = true then Oper.wp P oi a w K' Q else K' (a.put oi.dst undef) w)
    (h2 : ∀ K' : Act → World → Prop, (∀ a w, (j = n ∨ S w) → wpAnyI P md ops Q S n fuel (listed.setIfInBounds j true) a w → K' a w) → if Region.wanted oj (yielded ops a.tmps) = true then Oper.wp P oj a w K' Q else K' (a.put oj.dst undef) w) :
    wpAnyI P md ops Q S n (fuel + 1) listed a w :=
  ⟨fun h0 => absurd (hr ▸ h0) (by simp), fun k hk => by
    rw [hr] at hk
    rcases List.mem_cons.1 hk with rfl | hk
    · exact wpOp_step hi (fun K' hK => h1 K' (fun a w h1 h2 => hK a w ⟨h1, h2⟩))
    · obtain rfl : k = j := by simpa using hk
      exact wpOp_step hj (fun K' hK => h2 K' (fun a w h1 h2 => hK a w ⟨h1, h2⟩))⟩
end

/-- A whole struct is stored over a block, at the operation. -/
theorem wp_store_all {P : Program} {w : World} {o : Oper} {a : Act} {K : Act → World → Prop} {Q : Exit → Act → World → Prop} (ty : TypeId) (x y : Operand) (ho : o.op = .store ty x y)
    (g : Nat) (hx : a.eval x = .pointer (some ⟨g, 0, none⟩)) (t : TypeId) (cs new : List Value) (hy : a.eval y = .agg new.toArray) (hg : Blk w g t cs.toArray)
    (hi : (P.info? ty).map (·.size) = some new.length) (hfit : new.length = cs.length) (h1 : ∀ v ∈ new, v.oneCell' = true)
    (h : ∀ w', Hid (Blk w' g t new.toArray) → Keeps [g] w w' → K (a.put o.dst undef) w') : Oper.wp P o a w K Q := by
  have hst := run_storeCells_at P g 0 t new 0 cs.toArray w hg (by simp; omega) h1
  have hrun : (storeVar ty ⟨g, 0, none⟩ (.agg new.toArray)).run P w = .ok () (w.setRow g (splice cs 0 new).toArray) := by
    cases hq : P.info? ty with
    | none => simp [hq] at hi
    | some i =>
      have hs : i.size = new.length := by simpa [hq] using hi
      simp [storeVar, Sem.run_bind, sizeOf, typeInfo, hq, hs, Value.cells, hst, splice]
  unfold Oper.wp execOp
  simp only [ho, hx, hy, Instr.storeAt, Instr.sureAddr, Sem.run_bind, Sem.run_pure, Result.andThen_ok, hrun]
  refine h _ (Lib.hid ?_) ((Keeps.refl [g] w).setRow (g := g) (.inl (List.mem_singleton.2 rfl)) _)
  have := setRow_heap w g _ (splice cs 0 new).toArray t _ hg
  rw [splice_all cs new hfit.symm] at this ⊢
  exact this
end Go.Proofs.Ytmclfbhcddcebaa
