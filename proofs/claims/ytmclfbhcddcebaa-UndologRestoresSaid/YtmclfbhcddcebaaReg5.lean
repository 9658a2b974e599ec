/- A region that draws its order, in a round of a loop over an iterator. -/
import Derived.Test.YtmclfbhcddcebaaReg4
import Derived.OrdersIn
import Derived.RangeFuncCalls
import Derived.ControlIn
namespace Go.Proofs.Ytmclfbhcddcebaa
open Go.RowKit

/-- A region that ends normally. -/
def OnlyN (Q : Exit → Act → World → Prop) : Exit → Act → World → Prop
  | .normal, a, w => Q .normal a w
  | _, _, _ => False
theorem wp_onlyN {P : Program} {c : Code} {Q : Exit → Act → World → Prop} {a : Act} {w : World} (h : c.wp P (OnlyN Q) a w) : c.wp P Q a w := Code.wp_mono (fun e a w h => by cases e <;> first | exact h | exact h.elim) h
theorem onlyN_out {Q : Exit → Act → World → Prop} (h : LetsOut (OnlyN Q)) : False := by obtain ⟨a, w, h⟩ := h; exact h

theorem oper_round {P : Program} {o : Oper} {a : Act} {w : World} {K : Act → World → Prop} {Q : Exit → Act → World → Prop} (l n : Nat) (hd : ∀ c, o.op ≠ .defer c) (h : o.wp P a w K (OnlyN Q)) : o.wpIn (Fence.wide.inRound l) n P a w K Q := by
  refine ⟨fun f _ => trivial, ?_⟩
  rw [Oper.semAt_eq _ _ _ hd]
  unfold Oper.wp at h
  generalize (execOp a.eval o).run P w = r at *
  cases r with
  | ok x w' =>
    cases x <;> simp only [Oper.upon, Oper.uponIn] at h ⊢
    all_goals first
      | exact h
      | exact h.elim
      | (refine ⟨fun h => (by cases h), ?_⟩; exact CallsIn.inRound l (callsIn_wide.2 (h.mono (fun e w'' he => by cases e <;> first | exact he | exact he.elim | exact (onlyN_out he).elim))))
      | (refine ⟨fun h => (by cases h), ?_⟩; exact fun c cs _ => let ⟨v, w', r, s⟩ := h c cs; ⟨v, w', r, stepsIn_wide.2 s⟩)
  | halt x w' => cases x <;> simp only [Oper.upon, Oper.uponIn] at h ⊢ <;> first | exact h | exact h.elim

section
variable {P : Program} {ops : Array Oper} {Q : Exit → Act → World → Prop} {md : Region.Mode}
def noDefer (ops : Array Oper) : Bool := ops.all fun o => match o.op with | .defer _ => false | _ => true
theorem noDefer_spec (h : noDefer ops = true) {i : Nat} {o : Oper} (ho : ops[i]? = some o) : ∀ c, o.op ≠ .defer c := by
  intro c hc
  have := Array.all_eq_true'.1 h o (Array.mem_of_getElem? ho)
  rw [hc] at this
  cases this
theorem wpAnyIn_of_wpAny (l n : Nat) (hno : noDefer ops = true) : ∀ (fuel : Nat) (listed : Array Bool) (a : Act) (w : World), wpAny P md ops (OnlyN Q) fuel listed a w → wpAnyIn (Fence.wide.inRound l) n P md ops Q fuel listed a w
  | 0, _, _, _, h => h
  | fuel + 1, listed, a, w, h => by
    refine ⟨fun hr => h.1 hr, fun i hi => ?_⟩
    have hw := h.2 i hi
    unfold wpOp at hw
    unfold wpOpIn
    cases ho : ops[i]? with
    | none =>
      rw [ho] at hw
      exact wpAnyIn_of_wpAny l n hno fuel _ a w hw
    | some o =>
      rw [ho] at hw
      dsimp only at hw ⊢
      by_cases hwt : Region.wanted o (yielded ops a.tmps) = true
      · rw [if_pos hwt] at hw ⊢
        rcases hw with hw | ⟨_, hw⟩
        · exact Oper.wpIn_mono (fun a' w' h' => wpAnyIn_of_wpAny l n hno fuel _ a' w' h') (oper_round l n (noDefer_spec hno ho) hw)
        · exact (onlyN_out hw).elim
      · rw [if_neg hwt] at hw ⊢
        exact ⟨fun _ _ => trivial, wpAnyIn_of_wpAny l n hno fuel _ _ w hw⟩
theorem round_region_J {S : World → Prop} {n : Nat} (l m : Nat) {id : Nat} {a : Act} {w : World} (hm : P.follows .mixedOrders = true) (hno : noDefer ops = true)
    (h : wpAnyJ P .any ops (OnlyN Q) S n ops.size (Array.replicate ops.size false) a w.drew) : (Code.region id ops true).wpIn (Fence.wide.inRound l) m P Q a w :=
  wpIn_region_any hm (wpAnyIn_of_wpAny l m hno _ _ _ _ (wpAny_of_J _ _ _ _ h))
end
end Go.Proofs.Ytmclfbhcddcebaa
