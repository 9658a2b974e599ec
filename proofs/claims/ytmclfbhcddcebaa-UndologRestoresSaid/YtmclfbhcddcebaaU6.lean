/- A loop over slices.Backward; logs in memory. -/
import Derived.Test.YtmclfbhcddcebaaU5
namespace Go.Proofs.Ytmclfbhcddcebaa
open Go.RowKit Go.Shelf
set_option linter.unusedSimpArgs false
set_option linter.unusedVariables false

attribute [local go_sem] Oper.semAt_some

theorem own_keeps {β : Type} {X : List Nat} {W0 : World} : OwnFrom W0.heap.size (fun (_ : β) W => Keeps X W0 W) := by
  intro s W W' row hs hg hr
  have k : Keeps row.toList W W' := Keeps.grown hg (by intro g h; rw [h]; simp)
  have h1 : Keeps (X ++ row.toList) W0 W := hs.mono (fun x hx => .inl (List.mem_append_left _ hx))
  have h2 : Keeps (X ++ row.toList) W W' := k.mono (fun x hx => .inl (List.mem_append_right _ hx))
  refine (h1.trans h2).mono (fun x hx => ?_)
  rcases List.mem_append.1 hx with h | h
  · exact .inl h
  · exact .inr (hr x (Option.mem_toList.1 h)).1
/-- The changes' cells. -/
def flatC : List Raw → List Value
  | [] => []
  | r :: rs => .int .i64 r.t :: .int .i64 r.id :: .slice r.Ao r.no r.co :: .slice r.An r.nn r.cn :: flatC rs
theorem flatC_len : ∀ l, (flatC l).length = l.length * 4
  | [] => rfl
  | v :: r => by
    show (flatC r).length + 1 + 1 + 1 + 1 = (r.length + 1) * 4
    rw [flatC_len]
    omega
theorem flatC_append : ∀ a b, flatC (a ++ b) = flatC a ++ flatC b
  | [], _ => rfl
  | r :: a, b => by
    show _ :: _ :: _ :: _ :: flatC (a ++ b) = _ :: _ :: _ :: _ :: (flatC a ++ flatC b)
    rw [flatC_append]
theorem flatC_get : ∀ (l : List Raw) (i : Nat) (r : Raw), l[i]? = some r → (flatC l)[i * 4]? = some (.int .i64 r.t) ∧ (flatC l)[i * 4 + 1]? = some (.int .i64 r.id) ∧ (flatC l)[i * 4 + 2]? = some (.slice r.Ao r.no r.co) ∧ (flatC l)[i * 4 + 3]? = some (.slice r.An r.nn r.cn)
  | [], i, v, h => by cases h
  | x :: r, 0, v, h => by
    obtain rfl : x = v := by simpa using h
    exact ⟨rfl, rfl, rfl, rfl⟩
  | x :: r, i + 1, v, h => by
    have ih := flatC_get r i v (by simpa using h)
    rw [show (i + 1) * 4 = i * 4 + 1 + 1 + 1 + 1 by omega]
    exact ih
theorem raws_of_own {w : World} {base n c : Nat} {A : Option Addr} {R : List Raw} (h : w.ownsRow base 35 4 (.slice A n c) n (flatC R)) (hn : R.length = n) (h0 : 0 < n) : ∃ g, A = some ⟨g, 0, none⟩ ∧ g < w.heap.size ∧ base ≤ g ∧ RawsAt w g 0 R := by
  obtain ⟨g, c', hv, _, _, hb, hlt, hc, _⟩ := own_row3 h h0
  injection hv with hA _ _
  refine ⟨g, hA, hlt, hb, fun i r hi => ?_⟩
  obtain ⟨h0, h1, h2, h3⟩ := flatC_get R i r hi
  rw [Nat.zero_add]
  exact ⟨hc _ _ h0, hc _ _ h1, hc _ _ h2, hc _ _ h3⟩
/-- The rows of changes. -/
def RawsIs (w : World) (X : List Nat) (R : List Raw) (L : List Chg) : Prop := R.length = L.length ∧ ∀ (i : Nat) (r : Raw) (c : Chg), R[i]? = some r → L[i]? = some c → RawIs w X r c
theorem RawsIs.keep {w w' : World} {X Y : List Nat} {R : List Raw} {L : List Chg} (h : RawsIs w X R L) (hk : Keeps Y w w') (hY : ∀ y ∈ Y, y ∈ X ∨ w.heap.size ≤ y) : RawsIs w' X R L := ⟨h.1, fun i r c hr hc => (h.2 i r c hr hc).keep hk hY⟩
theorem RawsIs.other {w : World} {X Y : List Nat} {R : List Raw} {L : List Chg} (h : RawsIs w X R L) (hY : ∀ y ∈ Y, y ∈ X ∨ w.heap.size ≤ y) : RawsIs w Y R L := ⟨h.1, fun i r c hr hc => (h.2 i r c hr hc).other hY⟩
def cAt (L : List Chg) (k : Nat) : Chg := (L[k]?).getD chg0
theorem RawsIs.at_ {w : World} {X : List Nat} {R : List Raw} {L : List Chg} (h : RawsIs w X R L) (k : Nat) : RawIs w X (rAt R k) (cAt L k) := by
  unfold rAt cAt
  rcases Nat.lt_or_ge k R.length with hk | hk
  · have hk' : k < L.length := by rw [← h.1]; exact hk
    rw [List.getElem?_eq_getElem hk, List.getElem?_eq_getElem hk']
    exact h.2 k _ _ (List.getElem?_eq_getElem hk) (List.getElem?_eq_getElem hk')
  · have hk' : L.length ≤ k := by rw [← h.1]; exact hk
    rw [List.getElem?_eq_none hk, List.getElem?_eq_none hk']
    exact raw0_is _ _

/-- The row of a change. -/
def hits (c b : Chg) : Bool := decide (b.t = c.t) && decide (b.id = c.id)
def valid (c : Chg) : Bool := !(decide (c.t < 0) || decide (c.id < 1) || (decide (c.old.length = 0) && decide (c.new.length = 0)))
def fits (c : Chg) : List Chg → Bool
  | [] => true
  | b :: r => if hits c b then decide (b.new = c.old) else fits c r
/-- May the change be added? -/
def addOk (L : List Chg) (c : Chg) : Bool := valid c && fits c L.reverse

/-- The slots ahead of a round's body. -/
def slotsB (T : Array Value) (p1 p2 px : Nat) (R : List Raw) (k Bx : Nat) : Array Value := ((T.setIfInBounds p1 (.int .i64 (k : Int))).setIfInBounds p2 (.agg (rAt R k).cells.toArray)).setIfInBounds px (.pointer (some ⟨Bx, 0, none⟩))
theorem kp2_alloc {Bs g : Nat} {W : World} (o : Obj) : Kp2 Bs g W (W.alloc o) := fun a v _ h => ((Keeps.refl [] W).alloc o).cellEq h (by simp)
theorem blk_turn {W W' : World} {row : Option Nat} {B : Nat} {t : TypeId} {cs : Array Value} (h : Blk W B t cs) (hg : W.grownBy W' row) (hr : ∀ r, row = some r → ∃ o : Obj, W.heap[r]? = some o ∧ o.isCells = false) : Blk W' B t cs := by
  have k : Keeps row.toList W W' := Keeps.grown hg (by intro g h; rw [h]; simp)
  refine h.keep k (fun hm => ?_)
  obtain ⟨o, ho, hc⟩ := hr B (Option.mem_toList.1 hm)
  have h1 : W.heap[B]? = some (.cells cs t (0, 0)) := h
  rw [h1] at ho
  cases ho
  cases hc
/-- A loop over slices.Backward whose loop variable lies in a box. -/
theorem loop_back {gs p1 p2 px : Nat} {assign body : Code} {Q : Exit → Act → World → Prop} {T : Array Value} {W0 : World} (Bs g off c : Nat) (A : Option Addr) (R : List Raw) (hreach : R.length ≤ 1000000)
    (hg : T[gs]? = some (.func (.func 49) #[] #[.pointer (some ⟨Bs, 0, none⟩)])) (hBs : Bs < W0.heap.size) (hc : W0.cell? ⟨Bs, 0, none⟩ = some (.slice A R.length c)) (hR : R = [] ∨ (A = some ⟨g, off, none⟩ ∧ g < W0.heap.size ∧ RawsAt W0 g off R))
    (I : List Nat → World → Prop) (Ix : Code → List Nat → World → Prop) (hI : OwnFrom W0.heap.size I) (hIx : ∀ c, OwnFrom W0.heap.size (Ix c)) (h0 : I [] W0) (hsz : ∀ pre W, I pre W → W0.heap.size ≤ W.heap.size)
    (hassign : ∀ (l k : Nat) (W : World) (K : Act → World → Prop), K { tmps := slotsB T p1 p2 px R k W.heap.size, defers := [] } (W.alloc (.cells (rAt R k).cells.toArray 35)) →
      assign.wpIn (Fence.wide.inRound l) 3 Try.prog (Exit.then K (fun _ _ _ => False)) { tmps := (T.setIfInBounds p1 (.int .i64 (k : Int))).setIfInBounds p2 (.agg (rAt R k).cells.toArray), defers := [] } W)
    (hbody : ∀ (l : Nat) (pre : List Nat) (k Bx : Nat) (W : World), W0.heap.size ≤ l → I pre W → W0.heap.size ≤ Bx → Hid (Blk W Bx 35 (rAt R k).cells.toArray) → pre.length < R.length →
      body.wpIn (Fence.wide.inRound l) 3 Try.prog (ownPostG W0.heap.size (Kp2 Bs g) I Ix (pre ++ [k]) W) { tmps := slotsB T p1 p2 px R k Bx, defers := [] } W)
    (hdone : ∀ (D : Nat) (xs : List Nat) (W : World), W0.heap.size ≤ D → xs = upto (fun j => R.length - 1 - j) R.length → I xs W → W.heap[D]? = some (.deferred (some [])) → Q .normal { tmps := T, defers := [{ target := .collected D, args := #[] }] } W)
    (hstop : ∀ (D : Nat) (c : Code) (pre : List Nat) (W : World), W0.heap.size ≤ D → (∃ k, k ≤ R.length ∧ pre = upto (fun j => R.length - 1 - j) k) → Ix c pre W → W.heap[D]? = some (.deferred (some [])) → c.wpIn Fence.wide 5 Try.prog Q { tmps := T, defers := [{ target := .collected D, args := #[] }] } W) :
    (Code.rangeFunc (.tmp gs) #[p1, p2] assign body).wpIn Fence.wide 5 Try.prog Q { tmps := T, defers := [] } W0 := by
  refine wpIn_rangeFunc_ownH rfl (by omega) (gf := 49) (lb := #[.pointer (some ⟨Bs, 0, none⟩)]) (by simp [Act.eval, hg]) trivial (enters_of Try.func49 (by kernel_rfl) rfl)
    (back_stops Fence.wide 4 trivial rfl (by omega) Bs g off c A R hreach W0 hBs hc hR) kp2_t kp2_b (Below.refl _ _) (fun _ => rfl) I Ix hI hIx h0
    (fun k a' W => ∃ Bx, W0.heap.size ≤ Bx ∧ Hid (Blk W Bx 35 (rAt R k).cells.toArray) ∧ a' = { tmps := slotsB T p1 p2 px R k Bx, defers := [] })
    (fun k a' => fun s W W' row hs hg hr => by
      obtain ⟨Bx, h1, h2, h3⟩ := hs
      exact ⟨Bx, h1, Lib.hid (blk_turn h2.out hg (fun r e => (hr r e).2)), h3⟩) ?_ ?_ ?_ ?_
  · intro l pre k W K hi hK
    have e : ((#[p1, p2].zip (encB R k)).foldl (fun t (p, v) => t.setIfInBounds p v) T) = (T.setIfInBounds p1 (.int .i64 (k : Int))).setIfInBounds p2 (.agg (rAt R k).cells.toArray) := by simp [encB]
    rw [e]
    refine hassign l k W K ?_
    exact hK _ _ ((KeepsOthers.alloc _ _).from _) (kp2_alloc _) (hI.alloc _ hi) ⟨W.heap.size, hsz pre W hi, Lib.hid (Blk.new W 35 _), rfl⟩
  · rintro l pre k a' W hl _ hi ⟨Bx, hBx, bX, rfl⟩ hlt
    exact hbody l pre k Bx W hl hi hBx bX hlt
  · intro D xs W hD hx hi hd
    exact hdone D xs W hD hx hi hd
  · intro D c pre W hD hx hi hd
    exact hstop D c pre W hD hx hi hd

end Go.Proofs.Ytmclfbhcddcebaa
