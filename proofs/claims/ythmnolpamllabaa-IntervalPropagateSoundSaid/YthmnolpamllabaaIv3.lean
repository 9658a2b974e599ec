/- The contract of DeleteFunc at 'empty'. -/
import Derived.Test.YthmnolpamllabaaIv2
import Derived.Test.YthmnolpamllabaaShelf
namespace Go.Proofs.Ythmnolpamllabaa
open Go.RowKit
set_option linter.unusedSimpArgs false
set_option linter.unusedVariables false

def cv (x : Iv) : List Value := [.int .i64 x.1, .int .i64 x.2]
theorem cv_len (x : Iv) : (cv x).length = 2 := rfl
theorem cv_one (x : Iv) : ∀ v ∈ cv x, v.oneCell' = true := by
  intro v hv
  simp [cv] at hv
  rcases hv with rfl | rfl <;> rfl
theorem flat_one : ∀ (l : List Iv), ∀ v ∈ flat l, v.oneCell' = true
  | [], v, h => by cases h
  | x :: r, v, h => by
    rcases List.mem_cons.1 h with rfl | h
    · rfl
    · rcases List.mem_cons.1 h with rfl | h
      · rfl
      · exact flat_one r v h

/-- Not empty. -/
def full (x : Iv) : Bool := decide (x.1 ≤ x.2)
theorem empty_full (x : Iv) : decide (x.2 < x.1) = !full x := by
  unfold full
  by_cases h : x.1 ≤ x.2
  · rw [decide_eq_true h, decide_eq_false (by omega)]; rfl
  · rw [decide_eq_false h, decide_eq_true (by omega)]; rfl

theorem splice_flat : ∀ (L : List Iv) (i : Nat) (x : Iv) (tail : List Value), i < L.length → splice (flat L ++ tail) (i * 2) (cv x) = flat (L.set i x) ++ tail
  | y :: L, 0, x, tail, _ => rfl
  | y :: L, i + 1, x, tail, h => by
    have ih := splice_flat L i x tail (by simpa using h)
    have e : splice (flat (y :: L) ++ tail) ((i + 1) * 2) (cv x) = .int .i64 y.1 :: .int .i64 y.2 :: splice (flat L ++ tail) (i * 2) (cv x) := by
      unfold splice
      rw [show (i + 1) * 2 = i * 2 + 1 + 1 by omega, show i * 2 + 1 + 1 + (cv x).length = (i * 2 + (cv x).length) + 1 + 1 by omega]
      rfl
    rw [e, ih]
    rfl

/-- clear of a row of pairs, in the middle of a block. -/
theorem run_clear_two (w : World) (ty g off n c : Nat) (cur : List Value) (hg : Blk w g 39 cur.toArray) (hfit : off + n * 2 ≤ cur.length) :
    ∃ (w' : World) (new : List Value), (Builtin.clear_ #[28] ty #[.slice (some ⟨g, off, none⟩) n c]).run Try.prog w = .ok (.tuple #[]) w' ∧ Blk w' g 39 new.toArray ∧ new.length = cur.length ∧ new.take off = cur.take off ∧ Keeps [g] w w' := by
  cases n with
  | zero => exact ⟨w, cur, by simp [Builtin.clear_, run_underlying Try.underlying28], hg, rfl, rfl, Keeps.refl _ _⟩
  | succ n =>
    have hz : (Builtin.zeroCells (Value.cells (.agg #[.int .i64 0, .int .i64 0])) (n + 1)).toList.length = (n + 1) * 2 := by simp [Builtin.zeroCells, Value.cells]
    have h1 : ∀ v ∈ (Builtin.zeroCells (Value.cells (.agg #[.int .i64 0, .int .i64 0])) (n + 1)).toList, v.oneCell' = true := by
      intro v hv
      simp [Builtin.zeroCells, Value.cells] at hv
      obtain ⟨a, _, rfl⟩ := hv
      have : a % 2 < 2 := Nat.mod_lt _ (by decide)
      rcases (by omega : a % 2 = 0 ∨ a % 2 = 1) with h | h <;> rw [h] <;> rfl
    obtain ⟨Z, hZ⟩ : ∃ Z, Z = (Builtin.zeroCells (Value.cells (.agg #[.int .i64 0, .int .i64 0])) (n + 1)).toList := ⟨_, rfl⟩
    rw [← hZ] at hz h1
    have hst : (storeCells ⟨g, off, none⟩ Z 0).run Try.prog w = .ok () (w.setRow g (cur.take off ++ Z ++ cur.drop (off + Z.length)).toArray) := run_storeCells_at Try.prog g off 39 Z 0 cur.toArray w hg (by rw [hz]; simpa using hfit) h1
    refine ⟨w.setRow g (cur.take off ++ Z ++ cur.drop (off + Z.length)).toArray, cur.take off ++ Z ++ cur.drop (off + Z.length), ?_, setRow_heap w g _ _ 39 _ hg, ?_, ?_, (Keeps.refl [g] w).setRow (g := g) (.inl (List.mem_singleton.2 rfl)) _⟩
    · simp [Builtin.clear_, run_underlying Try.underlying28, Try.zeroValue39, ← hZ, hst]
    · rw [List.length_append, List.length_append, List.length_take, List.length_drop, hz]; omega
    · rw [List.append_assoc, List.take_append_of_le_length (by rw [List.length_take]; omega), List.take_take, Nat.min_self]

theorem wpList_clear_two {w : World} {ops : Array Oper} {rest : List Oper} {o : Oper} {a : Act} {Q : Exit → Act → World → Prop} (hgd : Region.wanted o (yielded ops a.tmps) = true) (s : Operand)
    (ho : o.op = .call { callee := .builtin .clear, args := #[s], argTypes := #[28] }) (g off n c : Nat) (hx : a.eval s = .slice (some ⟨g, off, none⟩) n c) (cur : List Value) (hg : Blk w g 39 cur.toArray) (hfit : off + n * 2 ≤ cur.length)
    (h : ∀ (w' : World) (new : List Value), Hid (Blk w' g 39 new.toArray) → Hid (new.length = cur.length ∧ new.take off = cur.take off) → Hid (Keeps [g] w w') → wpList Try.prog ops Q rest (a.put o.dst (.tuple #[])) w') : wpList Try.prog ops Q (o :: rest) a w := by
  refine wpList_wanted hgd fun K hK => ?_
  obtain ⟨w', new, hr, h1, h2, h3, h4⟩ := run_clear_two w o.type g off n c cur hg hfit
  unfold Oper.wp execOp
  simp only [ho, resolve, invoke, builtin, Sem.run_bind, Sem.run_pure, Result.andThen_ok, List.map_toArray, List.map_cons, List.map_nil, hx, hr]
  exact hK _ _ (h w' new (Lib.hid h1) (Lib.hid ⟨h2, h3⟩) (Lib.hid h4))

theorem pred_empty (w : World) : PredBelow Try.prog 35 #[] (fun x : Iv => .agg (cv x).toArray) (fun x => !full x) w := by
  intro W x hb
  refine (empty_any W x.1 x.2).mono ?_
  rintro e w' ⟨rfl, k⟩
  refine ⟨by rw [empty_full], ?_⟩
  exact ⟨hb.os ▸ k.os, hb.tape ▸ k.tape, hb.output ▸ k.output, Nat.le_trans hb.size k.size, fun g hg => (k.block g (Nat.lt_of_lt_of_le hg hb.size) (by simp)).trans (hb.block g hg)⟩
end Go.Proofs.Ythmnolpamllabaa
