/- Rows of operations. -/
import Derived.Test.YtmclfbhcddcebaaU40
import Derived.Test.YtmclfbhcddcebaaU41
import Derived.Test.YtmclfbhcddcebaaLawUndo
namespace Go.Proofs.Ytmclfbhcddcebaa
open Go.RowKit Go.Shelf
set_option linter.unusedSimpArgs false
set_option linter.unusedVariables false

abbrev OR := Oo × Raw
def flatO : List OR → List Value
  | [] => []
  | p :: r => oCells p.1 p.2 ++ flatO r
theorem oCells_len (o : Oo) (r : Raw) : (oCells o r).length = 7 := rfl
theorem flatO_len : ∀ l, (flatO l).length = l.length * 7
  | [] => rfl
  | v :: r => by
    show (oCells v.1 v.2 ++ flatO r).length = (r.length + 1) * 7
    rw [List.length_append, flatO_len, oCells_len]
    omega
theorem flatO_append : ∀ a b, flatO (a ++ b) = flatO a ++ flatO b
  | [], _ => rfl
  | r :: a, b => by
    show oCells r.1 r.2 ++ flatO (a ++ b) = (oCells r.1 r.2 ++ flatO a) ++ flatO b
    rw [flatO_append, List.append_assoc]
theorem flatO_get : ∀ (l : List OR) (i : Nat) (p : OR), l[i]? = some p → ∀ j v, (oCells p.1 p.2)[j]? = some v → (flatO l)[i * 7 + j]? = some v
  | [], i, p, h, j, v, hj => by cases h
  | x :: r, 0, p, h, j, v, hj => by
    obtain rfl : x = p := by simpa using h
    show (oCells x.1 x.2 ++ flatO r)[0 * 7 + j]? = some v
    rw [Nat.zero_mul, Nat.zero_add, List.getElem?_append_left (List.getElem?_eq_some_iff.1 hj).1]
    exact hj
  | x :: r, i + 1, p, h, j, v, hj => by
    have ih := flatO_get r i p (by simpa using h) j v hj
    show (oCells x.1 x.2 ++ flatO r)[(i + 1) * 7 + j]? = some v
    rw [List.getElem?_append_right (by rw [oCells_len]; omega), oCells_len, show (i + 1) * 7 + j - 7 = i * 7 + j by omega]
    exact ih
theorem flatO_one : ∀ (l : List OR), ∀ u ∈ flatO l, u.oneCell' = true
  | [], u, h => by cases h
  | p :: r, u, h => by
    rcases List.mem_append.1 (show u ∈ oCells p.1 p.2 ++ flatO r from h) with h | h
    · simp only [oCells, List.mem_cons, List.not_mem_nil, or_false] at h
      rcases h with rfl | rfl | rfl | rfl | rfl | rfl | rfl <;> rfl
    · exact flatO_one r u h
theorem info37 : (Try.prog.info? 37).map (fun i => (i.zero, i.size, i.bytes)) = some (some (.agg #[.int .i64 0, .int .i64 0, .int .i64 0, .slice none 0 0, .slice none 0 0, .string ⟨#[]⟩, .int .i64 0]), 7, 96) := by kernel_rfl
theorem ops_src {w : World} {X : List Nat} {A : Option Addr} {l : List Oo} (h : OpsAt w X A l) : ∃ R : List OR, R.map (·.1) = l ∧ (∀ p ∈ R, RawIs w X p.2 p.1.c) ∧ SrcAt w A l.length (flatO R) := by
  cases l with
  | nil => exact ⟨[], rfl, by simp, .inl rfl⟩
  | cons o0 l0 =>
    obtain ⟨g, off, _, rfl, hgX, _⟩ := h 0 o0 rfl
    obtain ⟨R, h1, h2⟩ := choose_list (P := fun i (p : OR) => (o0 :: l0)[i]? = some p.1 ∧ (∀ j v, (oCells p.1 p.2)[j]? = some v → w.cell? ⟨g, off + i * 7 + j, none⟩ = some v) ∧ RawIs w X p.2 p.1.c) (o0 :: l0).length (fun i hi => by
      obtain ⟨g', off', r, he, _, q1, q2⟩ := h i _ (List.getElem?_eq_getElem hi)
      cases he
      exact ⟨(_, r), List.getElem?_eq_getElem hi, q1, q2⟩)
    refine ⟨R, ?_, fun p hp => ?_, .inr ⟨g, off, rfl, fun j u hj => ?_⟩⟩
    · refine List.ext_getElem? (fun i => ?_)
      rw [List.getElem?_map]
      cases hr : R[i]? with
      | none =>
        have : R.length ≤ i := by
          rcases Nat.lt_or_ge i R.length with hlt | hge
          · rw [List.getElem?_eq_getElem hlt] at hr; cases hr
          · exact hge
        rw [List.getElem?_eq_none (by omega)]
        rfl
      | some p => rw [(h2 i p hr).1]; rfl
    · obtain ⟨i, hi⟩ := List.getElem?_of_mem hp
      exact (h2 i p hi).2.2
    · have hjl : j < R.length * 7 := by rw [← flatO_len]; exact (List.getElem?_eq_some_iff.1 hj).1
      obtain ⟨p, hp⟩ : ∃ p, R[j / 7]? = some p := ⟨R[j / 7]'(by omega), List.getElem?_eq_getElem _⟩
      obtain ⟨_, q1, _⟩ := h2 _ p hp
      have hm : j = j / 7 * 7 + j % 7 := by omega
      obtain ⟨v, hv⟩ : ∃ v, (oCells p.1 p.2)[j % 7]? = some v := ⟨(oCells p.1 p.2)[j % 7]'(by rw [oCells_len]; omega), List.getElem?_eq_getElem _⟩
      have h3 := flatO_get R _ p hp _ v hv
      rw [← hm, hj] at h3
      cases h3
      have := q1 _ u hv
      rw [Nat.add_assoc, ← hm] at this
      exact this
theorem ops_own {w : World} {b n c : Nat} {X : List Nat} {A : Option Addr} {R : List OR} (h : w.ownsRow b 37 7 (.slice A n c) n (flatO R)) (hn : R.length = n) (hR : ∀ p ∈ R, RawIs w X p.2 p.1.c) (hX : ∀ x ∈ X, x < b) : OpsAt w X A (R.map (·.1)) := fun i o hi => by
  rw [List.getElem?_map] at hi
  cases hp : R[i]? with
  | none => rw [hp] at hi; cases hi
  | some p =>
    rw [hp] at hi
    obtain rfl : p.1 = o := by simpa using hi
    have hlt := (List.getElem?_eq_some_iff.1 hp).1
    obtain ⟨g, c', hv, _, _, hb, _, hcell, _⟩ := own_row3 h (by omega)
    injection hv with hA _ _
    exact ⟨g, 0, p.2, hA, fun hm => by have := hX g hm; omega, fun j v hj => by rw [Nat.zero_add]; exact hcell _ _ (flatO_get R i p hp j v hj), hR p (List.mem_of_getElem? hp)⟩

/-! ### the savepoint "here" -/
def HERE : ByteArray := ⟨#[104, 101, 114, 101]⟩
def hereO : Oo := ⟨1, chg0, HERE, 0⟩
/-- What the loop of UndologRestores keeps. -/
def SVP (nb : Nat) (wr : World) (X : List Nat) (sv : Value) (i : Nat) (L : List Chg) (S : List Pnt) : Prop :=
  (i ≤ nb ∧ S = []) ∨ (nb < i ∧ ∃ Lb M, L = Lb ++ M ∧ S = [(HERE, Lb.length)] ∧ match perf [] Lb with
    | some sb => ∃ A c, sv = .slice A sb.length c ∧ ClsAt wr X A sb
    | none => True)
theorem SVP.skip {nb : Nat} {wr : World} {X : List Nat} {sv : Value} {i : Nat} {L : List Chg} {S : List Pnt} (h : SVP nb wr X sv i L S) (hi : i ≠ nb) {w' : World} (k : Keeps [] wr w') : SVP nb w' X sv (i + 1) L S := by
  rcases h with ⟨h1, h2⟩ | ⟨h1, Lb, M, h2, h3, h4⟩
  · exact .inl ⟨by omega, h2⟩
  · refine .inr ⟨by omega, Lb, M, h2, h3, ?_⟩
    cases hp : perf [] Lb with
    | none => trivial
    | some sb =>
      rw [hp] at h4
      obtain ⟨A, c, h5, h6⟩ := h4
      exact ⟨A, c, h5, h6.keep k (by simp)⟩
theorem SVP.add {nb : Nat} {wr : World} {X X' Y : List Nat} {sv : Value} {i : Nat} {L : List Chg} {S : List Pnt} (h : SVP nb wr X sv i L S) (hi : i ≠ nb) {w' : World} (k : Keeps Y wr w') (hY : ∀ y ∈ Y, y ∈ X) (hX : ∀ x ∈ X', x ∈ X ∨ wr.heap.size ≤ x) (c : Chg) : SVP nb w' X' sv (i + 1) (if addOk L c then L ++ [c] else L) S := by
  rcases h with ⟨h1, h2⟩ | ⟨h1, Lb, M, h2, h3, h4⟩
  · exact .inl ⟨by omega, h2⟩
  · refine .inr ⟨by omega, Lb, if addOk L c then M ++ [c] else M, ?_, h3, ?_⟩
    · split
      · rw [h2, List.append_assoc]
      · exact h2
    · cases hp : perf [] Lb with
      | none => trivial
      | some sb =>
        rw [hp] at h4
        obtain ⟨A, c, h5, h6⟩ := h4
        have h7 := h6.other (Y := X ++ X') (fun y hy => (List.mem_append.1 hy).elim .inl (hX y))
        exact ⟨A, c, h5, (h7.keep k (fun y hy => .inl (List.mem_append_left _ (hY y hy)))).other (fun y hy => .inl (List.mem_append_right _ hy))⟩
theorem stL_add {L : List Chg} {S : List Pnt} {o : Oo} (h : kd o = 0) : stL L S o = (if addOk L o.c then L ++ [o.c] else L) ∧ stS L S o = S := by
  unfold stL stS
  rw [h]
  exact ⟨rfl, rfl⟩
theorem stL_here {L : List Chg} : stL L [] hereO = L ∧ stS L [] hereO = [(HERE, L.length)] := ⟨rfl, by
  have hk : kd hereO = 1 := rfl
  unfold stS
  rw [hk]
  have hne : ¬ hereO.s = ⟨#[]⟩ := by decide
  simp only [if_true, hne, if_false]
  unfold saveS
  have : findI [] hereO.s = -1 := rfl
  rw [this]
  rfl⟩
theorem src_here (w : World) : SrcAt (w.alloc (.cells #[.int .i64 1, .int .i64 0, .int .i64 0, .slice none 0 0, .slice none 0 0, .string ⟨#[104, 101, 114, 101]⟩, .int .i64 0] 37)) (some ⟨w.heap.size, 0, none⟩) 1 (flatO [(hereO, raw0)]) :=
  .inr ⟨w.heap.size, 0, rfl, fun j u hj => by
    rw [Nat.zero_add, (Blk.new w 37 _).cell]
    simpa [flatO, oCells, hereO, raw0, chg0, HERE] using hj⟩
/-- What Perform returns, its rows counted. -/
def PerfS (w : World) (X : List Nat) (s : List Cl) (n : Nat) (e : Ending) (w' : World) : Prop :=
  Hid (Keeps [] w w') ∧ ∃ A c, e = .returned (.tuple #[.slice A n c, .bool true]) ∧ Hid (ClsAt w' X A s)
/-- Back to the savepoint "here". -/
def BackH (w : World) (F : List Nat) (M' : List Chg) (nm : Nat) (e : Ending) (w' : World) : Prop :=
  ∃ A c, e = .returned (.tuple #[.slice A nm c, .int .i64 0]) ∧ Hid (∀ Y : List Nat, (∀ y ∈ Y, y < w.heap.size) → ChsAt w' Y A M') ∧ Hid (Keeps F w w')
theorem find_here (n : Nat) : findI [(HERE, n)] HERE = 0 := by
  unfold findI Lib.idxBy Lib.idxByFrom
  simp
theorem back_here (b : Nat) (w : World) (X F : List Nat) (gl : Nat) (L Lb M M' : List Chg) (nm : Nat) (h : PLog b w X F gl L [(HERE, Lb.length)]) (hL : L = Lb ++ M) (hM : M' = M.reverse.map inv) (hn : nm = M'.length) (hl : L.length ≤ 1000000) :
    Calls Try.prog 24 #[.pointer (some ⟨gl, 0, none⟩), .string HERE] w (BackH w F M' nm) := by
  refine (back_log b w X F gl L [(HERE, Lb.length)] HERE h (fun p hp => by rw [List.mem_singleton.1 hp, hL]; simp) hl (by simp)).mono ?_
  intro e w' hB
  unfold BackL at hB
  rw [find_here, if_neg (by omega)] at hB
  obtain ⟨A, c, he, h1, _, h3⟩ := hB
  have hd : L.drop (markAt [(HERE, Lb.length)] (Int.toNat 0)) = M := by
    show L.drop Lb.length = M
    rw [hL, List.drop_left]
  rw [hd, ← hM] at he h1
  rw [← hn] at he
  exact ⟨A, c, he, h1, h3⟩
end Go.Proofs.Ytmclfbhcddcebaa
