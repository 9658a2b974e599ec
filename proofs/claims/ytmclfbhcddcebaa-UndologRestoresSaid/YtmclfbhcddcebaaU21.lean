/- Operations in memory; few. -/
import Derived.Test.YtmclfbhcddcebaaU20
namespace Go.Proofs.Ytmclfbhcddcebaa
open Go.RowKit Go.Shelf
set_option linter.unusedSimpArgs false
set_option linter.unusedVariables false

/-- An operation of a statement. -/
structure Oo where
  k : Int
  c : Chg
  s : ByteArray
  n : Int
def oCells (o : Oo) (r : Raw) : List Value := [.int .i64 o.k, .int .i64 r.t, .int .i64 r.id, .slice r.Ao r.no r.co, .slice r.An r.nn r.cn, .string o.s, .int .i64 o.n]
/-- Operations behind an address. -/
def OpsAt (w : World) (X : List Nat) (A : Option Addr) (l : List Oo) : Prop := ∀ i o, l[i]? = some o → ∃ g off r, A = some ⟨g, off, none⟩ ∧ g ∉ X ∧ (∀ j v, (oCells o r)[j]? = some v → w.cell? ⟨g, off + i * 7 + j, none⟩ = some v) ∧ RawIs w X r o.c
theorem OpsAt.keep {w w' : World} {X Y : List Nat} {A : Option Addr} {l : List Oo} (h : OpsAt w X A l) (hk : Keeps Y w w') (hY : ∀ y ∈ Y, y ∈ X ∨ w.heap.size ≤ y) : OpsAt w' X A l := by
  intro i o hi
  obtain ⟨g, off, r, rfl, hg, h1, h2⟩ := h i o hi
  have hn : g ∉ Y := fun hy => by
    rcases hY g hy with h6 | h6
    · exact hg h6
    · have := block_lt_of_cell (h1 0 _ rfl)
      simp at this
      omega
  exact ⟨g, off, r, rfl, hg, fun j v hj => hk.cellEq (h1 j v hj) hn, h2.keep hk hY⟩
theorem OpsAt.other {w : World} {X Y : List Nat} {A : Option Addr} {l : List Oo} (h : OpsAt w X A l) (hY : ∀ y ∈ Y, y ∈ X ∨ w.heap.size ≤ y) : OpsAt w Y A l := by
  intro i o hi
  obtain ⟨g, off, r, rfl, hg, h1, h2⟩ := h i o hi
  refine ⟨g, off, r, rfl, fun hy => ?_, h1, h2.other hY⟩
  rcases hY g hy with h6 | h6
  · exact hg h6
  · have := block_lt_of_cell (h1 0 _ rfl)
    simp at this
    omega
def fewO (o : Oo) : Bool := decide (o.c.old.length ≤ 8) && decide (o.c.new.length ≤ 8) && decide (o.s.size ≤ 30)
def fewB (l : List Oo) : Bool := l.all fewO && decide (l.length ≤ 60)

set_option maxRecDepth 100000 in
set_option maxHeartbeats 3200000 in
theorem few_any (w : World) (X : List Nat) (A : Option Addr) (l : List Oo) (n c : Nat) (hl : l.length = n) (h : OpsAt w X A l) (hn0 : n ≤ maxLen) :
    Calls Try.prog 11 #[.slice A n c] w fun e w' => e = .returned (.bool (fewB l)) ∧ Keeps [] w w' := by
  have hn : n ≤ 9223372036854775807 := hn0
  clear hn0
  replace h := Lib.hid h
  replace hl := Lib.hid hl
  go_enter Try.func11, Try.ntmps11
  go_wp2_with fail
  go_loopw [7] (fun i wr => ∃ k : Nat, k ≤ n ∧ i = .int .i64 k ∧ Hid ((l.take k).all fewO = true) ∧ Hid (Keeps [] w wr)) (fun i _ => n - (intOf i).toNat)
  case atStart => exact ⟨0, Nat.zero_le _, rfl, Lib.hid rfl, Lib.hid (Keeps.refl _ _)⟩
  case round =>
    obtain ⟨k, hk, rfl, hall, hkw⟩ := hrel
    by_cases hlt : k < n
    · obtain ⟨⟨ok, oc, os, on⟩, ho⟩ : ∃ o, l[k]? = some o := ⟨l[k]'(by rw [hl.out]; exact hlt), List.getElem?_eq_getElem _⟩
      obtain ⟨g, off, ⟨t, id, Ao, no, co, An, nn, cn⟩, rfl, _, hc, hr⟩ := (h.out.keep hkw.out (by simp)) k _ ho
      have z0 := hc 0 _ rfl
      have z1 := hc 1 _ rfl
      have z2 := hc 2 _ rfl
      have z3 := hc 3 _ rfl
      have z4 := hc 4 _ rfl
      have z5 := hc 5 _ rfl
      have z6 := hc 6 _ rfl
      rw [Nat.add_zero] at z0
      have hno := hr.no
      have hnn := hr.nn
      dsimp only at z0 z1 z2 z3 z4 z5 z6 hno hnn
      have hki : (k : Int) < (n : Int) := by omega
      have ka := Lib.hid (hkw.out.alloc (.cells #[.int .i64 ok, .int .i64 t, .int .i64 id, .slice Ao no co, .slice An nn cn, .string os, .int .i64 on] 37))
      have htk : Hid ((l.take (k + 1)).all fewO = fewO ⟨ok, oc, os, on⟩) := Lib.hid (by
        rw [take_snoc ho, List.all_append, hall.out]
        simp)
      have hff : fewO ⟨ok, oc, os, on⟩ = (decide (no ≤ 8) && decide (nn ≤ 8) && decide (os.size ≤ 30)) := by unfold fewO; rw [hno, hnn]
      have hbad : Hid (fewO ⟨ok, oc, os, on⟩ = false → fewB l = false) := Lib.hid (fun e => by
        unfold fewB
        have : l.all fewO = false := by
          cases hh : l.all fewO
          · rfl
          · have := List.all_eq_true.1 hh _ (List.mem_of_getElem? ho)
            rw [e] at this
            cases this
        rw [this]
        rfl)
      replace hff := Lib.hid hff
      clear hc hr ho hno hnn
      by_cases h1 : (8 : Int) < (no : Int)
      · have hb := hbad.out (by rw [hff.out, decide_eq_false (by omega : ¬ no ≤ 8)]; rfl)
        have d1 := decide_eq_true h1
        replace hb := Lib.hid hb
        clear hbad hff htk
        go_wp2_with fail
        go_ret
        exact ⟨by rw [hb.out]; rfl, ka.out⟩
      · have d1 := decide_eq_false h1
        by_cases h2 : (8 : Int) < (nn : Int)
        · have hb := hbad.out (by rw [hff.out, decide_eq_false (by omega : ¬ nn ≤ 8)]; simp)
          have d2 := decide_eq_true h2
          replace hb := Lib.hid hb
          clear hbad hff htk
          go_wp2_with fail
          go_ret
          exact ⟨by rw [hb.out]; rfl, ka.out⟩
        · have d2 := decide_eq_false h2
          by_cases h3 : (30 : Int) < (os.size : Int)
          · have hb := hbad.out (by rw [hff.out, decide_eq_false (by omega : ¬ os.size ≤ 30)]; simp)
            have d3 := decide_eq_true h3
            replace hb := Lib.hid hb
            clear hbad hff htk
            go_wp2_with fail
            go_ret
            exact ⟨by rw [hb.out]; rfl, ka.out⟩
          · have d3 := decide_eq_false h3
            have hgood : Hid ((l.take (k + 1)).all fewO = true) := Lib.hid (by
              rw [htk.out, hff.out, decide_eq_true (by omega : no ≤ 8), decide_eq_true (by omega : nn ≤ 8), decide_eq_true (by omega : os.size ≤ 30)]
              rfl)
            clear hbad hff htk
            go_wp2_with fail
            go_roundw
            case rel => exact ⟨k + 1, by omega, by go_num, hgood, ka⟩
            case measure => simp [intOf]; omega
    · obtain rfl : k = n := by omega
      have hjf : ¬ (k : Int) < (k : Int) := by omega
      have hfb : fewB l = decide ((k : Int) ≤ 60) := by
        have := hall.out
        rw [List.take_of_length_le (by rw [hl.out]; exact Nat.le_refl _)] at this
        unfold fewB
        rw [this, hl.out, Bool.true_and]
        by_cases hq : k ≤ 60
        · rw [decide_eq_true hq, decide_eq_true (by omega)]
        · rw [decide_eq_false hq, decide_eq_false (by omega)]
      replace hfb := Lib.hid hfb
      go_wp2_with fail
      go_ret
      exact ⟨by rw [hfb.out]; rfl, hkw.out⟩
end Go.Proofs.Ytmclfbhcddcebaa
