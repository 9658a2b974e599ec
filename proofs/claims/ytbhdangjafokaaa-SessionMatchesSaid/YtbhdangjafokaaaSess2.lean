/- The contracts of Split and of the reference's Split. -/
import Derived.Test.YtbhdangjafokaaaSess1
namespace Go.Proofs.Ytbhdangjafokaaa
open Go.RowKit
set_option linter.unusedSimpArgs false
set_option linter.unusedVariables false

/-- The kinds of the statements behind A. -/
def KindsAt (w : World) (A : Option Addr) (ks : List Int) : Prop :=
  ∀ i k, ks[i]? = some k → ∃ g, A = some ⟨g, 0, none⟩ ∧ w.cell? ⟨g, i * 22, none⟩ = some (.int .i64 k)
theorem KindsAt.keep {w w' : World} {A : Option Addr} {ks : List Int} (h : KindsAt w A ks) (hk : Keeps [] w w') : KindsAt w' A ks := by
  intro i k hi
  obtain ⟨g, rfl, hc⟩ := h i k hi
  exact ⟨g, rfl, hk.cellEq hc (by simp)⟩
theorem KindsAt.of_own {w : World} {base : Nat} {A : Option Addr} {n c : Nat} {ks : List Int} (h : w.ownsRow base 57 22 (.slice A n c) n (stms ks)) (hn : ks.length = n) : KindsAt w A ks := by
  intro i k hi
  have hlt : i < ks.length := by
    rcases Nat.lt_or_ge i ks.length with h1 | h1
    · exact h1
    · rw [List.getElem?_eq_none h1] at hi; cases hi
  obtain ⟨g, c', hv, _, _, _, _, hc⟩ := own_row h (by omega)
  injection hv with hA _ _
  refine ⟨g, hA, ?_⟩
  have := hc (i * 22) (.int .i64 k) (by
    have h2 := stms_get hi (j := 0) (by omega)
    simpa [stm] using h2)
  exact this

theorem getD_of {ks : List Int} {i : Nat} {k : Int} (h : ks[i]? = some k) : ks.getD i 0 = k := by
  rw [List.getD_eq_getElem?_getD, h]; rfl
theorem fin_of {ks : List Int} {i : Nat} {k : Int} (h : ks[i]? = some k) : isFin ks i = (k == 7 || k == 8) := by
  unfold isFin; rw [getD_of h]

theorem stop_six {ks : List Int} {i L : Nat} (hi : i < ks.length) (h6 : ks.getD i 0 = 6) (h : IsStop ks i L) : stop ks i = L := by
  unfold stop
  rw [if_pos h6]
  exact (ext_stop ks ks.length i hi (by omega)).unique h
theorem stop_one {ks : List Int} {i : Nat} (h6 : ks.getD i 0 ≠ 6) : stop ks i = i := by
  unfold stop; rw [if_neg h6]

/-- The length of what is left, and of all. -/
theorem from_len : ∀ (f : Nat) (ks : List Int) (i : Nat), (spl ks f i).length ≤ f
  | 0, ks, i => Nat.le_refl 0
  | f + 1, ks, i => by
    unfold spl
    split
    · have := from_len f ks (stop ks i + 1)
      simp only [List.length_cons]; omega
    · simp

set_option maxHeartbeats 3200000 in
theorem split_any (w : World) (A : Option Addr) (ks : List Int) (n c : Nat) (hn : ks.length = n) (hO : KindsAt w A ks) (h60 : n ≤ 1048576) :
    Calls Try.prog 11 #[.slice A n c] w (RowPost 31 2 (split ks).length (flat (split ks)) w) := by
  obtain ⟨i0, hi, hz0, hz1, hz2⟩ := info_parts info31
  have hsl : (split ks).length ≤ n := by rw [← hn]; exact from_len _ _ _
  have HO := Lib.hid hO
  have Hn := Lib.hid hn
  replace hi := Lib.hid hi
  replace hz0 := Lib.hid hz0
  replace hz1 := Lib.hid hz1
  replace hz2 := Lib.hid hz2
  replace hsl := Lib.hid hsl
  clear hO hn
  go_enter Try.func11, Try.ntmps11
  go_wp2_with fail
  go_loopw [3, 4] (fun out f wr => ∃ (done : List (Nat × Nat)) (i : Nat), i ≤ n ∧ f = .int .i64 i ∧ Hid (split ks = done ++ from_ ks i) ∧ Keeps [] w wr ∧ wr.ownsRow w.heap.size 31 2 out done.length (flat done) ∧ (out = .slice none 0 0 ↔ done.length = 0)) (fun _ f _ => n - (intOf f).toNat)
  case atStart => exact ⟨[], 0, Nat.zero_le _, rfl, Lib.hid (split_eq ks), Keeps.refl _ _, ⟨rfl, .inl ⟨rfl, rfl⟩⟩, by simp⟩
  case round =>
    obtain ⟨done, i, hin, rfl, hsp, hkw, hown, hnil⟩ := hrel
    have hOk := HO.out.keep hkw
    replace hkw := Lib.hid hkw
    replace hown := Lib.hid hown
    replace hnil := Lib.hid hnil
    by_cases hlt : i < n
    · have hil : i < ks.length := by rw [Hn.out]; exact hlt
      obtain ⟨x, hx⟩ : ∃ o, ks[i]? = some o := ⟨ks[i], List.getElem?_eq_getElem hil⟩
      obtain ⟨g, rfl, c0⟩ := hOk i x hx
      have hcell : ∀ j y, ks[j]? = some y → wr.cell? ⟨g, j * 22, none⟩ = some (.int .i64 y) := by
        intro j y hj
        obtain ⟨g', hg', hc⟩ := hOk j y hj
        injection hg' with hg'
        injection hg' with hg' _
        subst hg'
        exact hc
      have hstep := hsp.out
      rw [from_step hil] at hstep
      have hdl : done.length + 1 ≤ n := by
        have := congrArg List.length hstep
        rw [List.length_append, List.length_cons] at this
        have := hsl.out
        omega
      have hge := stop_ge ks hil
      replace hcell := Lib.hid hcell
      replace hstep := Lib.hid hstep
      have hxd := getD_of hx
      replace hx := Lib.hid hx
      clear hOk
      by_cases h6 : x = 6
      · subst h6
        have hst := fun L => stop_six (L := L) hil hxd
        replace hst := Lib.hid hst
        clear hxd hge
        go_wp2_with fail
        go_loop [5] (fun l => ∃ L : Nat, i ≤ L ∧ L < n ∧ l = .int .i64 L ∧ Hid (∀ j, i ≤ j → j < L → isFin ks j = false)) (fun l => n - (intOf l).toNat)
        case atStart => exact ⟨i, Nat.le_refl _, hlt, rfl, Lib.hid (fun j h1 h2 => absurd h2 (by omega))⟩
        case round =>
          obtain ⟨L, hL1, hL2, rfl, hmid⟩ := hrel
          obtain ⟨y, hy⟩ : ∃ o, ks[L]? = some o := ⟨ks[L]'(by rw [Hn.out]; exact hL2), List.getElem?_eq_getElem (by rw [Hn.out]; exact hL2)⟩
          have cy := hcell.out L y hy
          have hfin := fin_of hy
          replace hy := Lib.hid hy
          replace hfin := Lib.hid hfin
          have hw : ((L + 1 = n ∧ True) ∨ (L + 1 < n ∧ y = 7) ∨ (L + 1 < n ∧ y = 8)) ∨ (L + 1 < n ∧ (y == 7) = false ∧ (y == 8) = false ∧ (y != 7) = true ∧ (y != 8) = true) := by
            by_cases a1 : L + 1 = n
            · exact .inl (.inl ⟨a1, trivial⟩)
            · by_cases a2 : y = 7
              · exact .inl (.inr (.inl ⟨by omega, a2⟩))
              · by_cases a3 : y = 8
                · exact .inl (.inr (.inr ⟨by omega, a3⟩))
                · exact .inr ⟨by omega, by simpa using a2, by simpa using a3, by simpa using a2, by simpa using a3⟩
          rcases hw with hw | ⟨a1, a2, a3, a4, a5⟩
          · have hstL : stop ks i = L := by
              refine hst.out L ⟨hL1, by rw [Hn.out]; exact hL2, hmid.out, ?_⟩
              rcases hw with ⟨a1, _⟩ | ⟨_, a2⟩ | ⟨_, a2⟩
              · right; rw [Hn.out]; exact a1
              · left; rw [hfin.out, a2]; rfl
              · left; rw [hfin.out, a2]; rfl
            clear hst
            have hst := Lib.hid hstL
            clear hstL
            rcases hw with ⟨a1, _⟩ | ⟨a1, rfl⟩ | ⟨a1, rfl⟩
            · replace a1 : (n : Int) ≤ (L : Int) + 1 := by omega
              go_wp2_with (at_builtin; refine wpList_append_own _ rfl (.tmp 40) (.tmp 44) 25 rfl w.heap.size 31 i0 (.agg #[.int .i64 0, .int .i64 0]) 2 16 Try.underlying25 hi.out hz0.out hz1.out hz2.out rfl (by decide) u3 done.length (flat done) rfl (hown.out.alloc _) ⟨wr.heap.size, 0, none⟩ 1 1 [.int .i64 i, .int .i64 L] rfl rfl (World.news_of_block (cs := #[.int .i64 i, .int .i64 L]) (t := 31) (fr := (0, 0)) (heap_alloc_new wr _)) (by simp [Value.oneCell']) (by unfold maxLen; omega) (by omega) (by have := hkw.out.size; simp; omega) ?_; intro v' w1 ho1 hg1 hn1; replace ho1 := Lib.hid ho1; replace hg1 := Lib.hid hg1; replace hn1 := Lib.hid hn1)
              go_roundw
              case rel =>
                exact ⟨done ++ [(i, L)], L + 1, by omega, by go_num, Lib.hid (by rw [hstep.out, hst.out]; simp), keeps_append hkw.out _ hown.out hg1.out, by rw [List.length_append, flat_append]; exact ho1.out, by have := hn1.out; simp at this ⊢; exact this⟩
              case measure => simp [intOf]; omega
            · skip
              go_wp2_with (at_builtin; refine wpList_append_own _ rfl (.tmp 40) (.tmp 44) 25 rfl w.heap.size 31 i0 (.agg #[.int .i64 0, .int .i64 0]) 2 16 Try.underlying25 hi.out hz0.out hz1.out hz2.out rfl (by decide) u3 done.length (flat done) rfl (hown.out.alloc _) ⟨wr.heap.size, 0, none⟩ 1 1 [.int .i64 i, .int .i64 L] rfl rfl (World.news_of_block (cs := #[.int .i64 i, .int .i64 L]) (t := 31) (fr := (0, 0)) (heap_alloc_new wr _)) (by simp [Value.oneCell']) (by unfold maxLen; omega) (by omega) (by have := hkw.out.size; simp; omega) ?_; intro v' w1 ho1 hg1 hn1; replace ho1 := Lib.hid ho1; replace hg1 := Lib.hid hg1; replace hn1 := Lib.hid hn1)
              go_roundw
              case rel =>
                exact ⟨done ++ [(i, L)], L + 1, by omega, by go_num, Lib.hid (by rw [hstep.out, hst.out]; simp), keeps_append hkw.out _ hown.out hg1.out, by rw [List.length_append, flat_append]; exact ho1.out, by have := hn1.out; simp at this ⊢; exact this⟩
              case measure => simp [intOf]; omega
            · skip
              go_wp2_with (at_builtin; refine wpList_append_own _ rfl (.tmp 40) (.tmp 44) 25 rfl w.heap.size 31 i0 (.agg #[.int .i64 0, .int .i64 0]) 2 16 Try.underlying25 hi.out hz0.out hz1.out hz2.out rfl (by decide) u3 done.length (flat done) rfl (hown.out.alloc _) ⟨wr.heap.size, 0, none⟩ 1 1 [.int .i64 i, .int .i64 L] rfl rfl (World.news_of_block (cs := #[.int .i64 i, .int .i64 L]) (t := 31) (fr := (0, 0)) (heap_alloc_new wr _)) (by simp [Value.oneCell']) (by unfold maxLen; omega) (by omega) (by have := hkw.out.size; simp; omega) ?_; intro v' w1 ho1 hg1 hn1; replace ho1 := Lib.hid ho1; replace hg1 := Lib.hid hg1; replace hn1 := Lib.hid hn1)
              go_roundw
              case rel =>
                exact ⟨done ++ [(i, L)], L + 1, by omega, by go_num, Lib.hid (by rw [hstep.out, hst.out]; simp), keeps_append hkw.out _ hown.out hg1.out, by rw [List.length_append, flat_append]; exact ho1.out, by have := hn1.out; simp at this ⊢; exact this⟩
              case measure => simp [intOf]; omega
          · have hnf : isFin ks L = false := by rw [hfin.out, a2, a3]; rfl
            replace hnf := Lib.hid hnf
            go_wp2_with fail
            go_round
            case rel =>
              exact ⟨L + 1, by omega, by omega, by go_num, Lib.hid (fun j h1 h2 => by
                by_cases hj : j = L
                · rw [hj]; exact hnf.out
                · exact hmid.out j h1 (by omega))⟩
            case measure => simp [intOf]; omega
      · have hst : stop ks i = i := stop_one (by rw [hxd]; exact h6)
        have hx6 : (x == 6) = false := by simpa using h6
        replace hst := Lib.hid hst
        clear hxd hge h6
        go_wp2_with (at_builtin; refine wpList_append_own _ rfl (.tmp 40) (.tmp 44) 25 rfl w.heap.size 31 i0 (.agg #[.int .i64 0, .int .i64 0]) 2 16 Try.underlying25 hi.out hz0.out hz1.out hz2.out rfl (by decide) u3 done.length (flat done) rfl (hown.out.alloc _) ⟨wr.heap.size, 0, none⟩ 1 1 [.int .i64 i, .int .i64 i] rfl rfl (World.news_of_block (cs := #[.int .i64 i, .int .i64 i]) (t := 31) (fr := (0, 0)) (heap_alloc_new wr _)) (by simp [Value.oneCell']) (by unfold maxLen; omega) (by omega) (by have := hkw.out.size; simp; omega) ?_; intro v' w1 ho1 hg1 hn1; replace ho1 := Lib.hid ho1; replace hg1 := Lib.hid hg1; replace hn1 := Lib.hid hn1)
        go_roundw
        case rel =>
          exact ⟨done ++ [(i, i)], i + 1, by omega, by go_num, Lib.hid (by rw [hstep.out, hst.out]; simp), keeps_append hkw.out _ hown.out hg1.out, by rw [List.length_append, flat_append]; exact ho1.out, by have := hn1.out; simp at this ⊢; exact this⟩
        case measure => simp [intOf]; omega
    · obtain rfl : i = n := by omega
      have hfe := hsp.out
      rw [from_end (by rw [Hn.out]; exact Nat.le_refl _), List.append_nil] at hfe
      replace hfe := Lib.hid hfe
      go_wp2_with fail
      go_ret
      exact ⟨_, rfl, by rw [hfe.out]; exact hown.out, by rw [hfe.out]; exact hnil.out, hkw.out⟩
end Go.Proofs.Ytbhdangjafokaaa
