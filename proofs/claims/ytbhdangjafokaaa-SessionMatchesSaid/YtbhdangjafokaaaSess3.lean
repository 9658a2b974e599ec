/- The contracts of the law's function same, of the reference's Split, and of example. -/
import Derived.Test.YtbhdangjafokaaaSess2
namespace Go.Proofs.Ytbhdangjafokaaa
open Go.RowKit
set_option linter.unusedSimpArgs false
set_option linter.unusedVariables false

/-- Pairs behind A. -/
def PairsAt (w : World) (A : Option Addr) (ps : List (Nat × Nat)) : Prop :=
  ∀ i p, ps[i]? = some p → ∃ g, A = some ⟨g, 0, none⟩ ∧ w.cell? ⟨g, i * 2, none⟩ = some (.int .i64 p.1) ∧ w.cell? ⟨g, i * 2 + 1, none⟩ = some (.int .i64 p.2)
theorem PairsAt.keep {w w' : World} {A : Option Addr} {ps : List (Nat × Nat)} (h : PairsAt w A ps) (hk : Keeps [] w w') : PairsAt w' A ps := by
  intro i p hi
  obtain ⟨g, rfl, h1, h2⟩ := h i p hi
  exact ⟨g, rfl, hk.cellEq h1 (by simp), hk.cellEq h2 (by simp)⟩
theorem PairsAt.of_own {w : World} {base : Nat} {A : Option Addr} {n c : Nat} {ps : List (Nat × Nat)} (h : w.ownsRow base 31 2 (.slice A n c) n (flat ps)) (hn : ps.length = n) : PairsAt w A ps := by
  intro i p hi
  have hlt : i < ps.length := by
    rcases Nat.lt_or_ge i ps.length with h1 | h1
    · exact h1
    · rw [List.getElem?_eq_none h1] at hi; cases hi
  obtain ⟨g, c', hv, _, _, _, _, hc⟩ := own_row h (by omega)
  injection hv with hA _ _
  have := flat_get ps i p hi
  exact ⟨g, hA, hc _ _ this.1, hc _ _ this.2⟩

theorem pair_eqD (k : Nat) (a b c d : Int) (w : World) : (Op.equalIn (k + 1 + 1) 31 (.agg #[.int .i64 a, .int .i64 b]) (.agg #[.int .i64 c, .int .i64 d])).run Try.prog w = .ok (a == c && b == d) w := by
  have hz : ∀ w, (sizeOf 3).run Try.prog w = .ok 1 w := fun w => by kernel_rfl
  have p0 : ∀ (x y : Int) w, (part 3 #[.int .i64 x, .int .i64 y] 0).run Try.prog w = .ok (.int .i64 x) w := fun x y w => by kernel_rfl
  have p1 : ∀ (x y : Int) w, (part 3 #[.int .i64 x, .int .i64 y] 1).run Try.prog w = .ok (.int .i64 y) w := fun x y w => by kernel_rfl
  have e1 : ∀ (x y : Int) w, (Op.equalIn (k + 1) 3 (.int .i64 x) (.int .i64 y)).run Try.prog w = .ok (x == y) w := fun x y w => run_equalIn_int w k 3 .i64 .i64 x y Try.underlying3
  rw [Op.equalIn]
  simp only [Sem.run_bind, run_underlying Try.underlying31, Result.andThen_ok, hz]
  rw [Std.Legacy.Range.forIn_eq_forIn_range']
  simp only [Std.Legacy.Range.size]
  simp only [List.range', List.forIn_cons, List.forIn_nil, Sem.run_bind, Nat.zero_mul, Nat.one_mul, Nat.zero_add, Nat.add_zero, Nat.sub_zero, Nat.reduceAdd, Nat.reduceSub, Nat.reduceDiv, p0, p1, e1, Result.andThen_ok]
  cases h1 : (a == c) <;> cases h2 : (b == d) <;> first | (simp [p0, p1, e1, Sem.run_bind, Result.andThen_ok]; done) | (simp [p0, p1, e1, Sem.run_bind, Result.andThen_ok]; simpa using h2)
theorem pair_eq (a b c d : Int) (w : World) : (Op.equalIn 10000 31 (.agg #[.int .i64 a, .int .i64 b]) (.agg #[.int .i64 c, .int .i64 d])).run Try.prog w = .ok (a == c && b == d) w := pair_eqD 9998 a b c d w

set_option maxHeartbeats 1600000 in
theorem same_yes (w : World) (A B : Option Addr) (ps : List (Nat × Nat)) (n c c' : Nat) (hn : ps.length = n) (hA : PairsAt w A ps) (hB : PairsAt w B ps) (h60 : n ≤ 1048576) :
    Calls Try.prog 10 #[.slice A n c, .slice B n c'] w fun e w' => e = .returned (.bool true) ∧ Keeps [] w w' := by
  have HA := Lib.hid hA
  have HB := Lib.hid hB
  have Hn := Lib.hid hn
  clear hA hB hn
  have pe := pair_eq
  go_enter Try.func10, Try.ntmps10
  go_wp2_with fail
  go_loopw [13] (fun i wr => ∃ k : Nat, k ≤ n ∧ i = .int .i64 k ∧ Keeps [] w wr) (fun i _ => n - (intOf i).toNat)
  case atStart => exact ⟨0, Nat.zero_le _, rfl, Keeps.refl _ _⟩
  case round =>
    obtain ⟨k, hk, rfl, hkw⟩ := hrel
    by_cases hlt : k < n
    · have hkl : k < ps.length := by rw [Hn.out]; exact hlt
      obtain ⟨p, hp⟩ : ∃ o, ps[k]? = some o := ⟨ps[k], List.getElem?_eq_getElem hkl⟩
      obtain ⟨g, rfl, c0, c1⟩ := HA.out.keep hkw k p hp
      obtain ⟨g', rfl, d0, d1⟩ := HB.out.keep hkw k p hp
      replace hp := Lib.hid hp
      replace hkw := Lib.hid hkw
      have hk0 : (0 : Int) ≤ (k : Int) := by omega
      have hk1 : (k : Int) < (n : Int) := by omega
      go_wp2_with fail
      go_quiet (fail)
      go_wp2_with fail
      go_roundw
      case rel => exact ⟨k + 1, by omega, by go_num, hkw.out.drewN _⟩
      case measure => simp [intOf]; omega
    · replace hkw := Lib.hid hkw
      go_wp2_with fail
      go_ret
      exact ⟨rfl, hkw.out⟩

set_option maxHeartbeats 3200000 in
theorem rsplit_any (w : World) (B : Nat) (A : Option Addr) (ks : List Int) (n c : Nat) (hn : ks.length = n) (hnc : n ≤ c) (hO : IntsAt w B A ks) (hB : B ≤ w.heap.size) (h60 : n ≤ 1048576) :
    Calls Try.prog 13 #[.slice A n c] w (fun en w' => ∃ v, en = .returned v ∧ w'.ownsRow w.heap.size 31 2 v (split ks).length (flat (split ks)) ∧ Keeps [] w w') := by
  obtain ⟨i0, hi, hz0, hz1, hz2⟩ := info_parts info31
  have hsl : (split ks).length ≤ n := by rw [← hn]; exact from_len _ _ _
  have HO := Lib.hid hO
  have Hn := Lib.hid hn
  replace hi := Lib.hid hi
  replace hz0 := Lib.hid hz0
  replace hz1 := Lib.hid hz1
  replace hz2 := Lib.hid hz2
  replace hsl := Lib.hid hsl
  clear hO hn
  go_enter Try.func13, Try.ntmps13
  go_wp2_with fail
  have hm0 := World.ownsRow_made (e := 31) (size := 2) w #[] 0 (Nat.le_refl _) (by simp [maxLen]) (by simp)
  replace hm0 := Lib.hid hm0
  go_loopw [3, 4] (fun out f wr => ∃ (done : List (Nat × Nat)) (i : Nat), i ≤ n ∧ f = .int .i64 i ∧ Hid (split ks = done ++ from_ ks i) ∧ Keeps [] w wr ∧ wr.ownsRow w.heap.size 31 2 out done.length (flat done)) (fun _ f _ => n - (intOf f).toNat)
  case atStart => exact ⟨[], 0, Nat.zero_le _, rfl, Lib.hid (split_eq ks), (Keeps.refl _ _).alloc _, hm0.out⟩
  case round =>
    obtain ⟨done, i, hin, rfl, hsp, hkw, hown⟩ := hrel
    have hOk := HO.out.keep hkw (by simp)
    replace hkw := Lib.hid hkw
    replace hown := Lib.hid hown
    clear hm0
    by_cases hlt : i < n
    · have hil : i < ks.length := by rw [Hn.out]; exact hlt
      obtain ⟨x, hx⟩ : ∃ o, ks[i]? = some o := ⟨ks[i], List.getElem?_eq_getElem hil⟩
      obtain ⟨g, off, rfl, hg, c0⟩ := hOk i x hx
      have hcell : ∀ j y, ks[j]? = some y → wr.cell? ⟨g, off + j, none⟩ = some (.int .i64 y) := by
        intro j y hj
        obtain ⟨g', off', hg', _, hc⟩ := hOk j y hj
        injection hg' with hg'
        injection hg' with hg' ho
        subst hg' ho
        exact hc
      have hstep := hsp.out
      rw [from_step hil] at hstep
      have hdl : done.length + 1 ≤ n := by
        have := congrArg List.length hstep
        rw [List.length_append, List.length_cons] at this
        have := hsl.out
        omega
      replace hcell := Lib.hid hcell
      replace hstep := Lib.hid hstep
      have hxd := getD_of hx
      replace hx := Lib.hid hx
      clear hOk
      by_cases h6 : x = 6
      · subst h6
        have hst := fun L (h : Down ks i L) => h.stop_eq hil hxd
        replace hst := Lib.hid hst
        clear hxd
        go_wp2_with fail
        go_loop [5, 6] (fun l q => ∃ L k : Nat, i ≤ k ∧ k < n ∧ L < n ∧ l = .int .i64 L ∧ q = .int .i64 k ∧ Hid (Down ks k L)) (fun _ q => (intOf q).toNat)
        case atStart =>
          refine ⟨n - 1, n - 1, by omega, by omega, by omega, by go_num, by go_num, ?_⟩
          have := Down.start (ks := ks) (by omega)
          rw [Hn.out] at this
          exact Lib.hid this
        case round =>
          obtain ⟨L, k, hk1, hk2, hL, rfl, rfl, hD⟩ := hrel
          by_cases hki : i < k
          · obtain ⟨k', rfl⟩ : ∃ k', k = k' + 1 := ⟨k - 1, by omega⟩
            obtain ⟨y, hy⟩ : ∃ o, ks[k' + 1]? = some o := ⟨ks[k' + 1]'(by rw [Hn.out]; exact hk2), List.getElem?_eq_getElem (by rw [Hn.out]; exact hk2)⟩
            have cy := hcell.out _ y hy
            have hfin := fin_of hy
            replace hy := Lib.hid hy
            replace hfin := Lib.hid hfin
            have hyy : (y = 7 ∨ ((y == 7) = false ∧ y = 8)) ∨ ((y == 7) = false ∧ (y == 8) = false) := by
              by_cases a2 : y = 7
              · exact .inl (.inl a2)
              · by_cases a3 : y = 8
                · exact .inl (.inr ⟨by simpa using a2, a3⟩)
                · exact .inr ⟨by simpa using a2, by simpa using a3⟩
            rcases hyy with hyy | ⟨y1, y2⟩
            · have hD' : Down ks k' (k' + 1) := Down.hit (by rw [Hn.out]; exact hk2) (by
                rw [hfin.out]
                rcases hyy with h | ⟨_, h⟩ <;> rw [h] <;> rfl)
              replace hD' := Lib.hid hD'
              rcases hyy with rfl | ⟨_, rfl⟩
              · go_wp2_with fail
                go_round
                case rel => exact ⟨k' + 1, k', by omega, by omega, by omega, by go_num, rfl, hD'⟩
                case measure => first | (simp [intOf]; done) | (simp [intOf]; omega)
              · go_wp2_with fail
                go_round
                case rel => exact ⟨k' + 1, k', by omega, by omega, by omega, by go_num, rfl, hD'⟩
                case measure => first | (simp [intOf]; done) | (simp [intOf]; omega)
            · have hD' : Down ks k' L := hD.out.miss (by rw [hfin.out, y1, y2]; rfl)
              replace hD' := Lib.hid hD'
              go_wp2_with fail
              go_round
              case rel => exact ⟨L, k', by omega, by omega, hL, rfl, rfl, hD'⟩
              case measure => first | (simp [intOf]; done) | (simp [intOf]; omega)
          · obtain rfl : i = k := by omega
            have hst' := Lib.hid (hst.out L hD.out).symm
            clear hst
            have hst := hst'
            clear hst'
            have hiL : i ≤ L := by have := (stop_ge ks hil).1; rw [hst.out] at this; exact this
            go_wp2_with (at_builtin; refine wpList_append_own _ rfl (.tmp 42) (.tmp 46) 25 rfl w.heap.size 31 i0 (.agg #[.int .i64 0, .int .i64 0]) 2 16 Try.underlying25 hi.out hz0.out hz1.out hz2.out rfl (by decide) u3 done.length (flat done) rfl (hown.out.alloc _) ⟨wr.heap.size, 0, none⟩ 1 1 [.int .i64 i, .int .i64 L] rfl rfl (World.news_of_block (cs := #[.int .i64 i, .int .i64 L]) (t := 31) (fr := (0, 0)) (heap_alloc_new wr _)) (by simp [Value.oneCell']) (by unfold maxLen; omega) (by omega) (by have := hkw.out.size; simp; omega) ?_; intro v' w1 ho1 hg1 hn1; replace ho1 := Lib.hid ho1; replace hg1 := Lib.hid hg1; clear hn1)
            go_roundw
            case rel =>
              exact ⟨done ++ [(i, L)], L + 1, by omega, by go_num, Lib.hid (by rw [hstep.out, hst.out]; simp), keeps_append hkw.out _ hown.out hg1.out, by rw [List.length_append, flat_append]; exact ho1.out⟩
            case measure => simp [intOf]; omega
      · have hst : stop ks i = i := stop_one (by rw [hxd]; exact h6)
        have hx6 : (x == 6) = false := by simpa using h6
        replace hst := Lib.hid hst
        clear hxd h6
        go_wp2_with (at_builtin; refine wpList_append_own _ rfl (.tmp 42) (.tmp 46) 25 rfl w.heap.size 31 i0 (.agg #[.int .i64 0, .int .i64 0]) 2 16 Try.underlying25 hi.out hz0.out hz1.out hz2.out rfl (by decide) u3 done.length (flat done) rfl (hown.out.alloc _) ⟨wr.heap.size, 0, none⟩ 1 1 [.int .i64 i, .int .i64 i] rfl rfl (World.news_of_block (cs := #[.int .i64 i, .int .i64 i]) (t := 31) (fr := (0, 0)) (heap_alloc_new wr _)) (by simp [Value.oneCell']) (by unfold maxLen; omega) (by omega) (by have := hkw.out.size; simp; omega) ?_; intro v' w1 ho1 hg1 hn1; replace ho1 := Lib.hid ho1; replace hg1 := Lib.hid hg1; clear hn1)
        go_roundw
        case rel =>
          exact ⟨done ++ [(i, i)], i + 1, by omega, by go_num, Lib.hid (by rw [hstep.out, hst.out]; simp), keeps_append hkw.out _ hown.out hg1.out, by rw [List.length_append, flat_append]; exact ho1.out⟩
        case measure => simp [intOf]; omega
    · obtain rfl : i = n := by omega
      have hfe := hsp.out
      rw [from_end (by rw [Hn.out]; exact Nat.le_refl _), List.append_nil] at hfe
      replace hfe := Lib.hid hfe
      go_wp2_with fail
      go_ret
      exact ⟨_, rfl, by rw [hfe.out]; exact hown.out, hkw.out⟩
end Go.Proofs.Ytbhdangjafokaaa
