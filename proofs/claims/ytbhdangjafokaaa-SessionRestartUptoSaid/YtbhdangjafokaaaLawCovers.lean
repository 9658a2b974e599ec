/- The walk of the statement SessionCovers. -/
import Derived.Test.YtbhdangjafokaaaSess7
namespace Go.Proofs.Ytbhdangjafokaaa
open Go.RowKit
set_option linter.unusedSimpArgs false
set_option linter.unusedVariables false

theorem split_at {ks : List Int} {k nx : Nat} (h : from_ ks nx = (split ks).drop k) (hk : k < (split ks).length) :
    nx < ks.length ∧ (split ks)[k]? = some (nx, stop ks nx) ∧ from_ ks (stop ks nx + 1) = (split ks).drop (k + 1) := by
  by_cases hn : nx < ks.length
  · rw [from_step hn] at h
    refine ⟨hn, ?_, ?_⟩
    · have := congrArg (fun l => l[0]?) h
      simp only [List.getElem?_drop, List.getElem?_cons_zero, Nat.add_zero] at this
      exact this.symm
    · have := congrArg (fun l => l.drop 1) h
      simpa [List.drop_drop] using this
  · rw [from_end (by omega)] at h
    have := congrArg List.length h
    simp at this
    omega
theorem split_none {ks : List Int} {nx : Nat} (h : from_ ks nx = (split ks).drop (split ks).length) (hn : nx ≤ ks.length) : nx = ks.length := by
  rcases Nat.lt_or_ge nx ks.length with h1 | h1
  · rw [from_step h1] at h
    simp at h
  · omega
theorem stop_mid {ks : List Int} {i : Nat} (hi : i < ks.length) (h : i < stop ks i) : ks.getD i 0 = 6 ∧ ∀ j, i < j → j < stop ks i → isFin ks j = false := by
  unfold stop at h ⊢
  by_cases h6 : ks.getD i 0 = 6
  · rw [if_pos h6]
    exact ⟨h6, fun j h1 h2 => (ext_stop ks ks.length i hi (by omega)).mid j (by omega) h2⟩
  · rw [if_neg h6] at h
    omega

set_option maxHeartbeats 3200000 in
theorem law_covers (w : World) (A : Option Addr) (ks : List Int) (n c : Nat) (hn : ks.length = n) (hnc : n ≤ c) (hO : IntsAt w w.heap.size A ks) :
    Calls Try.prog 4 #[.slice A n c] w fun e w' => e = .returned (.bool true) ∧ Keeps [] w w' := by
  replace hO := Lib.hid hO
  replace hn := Lib.hid hn
  by_cases h60 : 60 < n
  · go_enter Try.func4, Try.ntmps4
    go_wp2_with fail
    refine (awake_any w).mono ?_
    rintro e w1 ⟨rfl, k1⟩
    replace k1 := Lib.hid k1
    go_wp2_with fail
    refine (awake_any w1).mono ?_
    rintro e w2 ⟨rfl, k2⟩
    replace k2 := Lib.hid (k1.out.trans k2)
    go_wp2_with fail
    go_ret
    exact ⟨rfl, k2.out⟩
  · go_enter Try.func4, Try.ntmps4
    go_wp2_with fail
    refine (awake_any w).mono ?_
    rintro e w1 ⟨rfl, k1⟩
    have i1 := Lib.hid (hO.out.keep k1 (by simp))
    replace k1 := Lib.hid k1
    go_wp2_with fail
    refine (script_any w1 w.heap.size A ks n c hn.out hnc k1.out.size i1.out (by omega)).mono ?_
    rintro e w2 ⟨v, rfl, o2, n2, k2⟩
    obtain ⟨A2, c2, rfl, _, _⟩ := own_slice o2
    have ka := KindsAt.of_own o2 hn.out
    replace ka := Lib.hid ka
    have i2 := Lib.hid (i1.out.keep k2 (by simp))
    replace k2 := Lib.hid (k1.out.trans k2)
    clear n2 k1 i1 o2
    go_wp2_with fail
    refine (split_any w2 A2 ks n c2 hn.out ka.out (by omega)).mono ?_
    rintro e w3 ⟨v, rfl, o3, n3, k3⟩
    obtain ⟨A3, c3, rfl, _, _⟩ := own_slice o3
    have pa := PairsAt.of_own o3 rfl
    replace pa := Lib.hid pa
    have i3 := Lib.hid (i2.out.keep k3 (by simp))
    replace k3 := Lib.hid (k2.out.trans k3)
    have hsl := Lib.hid (split_len ks)
    clear n3 k2 i2 ka o3 hO
    go_wp2_with fail
    go_loopw [3, 19] (fun nx i wr => ∃ k x : Nat, k ≤ (split ks).length ∧ i = .int .i64 k ∧ nx = .int .i64 x ∧ x ≤ n ∧ Hid (from_ ks x = (split ks).drop k) ∧ Keeps [] w3 wr) (fun _ i _ => (split ks).length - (intOf i).toNat)
    case atStart => exact ⟨0, 0, Nat.zero_le _, rfl, rfl, Nat.zero_le _, Lib.hid rfl, Keeps.refl _ _⟩
    case round =>
      obtain ⟨k, x, hk, rfl, rfl, hx, hd, hkw⟩ := hrel
      by_cases hlt : k < (split ks).length
      · obtain ⟨hxl, hp, hnext⟩ := split_at hd.out hlt
        have hge := stop_ge ks hxl
        have hmid := stop_mid hxl
        obtain ⟨g, rfl, f0, f1⟩ := (pa.out.keep hkw) k _ hp
        have ik := Lib.hid (i3.out.keep hkw (by simp))
        replace hkw := Lib.hid hkw
        replace hnext := Lib.hid hnext
        replace hmid := Lib.hid hmid
        clear hp
        generalize hL : stop ks x = L at *
        replace hL := Lib.hid hL
        have hk0 : (0 : Int) ≤ (k : Int) := by omega
        have hk1 : (k : Int) < ((split ks).length : Int) := by omega
        have hLn : L < n := by have := hge.2; have := hn.out; omega
        have hxL : x ≤ L := hge.1
        have hcx : (x : Int) ≤ (L : Int) := by omega
        have hcn : (L : Int) < (n : Int) := by omega
        clear hge hxl
        have hk60 : (k : Int) < 60 := by have := hsl.out; have := hn.out; omega
        by_cases hgt : x < L
        · have hcg : (x : Int) < (L : Int) := by omega
          have h6 := (hmid.out hgt).1
          have hxk : x < ks.length := by have := hn.out; omega
          have hx6 : ks[x]? = some 6 := by
            rw [List.getD_eq_getElem?_getD, List.getElem?_eq_getElem hxk] at h6
            rw [List.getElem?_eq_getElem hxk]
            simpa using h6
          obtain ⟨ga, off, rfl, _, c6⟩ := ik.out x 6 hx6
          have hcx2 : (x : Int) < (n : Int) := by omega
          have c7 : ∀ o, (wr.alloc o).cell? ⟨ga, off + x, none⟩ = some (.int .i64 6) := fun o => ((Keeps.refl [] wr).alloc o).cellEq c6 (by simp)
          have c8 : Hid (∀ j y, ks[j]? = some y → ∀ o, (wr.alloc o).cell? ⟨ga, off + j, none⟩ = some (.int .i64 y)) := Lib.hid (fun j y hj o => by
            obtain ⟨g', o', hA, _, hc⟩ := ik.out j y hj
            injection hA with hA
            injection hA with h1 h2
            subst h1 h2
            exact ((Keeps.refl [] wr).alloc o).cellEq hc (by simp))
          clear hx6 h6 hxk
          go_wp2_with fail
          clear c7 c6
          go_loop [6] (fun i => ∃ j : Nat, x ≤ j ∧ j ≤ L ∧ i = .int .i64 j) (fun i => L - (intOf i).toNat)
          case atStart => exact ⟨x, Nat.le_refl _, hxL, rfl⟩
          case round =>
            obtain ⟨j, hj1, hj2, rfl⟩ := hrel
            by_cases hjl : j < L
            · have hjk : j < ks.length := by have := hn.out; omega
              obtain ⟨y, hy⟩ : ∃ y, ks[j]? = some y := ⟨_, List.getElem?_eq_getElem hjk⟩
              have c9 := c8.out j y hy
              have hcjn : (j : Int) < (n : Int) := by omega
              have hcjL : (j : Int) < (L : Int) := by omega
              have hfy := fin_of hy
              clear hjk hy
              by_cases hxj : x < j
              · have hcxj : (x : Int) < (j : Int) := by omega
                have hff := (hmid.out hgt).2 j hxj hjl
                rw [hfy] at hff
                obtain ⟨hb7, hb8⟩ : (y == 7) = false ∧ (y == 8) = false := by simpa using hff
                clear hff hfy
                go_wp2_with fail
                go_roundw
                case rel => exact ⟨j + 1, by omega, by omega, by go_num⟩
                case measure => simp [intOf]; omega
              · obtain rfl : x = j := by omega
                clear hfy
                go_wp2_with fail
                go_roundw
                case rel => exact ⟨x + 1, by omega, by omega, by go_num⟩
                case measure => simp [intOf]; omega
            · obtain rfl : j = L := by omega
              go_wp2_with fail
              go_roundw
              case rel => exact ⟨k + 1, j + 1, by omega, by go_num, by go_num, by omega, by have := hnext.out; exact Lib.hid (by simpa using this), hkw.out.alloc _⟩
              case measure => simp [intOf]; omega
        · obtain rfl : x = L := by omega
          go_wp2_with fail
          go_loop [6] (fun i => i = .int .i64 x) (fun i => 0)
          case atStart => rfl
          case round =>
            obtain rfl := hrel
            go_wp2_with fail
            go_roundw
            case rel => exact ⟨k + 1, x + 1, by omega, by go_num, by go_num, by omega, by have := hnext.out; exact Lib.hid (by simpa using this), hkw.out.alloc _⟩
            case measure => simp [intOf]; omega
      · obtain rfl : k = (split ks).length := by omega
        have hxn := split_none hd.out (by rw [hn.out]; exact hx)
        obtain rfl : x = n := by rw [hxn, hn.out]
        replace hkw := Lib.hid hkw
        go_wp2_with fail
        go_ret
        exact ⟨rfl, k3.out.trans hkw.out⟩
end Go.Proofs.Ytbhdangjafokaaa
