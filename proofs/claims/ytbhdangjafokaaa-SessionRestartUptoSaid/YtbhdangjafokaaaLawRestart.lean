/- The walk of the statement SessionRestart. -/
import Derived.Test.YtbhdangjafokaaaLawExecutes
import Derived.Test.YtbhdangjafokaaaSessByte
namespace Go.Proofs.Ytbhdangjafokaaa
open Go.RowKit
set_option linter.unusedSimpArgs false
set_option linter.unusedVariables false

theorem fin_nx (ks : List Int) (cur dn : Nat) : nx ks (fin ks cur dn).1 (fin ks cur dn).2 = nx ks (fin ks cur dn).1 0 := by
  unfold fin
  by_cases hlt : cur < (split ks).length
  · rw [if_pos hlt]
  · rw [if_neg hlt]
    rw [nx_end (by simp; omega), nx_end (by simp; omega)]
theorem nx_start (ks : List Int) : (nx ks 0 0).1 = 0 := by
  rcases Nat.eq_zero_or_pos ks.length with h0 | h0
  · rw [nx_end (by rw [split_eq, from_end (by omega)]; exact Nat.le_refl _)]
  · have hp : (split ks)[0]? = some (0, stop ks 0) := by rw [split_eq, from_step h0]; rfl
    rw [nx_in hp, if_pos (by exact Nat.zero_le _)]
/-- What the law asks of the state behind Restart. -/
theorem nx_zero (ks : List Int) {cur : Nat} (hc : cur ≤ (split ks).length) : (nx ks cur 0).2 = !decide ((split ks).length ≤ cur) := by
  rcases Nat.lt_or_ge cur (split ks).length with hlt | hge
  · obtain ⟨p, hp⟩ : ∃ p, (split ks)[cur]? = some p := ⟨_, List.getElem?_eq_getElem hlt⟩
    have hm := split_mem hp
    rw [nx_in hp, if_pos (by omega)]
    simp; omega
  · rw [nx_end hge]
    simp; omega

set_option maxHeartbeats 3200000 in
theorem law_restart (w : World) (A B : Option Addr) (ks os : List Int) (n c l cl : Nat) (hn : ks.length = n) (hnc : n ≤ c) (hO : IntsAt w w.heap.size A ks) (hbig : n ≤ 1048576)
    (hl : os.length = l) (hlc : l ≤ cl) (hlm : cl ≤ maxLen) (hP : BytesAt w w.heap.size B os) :
    Calls Try.prog 6 #[.slice A n c, .slice B l cl] w fun e w' => e = .returned (.bool true) ∧ Keeps [] w w' := by
  replace hO := Lib.hid hO
  replace hn := Lib.hid hn
  replace hl := Lib.hid hl
  replace hP := Lib.hid hP
  unfold maxLen at hlm
  go_enter Try.func6, Try.ntmps6
  go_wp2_with fail
  refine (script_any w w.heap.size A ks n c hn.out hnc (Nat.le_refl _) hO.out hbig).mono ?_
  rintro e w2 ⟨v, rfl, o2, n2, k2⟩
  replace o2 := Lib.hid o2
  replace n2 := Lib.hid n2
  replace k2 := Lib.hid k2
  clear hO
  go_wp2_with fail
  refine (new_ok w2 0 v _ ks n hn.out o2.out n2.out hbig (by decide) (by decide)).mono ?_
  rintro e w3 ⟨b, rfl, r3, hb, k3⟩
  have T : Hid (St w w3 b 0 ks 0 0) := Lib.hid ⟨r3, (k2.out.trans k3).nil⟩
  replace hb : w.heap.size ≤ b := Nat.le_trans k2.out.size hb
  clear o2 n2 k2 k3 r3
  by_cases h60 : 60 < n ∨ (n ≤ 60 ∧ 60 < l)
  · rcases h60 with h60 | ⟨h60, h61⟩
    all_goals
      go_wp2_with fail
      refine (awake_any w3).mono ?_
      rintro e w4 ⟨rfl, k4⟩
      replace T := Lib.hid (T.out.keep_ k4)
      clear k4
      go_wp2_with fail
      refine (awake_any w4).mono ?_
      rintro e w5 ⟨rfl, k5⟩
      replace T := Lib.hid (T.out.keep_ k5)
      clear k5
      go_wp2_with fail
      go_ret
      exact ⟨rfl, T.out.keep.mono (by intro x hx; simp at hx; subst hx; exact .inr hb)⟩
  · have h61 : n ≤ 60 := by omega
    have h62 : l ≤ 60 := by omega
    clear h60
    go_wp2_with fail
    refine (awake_any w3).mono ?_
    rintro e w4 ⟨rfl, k4⟩
    replace T := Lib.hid (T.out.keep_ k4)
    clear k4
    have hsl := Lib.hid (split_len ks)
    go_wp2_with fail
    go_loopw [6, 34] (fun first i wr => ∃ k cur dn : Nat, k ≤ l ∧ i = .int .i64 k ∧ first = .int .i64 ((nx ks cur 0).1 : Nat) ∧ Hid (St w wr b 0 ks cur dn)) (fun _ i _ => l - (intOf i).toNat)
    case atStart => 
      exact ⟨0, 0, 0, Nat.zero_le _, rfl, by rw [nx_start]; rfl, T⟩
    case round =>
      clear T
      obtain ⟨k, cur, dn, hk, rfl, rfl, T⟩ := hrel
      by_cases hlt : k < l
      · obtain ⟨o, ho⟩ : ∃ o, os[k]? = some o := ⟨os[k]'(by have := hl.out; omega), List.getElem?_eq_getElem _⟩
        obtain ⟨h8, g, off, rfl, hg, co⟩ := (hP.out.keep T.out.keep (by simp; omega)) k o ho
        clear ho
        have hk0 : (0 : Int) ≤ (k : Int) := by omega
        have hkl : (k : Int) < (l : Int) := by omega
        by_cases h3 : o % 4 = 3
        · obtain ⟨c', d', hf⟩ : ∃ c' d', fin ks cur dn = (c', d') := ⟨_, _, rfl⟩
          have hfx := fin_nx ks cur dn
          rw [hf] at hfx
          replace hfx : Hid (nx ks c' d' = nx ks c' 0) := Lib.hid hfx
          go_wp2_with fail
          refine (st_finish T.out hf).mono ?_
          rintro e v1 ⟨rfl, T1⟩
          clear T co
          go_wp2_with fail
          refine (st_next T1.out rfl).mono ?_
          rintro e v2 ⟨rfl, T2⟩
          clear T1
          go_wp2_with fail
          go_roundw
          case rel => exact ⟨k + 1, _, _, by omega, by go_num, by rw [hfx.out], T2⟩
          case measure => simp [intOf]; omega
        · go_wp2_with fail
          refine (st_advance T.out rfl).mono ?_
          rintro e v1 ⟨rfl, T1⟩
          clear T co
          go_wp2_with fail
          go_roundw
          case rel => exact ⟨k + 1, _, _, by omega, by go_num, rfl, T1⟩
          case measure => simp [intOf]; omega
      · obtain rfl : k = l := by omega
        have hcu := T.out.rep.cur
        have hz := nx_zero ks hcu
        go_wp2_with fail
        refine (st_trans T.out rfl).mono ?_
        rintro e v1 ⟨rfl, T1⟩
        clear T
        go_wp2_with fail
        refine (st_restart T1.out).mono ?_
        rintro e v2 ⟨rfl, T2⟩
        clear T1
        go_wp2_with fail
        refine (st_next T2.out rfl).mono ?_
        rintro e v3 ⟨rfl, T3⟩
        clear T2
        go_wp2_with fail
        refine (st_trans T3.out rfl).mono ?_
        rintro e v4 ⟨rfl, T4⟩
        clear T3
        go_wp2_with fail
        refine (st_done T4.out rfl).mono ?_
        rintro e v5 ⟨rfl, T5⟩
        clear T4
        clear hz
        generalize decide ((split ks).length ≤ cur) = dd
        cases dd
        all_goals
          go_wp2_with fail
          go_ret
          exact ⟨by simp, T5.out.keep.mono (by intro x hx; simp at hx; subst hx; exact .inr hb)⟩
end Go.Proofs.Ytbhdangjafokaaa
