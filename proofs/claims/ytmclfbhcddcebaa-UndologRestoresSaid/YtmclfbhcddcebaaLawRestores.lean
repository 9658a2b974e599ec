/- The walk of the statement UndologRestores. -/
import Derived.Test.YtmclfbhcddcebaaU42
namespace Go.Proofs.Ytmclfbhcddcebaa
open Go.RowKit Go.Shelf
set_option linter.unusedSimpArgs false
set_option linter.unusedVariables false

set_option maxRecDepth 100000 in
set_option maxHeartbeats 32000000 in
theorem law_restores (w : World) (A0 A1 : Option Addr) (c0 c1 : Nat) (l0 l1 : List Oo) (h1 : l0.length ≤ c0) (h2 : c0 ≤ maxLen) (h3 : OpsAt w [] A0 l0) (h4 : ∀ o ∈ l0, wfC o.c ∧ (Lit.int .i64 o.n).wf = true)
    (u1 : l1.length ≤ c1) (u2 : c1 ≤ maxLen) (u3 : OpsAt w [] A1 l1) (u4 : ∀ o ∈ l1, wfC o.c ∧ (Lit.int .i64 o.n).wf = true) :
    Calls Try.prog 8 #[.slice A0 l0.length c0, .slice A1 l1.length c1] w fun e w' => e = .returned (.bool true) ∧ Keeps [] w w' := by
  obtain ⟨i7, hi7, hy0, hy1, hy2⟩ := info_parts info37
  replace hi7 := Lib.hid hi7
  replace hy0 := Lib.hid hy0
  replace hy1 := Lib.hid hy1
  replace hy2 := Lib.hid hy2
  obtain ⟨nb, hnb⟩ : ∃ n, n = l0.length := ⟨_, rfl⟩
  obtain ⟨na, hna⟩ : ∃ n, n = l1.length := ⟨_, rfl⟩
  rw [← hnb] at h1 ⊢
  rw [← hna] at u1 ⊢
  have hF := Lib.hid (fun (w1 : World) (k : Keeps [] w w1) => few_any w1 [] A0 l0 nb c0 hnb.symm (h3.keep k (by simp)) (by omega))
  have hG := Lib.hid (fun (w1 : World) (k : Keeps [] w w1) => few_any w1 [] A1 l1 na c1 hna.symm (u3.keep k (by simp)) (by omega))
  replace hnb := Lib.hid hnb
  replace hna := Lib.hid hna
  replace h3 := Lib.hid h3
  replace h4 := Lib.hid h4
  replace u3 := Lib.hid u3
  replace u4 := Lib.hid u4
  clear h1 h2 u1 u2
  go_enter Try.func8, Try.ntmps8
  go_wp2_with fail
  refine (awake_any w).mono ?_
  rintro e w1 ⟨rfl, k1⟩
  replace hF := Lib.hid (hF.out w1 k1)
  have kk := Lib.hid k1
  clear k1
  cases hfew : fewB l0
  · rw [hfew] at hF
    clear hfew
    go_wp2_with fail
    refine hF.out.mono ?_
    rintro e w2 ⟨rfl, k2⟩
    replace kk := Lib.hid (kk.out.trans k2)
    clear hF k2
    go_wp2_with fail
    refine (awake_any w2).mono ?_
    rintro e w9 ⟨rfl, k9⟩
    replace kk := Lib.hid (kk.out.trans k9)
    clear k9
    go_wp2_with fail
    go_ret
    exact ⟨rfl, kk.out⟩
  · have hfl := Lib.hid (few_len hfew)
    rw [hfew] at hF
    clear hfew
    go_wp2_with fail
    refine hF.out.mono ?_
    rintro e w2 ⟨rfl, k2⟩
    replace kk := Lib.hid (kk.out.trans k2)
    clear hF k2
    replace hG := Lib.hid (hG.out w2 kk.out)
    cases hfew : fewB l1
    · rw [hfew] at hG
      clear hfew
      go_wp2_with fail
      refine hG.out.mono ?_
      rintro e w2 ⟨rfl, k2⟩
      replace kk := Lib.hid (kk.out.trans k2)
      clear hG k2
      go_wp2_with fail
      refine (awake_any w2).mono ?_
      rintro e w9 ⟨rfl, k9⟩
      replace kk := Lib.hid (kk.out.trans k9)
      clear k9
      go_wp2_with fail
      go_ret
      exact ⟨rfl, kk.out⟩
    · have hgl := Lib.hid (few_len hfew)
      rw [hfew] at hG
      clear hfew
      go_wp2_with fail
      refine hG.out.mono ?_
      rintro e w2 ⟨rfl, k2⟩
      replace kk := Lib.hid (kk.out.trans k2)
      clear hG k2
      have hn60 : nb ≤ 60 ∧ na ≤ 60 := ⟨by have := hfl.out.1; have := hnb.out; omega, by have := hgl.out.1; have := hna.out; omega⟩
      go_wp2_with fail
      refine (new_any w2).mono ?_
      rintro e w3 ⟨rfl, rfl⟩
      have hD0 := Lib.hid (Duo.new_ 64 82 31 99 w2 (GLog.new_ 64 82 w2.heap.size w2 (Nat.le_refl _) [] (by simp)))
      obtain ⟨R0, hR0, hI0, hS0⟩ := ops_src (h3.out.keep kk.out (by simp))
      obtain ⟨R1, hR1, hI1, hS1⟩ := ops_src (u3.out.keep kk.out (by simp))
      rw [← hnb.out] at hS0
      rw [← hna.out] at hS1
      obtain ⟨g1, hg1⟩ : ∃ g, g = w2.heap.size := ⟨_, rfl⟩
      obtain ⟨g2, hg2⟩ : ∃ g, g = w2.heap.size + 1 := ⟨_, rfl⟩
      have hk0 : Hid (Keeps [] w2 ((w2.alloc (.cells #[.slice none 0 0, .slice none 0 0] 64)).alloc (.cells #[.slice none 0 0, .slice none 0 0] 31))) := Lib.hid (((Keeps.refl [] w2).alloc _).alloc _)
      have hgs : (w2.alloc (.cells #[.slice none 0 0, .slice none 0 0] 64)).heap.size = g2 := by rw [hg2]; simp
      rw [← hg2, ← hg1] at hD0
      replace hD0 : Hid (Duo 64 82 31 99 w2.heap.size _ _ _ _ g1 g2 [] [] [] []) := Lib.hid (by rw [← hg1]; exact hD0.out)
      have hX0 : Hid (∀ x ∈ [g2, g1], w2.heap.size ≤ x) := Lib.hid (by simp; omega)
      have hX00 := hX0
      obtain ⟨w4, hw4⟩ : ∃ x, x = ((w2.alloc (.cells #[.slice none 0 0, .slice none 0 0] 64)).alloc (.cells #[.slice none 0 0, .slice none 0 0] 31)) := ⟨_, rfl⟩
      rw [← hw4] at hk0 hD0
      have hrl0 : Hid (R0.length = nb) := Lib.hid (by have := congrArg List.length hR0; rw [List.length_map, ← hnb.out] at this; exact this)
      have hrl1 : Hid (R1.length = na) := Lib.hid (by have := congrArg List.length hR1; rw [List.length_map, ← hna.out] at this; exact this)
      have hf0 : Hid ((flatO R0).length = nb * 7) := Lib.hid (by rw [flatO_len, hrl0.out])
      have hf1 : Hid ((flatO R1).length = na * 7) := Lib.hid (by rw [flatO_len, hrl1.out])
      have hsz4 : w4.heap.size = w2.heap.size + 1 + 1 := by rw [hw4]; simp
      have hv : Hid ((((w2.alloc (.cells #[.slice none 0 0, .slice none 0 0] 64)).alloc (.cells #[.slice none 0 0, .slice none 0 0] 31)).alloc (.cells #[] 37)).ownsRow w4.heap.size 37 7 (.slice (some ⟨w2.heap.size + 1 + 1, 0, none⟩) 0 0) 0 []) := Lib.hid (by
        have := own_void w4 37 7
        rw [← hw4, ← hsz4]
        exact this)
      replace hS0 : Hid (SrcAt (((w2.alloc (.cells #[.slice none 0 0, .slice none 0 0] 64)).alloc (.cells #[.slice none 0 0, .slice none 0 0] 31)).alloc (.cells #[] 37)) A0 nb (flatO R0)) := Lib.hid (by rw [← hw4]; exact hS0.keep0 (hk0.out.trans ((Keeps.refl [] w4).alloc _)))
      have hbs : Hid (w4.heap.size ≤ (((w2.alloc (.cells #[.slice none 0 0, .slice none 0 0] 64)).alloc (.cells #[.slice none 0 0, .slice none 0 0] 31)).alloc (.cells #[] 37)).heap.size) := Lib.hid (by rw [← hw4]; exact ((Keeps.refl [] w4).alloc _).size)
      have k04 : Hid (Keeps [] w4 (((w2.alloc (.cells #[.slice none 0 0, .slice none 0 0] 64)).alloc (.cells #[.slice none 0 0, .slice none 0 0] 31)).alloc (.cells #[] 37))) := Lib.hid (by rw [← hw4]; exact (Keeps.refl [] w4).alloc _)
      obtain ⟨n, hn⟩ : ∃ n, n = nb + 1 + na := ⟨_, rfl⟩
      obtain ⟨Rf, hRf⟩ : ∃ R, R = R0 ++ (hereO, raw0) :: R1 := ⟨_, rfl⟩
      have hlf : Hid (Rf.length = n) := Lib.hid (by rw [hRf, hn, List.length_append, List.length_cons, hrl0.out, hrl1.out]; omega)
      have hIf : Hid (∀ p ∈ Rf, RawIs w2 [] p.2 p.1.c ∧ Small p.1.c ∧ wfC p.1.c) := Lib.hid (fun p hp => by
        rw [hRf] at hp
        rcases List.mem_append.1 hp with hp | hp
        · have hm : p.1 ∈ l0 := by rw [← hR0]; exact List.mem_map_of_mem hp
          exact ⟨hI0 p hp, fewO_small (hfl.out.2 _ hm), (h4.out _ hm).1⟩
        · rcases List.mem_cons.1 hp with rfl | hp
          · exact ⟨⟨rfl, rfl, rfl, rfl, RowAt.nil _ _ _, RowAt.nil _ _ _⟩, ⟨by simp [hereO, chg0], by simp [hereO, chg0]⟩, by constructor <;> decide⟩
          · have hm : p.1 ∈ l1 := by rw [← hR1]; exact List.mem_map_of_mem hp
            exact ⟨hI1 p hp, fewO_small (hgl.out.2 _ hm), (u4.out _ hm).1⟩)
      have hnbf : Hid (Rf[nb]? = some (hereO, raw0)) := Lib.hid (by rw [hRf, List.getElem?_append_right (by rw [hrl0.out]; exact Nat.le_refl _), hrl0.out, Nat.sub_self]; rfl)
      have hn121 : n ≤ 121 ∧ nb < n := by omega
      have hap : Hid (∀ (v : Value) (w9 : World), w9.ownsRow w4.heap.size 37 7 v (nb + 1 + na) ((flatO R0 ++ flatO [(hereO, raw0)]) ++ flatO R1) → ∃ A9 c9, v = .slice A9 n c9 ∧ Hid (w9.ownsRow w4.heap.size 37 7 (.slice A9 n c9) n (flatO Rf))) := Lib.hid (fun v w9 h => by
        rw [← flatO_append, ← flatO_append, List.append_assoc, ← hn, show [(hereO, raw0)] ++ R1 = (hereO, raw0) :: R1 from rfl, ← hRf] at h
        obtain ⟨A9, c9, rfl, _⟩ := own_slice h
        exact ⟨A9, c9, rfl, Lib.hid h⟩)
      replace hS1 := Lib.hid hS1
      replace hR0 := Lib.hid hR0
      replace hR1 := Lib.hid hR1
      replace hn := Lib.hid hn
      replace hRf := Lib.hid hRf
      replace hg1 := Lib.hid hg1
      replace hg2 := Lib.hid hg2
      replace hgs := Lib.hid hgs
      replace hw4 := Lib.hid hw4
      replace hsz4 := Lib.hid hsz4
      clear hI0 hI1
      go_wp2_with (first
        | (at_builtin; refine wpList_append_row (by rfl) (.tmp 34) (.tmp 35) 22 rfl w4.heap.size 37 i7 (.agg #[.int .i64 0, .int .i64 0, .int .i64 0, .slice none 0 0, .slice none 0 0, .string ⟨#[]⟩, .int .i64 0]) 7 96 Try.underlying22 hi7.out hy0.out hy1.out hy2.out rfl (by decide) _ 0 [] rfl hv.out A0 nb c0 (flatO R0) rfl hf0.out hS0.out (flatO_one R0) (by unfold maxLen; omega) (by omega) hbs.out ?_; intro v5 w5 q1 q2 q3 q4; have k5 : Hid (Keeps [] w4 w5) := Lib.hid (keeps_append k04.out (Keeps.refl [] _) hv.out q2.out); have o5 : Hid (w5.ownsRow w4.heap.size 37 7 v5 nb (flatO R0)) := Lib.hid (by have := q1.out; rw [List.nil_append, Nat.zero_add] at this; exact this); obtain ⟨A5, c5, rfl, _⟩ := own_slice o5.out; have k5a : Hid (Keeps [] w5 (w5.alloc (.cells #[.int .i64 1, .int .i64 0, .int .i64 0, .slice none 0 0, .slice none 0 0, .string ⟨#[104, 101, 114, 101]⟩, .int .i64 0] 37))) := Lib.hid ((Keeps.refl [] w5).alloc _); have o5a := Lib.hid (own_keep0 o5.out k5a.out); have s5a : Hid (SrcAt (w5.alloc (.cells #[.int .i64 1, .int .i64 0, .int .i64 0, .slice none 0 0, .slice none 0 0, .string ⟨#[104, 101, 114, 101]⟩, .int .i64 0] 37)) (some ⟨w5.heap.size, 0, none⟩) 1 (flatO [(hereO, raw0)])) := Lib.hid (src_here w5); have b5a : Hid (w4.heap.size ≤ (w5.alloc (.cells #[.int .i64 1, .int .i64 0, .int .i64 0, .slice none 0 0, .slice none 0 0, .string ⟨#[104, 101, 114, 101]⟩, .int .i64 0] 37)).heap.size) := Lib.hid (k5.out.trans k5a.out).size; clear q1 q2 q3 q4)
        | (at_builtin; refine wpList_append_row (by rfl) (.tmp 36) (.tmp 38) 22 rfl w4.heap.size 37 i7 (.agg #[.int .i64 0, .int .i64 0, .int .i64 0, .slice none 0 0, .slice none 0 0, .string ⟨#[]⟩, .int .i64 0]) 7 96 Try.underlying22 hi7.out hy0.out hy1.out hy2.out rfl (by decide) _ nb (flatO R0) rfl o5a.out (some ⟨w5.heap.size, 0, none⟩) 1 1 (flatO [(hereO, raw0)]) rfl rfl s5a.out (flatO_one _) (by unfold maxLen; omega) (by omega) b5a.out ?_; intro v6 w6 q1 q2 q3 q4; have k6 : Hid (Keeps [] w4 w6) := Lib.hid (keeps_append (k5.out.trans k5a.out) (Keeps.refl [] _) o5a.out q2.out); have o6 := q1; have s6 : Hid (SrcAt w6 A1 na (flatO R1)) := Lib.hid (hS1.out.keep0 (hk0.out.trans k6.out)); obtain ⟨A6, c6, rfl, _⟩ := own_slice o6.out; clear q1 q2 q3 q4)
        | (at_builtin; refine wpList_append_row (by rfl) (.tmp 39) (.tmp 40) 22 rfl w4.heap.size 37 i7 (.agg #[.int .i64 0, .int .i64 0, .int .i64 0, .slice none 0 0, .slice none 0 0, .string ⟨#[]⟩, .int .i64 0]) 7 96 Try.underlying22 hi7.out hy0.out hy1.out hy2.out rfl (by decide) _ (nb + 1) (flatO R0 ++ flatO [(hereO, raw0)]) rfl o6.out A1 na c1 (flatO R1) rfl hf1.out s6.out (flatO_one R1) (by unfold maxLen; omega) (by omega) k6.out.size ?_; intro v9 w9 q1 q2 q3 q4; have k9 : Hid (Keeps [] w4 w9) := Lib.hid (keeps_append k6.out (Keeps.refl [] _) o6.out q2.out); obtain ⟨A9, c9, rfl, o9⟩ := hap.out v9 w9 q1.out; clear q1 q2 q3 q4))
      have hD9 := Lib.hid (hD0.out.keep k9.out)
      have hk9 := Lib.hid (hk0.out.trans k9.out)
      have hA9 : Hid (∀ y ∈ fb A9, y ∉ [g2, g1]) := Lib.hid (fun y hy hm => by
        have := (own_lo o9.out hy).1
        have h5 := hsz4.out
        have h6 := hg1.out
        have h7 := hg2.out
        simp only [List.mem_cons, List.not_mem_nil, or_false] at hm
        omega)
      rw [← hg2.out, ← hg1.out]
      clear k9 o6 k6 s6 o5a s5a b5a k5a k5 o5 hv hS0 hbs k04 hap hgs hD0 hk0
      clear hX0 hg1 hg2 hw4
      go_loopw [7, 43] (fun sv i wr => ∃ (k : Nat) (X F1 F2 : List Nat) (L : List Chg) (S : List Pnt), k ≤ n ∧ i = .int .i64 k ∧ Hid (Duo 64 82 31 99 w2.heap.size wr X F1 F2 g1 g2 L L S S) ∧ Hid (∀ x ∈ X, w2.heap.size ≤ x) ∧ Hid (Keeps [] w2 wr) ∧ Hid (SVP nb wr X sv k L S) ∧ Hid (Good L S ∧ L.length ≤ k ∧ S.length ≤ k) ∧ Hid (wr.ownsRow w4.heap.size 37 7 (.slice A9 n c9) n (flatO Rf)) ∧ Hid (∀ y ∈ fb A9, y ∉ X)) (fun _ i _ => n - (intOf i).toNat)
      case atStart => exact ⟨0, _, _, _, [], [], Nat.zero_le _, rfl, hD9, hX00, hk9, Lib.hid (.inl ⟨Nat.zero_le _, rfl⟩), Lib.hid ⟨Good.nil, Nat.le_refl _, Nat.le_refl _⟩, o9, hA9⟩
      case round =>
        obtain ⟨k, X, F1, F2, L, S, hk, rfl, hD, hXb, hkw, hsv, hgd, hrow, hrX⟩ := hrel
        clear hD9 hk9 o9 hA9 hX00
        obtain ⟨wq, hwq⟩ : ∃ x, x = wr := ⟨_, rfl⟩
        subst hwq
        by_cases hlt : k < n
        · have hki : (k : Int) < (n : Int) := by omega
          obtain ⟨g9, c9', hv9, _, _, hb9, hlt9, hcell9, _⟩ := own_row3 hrow.out (by omega)
          injection hv9 with hv9 _ hv9c
          subst hv9
          subst hv9c
          clear hb9 hlt9
          have hgood := Lib.hid hgd.out.1
          have hLl : Hid (L.length ≤ 121 ∧ S.length ≤ 121) := Lib.hid (by have := hgd.out.2; omega)
          by_cases hkb : k = nb
          · obtain rfl : nb = k := hkb.symm
            have hp := hnbf.out
            have z0 := hcell9 _ _ (flatO_get Rf _ _ hp 0 _ rfl)
            have z1 := hcell9 _ _ (flatO_get Rf _ _ hp 1 _ rfl)
            have z2 := hcell9 _ _ (flatO_get Rf _ _ hp 2 _ rfl)
            have z3 := hcell9 _ _ (flatO_get Rf _ _ hp 3 _ rfl)
            have z4 := hcell9 _ _ (flatO_get Rf _ _ hp 4 _ rfl)
            have z5 := hcell9 _ _ (flatO_get Rf _ _ hp 5 _ rfl)
            have z6 := hcell9 _ _ (flatO_get Rf _ _ hp 6 _ rfl)
            rw [Nat.add_zero] at z0
            dsimp only [hereO, chg0, raw0] at z0 z1 z2 z3 z4 z5 z6
            have hSe : S = [] := by
              rcases hsv.out with ⟨_, h⟩ | ⟨h, _⟩
              · exact h
              · omega
            have hst := @stL_here L
            have hp' := hIf.out _ (List.mem_of_getElem? hp)
            have kal : Hid (Keeps [] wq (wq.alloc (.cells #[.int .i64 1, .int .i64 0, .int .i64 0, .slice none 0 0, .slice none 0 0, .string ⟨#[104, 101, 114, 101]⟩, .int .i64 0] 37))) := Lib.hid ((Keeps.refl [] wq).alloc _)
            have hDa := Lib.hid (hD.out.keep kal.out)
            have hka := Lib.hid (hkw.out.trans kal.out)
            have HA := Lib.hid (do_any w2.heap.size _ X F1 F2 g1 g2 L S hereO raw0 hDa.out hgood.out ((hp'.1.other (fun y hy => .inr (hXb.out y hy))).keep hka.out (by simp)) hp'.2.1 hp'.2.2 (by have := hLl.out; omega) (by have := hLl.out; omega))
            have hgs := good_step hgood.out hereO
            have hgl2 := step_len L S hereO
            rw [hSe] at HA hgs hgl2
            rw [hst.1, hst.2] at HA hgs hgl2
            replace hp := Lib.hid hp
            replace hp' := Lib.hid hp'
            clear hkb
            replace hSe := Lib.hid hSe
            replace hst := Lib.hid hst
            replace hgs := Lib.hid hgs
            replace hgl2 := Lib.hid hgl2
            clear hcell9
            have hrem : (1 : Int).tmod 5 = 1 := by decide
            go_wp2_with fail
            refine HA.out.mono ?_
            rintro e wn ⟨X', F1', F2', rfl, D3, kA, hXX⟩
            have hkn : Hid (Keeps [] w2 wn) := Lib.hid (hDa.out.base rfl hka.out kA.out (fun y hy => List.mem_append.1 hy))
            have hXn : Hid (∀ x ∈ X', w2.heap.size ≤ x) := Lib.hid (fun x hx => (hXX.out x hx).elim (hXb.out x) (fun h => Nat.le_trans hka.out.size h))
            have kqn : Hid (Keeps (F1 ++ F2) wq wn) := Lib.hid (kal.out.nil.trans kA.out)
            have hFX : Hid (∀ y ∈ F1 ++ F2, y ∈ X) := Lib.hid (fun y hy => by
              rcases List.mem_append.1 hy with hy | hy
              · exact hDa.out.a.sub y hy
              · exact hDa.out.c.sub y hy)
            have hXq : Hid (∀ x ∈ X', x ∈ X ∨ wq.heap.size ≤ x) := Lib.hid (fun x hx => (hXX.out x hx).imp_right (fun h => Nat.le_trans kal.out.size h))
            have hrow' := Lib.hid (own_keep hrow.out kqn.out (fun g hg hm => hrX.out g (own_fb hg) (hFX.out g hm)))
            have hrX' : Hid (∀ y ∈ fb (some ⟨g9, 0, none⟩), y ∉ X') := Lib.hid (fun y hy hm => by
              rcases hXq.out y hm with h | h
              · exact hrX.out y hy h
              · have := (own_lo hrow.out hy).2.1; omega)
            obtain ⟨Ac, cc, y20, hch⟩ := glog_chs D3.out.c
            have hsL : Hid (∀ c ∈ L, Small c) := Lib.hid (fun c hc => (D3.out.c.sm c hc).1)
            obtain ⟨ll, hll⟩ : ∃ x, x = L.length := ⟨_, rfl⟩
            rw [← hll] at y20
            have HP := Lib.hid (perf_any wn X' none Ac [] L 0 0 ll cc (ClsAt.nil _ _ _) hch rfl hll.symm (by have := hLl.out; omega) hsL.out (by simp) D3.out.a.hi)
            clear HA hD hDa kA hXX z0 z1 z2 z3 z4 z5 z6 hch hsv
            replace hll := Lib.hid hll
            cases hpf : perf [] L with
            | none =>
              rw [hpf] at HP
              replace hpf := Lib.hid hpf
              go_wp2_with fail
              refine HP.out.mono ?_
              rintro e w5' ⟨k5, v5, rfl⟩
              have D4 := Lib.hid (D3.out.keep k5.out)
              have k4 := Lib.hid (hkn.out.trans k5.out)
              have o4 := Lib.hid (own_keep0 hrow'.out k5.out)
              have hsv' : Hid (SVP nb w5' X' v5 (nb + 1) L [(HERE, L.length)]) := Lib.hid (.inr ⟨by omega, L, [], by simp, rfl, by rw [hpf.out]; trivial⟩)
              clear HP k5 y20 hpf
              go_wp2_with fail
              go_roundw
              case rel => exact ⟨nb + 1, _, _, _, _, _, by omega, by go_num, D4, hXn, k4, hsv', Lib.hid ⟨hgs.out, by have := hgd.out; omega, by simp⟩, o4, hrX'⟩
              case measure => simp [intOf]; omega
            | some sb =>
              rw [hpf] at HP
              obtain ⟨ns, hns⟩ : ∃ x, x = sb.length := ⟨_, rfl⟩
              rw [show (PerfP wn X' (some sb)) = PerfS wn X' sb ns from by rw [hns]; rfl] at HP
              replace hpf := Lib.hid hpf
              replace hns := Lib.hid hns
              go_wp2_with fail
              refine HP.out.mono ?_
              rintro e w5' ⟨k5, A5', c5', rfl, hc5⟩
              have D4 := Lib.hid (D3.out.keep k5.out)
              have k4 := Lib.hid (hkn.out.trans k5.out)
              have o4 := Lib.hid (own_keep0 hrow'.out k5.out)
              have hsv' : Hid (SVP nb w5' X' (.slice A5' ns c5') (nb + 1) L [(HERE, L.length)]) := Lib.hid (.inr ⟨by omega, L, [], by simp, rfl, by rw [hpf.out]; exact ⟨A5', c5', by rw [hns.out], hc5.out⟩⟩)
              clear HP k5 y20 hpf hc5
              go_wp2_with fail
              go_roundw
              case rel => exact ⟨nb + 1, _, _, _, _, _, by omega, by go_num, D4, hXn, k4, hsv', Lib.hid ⟨hgs.out, by have := hgd.out; omega, by simp⟩, o4, hrX'⟩
              case measure => simp [intOf]; omega
          · have hkbi : ¬ (k : Int) = (nb : Int) := by omega
            have hkbb : ((k : Int) == (nb : Int)) = false := by simpa using hkbi
            obtain ⟨⟨⟨ok, oc, os, on⟩, ⟨t, id, Ao, no, co, An, nn, cn⟩⟩, hp⟩ : ∃ p, Rf[k]? = some p := ⟨Rf[k]'(by rw [hlf.out]; exact hlt), List.getElem?_eq_getElem _⟩
            have z0 := hcell9 _ _ (flatO_get Rf _ _ hp 0 _ rfl)
            have z1 := hcell9 _ _ (flatO_get Rf _ _ hp 1 _ rfl)
            have z2 := hcell9 _ _ (flatO_get Rf _ _ hp 2 _ rfl)
            have z3 := hcell9 _ _ (flatO_get Rf _ _ hp 3 _ rfl)
            have z4 := hcell9 _ _ (flatO_get Rf _ _ hp 4 _ rfl)
            have z5 := hcell9 _ _ (flatO_get Rf _ _ hp 5 _ rfl)
            have z6 := hcell9 _ _ (flatO_get Rf _ _ hp 6 _ rfl)
            rw [Nat.add_zero] at z0
            dsimp only [hereO, chg0, raw0] at z0 z1 z2 z3 z4 z5 z6
            have hw6 : IntKind.i64.wrap (ok.tmod 5) = ok.tmod 5 := IntWalk.i64_in _ (by have := Int.tmod_lt_of_pos ok (show (0 : Int) < 5 by omega); have := Int.lt_tmod_of_pos ok (show (0 : Int) < 5 by omega); omega)
            have hp' := hIf.out _ (List.mem_of_getElem? hp)
            dsimp only at hp'
            have kal : Hid (Keeps [] wq (wq.alloc (.cells #[.int .i64 ok, .int .i64 t, .int .i64 id, .slice Ao no co, .slice An nn cn, .string os, .int .i64 on] 37))) := Lib.hid ((Keeps.refl [] wq).alloc _)
            have hDa := Lib.hid (hD.out.keep kal.out)
            have hka := Lib.hid (hkw.out.trans kal.out)
            clear hcell9
            by_cases k0 : ok.tmod 5 = 0
            · have HA := Lib.hid (do_any w2.heap.size _ X F1 F2 g1 g2 L S ⟨ok, oc, os, on⟩ ⟨t, id, Ao, no, co, An, nn, cn⟩ hDa.out hgood.out ((hp'.1.other (fun y hy => .inr (hXb.out y hy))).keep hka.out (by simp)) hp'.2.1 hp'.2.2 (by have := hLl.out; omega) (by have := hLl.out; omega))
              have hst := @stL_add L S ⟨ok, oc, os, on⟩ k0
              have hgs := good_step hgood.out ⟨ok, oc, os, on⟩
              have hgl2 := step_len L S ⟨ok, oc, os, on⟩
              rw [hst.1, hst.2] at HA hgs hgl2
              unfold oCells at HA
              dsimp only at HA hgs hgl2
              replace hp := Lib.hid hp
              replace hp' := Lib.hid hp'
              replace hkb := Lib.hid hkb
              replace hst := Lib.hid hst
              replace hgs := Lib.hid hgs
              replace hgl2 := Lib.hid hgl2
              go_wp2_with fail
              refine HA.out.mono ?_
              rintro e wn ⟨X', F1', F2', rfl, D3, kA, hXX⟩
              have hkn : Hid (Keeps [] w2 wn) := Lib.hid (hDa.out.base rfl hka.out kA.out (fun y hy => List.mem_append.1 hy))
              have hXn : Hid (∀ x ∈ X', w2.heap.size ≤ x) := Lib.hid (fun x hx => (hXX.out x hx).elim (hXb.out x) (fun h => Nat.le_trans hka.out.size h))
              have kqn : Hid (Keeps (F1 ++ F2) wq wn) := Lib.hid (kal.out.nil.trans kA.out)
              have hFX : Hid (∀ y ∈ F1 ++ F2, y ∈ X) := Lib.hid (fun y hy => by
                rcases List.mem_append.1 hy with hy | hy
                · exact hDa.out.a.sub y hy
                · exact hDa.out.c.sub y hy)
              have hXq : Hid (∀ x ∈ X', x ∈ X ∨ wq.heap.size ≤ x) := Lib.hid (fun x hx => (hXX.out x hx).imp_right (fun h => Nat.le_trans kal.out.size h))
              have hrow' := Lib.hid (own_keep hrow.out kqn.out (fun g hg hm => hrX.out g (own_fb hg) (hFX.out g hm)))
              have hrX' : Hid (∀ y ∈ fb (some ⟨g9, 0, none⟩), y ∉ X') := Lib.hid (fun y hy hm => by
                rcases hXq.out y hm with h | h
                · exact hrX.out y hy h
                · have := (own_lo hrow.out hy).2.1; omega)
              have hsv' := Lib.hid (hsv.out.add hkb.out kqn.out hFX.out hXq.out oc)
              clear HA hD hDa kA hXX z0 z1 z2 z3 z4 z5 z6
              go_wp2_with fail
              go_roundw
              case rel => exact ⟨k + 1, _, _, _, _, _, by omega, by go_num, D3, hXn, hkn, hsv', Lib.hid ⟨hgs.out, by have := hgl2.out; have := hgd.out; omega, by have := hgl2.out; have := hgd.out; omega⟩, hrow', hrX'⟩
              case measure => simp [intOf]; omega
            · have hk0b : (ok.tmod 5 == 0) = false := by simpa using k0
              have hsv' := Lib.hid (hsv.out.skip hkb kal.out)
              have hrow' := Lib.hid (own_keep0 hrow.out kal.out)
              replace hp := Lib.hid hp
              replace hp' := Lib.hid hp'
              have hn1 : (ok.tmod 5 != 0) = true := by simpa using k0
              have hn2 : ((k : Int) != (nb : Int)) = true := by simpa using hkbi
              go_wp2_with fail
              go_roundw
              case rel => exact ⟨k + 1, _, _, _, _, _, by omega, by go_num, hDa, hXb, hka, hsv', Lib.hid ⟨hgd.out.1, by have := hgd.out; omega, by have := hgd.out; omega⟩, hrow', hrX⟩
              case measure => simp [intOf]; omega
        · obtain rfl : k = n := by omega
          have hjf : ¬ (k : Int) < (k : Int) := by omega
          obtain ⟨Lb, M, hLe, hSe, hmt⟩ : ∃ Lb M, L = Lb ++ M ∧ S = [(HERE, Lb.length)] ∧ match perf [] Lb with
              | some sb => ∃ A c, u7 = .slice A sb.length c ∧ ClsAt wq X A sb
              | none => True := by
            rcases hsv.out with ⟨h, _⟩ | ⟨_, h⟩
            · omega
            · exact h
          subst hSe
          have hLl : Hid (L.length ≤ 121) := Lib.hid (by have := hgd.out.2; omega)
          have hsL : Hid (∀ c ∈ L, Small c) := Lib.hid (fun c hc => (hD.out.c.sm c hc).1)
          obtain ⟨Ac, cc, y20, hch⟩ := glog_chs hD.out.c
          obtain ⟨ll, hll⟩ : ∃ x, x = L.length := ⟨_, rfl⟩
          rw [← hll] at y20
          have HP := Lib.hid (perf_any wq X none Ac [] L 0 0 ll cc (ClsAt.nil _ _ _) hch rfl hll.symm (by have := hLl.out; omega) hsL.out (by simp) hD.out.a.hi)
          replace hll := Lib.hid hll
          replace hLe := Lib.hid hLe
          clear hch hsv
          cases hpf : perf [] L with
          | none =>
            rw [hpf] at HP
            clear hpf hmt
            go_wp2_with fail
            refine HP.out.mono ?_
            rintro e w5' ⟨k5, v5, rfl⟩
            have hend := Lib.hid (kk.out.trans (hkw.out.trans k5.out))
            clear HP k5 y20
            go_wp2_with fail
            go_ret
            exact ⟨rfl, hend.out⟩
          | some sa =>
            rw [hpf] at HP
            have hpb : ∃ sb, perf [] Lb = some sb ∧ perf sb M = some sa := by
              rw [hLe.out, perf_append] at hpf
              cases hb : perf [] Lb with
              | none => rw [hb] at hpf; cases hpf
              | some sb => rw [hb] at hpf; exact ⟨sb, rfl, hpf⟩
            obtain ⟨sb, hb1, hb2⟩ := hpb
            rw [hb1] at hmt
            obtain ⟨As, cs, rfl, hcs⟩ := hmt
            obtain ⟨sz, hz1, hz2⟩ := perf_undo (perf_sound Sound.nil hb1) hb2
            obtain ⟨na', hna'⟩ : ∃ x, x = sa.length := ⟨_, rfl⟩
            obtain ⟨nsb, hnsb⟩ : ∃ x, x = sb.length := ⟨_, rfl⟩
            obtain ⟨nz, hnz⟩ : ∃ x, x = sz.length := ⟨_, rfl⟩
            obtain ⟨M', hM'⟩ : ∃ x, x = M.reverse.map inv := ⟨_, rfl⟩
            obtain ⟨nm, hnm⟩ : ∃ x, x = M'.length := ⟨_, rfl⟩
            rw [← hM'] at hz1
            have hMl : M.length ≤ 121 := by have h5 := hLl.out; rw [hLe.out, List.length_append] at h5; omega
            have hnm6 : nm ≤ 121 := by rw [hnm, hM']; simpa using hMl
            have hla := perf_len hpf
            have hlz := perf_len hz1
            have hna6 : na' ≤ 121 := by have := hLl.out; simp only [List.length_nil] at hla; omega
            have hnz6 : nz ≤ 1000000 := by omega
            have hsM : Hid (∀ c ∈ M', Small c) := Lib.hid (fun c hc => by
              rw [hM'] at hc
              obtain ⟨d, hd, rfl⟩ := List.mem_map.1 hc
              have := hsL.out d (by rw [hLe.out]; exact List.mem_append_right _ (List.mem_reverse.1 hd))
              exact ⟨this.2, this.1⟩)
            have hsa := Lib.hid (perf_small (s := []) (by simp) hsL.out hpf)
            have hsz := Lib.hid (perf_small hsa.out hsM.out hz1)
            have hsame := Lib.hid (same_perm hz2)
            rw [show (PerfP wq X (some sa)) = PerfS wq X sa na' from by rw [hna']; rfl] at HP
            rw [← hnsb]
            have hB := Lib.hid (fun (w' : World) (k : Keeps [] wq w') => back_here w2.heap.size w' X F1 g1 L Lb M M' nm (hD.out.keep k).a hLe.out hM' hnm (by have := hLl.out; omega))
            replace hcs := Lib.hid hcs
            replace hpf := Lib.hid hpf
            replace hb1 := Lib.hid hb1
            replace hb2 := Lib.hid hb2
            replace hz1 := Lib.hid hz1
            replace hna' := Lib.hid hna'
            replace hnsb := Lib.hid hnsb
            replace hnz := Lib.hid hnz
            replace hM' := Lib.hid hM'
            replace hnm := Lib.hid hnm
            clear hz2 hla hlz hMl
            go_wp2_with fail
            refine HP.out.mono ?_
            rintro e w5' ⟨k5, A5', c5', rfl, hc5⟩
            have kk5 := Lib.hid (hkw.out.trans k5.out)
            have hcs5 := Lib.hid (hcs.out.keep k5.out (by simp))
            have HB := hB.out w5' k5.out
            have hFX : Hid (∀ y ∈ F1, y ∈ X ∧ w2.heap.size ≤ y) := Lib.hid (fun y hy => ⟨hD.out.a.sub y hy, (hD.out.a.lob y hy).1⟩)
            have hXlt : Hid (∀ x ∈ X, x < w5'.heap.size) := Lib.hid (fun x hx => Nat.lt_of_lt_of_le (hD.out.a.hi x hx) k5.out.size)
            replace HB := Lib.hid HB
            clear HP k5 y20 hD hcs hB hrow hrX
            go_wp2_with fail
            refine HB.out.mono ?_
            rintro e w6' ⟨A6', c6', rfl, hch6, k6⟩
            have hc6 := Lib.hid (hc5.out.keep k6.out (fun y hy => .inl (hFX.out y hy).1))
            have hcs6 := Lib.hid (hcs5.out.keep k6.out (fun y hy => .inl (hFX.out y hy).1))
            have kk6 : Hid (Keeps [] w2 w6') := Lib.hid ((kk5.out.nil.trans k6.out).mono (fun y hy => .inr (hFX.out y hy).2))
            have HP2 := Lib.hid (perf_any w6' X A5' A6' sa M' na' c5' nm c6' hc6.out (ChsR.of (hch6.out X hXlt.out)) hna'.out.symm hnm.out.symm (by omega) hsM.out hsa.out (fun x hx => Nat.lt_of_lt_of_le (hXlt.out x hx) k6.out.size))
            rw [hz1.out, show (PerfP w6' X (some sz)) = PerfS w6' X sz nz from by rw [hnz.out]; rfl] at HP2
            clear HB hch6 k6 hc5 hcs5 kk5 hc6
            go_wp2_with fail
            refine HP2.out.mono ?_
            rintro e w7' ⟨k7, A7', c7', rfl, hc7⟩
            have hcs7 := Lib.hid (hcs6.out.keep k7.out (by simp))
            have kk7 := Lib.hid (kk6.out.trans k7.out)
            have HE := Lib.hid (requal_any w7' X X A7' As sz sb nz c7' nsb cs hc7.out hcs7.out hnz.out.symm hnsb.out.symm hnz6 hsz.out)
            rw [hsame.out] at HE
            clear HP2 k7 kk6 hcs6 hc7 hcs7
            go_wp2_with fail
            refine HE.out.mono ?_
            rintro e w8' ⟨rfl, k8⟩
            have hend := Lib.hid (kk.out.trans (kk7.out.trans k8))
            clear HE k8
            go_wp2_with fail
            go_ret
            exact ⟨rfl, hend.out⟩
end Go.Proofs.Ytmclfbhcddcebaa
