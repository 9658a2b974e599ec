/- The walk of the statement UndologNet. -/
import Derived.Test.YtmclfbhcddcebaaLawMatches
import Derived.Test.YtmclfbhcddcebaaU41
namespace Go.Proofs.Ytmclfbhcddcebaa
open Go.RowKit Go.Shelf
set_option linter.unusedSimpArgs false
set_option linter.unusedVariables false

set_option maxRecDepth 100000 in
set_option maxHeartbeats 32000000 in
theorem law_net (w : World) (A : Option Addr) (c : Nat) (l : List Oo) (h1 : l.length ≤ c) (h2 : c ≤ maxLen) (h3 : OpsAt w [] A l) (h4 : ∀ o ∈ l, wfC o.c ∧ (Lit.int .i64 o.n).wf = true) :
    Calls Try.prog 9 #[.slice A l.length c] w fun e w' => e = .returned (.bool true) ∧ Keeps [] w w' := by
  obtain ⟨n, hn⟩ : ∃ n, n = l.length := ⟨_, rfl⟩
  rw [← hn] at h1 ⊢
  have hF := Lib.hid (fun (w1 : World) (k : Keeps [] w w1) => few_any w1 [] A l n c hn.symm (h3.keep k (by simp)) (by omega))
  replace hn := Lib.hid hn
  replace h3 := Lib.hid h3
  replace h4 := Lib.hid h4
  clear h1 h2
  go_enter Try.func9, Try.ntmps9
  go_wp2_with fail
  refine (awake_any w).mono ?_
  rintro e w1 ⟨rfl, k1⟩
  replace hF := Lib.hid (hF.out w1 k1)
  have kk := Lib.hid k1
  clear k1
  cases hfew : fewB l
  · rw [hfew] at hF
    clear hfew
    go_wp2_with fail
    refine hF.out.mono ?_
    rintro e w2 ⟨rfl, k2⟩
    replace kk := Lib.hid (kk.out.trans k2)
    clear hF k2
    go_wp2_with fail
    refine (awake_any w2).mono ?_
    rintro e w9 ⟨rfl, k9⟩
    replace kk := Lib.hid (kk.out.trans k9)
    clear k9
    go_wp2_with fail
    go_ret
    exact ⟨rfl, kk.out⟩
  · have hfl := Lib.hid (few_len hfew)
    rw [hfew] at hF
    clear hfew
    go_wp2_with fail
    refine hF.out.mono ?_
    rintro e w2 ⟨rfl, k2⟩
    replace kk := Lib.hid (kk.out.trans k2)
    clear hF k2
    go_wp2_with fail
    refine (new_any w2).mono ?_
    rintro e w3 ⟨rfl, rfl⟩
    have hD0 := Lib.hid (Duo.new_ 64 82 31 99 w2 (GLog.new_ 64 82 w2.heap.size w2 (Nat.le_refl _) [] (by simp)))
    have hO2 := Lib.hid (h3.out.keep kk.out (by simp))
    obtain ⟨g1, hg1⟩ : ∃ g, g = w2.heap.size := ⟨_, rfl⟩
    obtain ⟨g2, hg2⟩ : ∃ g, g = w2.heap.size + 1 := ⟨_, rfl⟩
    have hk0 : Hid (Keeps [] w2 ((w2.alloc (.cells #[.slice none 0 0, .slice none 0 0] 64)).alloc (.cells #[.slice none 0 0, .slice none 0 0] 31))) := Lib.hid (((Keeps.refl [] w2).alloc _).alloc _)
    have hgs : (w2.alloc (.cells #[.slice none 0 0, .slice none 0 0] 64)).heap.size = g2 := by rw [hg2]; simp
    rw [← hg2, ← hg1] at hD0
    replace hD0 : Hid (Duo 64 82 31 99 w2.heap.size _ _ _ _ g1 g2 [] [] [] []) := Lib.hid (by rw [← hg1]; exact hD0.out)
    have hX0 : Hid (∀ x ∈ [g2, g1], w2.heap.size ≤ x) := Lib.hid (by simp; omega)
    replace hg1 := Lib.hid hg1
    replace hg2 := Lib.hid hg2
    replace hgs := Lib.hid hgs
    go_wp2_with fail
    rw [← hg2.out, ← hg1.out]
    generalize (w2.alloc (.cells #[.slice none 0 0, .slice none 0 0] 64)).alloc (.cells #[.slice none 0 0, .slice none 0 0] 31) = w4 at *
    clear hgs hg1 hg2 h3
    go_loopw [26] (fun i wr => ∃ (k : Nat) (X F1 F2 : List Nat), k ≤ n ∧ i = .int .i64 k ∧ Hid (Duo 64 82 31 99 w2.heap.size wr X F1 F2 g1 g2 (runS (l.take k)).1 (runS (l.take k)).1 (runS (l.take k)).2 (runS (l.take k)).2) ∧ Hid (∀ x ∈ X, w2.heap.size ≤ x) ∧ Hid (Keeps [] w2 wr)) (fun i _ => n - (intOf i).toNat)
    case atStart => exact ⟨0, _, _, _, Nat.zero_le _, rfl, hD0, hX0, hk0⟩
    case round =>
      obtain ⟨k, X, F1, F2, hk, rfl, hD, hXb, hkw⟩ := hrel
      clear hD0 hk0 hX0
      obtain ⟨wq, hwq⟩ : ∃ x, x = wr := ⟨_, rfl⟩
      subst hwq
      have hn60 : n ≤ 60 := by have := hfl.out.1; have := hn.out; omega
      by_cases hlt : k < n
      · obtain ⟨⟨ok, oc, os, on⟩, ho⟩ : ∃ o, l[k]? = some o := ⟨l[k]'(by rw [← hn.out]; exact hlt), List.getElem?_eq_getElem _⟩
        obtain ⟨g, off, ⟨t, id, Ao, no, co, An, nn, cn⟩, rfl, _, hc, hr⟩ := hO2.out k _ ho
        have z0 := hkw.out.cellEq (hc 0 _ rfl) (by simp)
        have z1 := hkw.out.cellEq (hc 1 _ rfl) (by simp)
        have z2 := hkw.out.cellEq (hc 2 _ rfl) (by simp)
        have z3 := hkw.out.cellEq (hc 3 _ rfl) (by simp)
        have z4 := hkw.out.cellEq (hc 4 _ rfl) (by simp)
        have z5 := hkw.out.cellEq (hc 5 _ rfl) (by simp)
        have z6 := hkw.out.cellEq (hc 6 _ rfl) (by simp)
        rw [Nat.add_zero] at z0
        dsimp only at z0 z1 z2 z3 z4 z5 z6 hr
        have hki : (k : Int) < (n : Int) := by omega
        have hsm : Hid (Small oc) := Lib.hid (fewO_small (hfl.out.2 _ (List.mem_of_getElem? ho)))
        have hwf : Hid (wfC oc) := Lib.hid (h4.out _ (List.mem_of_getElem? ho)).1
        obtain ⟨L, hL⟩ : ∃ L, L = (runS (l.take k)).1 := ⟨_, rfl⟩
        obtain ⟨S, hSS⟩ : ∃ L, L = (runS (l.take k)).2 := ⟨_, rfl⟩
        obtain ⟨L', hL'⟩ : ∃ x, x = stL L S ⟨ok, oc, os, on⟩ := ⟨_, rfl⟩
        obtain ⟨S', hS'⟩ : ∃ x, x = stS L S ⟨ok, oc, os, on⟩ := ⟨_, rfl⟩
        have hrun : Hid (runS (l.take (k + 1)) = (L', S')) := Lib.hid (by rw [take_snoc ho, runS_snoc, ← hL, ← hSS, ← hL', ← hS'])
        have hg0 := runS_good (l.take k)
        have hg1' := runS_good (l.take (k + 1))
        rw [hrun.out] at hg1'
        rw [← hL, ← hSS] at hD hg0
        have hgood := Lib.hid hg0.1
        have hLl : Hid (L.length ≤ 60 ∧ S.length ≤ 60) := Lib.hid (by have := List.length_take_le k l; have := hg0.2; omega)
        obtain ⟨ll, hll⟩ : ∃ x, x = L'.length := ⟨_, rfl⟩
        have hll6 : ll ≤ 60 := by have h5 := List.length_take_le (k + 1) l; have h6 := hg1'.2.1; dsimp only at h6; omega
        have hLl' : Hid (L'.length = ll) := Lib.hid hll.symm
        have hsL : Hid (∀ c ∈ L, Small c) := Lib.hid (fun c hc => (hD.out.a.sm c hc).1)
        have HR : Hid (∀ w' F, Keeps [] w2 w' → (∀ y ∈ F, w2.heap.size ≤ y) → RawIs w' F ⟨t, id, Ao, no, co, An, nn, cn⟩ oc) := Lib.hid (fun w' F hk hF => (hr.other (fun y hy => .inr (hF y hy))).keep hk (by simp))
        have hsL' : Hid (∀ c ∈ L', Small c) := Lib.hid (by rw [hL']; exact stL_small hsL.out hsm.out)
        have hgo1 : Hid (wq.heap.size ∉ F1 ++ F2) := Lib.hid (fun hm => by
          rcases List.mem_append.1 hm with hm | hm
          · have := (hD.out.a.lob _ hm).2; omega
          · have := (hD.out.c.lob _ hm).2; omega)
        have ka : Keeps [] wq (wq.alloc (.cells #[.int .i64 ok, .int .i64 t, .int .i64 id, .slice Ao no co, .slice An nn cn, .string os, .int .i64 on] 37)) := (Keeps.refl [] wq).alloc _
        have hD9 := Lib.hid (hD.out.keep ka)
        have hkw9 := Lib.hid (hkw.out.trans ka)
        have hszc : Hid (w2.heap.size ≤ (wq.alloc (.cells #[.int .i64 ok, .int .i64 t, .int .i64 id, .slice Ao no co, .slice An nn cn, .string os, .int .i64 on] 37)).heap.size) := Lib.hid hkw9.out.size
        have HA := Lib.hid (do_any w2.heap.size _ X F1 F2 g1 g2 L S ⟨ok, oc, os, on⟩ ⟨t, id, Ao, no, co, An, nn, cn⟩ hD9.out hgood.out (HR.out _ X hkw9.out hXb.out) hsm.out hwf.out (by have := hLl.out; omega) (by have := hLl.out; omega))
        rw [← hL', ← hS'] at HA
        unfold oCells at HA
        dsimp only at HA
        replace hc := Lib.hid hc
        replace ho := Lib.hid ho
        replace hL := Lib.hid hL
        replace hSS := Lib.hid hSS
        replace hll := Lib.hid hll
        replace hL' := Lib.hid hL'
        replace hS' := Lib.hid hS'
        clear hD hkw ka hr hg0 hg1'
        go_wp2_with fail
        refine HA.out.mono ?_
        rintro e wn ⟨X', F1', F2', rfl, D3, kA, hXX⟩
        have hkn : Hid (Keeps [] w2 wn) := Lib.hid (hD9.out.base rfl hkw9.out kA.out (fun y hy => List.mem_append.1 hy))
        have hXn : Hid (∀ x ∈ X', w2.heap.size ≤ x) := Lib.hid (fun x hx => (hXX.out x hx).elim (hXb.out x) (fun h => Nat.le_trans hszc.out h))
        clear HA kA hXX hD9 hkw9 z0 z1 z2 z3 z4 z5 z6
        go_wp2_with fail
        go_roundw
        case rel => exact ⟨k + 1, _, _, _, by omega, by go_num, by rw [hrun.out]; exact D3, hXn, hkn⟩
        case measure => simp [intOf]; omega
      · obtain rfl : k = n := by omega
        have hjf : ¬ (k : Int) < (k : Int) := by omega
        have hg0 := runS_good (l.take k)
        obtain ⟨L, hL⟩ : ∃ L, L = (runS (l.take k)).1 := ⟨_, rfl⟩
        obtain ⟨S, hSS⟩ : ∃ L, L = (runS (l.take k)).2 := ⟨_, rfl⟩
        rw [← hL, ← hSS] at hD hg0
        have hLl : Hid (L.length ≤ 60) := Lib.hid (by have := List.length_take_le k l; have := hg0.2.1; omega)
        have hsL : Hid (∀ c ∈ L, Small c) := Lib.hid (fun c hc => (hD.out.a.sm c hc).1)
        obtain ⟨Ac, cc, y20, hch⟩ := glog_chs hD.out.c
        have HP := Lib.hid (perf_any wq [] none Ac [] L 0 0 L.length cc (ClsAt.nil _ _ _) (hch.other_nil) rfl rfl (by have := hLl.out; omega) hsL.out (by simp) (by simp))
        obtain ⟨ll, hll⟩ : ∃ x, x = L.length := ⟨_, rfl⟩
        rw [← hll] at HP y20
        replace hL := Lib.hid hL
        replace hSS := Lib.hid hSS
        replace hll := Lib.hid hll
        clear hch hg0
        cases hp : perf [] L with
        | none =>
          rw [hp] at HP
          clear hp
          go_wp2_with fail
          refine HP.out.mono ?_
          rintro e w5 ⟨k5, v5, rfl⟩
          have hend := Lib.hid (kk.out.trans (hkw.out.trans k5.out))
          clear HP k5 y20
          go_wp2_with fail
          go_ret
          exact ⟨rfl, hend.out⟩
        | some sa =>
          rw [hp] at HP
          obtain ⟨sn, hsn, hperm⟩ := net_law (netOut_is L) hp
          have hsa := perf_small (s := []) (by simp) hsL.out hp
          have hsN := netOut_small hsL.out
          have hsnS := perf_small (s := []) (by simp) hsN hsn
          have hln := netOut_len L
          have hlsn := perf_len hsn
          have hsame := Lib.hid (same_perm hperm)
          obtain ⟨na, hna⟩ : ∃ x, x = sa.length := ⟨_, rfl⟩
          obtain ⟨nb, hnb⟩ : ∃ x, x = sn.length := ⟨_, rfl⟩
          have hnb6 : nb ≤ 1000000 := by have := hLl.out; simp at hlsn; omega
          replace hsn := Lib.hid hsn
          replace hsN := Lib.hid hsN
          replace hsnS := Lib.hid hsnS
          replace hln := Lib.hid hln
          replace hna := Lib.hid hna
          replace hnb := Lib.hid hnb
          clear hperm hp hsa hlsn
          go_wp2_with fail
          refine HP.out.mono ?_
          rintro e w5 ⟨k5, A5, c5, rfl, hc5⟩
          rw [← hna.out]
          have D5 := Lib.hid (hD.out.keep k5.out)
          have kk5 := Lib.hid (hkw.out.trans k5.out)
          clear HP k5 y20 hD hkw
          go_wp2_with fail
          refine (net_o _ w5 X F1 g1 L S D5.out.a (by have := hLl.out; omega)).mono ?_
          rintro e w6 ⟨A6, c6, rfl, r6, k6⟩
          have hc6 := Lib.hid (hc5.out.keep k6.out (by simp))
          have kk6 := Lib.hid (kk5.out.trans k6.out)
          have HP2 := Lib.hid (perf_any w6 [] none A6 [] (netOut L) 0 0 (netOut L).length c6 (ClsAt.nil _ _ _) (ChsR.of r6.out) rfl rfl (by have := hLl.out; have := hln.out; omega) hsN.out (by simp) (by simp))
          rw [hsn.out] at HP2
          clear hc5 k6 r6 D5 kk5
          go_wp2_with fail
          refine HP2.out.mono ?_
          rintro e w7 ⟨k7, A7, c7, rfl, hc7⟩
          rw [← hnb.out]
          have hc6' := Lib.hid (hc6.out.keep k7.out (by simp))
          have kk7 := Lib.hid (kk6.out.trans k7.out)
          have HE := Lib.hid (requal_any w7 [] [] A7 A5 sn sa nb c7 na c5 hc7.out hc6'.out hnb.out.symm hna.out.symm hnb6 hsnS.out)
          rw [hsame.out] at HE
          clear HP2 hc6 k7 kk6 hc7 hc6'
          go_wp2_with fail
          refine HE.out.mono ?_
          rintro e w8 ⟨rfl, k8⟩
          have hend := Lib.hid (kk.out.trans (kk7.out.trans k8))
          clear HE k8
          go_wp2_with fail
          go_ret
          exact ⟨rfl, hend.out⟩
end Go.Proofs.Ytmclfbhcddcebaa
