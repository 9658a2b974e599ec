/- The walk of the statement UndologUndo. -/
import Derived.Test.YtmclfbhcddcebaaU30
namespace Go.Proofs.Ytmclfbhcddcebaa
open Go.RowKit Go.Shelf
set_option linter.unusedSimpArgs false
set_option linter.unusedVariables false

theorem SrcAt.keep0 {w w' : World} {A : Option Addr} {m : Nat} {news : List Value} (h : SrcAt w A m news) (hk : Keeps [] w w') : SrcAt w' A m news := by
  rcases h with h | ⟨g, off, h1, h2⟩
  · exact .inl h
  · exact .inr ⟨g, off, h1, fun j u hj => hk.cellEq (h2 j u hj) (by simp)⟩
theorem few_len {l : List Oo} (h : fewB l = true) : l.length ≤ 60 ∧ ∀ o ∈ l, fewO o = true := by
  unfold fewB at h
  simp only [Bool.and_eq_true, List.all_eq_true, decide_eq_true_eq] at h
  exact ⟨h.2, h.1⟩
theorem fewO_small {o : Oo} (h : fewO o = true) : Small o.c := by
  unfold fewO at h
  simp at h
  exact ⟨by omega, by omega⟩
/-- The changes that a single Undo returns are those of two. -/
theorem undo_two (L : List Chg) (a b : Nat) (h : a + b ≤ L.length) : (L.drop (L.length - (a + b))).reverse.map inv = (L.drop (L.length - a)).reverse.map inv ++ ((L.take (L.length - a)).drop ((L.take (L.length - a)).length - b)).reverse.map inv := by
  rw [← List.map_append, ← List.reverse_append]
  congr 2
  have e : (L.take (L.length - a)).length = L.length - a := by rw [List.length_take]; omega
  rw [e]
  conv => lhs; rw [← List.take_append_drop (L.length - a) L]
  rw [List.drop_append_of_le_length (by rw [e]; simp; omega)]
  congr 2
  simp
  omega
theorem undo_take (L : List Chg) (a b : Nat) (h : a + b ≤ L.length) : (L.take (L.length - a)).take ((L.take (L.length - a)).length - b) = L.take (L.length - (a + b)) := by
  rw [List.length_take, List.take_take]
  congr 1
  omega

set_option maxRecDepth 100000 in
set_option maxHeartbeats 16000000 in
theorem law_undo (w : World) (A : Option Addr) (c : Nat) (l : List Oo) (a b : Int) (h1 : l.length ≤ c) (h2 : c ≤ maxLen) (h3 : OpsAt w [] A l) (h4 : ∀ o ∈ l, wfC o.c ∧ (Lit.int .i64 o.n).wf = true) :
    Calls Try.prog 5 #[.slice A l.length c, .int .i64 a, .int .i64 b] w fun e w' => e = .returned (.bool true) ∧ Keeps [] w w' := by
  obtain ⟨n, hn⟩ : ∃ n, n = l.length := ⟨_, rfl⟩
  rw [← hn] at h1 ⊢
  have hF := Lib.hid (fun (w1 : World) (k : Keeps [] w w1) => few_any w1 [] A l n c hn.symm (h3.keep k (by simp)) (by omega))
  replace hn := Lib.hid hn
  replace h3 := Lib.hid h3
  replace h4 := Lib.hid h4
  clear h1 h2
  go_enter Try.func5, Try.ntmps5
  go_wp2_with fail
  refine (awake_any w).mono ?_
  rintro e w1 ⟨rfl, k1⟩
  replace hF := Lib.hid (hF.out w1 k1)
  have kk := Lib.hid k1
  clear k1
  cases hfew : fewB l
  · rw [hfew] at hF
    clear hfew
    go_wp2_with fail
    refine hF.out.mono ?_
    rintro e w2 ⟨rfl, k2⟩
    replace kk := Lib.hid (kk.out.trans k2)
    clear hF k2
    go_wp2_with fail
    refine (awake_any w2).mono ?_
    rintro e w9 ⟨rfl, k9⟩
    replace kk := Lib.hid (kk.out.trans k9)
    clear k9
    go_wp2_with fail
    go_ret
    exact ⟨rfl, kk.out⟩
  · have hfl := Lib.hid (few_len hfew)
    rw [hfew] at hF
    clear hfew
    by_cases ha0 : a < 0
    · have da0 := decide_eq_true ha0
      go_wp2_with fail
      refine hF.out.mono ?_
      rintro e w2 ⟨rfl, k2⟩
      replace kk := Lib.hid (kk.out.trans k2)
      clear hF k2
      go_wp2_with fail
      refine (awake_any w2).mono ?_
      rintro e w9 ⟨rfl, k9⟩
      replace kk := Lib.hid (kk.out.trans k9)
      clear k9
      go_wp2_with fail
      go_ret
      exact ⟨rfl, kk.out⟩
    · have da0 := decide_eq_false ha0
      by_cases hb0 : b < 0
      · have db0 := decide_eq_true hb0
        go_wp2_with fail
        refine hF.out.mono ?_
        rintro e w2 ⟨rfl, k2⟩
        replace kk := Lib.hid (kk.out.trans k2)
        clear hF k2
        go_wp2_with fail
        refine (awake_any w2).mono ?_
        rintro e w9 ⟨rfl, k9⟩
        replace kk := Lib.hid (kk.out.trans k9)
        clear k9
        go_wp2_with fail
        go_ret
        exact ⟨rfl, kk.out⟩
      · have db0 := decide_eq_false hb0
        by_cases ha1 : (60 : Int) < a
        · have da1 := decide_eq_true ha1
          go_wp2_with fail
          refine hF.out.mono ?_
          rintro e w2 ⟨rfl, k2⟩
          replace kk := Lib.hid (kk.out.trans k2)
          clear hF k2
          go_wp2_with fail
          refine (awake_any w2).mono ?_
          rintro e w9 ⟨rfl, k9⟩
          replace kk := Lib.hid (kk.out.trans k9)
          clear k9
          go_wp2_with fail
          go_ret
          exact ⟨rfl, kk.out⟩
        · have da1 := decide_eq_false ha1
          by_cases hb1 : (60 : Int) < b
          · have db1 := decide_eq_true hb1
            go_wp2_with fail
            refine hF.out.mono ?_
            rintro e w2 ⟨rfl, k2⟩
            replace kk := Lib.hid (kk.out.trans k2)
            clear hF k2
            go_wp2_with fail
            refine (awake_any w2).mono ?_
            rintro e w9 ⟨rfl, k9⟩
            replace kk := Lib.hid (kk.out.trans k9)
            clear k9
            go_wp2_with fail
            go_ret
            exact ⟨rfl, kk.out⟩
          · have db1 := decide_eq_false hb1
            obtain ⟨a, rfl⟩ : ∃ x : Nat, a = (x : Int) := ⟨a.toNat, by omega⟩
            obtain ⟨b, rfl⟩ : ∃ x : Nat, b = (x : Int) := ⟨b.toNat, by omega⟩
            go_wp2_with fail
            refine hF.out.mono ?_
            rintro e w2 ⟨rfl, k2⟩
            replace kk := Lib.hid (kk.out.trans k2)
            clear hF k2 da0 db0 da1 db1
            go_wp2_with fail
            refine (new_any w2).mono ?_
            rintro e w3 ⟨rfl, rfl⟩
            go_wp2_with fail
            refine (new_any _).mono ?_
            rintro e w4 ⟨rfl, rfl⟩
            have hD0 := Lib.hid (Duo.new_ 64 82 64 82 w2 (GLog.new_ 64 82 w2.heap.size w2 (Nat.le_refl _) [] (by simp)))
            have hO2 := Lib.hid (h3.out.keep kk.out (by simp))
            obtain ⟨g1, hg1⟩ : ∃ g, g = w2.heap.size := ⟨_, rfl⟩
            obtain ⟨g2, hg2⟩ : ∃ g, g = w2.heap.size + 1 := ⟨_, rfl⟩
            have hk0 : Hid (Keeps [] w2 ((w2.alloc (.cells #[.slice none 0 0, .slice none 0 0] 64)).alloc (.cells #[.slice none 0 0, .slice none 0 0] 64))) := Lib.hid (((Keeps.refl [] w2).alloc _).alloc _)
            have hgs : (w2.alloc (.cells #[.slice none 0 0, .slice none 0 0] 64)).heap.size = g2 := by rw [hg2]; simp
            rw [hgs, ← hg1]
            rw [← hg2, ← hg1] at hD0
            replace hD0 : Hid (Duo 64 82 64 82 w2.heap.size _ _ _ _ g1 g2 [] [] [] []) := Lib.hid (by rw [← hg1]; exact hD0.out)
            replace hg1 := Lib.hid hg1
            replace hg2 := Lib.hid hg2
            replace hgs := Lib.hid hgs
            generalize (w2.alloc (.cells #[.slice none 0 0, .slice none 0 0] 64)).alloc (.cells #[.slice none 0 0, .slice none 0 0] 64) = w4 at *
            clear hgs hg1 hg2 h3
            go_wp2_with fail
            go_loopw [52] (fun i wr => ∃ (k : Nat) (X F1 F2 : List Nat), k ≤ n ∧ i = .int .i64 k ∧ Hid (Duo 64 82 64 82 w2.heap.size wr X F1 F2 g1 g2 (addsTo [] (l.take k)) (addsTo [] (l.take k)) [] []) ∧ Hid (Keeps [] w2 wr)) (fun i _ => n - (intOf i).toNat)
            case atStart => exact ⟨0, _, _, _, Nat.zero_le _, rfl, hD0, hk0⟩
            case round =>
              obtain ⟨k, X, F1, F2, hk, rfl, hD, hkw⟩ := hrel
              clear hD0 hk0
              obtain ⟨wq, hwq⟩ : ∃ x, x = wr := ⟨_, rfl⟩
              subst hwq
              have hn60 : n ≤ 60 := by have := hfl.out.1; have := hn.out; omega
              have hLl : Hid ((addsTo [] (l.take k)).length ≤ 60) := Lib.hid (by have h1 := addsTo_len [] (l.take k); have h2 := List.length_take_le k l; simp at h1; omega)
              by_cases hlt : k < n
              · obtain ⟨⟨ok, oc, os, on⟩, ho⟩ : ∃ o, l[k]? = some o := ⟨l[k]'(by rw [← hn.out]; exact hlt), List.getElem?_eq_getElem _⟩
                obtain ⟨g, off, ⟨t, id, Ao, no, co, An, nn, cn⟩, rfl, _, hc, hr⟩ := hO2.out k _ ho
                have z0 := hkw.out.cellEq (hc 0 _ rfl) (by simp)
                have z1 := hkw.out.cellEq (hc 1 _ rfl) (by simp)
                have z2 := hkw.out.cellEq (hc 2 _ rfl) (by simp)
                have z3 := hkw.out.cellEq (hc 3 _ rfl) (by simp)
                have z4 := hkw.out.cellEq (hc 4 _ rfl) (by simp)
                have z5 := hkw.out.cellEq (hc 5 _ rfl) (by simp)
                have z6 := hkw.out.cellEq (hc 6 _ rfl) (by simp)
                rw [Nat.add_zero] at z0
                dsimp only at z0 z1 z2 z3 z4 z5 z6 hr
                have hki : (k : Int) < (n : Int) := by omega
                have hsm : Hid (Small oc) := Lib.hid (fewO_small (hfl.out.2 _ (List.mem_of_getElem? ho)))
                have hwf : Hid (wfC oc) := Lib.hid (h4.out _ (List.mem_of_getElem? ho)).1
                obtain ⟨L, hL⟩ : ∃ L, L = addsTo [] (l.take k) := ⟨_, rfl⟩
                have hLn : Hid (addsTo [] (l.take (k + 1)) = if addOk L oc then L ++ [oc] else L) := Lib.hid (by rw [take_snoc ho, addsTo_snoc, ← hL]; rfl)
                rw [← hL] at hD hLl
                replace hL := Lib.hid hL
                have HR : Hid (∀ w' F, Keeps [] w2 w' → (∀ y ∈ F, w2.heap.size ≤ y) → RawIs w' F ⟨t, id, Ao, no, co, An, nn, cn⟩ oc) := Lib.hid (fun w' F hk hF => (hr.other (fun y hy => .inr (hF y hy))).keep hk (by simp))
                have ka : Keeps [] wq (wq.alloc (.cells #[.int .i64 ok, .int .i64 t, .int .i64 id, .slice Ao no co, .slice An nn cn, .string os, .int .i64 on] 37)) := (Keeps.refl [] wq).alloc _
                have hD9 := Lib.hid (hD.out.keep ka)
                have hkw9 := Lib.hid (hkw.out.trans ka)
                have BO := Lib.hid (Blk.new wq 37 #[.int .i64 ok, .int .i64 t, .int .i64 id, .slice Ao no co, .slice An nn cn, .string os, .int .i64 on])
                have hgo1 : Hid (wq.heap.size ∉ F1) := Lib.hid (fun hm => by have := (hD.out.a.lob _ hm).2; omega)
                have hgo2 : Hid (wq.heap.size ∉ F2) := Lib.hid (fun hm => by have := (hD.out.c.lob _ hm).2; omega)
                replace hc := Lib.hid hc
                replace ho := Lib.hid ho
                clear hD hkw ka hr
                go_wp2_with fail
                obtain ⟨go, hgo⟩ : ∃ g, g = wq.heap.size := ⟨_, rfl⟩
                rw [← hgo] at BO hgo1 hgo2 ⊢
                generalize wq.alloc (.cells #[.int .i64 ok, .int .i64 t, .int .i64 id, .slice Ao no co, .slice An nn cn, .string os, .int .i64 on] 37) = wo at *
                clear hgo z0 z1 z2 z3 z4 z5 z6
                have hS : Hid (∀ w', Blk w' go 37 #[.int .i64 ok, .int .i64 t, .int .i64 id, .slice Ao no co, .slice An nn cn, .string os, .int .i64 on] → w'.cell? ⟨go, 1, none⟩ = some (.int .i64 t) ∧ w'.cell? ⟨go, 2, none⟩ = some (.int .i64 id) ∧ w'.cell? ⟨go, 3, none⟩ = some (.slice Ao no co) ∧ w'.cell? ⟨go, 4, none⟩ = some (.slice An nn cn)) := Lib.hid (fun w' hb => ⟨hb.cell 1, hb.cell 2, hb.cell 3, hb.cell 4⟩)
                refine wp_region_I (S := (fun w' : World => w'.cell? ⟨go, 1, none⟩ = some (.int .i64 t) ∧ w'.cell? ⟨go, 2, none⟩ = some (.int .i64 id) ∧ w'.cell? ⟨go, 3, none⟩ = some (.slice Ao no co) ∧ w'.cell? ⟨go, 4, none⟩ = some (.slice An nn cn))) (n := 9) (by kernel_rfl) ?_
                have HS := hS.out _ BO.out.drew
                have BO := Lib.hid BO.out.drew
                have hD := Lib.hid (hD9.out.keep (Keeps.refl [] _).drew)
                have hkw := Lib.hid (hkw9.out.drew)
                have HA := Lib.hid (add_log2 w2.heap.size _ X F1 g1 L [] ⟨t, id, Ao, no, co, An, nn, cn⟩ oc hD.out.a (HR.out _ F1 hkw.out (fun y hy => (hD.out.a.lob y hy).1)) hsm.out hwf.out (by have := hLl.out; omega) hD.out.a.bs)
                generalize wo.drew = wc at *
                refine wpAnyI_takeN (i := 0) (v := ?_) (by kernel_rfl) rfl (by kernel_rfl) (by kernel_rfl) (by kernel_rfl) (fun _ _ _ h => h) HS (Or.inl ⟨by rfl, ?_⟩) ?_
                rotate_left
                · (intro w hSw; obtain ⟨y1, y2, y3, y4⟩ := hSw; go_simp; try with_reducible rfl)
                try simp only [Act.put, List.getElem_toArray, List.getElem_cons_succ, List.getElem_cons_zero, List.setIfInBounds_toArray, List.set_cons_zero, List.set_cons_succ]
                refine wpAnyI_takeN (i := 1) (v := ?_) (by kernel_rfl) rfl (by kernel_rfl) (by kernel_rfl) (by kernel_rfl) (fun _ _ _ h => h) HS (Or.inl ⟨by rfl, ?_⟩) ?_
                rotate_left
                · (intro w hSw; obtain ⟨y1, y2, y3, y4⟩ := hSw; go_simp; try with_reducible rfl)
                try simp only [Act.put, List.getElem_toArray, List.getElem_cons_succ, List.getElem_cons_zero, List.setIfInBounds_toArray, List.set_cons_zero, List.set_cons_succ]
                refine wpAnyI_takeN (i := 2) (v := ?_) (by kernel_rfl) rfl (by kernel_rfl) (by kernel_rfl) (by kernel_rfl) (fun _ _ _ h => h) HS (Or.inl ⟨by rfl, ?_⟩) ?_
                rotate_left
                · (intro w hSw; obtain ⟨y1, y2, y3, y4⟩ := hSw; go_simp; try with_reducible rfl)
                try simp only [Act.put, List.getElem_toArray, List.getElem_cons_succ, List.getElem_cons_zero, List.setIfInBounds_toArray, List.set_cons_zero, List.set_cons_succ]
                refine wpAnyI_takeN (i := 4) (v := ?_) (by kernel_rfl) rfl (by kernel_rfl) (by kernel_rfl) (by kernel_rfl) (fun _ _ _ h => h) HS (Or.inl ⟨by rfl, ?_⟩) ?_
                rotate_left
                · (intro w hSw; obtain ⟨y1, y2, y3, y4⟩ := hSw; go_simp; try with_reducible rfl)
                try simp only [Act.put, List.getElem_toArray, List.getElem_cons_succ, List.getElem_cons_zero, List.setIfInBounds_toArray, List.set_cons_zero, List.set_cons_succ]
                refine wpAnyI_takeN (i := 5) (v := ?_) (by kernel_rfl) rfl (by kernel_rfl) (by kernel_rfl) (by kernel_rfl) (fun _ _ _ h => h) HS (Or.inl ⟨by rfl, ?_⟩) ?_
                rotate_left
                · (intro w hSw; obtain ⟨y1, y2, y3, y4⟩ := hSw; go_simp; try with_reducible rfl)
                try simp only [Act.put, List.getElem_toArray, List.getElem_cons_succ, List.getElem_cons_zero, List.setIfInBounds_toArray, List.set_cons_zero, List.set_cons_succ]
                refine wpAnyI_takeN (i := 6) (v := ?_) (by kernel_rfl) rfl (by kernel_rfl) (by kernel_rfl) (by kernel_rfl) (fun _ _ _ h => h) HS (Or.inl ⟨by rfl, ?_⟩) ?_
                rotate_left
                · (intro w hSw; obtain ⟨y1, y2, y3, y4⟩ := hSw; go_simp; try with_reducible rfl)
                try simp only [Act.put, List.getElem_toArray, List.getElem_cons_succ, List.getElem_cons_zero, List.setIfInBounds_toArray, List.set_cons_zero, List.set_cons_succ]
                refine wpAnyI_one (i := 3) rfl (by kernel_rfl) (fun K hK => ?_)
                dsimp only [List.getElem_toArray, List.getElem_cons_succ, List.getElem_cons_zero]
                go_simp
                refine HA.out.mono ?_
                rintro e wA ⟨FA, rfl, pA, tA⟩
                replace BO := Lib.hid (BO.out.keep tA.out.kp hgo1.out)
                have HS := hS.out _ BO.out
                have D2 := Lib.hid (hD.out.left pA.out tA.out)
                have kA : Hid (Keeps [] w2 wA) := Lib.hid (hD.out.base rfl hkw.out tA.out.kp (fun y hy => .inl hy))
                have HB := Lib.hid (add_log2 w2.heap.size wA _ F2 g2 L [] ⟨t, id, Ao, no, co, An, nn, cn⟩ oc D2.out.c (HR.out _ F2 kA.out (fun y hy => (D2.out.c.lob y hy).1)) hsm.out hwf.out (by have := hLl.out; omega) D2.out.c.bs)
                refine hK _ _ (Or.inr HS) ?_
                clear hK K pA tA HA
                try simp only [Act.put, List.getElem_toArray, List.getElem_cons_succ, List.getElem_cons_zero, List.setIfInBounds_toArray, List.set_cons_zero, List.set_cons_succ]
                refine wpAnyI_one (i := 7) rfl (by kernel_rfl) (fun K hK => ?_)
                dsimp only [List.getElem_toArray, List.getElem_cons_succ, List.getElem_cons_zero]
                go_simp
                refine HB.out.mono ?_
                rintro e wB ⟨FB, rfl, pB, tB⟩
                replace BO := Lib.hid (BO.out.keep tB.out.kp (fun hm => hgo2.out hm))
                have HS := hS.out _ BO.out
                have D3 := Lib.hid (D2.out.right pB.out tB.out)
                have kB : Hid (Keeps [] w2 wB) := Lib.hid (D2.out.base rfl kA.out tB.out.kp (fun y hy => .inr hy))
                generalize hec : (if addOk L oc then (0 : Int) else 1) = ec
                refine hK _ _ (Or.inr HS) ?_
                clear hK K pB tB HB hec
                try simp only [Act.put, List.getElem_toArray, List.getElem_cons_succ, List.getElem_cons_zero, List.setIfInBounds_toArray, List.set_cons_zero, List.set_cons_succ]
                refine wpAnyI_one (i := 8) rfl (by kernel_rfl) (fun K hK => ?_)
                dsimp only [List.getElem_toArray, List.getElem_cons_succ, List.getElem_cons_zero]
                go_simp
                refine hK _ _ (Or.inr HS) ?_
                clear hK K
                try simp only [Act.put, List.getElem_toArray, List.getElem_cons_succ, List.getElem_cons_zero, List.setIfInBounds_toArray, List.set_cons_zero, List.set_cons_succ]
                refine wpAnyI_done (by kernel_rfl) ?_ _
                clear HS hS BO D2 hD kA
                go_wp2_with fail
                go_roundw
                case rel => exact ⟨k + 1, _, _, _, by omega, by go_num, by rw [hLn.out]; exact D3, kB⟩
                case measure => simp [intOf]; omega
              · obtain rfl : k = n := by omega
                have hjf : ¬ (k : Int) < (k : Int) := by omega
                obtain ⟨L, hL⟩ : ∃ L, L = addsTo [] (l.take k) := ⟨_, rfl⟩
                rw [← hL] at hD hLl
                obtain ⟨ln, hln⟩ : ∃ x, x = L.length := ⟨_, rfl⟩
                rw [← hln] at hLl
                replace hL := Lib.hid hL
                replace hln := Lib.hid hln
                have hLl' : ln ≤ 60 := hLl.out
                have hsL : Hid (∀ c ∈ L, Small c) := Lib.hid (fun c hc => (hD.out.a.sm c hc).1)
                have hab : IntKind.i64.wrap ((a : Int) + (b : Int)) = ((a + b : Nat) : Int) := by rw [IntWalk.i64_in _ (by omega)]; omega
                go_wp2_with fail
                refine (len_log _ wq X F1 g1 L [] hD.out.a).mono ?_
                rintro e w5 ⟨rfl, rfl⟩
                rw [← hln.out]
                clear hab
                have habi : ((a + b : Nat) : Int) = (a : Int) + (b : Int) := by omega
                have HU : Hid (Calls Try.prog 21 #[.pointer (some ⟨g1, 0, none⟩), .int .i64 ((a : Int) + (b : Int))] wq (UndoL 64 82 w2.heap.size wq X F1 g1 L [] ((a + b : Nat) : Int))) := Lib.hid (by rw [← habi]; exact undo_log _ wq X F1 g1 L [] ((a + b : Nat) : Int) hD.out.a (by simp) (by rw [← hln.out]; omega) (by simp))
                replace habi := Lib.hid habi
                by_cases hle : (a + b) ≤ ln
                · have hgt : ¬ ((ln : Int) < (a : Int) + (b : Int)) := by omega
                  have dgt := decide_eq_false hgt
                  have hok : undoOk L [] ((a + b : Nat) : Int) = true := by unfold undoOk leastM; rw [← hln.out]; simp; omega
                  have hok1 : undoOk L [] (a : Int) = true := by unfold undoOk leastM; rw [← hln.out]; simp; omega
                  have hM0 : Hid (Keeps F1 wq wq) := Lib.hid (Keeps.refl _ _)
                  unfold UndoL at HU
                  simp only [hok, if_true, Int.toNat_natCast] at HU
                  rw [← hln.out] at HU
                  obtain ⟨M, hM⟩ : ∃ M, M = (L.drop (ln - (a + b))).reverse.map inv := ⟨_, rfl⟩
                  rw [← hM] at HU
                  replace hM := Lib.hid hM
                  go_wp2_with fail
                  refine HU.out.mono ?_
                  rintro e w5 ⟨A5, c5, rfl, r5, p5, k5⟩
                  have hm1 : M.length = (a + b) := by rw [hM.out]; have := hln.out; simp; omega
                  rw [hm1]
                  replace hm1 := Lib.hid hm1
                  have D5 := Lib.hid (hD.out.left0 p5.out k5.out)
                  have kb5 : Hid (Keeps [] w2 w5) := Lib.hid (hD.out.base rfl hkw.out k5.out (fun y hy => .inl hy))
                  have r5' : Hid (ChsAt w5 F2 A5 M) := Lib.hid (r5.out F2 (fun y hy => (hD.out.c.lob y hy).2))
                  have HV := Lib.hid (undo_log _ w5 X F2 g2 L [] (a : Int) D5.out.c (by simp) (by rw [← hln.out]; omega) (by simp))
                  unfold UndoL at HV
                  simp only [hok1, if_true, Int.toNat_natCast] at HV
                  rw [← hln.out] at HV
                  obtain ⟨M1, hM1⟩ : ∃ M, M = (L.drop (ln - a)).reverse.map inv := ⟨_, rfl⟩
                  rw [← hM1] at HV
                  replace hM1 := Lib.hid hM1
                  clear HU hok hok1 r5 p5 k5 hD hkw
                  go_wp2_with fail
                  refine HV.out.mono ?_
                  rintro e w6 ⟨A6, c6, rfl, r6, p6, k6⟩
                  have hm2 : M1.length = a := by rw [hM1.out]; have := hln.out; simp; omega
                  rw [hm2]
                  replace hm2 := Lib.hid hm2
                  have D6 := Lib.hid (D5.out.right0 p6.out k6.out)
                  have kb6 : Hid (Keeps [] w2 w6) := Lib.hid (D5.out.base rfl kb5.out k6.out (fun y hy => .inr hy))
                  replace r5' := Lib.hid (r5'.out.keep k6.out (fun y hy => .inl hy))
                  have r6' : Hid (ChsAt w6 F2 A6 M1) := Lib.hid (r6.out F2 (fun y hy => (D5.out.c.lob y hy).2))
                  obtain ⟨L1, hL1⟩ : ∃ x, x = L.take (ln - a) := ⟨_, rfl⟩
                  rw [← hL1] at D6
                  replace hL1 := Lib.hid hL1
                  obtain ⟨l1, hl1⟩ : ∃ x, x = L1.length := ⟨_, rfl⟩
                  have hl1a : Hid (l1 + a = ln) := Lib.hid (by rw [hl1, hL1.out, List.length_take]; have := hln.out; omega)
                  replace hl1 := Lib.hid hl1
                  have HV2 := Lib.hid (undo_log _ w6 X F2 g2 L1 [] (b : Int) D6.out.c (by simp) (by rw [← hl1.out]; have := hl1a.out; omega) (by simp))
                  have hok2 : undoOk L1 [] (b : Int) = true := by unfold undoOk leastM; rw [← hl1.out]; have := hl1a.out; simp; omega
                  unfold UndoL at HV2
                  simp only [hok2, if_true, Int.toNat_natCast] at HV2
                  rw [← hl1.out] at HV2
                  obtain ⟨M2, hM2⟩ : ∃ M, M = (L1.drop (l1 - b)).reverse.map inv := ⟨_, rfl⟩
                  rw [← hM2] at HV2
                  replace hM2 := Lib.hid hM2
                  clear HV r6 p6 k6 D5 kb5 hok2
                  go_wp2_with fail
                  refine HV2.out.mono ?_
                  rintro e w7 ⟨A7, c7, rfl, r7, p7, k7⟩
                  have D7 := Lib.hid (D6.out.right0 p7.out k7.out)
                  have kb7 : Hid (Keeps [] w2 w7) := Lib.hid (D6.out.base rfl kb6.out k7.out (fun y hy => .inr hy))
                  replace r5' := Lib.hid (r5'.out.keep k7.out (fun y hy => .inl hy))
                  replace r6' := Lib.hid (r6'.out.keep k7.out (fun y hy => .inl hy))
                  have r7' : Hid (ChsAt w7 [] A7 M2) := Lib.hid (r7.out [] (by simp))
                  have hMM : Hid (M = M1 ++ M2) := Lib.hid (by rw [hM.out, hM1.out, hM2.out, hl1.out, hL1.out, hln.out]; exact undo_two L a b (by rw [← hln.out]; exact hle))
                  have hm : Hid (M.length = (a + b) ∧ M1.length = a ∧ M2.length = b) := Lib.hid ⟨by rw [hM.out]; have := hln.out; simp; omega, by rw [hM1.out]; have := hln.out; simp; omega, by rw [hM2.out]; have := hl1.out; have := hl1a.out; simp; omega⟩
                  rw [hm.out.2.2]
                  have hsM : Hid (∀ c ∈ M, Small c) := Lib.hid (fun c hc => by
                    rw [hM.out] at hc
                    obtain ⟨d, hd, rfl⟩ := List.mem_map.1 hc
                    have := hsL.out d (List.mem_of_mem_drop (List.mem_reverse.1 hd))
                    exact ⟨this.2, this.1⟩)
                  obtain ⟨R1, hR1, hs1⟩ := chs_src r6'.out
                  obtain ⟨R2, hR2, hs2⟩ := chs_src r7'.out
                  rw [hm.out.2.1] at hs1
                  rw [hm.out.2.2] at hs2
                  have hf1 : Hid ((flatC R1).length = a * 4) := Lib.hid (by rw [flatC_len, hR1.1, hm.out.2.1])
                  have hf2 : Hid ((flatC R2).length = b * 4) := Lib.hid (by rw [flatC_len, hR2.1, hm.out.2.2])
                  have ka : Keeps [] w7 (w7.alloc (.cells #[] 35)) := (Keeps.refl [] w7).alloc _
                  have hv := Lib.hid (own_void w7 35 4)
                  have hs1' := Lib.hid (hs1.keep0 ka)
                  have hs2' := Lib.hid hs2
                  have hbs : Hid (w7.heap.size ≤ (w7.alloc (.cells #[] 35)).heap.size) := Lib.hid ka.size
                  have HQ : Hid (∀ w9 v9, Hid (w9.ownsRow w7.heap.size 35 4 v9 (a + b) (flatC R1 ++ flatC R2)) → Hid (Keeps [] w7 w9) → ∃ A9 c9, v9 = .slice A9 (a + b) c9 ∧ Hid (Calls Try.prog 16 #[.slice A5 (a + b) c5, .slice A9 (a + b) c9] w9 fun e w' => e = .returned (.bool true) ∧ Keeps [] w9 w')) := Lib.hid (fun w9 v9 ho hk => by
                    obtain ⟨A9, c9, rfl, _⟩ := own_slice ho.out
                    refine ⟨A9, c9, rfl, Lib.hid ?_⟩
                    have hraw := ((hR1.other (Y := []) (by simp)).append hR2).keep hk.out (by simp)
                    have ho' := ho.out
                    rw [← flatC_append] at ho'
                    refine (same_any w9 F2 [] A5 A9 M (M1 ++ M2) (a + b) c5 (a + b) c9 hm.out.1 (by rw [List.length_append, hm.out.2.1, hm.out.2.2]) (r5'.out.keep hk.out (by simp)) (ChsAt.of ho' (by rw [List.length_append, hR1.1, hR2.1, hm.out.2.1, hm.out.2.2]) hraw (by simp)) hsM.out (by omega)).mono ?_
                    rintro e w' ⟨rfl, k⟩
                    exact ⟨by rw [decide_eq_true hMM.out], k⟩)
                  obtain ⟨i5, hi5, hy0, hy1, hy2⟩ := info_parts info35
                  replace hi5 := Lib.hid hi5
                  replace hy0 := Lib.hid hy0
                  replace hy1 := Lib.hid hy1
                  replace hy2 := Lib.hid hy2
                  obtain ⟨l2, hl2⟩ : ∃ l2, l2 + (a + b) = ln := ⟨ln - (a + b), by omega⟩
                  have hl1b := hl1a.out
                  have e2 : (L.take (ln - (a + b))).length = l2 := by rw [List.length_take]; have := hln.out; omega
                  have e3 : (L1.take (l1 - b)).length = l2 := by rw [List.length_take]; have := hl1.out; have := hl1a.out; omega
                  have hw1 : IntKind.i64.wrap ((ln : Int) - (a : Int)) = (l1 : Int) := by rw [IntWalk.i64_in _ (by omega)]; omega
                  have hw2 : IntKind.i64.wrap ((l1 : Int) - (b : Int)) = (l2 : Int) := by rw [IntWalk.i64_in _ (by omega)]; omega
                  have hw3 : (ln : Int) - (a : Int) = (l1 : Int) := by omega
                  have hw4 : (l1 : Int) - (b : Int) = (l2 : Int) := by omega
                  clear hl1b hl2
                  have HLu : Hid (∀ w', Keeps [] w7 w' → Calls Try.prog 20 #[.pointer (some ⟨g1, 0, none⟩)] w' fun e w'' => e = .returned (.int .i64 (l2 : Int)) ∧ w' = w'') := Lib.hid (fun w' k => by
                    have := len_log _ w' X F1 g1 _ [] (D7.out.a.keep k)
                    rw [e2] at this
                    exact this)
                  have HLv : Hid (∀ w', Keeps [] w7 w' → Calls Try.prog 20 #[.pointer (some ⟨g2, 0, none⟩)] w' fun e w'' => e = .returned (.int .i64 (l2 : Int)) ∧ w' = w'') := Lib.hid (fun w' k => by
                    have := len_log _ w' X F2 g2 _ [] (D7.out.c.keep k)
                    rw [e3] at this
                    exact this)
                  clear hM hM1 hM2 hL1 hl1 hln HV2 r7 p7 k7 D6 kb6 r5' r6' r7' hR1 hR2 hs1 hs2 ka e2 e3 D7 hm hsM hsL hMM hm1 hm2
                  go_wp2_with (first
                    | (at_builtin; refine wpList_append_row (by rfl) (.tmp 118) (.tmp 119) 28 rfl w7.heap.size 35 i5 (.agg #[.int .i64 0, .int .i64 0, .slice none 0 0, .slice none 0 0]) 4 64 Try.underlying28 hi5.out hy0.out hy1.out hy2.out rfl (by decide) _ 0 [] rfl hv.out A6 a c6 (flatC R1) rfl hf1.out hs1'.out (flatC_oneR _) (by unfold maxLen; omega) (by omega) hbs.out ?_; intro v8 w8 q1 q2 q3 q4; have k8 : Hid (Keeps [] w7 w8) := Lib.hid (keeps_append ((Keeps.refl [] w7).alloc _) (Keeps.refl [] _) hv.out q2.out); have o8 : Hid (w8.ownsRow w7.heap.size 35 4 v8 a (flatC R1)) := Lib.hid (by have := q1.out; rw [List.nil_append, Nat.zero_add] at this; exact this); have hs2x := Lib.hid (hs2'.out.keep0 k8.out); clear q1 q2 q3 q4)
                    | (at_builtin; refine wpList_append_row (by rfl) (.tmp 120) (.tmp 121) 28 rfl w7.heap.size 35 i5 (.agg #[.int .i64 0, .int .i64 0, .slice none 0 0, .slice none 0 0]) 4 64 Try.underlying28 hi5.out hy0.out hy1.out hy2.out rfl (by decide) _ a (flatC R1) rfl o8.out A7 b c7 (flatC R2) rfl hf2.out hs2x.out (flatC_oneR _) (by unfold maxLen; omega) (by omega) k8.out.size ?_; intro v9 w9 q1 q2 q3 q4; have k9 : Hid (Keeps [] w7 w9) := Lib.hid (keeps_append k8.out (Keeps.refl [] _) o8.out q2.out); obtain ⟨A9, c9, rfl, HSm⟩ := HQ.out w9 v9 q1 k9; clear q1 q2 q3 q4))
                  refine HSm.out.mono ?_
                  rintro e wa ⟨rfl, ka⟩
                  replace k9 := Lib.hid (k9.out.trans ka)
                  clear HSm ka
                  go_wp2_with fail
                  refine (HLu.out _ k9.out).mono ?_
                  rintro e wb ⟨rfl, rfl⟩
                  go_wp2_with fail
                  refine (HLv.out _ k9.out).mono ?_
                  rintro e wb ⟨rfl, rfl⟩
                  go_wp2_with fail
                  go_ret
                  exact ⟨rfl, kk.out.trans (kb7.out.trans k9.out)⟩
                · have hgt : (ln : Int) < (a : Int) + (b : Int) := by omega
                  have dgt := decide_eq_true hgt
                  have hok : undoOk L [] ((a + b : Nat) : Int) = false := by unfold undoOk leastM; rw [← hln.out]; simp; omega
                  unfold UndoL at HU
                  simp only [hok, Bool.false_eq_true, if_false] at HU
                  go_wp2_with fail
                  refine HU.out.mono ?_
                  rintro e w5 ⟨A5, c5, rfl, r5, p5, k5⟩
                  have HLu : Hid (Calls Try.prog 20 #[.pointer (some ⟨g1, 0, none⟩)] w5 fun e w'' => e = .returned (.int .i64 (ln : Int)) ∧ w5 = w'') := Lib.hid (by
                    have := len_log _ w5 X F1 g1 _ [] p5.out
                    rw [← hln.out] at this
                    exact this)
                  have kb5 : Hid (Keeps [] w2 w5) := Lib.hid (hD.out.base rfl hkw.out k5.out (fun y hy => .inl hy))
                  clear HU hok r5 p5 k5 hD hkw hln
                  go_wp2_with fail
                  refine HLu.out.mono ?_
                  rintro e wb ⟨rfl, rfl⟩
                  go_wp2_with fail
                  go_ret
                  exact ⟨rfl, kk.out.trans kb5.out⟩
end Go.Proofs.Ytmclfbhcddcebaa
