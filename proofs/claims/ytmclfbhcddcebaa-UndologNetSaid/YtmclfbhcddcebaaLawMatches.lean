/- The walk of the statement UndologMatchesModel. -/
import Derived.Test.YtmclfbhcddcebaaU40
import Derived.Test.YtmclfbhcddcebaaLawNested
namespace Go.Proofs.Ytmclfbhcddcebaa
open Go.RowKit Go.Shelf
set_option linter.unusedSimpArgs false
set_option linter.unusedVariables false

theorem glog_cell {tl ts : TypeId} {b : Nat} {w : World} {X F : List Nat} {gl : Nat} {L : List Chg} {S : List Pnt} (h : GLog tl ts b w X F gl L S) : ∃ v, w.cell? ⟨gl, 0, none⟩ = some v ∧ ∃ A c, v = .slice A L.length c ∧ ChsAt w [] A L := by
  obtain ⟨A, c, Ap, cp, R, hB, hO, hP, hR, hF⟩ := h.ex
  exact ⟨_, hB.cell 0, A, c, rfl, ChsAt.of hO hR.1 (hR.other (by simp)) (by simp)⟩
/-- Both logs behind operations. -/
def runS (l : List Oo) : List Chg × List Pnt := l.foldl (fun p o => (stL p.1 p.2 o, stS p.1 p.2 o)) ([], [])
theorem runS_snoc (l : List Oo) (o : Oo) : runS (l ++ [o]) = (stL (runS l).1 (runS l).2 o, stS (runS l).1 (runS l).2 o) := by simp [runS, List.foldl_append]
theorem oo_ind {P : List Oo → Prop} (h0 : P []) (h1 : ∀ L c, P L → P (L ++ [c])) (L : List Oo) : P L := by
  rw [← List.reverse_reverse L]
  induction L.reverse with
  | nil => exact h0
  | cons c L ih => rw [List.reverse_cons]; exact h1 _ c ih
theorem runS_good (l : List Oo) : Good (runS l).1 (runS l).2 ∧ (runS l).1.length ≤ l.length ∧ (runS l).2.length ≤ l.length := by
  refine oo_ind (P := fun l => Good (runS l).1 (runS l).2 ∧ (runS l).1.length ≤ l.length ∧ (runS l).2.length ≤ l.length) ⟨Good.nil, Nat.le_refl _, Nat.le_refl _⟩ (fun l o h => ?_) l
  rw [runS_snoc]
  have := step_len (runS l).1 (runS l).2 o
  refine ⟨good_step h.1 o, ?_, ?_⟩
  · dsimp only; rw [List.length_append]; simp only [List.length_cons, List.length_nil]; omega
  · dsimp only; rw [List.length_append]; simp only [List.length_cons, List.length_nil]; omega

set_option maxRecDepth 100000 in
set_option maxHeartbeats 32000000 in
theorem law_matches (w : World) (A : Option Addr) (c : Nat) (l : List Oo) (h1 : l.length ≤ c) (h2 : c ≤ maxLen) (h3 : OpsAt w [] A l) (h4 : ∀ o ∈ l, wfC o.c ∧ (Lit.int .i64 o.n).wf = true) :
    Calls Try.prog 7 #[.slice A l.length c] w fun e w' => e = .returned (.bool true) ∧ Keeps [] w w' := by
  obtain ⟨n, hn⟩ : ∃ n, n = l.length := ⟨_, rfl⟩
  rw [← hn] at h1 ⊢
  have hF := Lib.hid (fun (w1 : World) (k : Keeps [] w w1) => few_any w1 [] A l n c hn.symm (h3.keep k (by simp)) (by omega))
  replace hn := Lib.hid hn
  replace h3 := Lib.hid h3
  replace h4 := Lib.hid h4
  clear h1 h2
  go_enter Try.func7, Try.ntmps7
  go_wp2_with fail
  refine (awake_any w).mono ?_
  rintro e w1 ⟨rfl, k1⟩
  replace hF := Lib.hid (hF.out w1 k1)
  have kk := Lib.hid k1
  clear k1
  cases hfew : fewB l
  · rw [hfew] at hF
    clear hfew
    go_wp2_with fail
    refine hF.out.mono ?_
    rintro e w2 ⟨rfl, k2⟩
    replace kk := Lib.hid (kk.out.trans k2)
    clear hF k2
    go_wp2_with fail
    refine (awake_any w2).mono ?_
    rintro e w9 ⟨rfl, k9⟩
    replace kk := Lib.hid (kk.out.trans k9)
    clear k9
    go_wp2_with fail
    go_ret
    exact ⟨rfl, kk.out⟩
  · have hfl := Lib.hid (few_len hfew)
    rw [hfew] at hF
    clear hfew
    go_wp2_with fail
    refine hF.out.mono ?_
    rintro e w2 ⟨rfl, k2⟩
    replace kk := Lib.hid (kk.out.trans k2)
    clear hF k2
    go_wp2_with fail
    refine (new_any w2).mono ?_
    rintro e w3 ⟨rfl, rfl⟩
    have hD0 := Lib.hid (Duo.new_ 64 82 31 99 w2 (GLog.new_ 64 82 w2.heap.size w2 (Nat.le_refl _) [] (by simp)))
    have hO2 := Lib.hid (h3.out.keep kk.out (by simp))
    obtain ⟨g1, hg1⟩ : ∃ g, g = w2.heap.size := ⟨_, rfl⟩
    obtain ⟨g2, hg2⟩ : ∃ g, g = w2.heap.size + 1 := ⟨_, rfl⟩
    have hk0 : Hid (Keeps [] w2 ((w2.alloc (.cells #[.slice none 0 0, .slice none 0 0] 64)).alloc (.cells #[.slice none 0 0, .slice none 0 0] 31))) := Lib.hid (((Keeps.refl [] w2).alloc _).alloc _)
    have hgs : (w2.alloc (.cells #[.slice none 0 0, .slice none 0 0] 64)).heap.size = g2 := by rw [hg2]; simp
    rw [← hg2, ← hg1] at hD0
    replace hD0 : Hid (Duo 64 82 31 99 w2.heap.size _ _ _ _ g1 g2 [] [] [] []) := Lib.hid (by rw [← hg1]; exact hD0.out)
    have hX0 : Hid (∀ x ∈ [g2, g1], w2.heap.size ≤ x) := Lib.hid (by simp; omega)
    replace hg1 := Lib.hid hg1
    replace hg2 := Lib.hid hg2
    replace hgs := Lib.hid hgs
    go_wp2_with fail
    rw [← hg2.out, ← hg1.out]
    generalize (w2.alloc (.cells #[.slice none 0 0, .slice none 0 0] 64)).alloc (.cells #[.slice none 0 0, .slice none 0 0] 31) = w4 at *
    clear hgs hg1 hg2 h3
    go_loopw [22] (fun i wr => ∃ (k : Nat) (X F1 F2 : List Nat), k ≤ n ∧ i = .int .i64 k ∧ Hid (Duo 64 82 31 99 w2.heap.size wr X F1 F2 g1 g2 (runS (l.take k)).1 (runS (l.take k)).1 (runS (l.take k)).2 (runS (l.take k)).2) ∧ Hid (∀ x ∈ X, w2.heap.size ≤ x) ∧ Hid (Keeps [] w2 wr)) (fun i _ => n - (intOf i).toNat)
    case atStart => exact ⟨0, _, _, _, Nat.zero_le _, rfl, hD0, hX0, hk0⟩
    case round =>
      obtain ⟨k, X, F1, F2, hk, rfl, hD, hXb, hkw⟩ := hrel
      clear hD0 hk0 hX0
      obtain ⟨wq, hwq⟩ : ∃ x, x = wr := ⟨_, rfl⟩
      subst hwq
      have hn60 : n ≤ 60 := by have := hfl.out.1; have := hn.out; omega
      by_cases hlt : k < n
      · obtain ⟨⟨ok, oc, os, on⟩, ho⟩ : ∃ o, l[k]? = some o := ⟨l[k]'(by rw [← hn.out]; exact hlt), List.getElem?_eq_getElem _⟩
        obtain ⟨g, off, ⟨t, id, Ao, no, co, An, nn, cn⟩, rfl, _, hc, hr⟩ := hO2.out k _ ho
        have z0 := hkw.out.cellEq (hc 0 _ rfl) (by simp)
        have z1 := hkw.out.cellEq (hc 1 _ rfl) (by simp)
        have z2 := hkw.out.cellEq (hc 2 _ rfl) (by simp)
        have z3 := hkw.out.cellEq (hc 3 _ rfl) (by simp)
        have z4 := hkw.out.cellEq (hc 4 _ rfl) (by simp)
        have z5 := hkw.out.cellEq (hc 5 _ rfl) (by simp)
        have z6 := hkw.out.cellEq (hc 6 _ rfl) (by simp)
        rw [Nat.add_zero] at z0
        dsimp only at z0 z1 z2 z3 z4 z5 z6 hr
        have hki : (k : Int) < (n : Int) := by omega
        have hsm : Hid (Small oc) := Lib.hid (fewO_small (hfl.out.2 _ (List.mem_of_getElem? ho)))
        have hwf : Hid (wfC oc) := Lib.hid (h4.out _ (List.mem_of_getElem? ho)).1
        obtain ⟨L, hL⟩ : ∃ L, L = (runS (l.take k)).1 := ⟨_, rfl⟩
        obtain ⟨S, hSS⟩ : ∃ L, L = (runS (l.take k)).2 := ⟨_, rfl⟩
        obtain ⟨L', hL'⟩ : ∃ x, x = stL L S ⟨ok, oc, os, on⟩ := ⟨_, rfl⟩
        obtain ⟨S', hS'⟩ : ∃ x, x = stS L S ⟨ok, oc, os, on⟩ := ⟨_, rfl⟩
        have hrun : Hid (runS (l.take (k + 1)) = (L', S')) := Lib.hid (by rw [take_snoc ho, runS_snoc, ← hL, ← hSS, ← hL', ← hS'])
        have hg0 := runS_good (l.take k)
        have hg1' := runS_good (l.take (k + 1))
        rw [hrun.out] at hg1'
        rw [← hL, ← hSS] at hD hg0
        have hgood := Lib.hid hg0.1
        have hLl : Hid (L.length ≤ 60 ∧ S.length ≤ 60) := Lib.hid (by have := List.length_take_le k l; have := hg0.2; omega)
        obtain ⟨ll, hll⟩ : ∃ x, x = L'.length := ⟨_, rfl⟩
        have hll6 : ll ≤ 60 := by have h5 := List.length_take_le (k + 1) l; have h6 := hg1'.2.1; dsimp only at h6; omega
        have hLl' : Hid (L'.length = ll) := Lib.hid hll.symm
        have hsL : Hid (∀ c ∈ L, Small c) := Lib.hid (fun c hc => (hD.out.a.sm c hc).1)
        have HR : Hid (∀ w' F, Keeps [] w2 w' → (∀ y ∈ F, w2.heap.size ≤ y) → RawIs w' F ⟨t, id, Ao, no, co, An, nn, cn⟩ oc) := Lib.hid (fun w' F hk hF => (hr.other (fun y hy => .inr (hF y hy))).keep hk (by simp))
        have hsL' : Hid (∀ c ∈ L', Small c) := Lib.hid (by rw [hL']; exact stL_small hsL.out hsm.out)
        have hsN : Hid (∀ c ∈ netOut L', Small c) := Lib.hid (netOut_small hsL'.out)
        have hnN : Hid ((netOut L').length ≤ 1000000) := Lib.hid (by have := netOut_len L'; omega)
        have ka : Keeps [] wq (wq.alloc (.cells #[.int .i64 ok, .int .i64 t, .int .i64 id, .slice Ao no co, .slice An nn cn, .string os, .int .i64 on] 37)) := (Keeps.refl [] wq).alloc _
        have hD9 := Lib.hid (hD.out.keep ka)
        have hkw9 := Lib.hid (hkw.out.trans ka)
        have BO := Lib.hid (Blk.new wq 37 #[.int .i64 ok, .int .i64 t, .int .i64 id, .slice Ao no co, .slice An nn cn, .string os, .int .i64 on])
        have hgo1 : Hid (wq.heap.size ∉ F1 ++ F2) := Lib.hid (fun hm => by
          rcases List.mem_append.1 hm with hm | hm
          · have := (hD.out.a.lob _ hm).2; omega
          · have := (hD.out.c.lob _ hm).2; omega)
        replace hc := Lib.hid hc
        replace ho := Lib.hid ho
        replace hL := Lib.hid hL
        replace hSS := Lib.hid hSS
        replace hll := Lib.hid hll
        replace hL' := Lib.hid hL'
        replace hS' := Lib.hid hS'
        clear hD hkw ka hr hg0 hg1'
        go_wp2_with fail
        obtain ⟨go, hgo⟩ : ∃ g, g = wq.heap.size := ⟨_, rfl⟩
        rw [← hgo] at BO hgo1 ⊢
        generalize wq.alloc (.cells #[.int .i64 ok, .int .i64 t, .int .i64 id, .slice Ao no co, .slice An nn cn, .string os, .int .i64 on] 37) = wo at *
        clear hgo z0 z1 z2 z3 z4 z5 z6
        have hS : Hid (∀ w', Blk w' go 37 #[.int .i64 ok, .int .i64 t, .int .i64 id, .slice Ao no co, .slice An nn cn, .string os, .int .i64 on] → (fun w' : World => w'.cell? ⟨go, 0, none⟩ = some (.int .i64 ok) ∧ w'.cell? ⟨go, 1, none⟩ = some (.int .i64 t) ∧ w'.cell? ⟨go, 2, none⟩ = some (.int .i64 id) ∧ w'.cell? ⟨go, 3, none⟩ = some (.slice Ao no co) ∧ w'.cell? ⟨go, 4, none⟩ = some (.slice An nn cn) ∧ w'.cell? ⟨go, 5, none⟩ = some (.string os) ∧ w'.cell? ⟨go, 6, none⟩ = some (.int .i64 on)) w') := Lib.hid (fun w' hb => ⟨hb.cell 0, hb.cell 1, hb.cell 2, hb.cell 3, hb.cell 4, hb.cell 5, hb.cell 6⟩)
        refine wp_region_I (S := (fun w' : World => w'.cell? ⟨go, 0, none⟩ = some (.int .i64 ok) ∧ w'.cell? ⟨go, 1, none⟩ = some (.int .i64 t) ∧ w'.cell? ⟨go, 2, none⟩ = some (.int .i64 id) ∧ w'.cell? ⟨go, 3, none⟩ = some (.slice Ao no co) ∧ w'.cell? ⟨go, 4, none⟩ = some (.slice An nn cn) ∧ w'.cell? ⟨go, 5, none⟩ = some (.string os) ∧ w'.cell? ⟨go, 6, none⟩ = some (.int .i64 on))) (n := 23) (by kernel_rfl) ?_
        have HS := hS.out _ BO.out.drew
        replace BO := Lib.hid BO.out.drew
        have hD := Lib.hid (hD9.out.keep (Keeps.refl [] _).drew)
        have hkw := Lib.hid hkw9.out.drew
        have hszc : Hid (w2.heap.size ≤ wo.drew.heap.size) := Lib.hid hkw.out.size
        have HA := Lib.hid (do_any w2.heap.size _ X F1 F2 g1 g2 L S ⟨ok, oc, os, on⟩ ⟨t, id, Ao, no, co, An, nn, cn⟩ hD.out hgood.out (HR.out _ X hkw.out hXb.out) hsm.out hwf.out (by have := hLl.out; omega) (by have := hLl.out; omega))
        rw [← hL'.out, ← hS'.out] at HA
        unfold oCells at HA
        dsimp only at HA
        generalize wo.drew = wc at *
        refine wpAnyI_takeN (i := 0) (v := ?_) (by kernel_rfl) rfl (by kernel_rfl) (by kernel_rfl) (by kernel_rfl) (fun _ _ _ h => h) HS (Or.inl ⟨by rfl, ?_⟩) ?_
        rotate_left
        · (intro w hSw; obtain ⟨y0, y1, y2, y3, y4, y5, y6⟩ := hSw; go_simp; try with_reducible rfl)
        try simp only [Act.put, List.getElem_toArray, List.getElem_cons_succ, List.getElem_cons_zero, List.setIfInBounds_toArray, List.set_cons_zero, List.set_cons_succ]
        refine wpAnyI_takeN (i := 1) (v := ?_) (by kernel_rfl) rfl (by kernel_rfl) (by kernel_rfl) (by kernel_rfl) (fun _ _ _ h => h) HS (Or.inl ⟨by rfl, ?_⟩) ?_
        rotate_left
        · (intro w hSw; obtain ⟨y0, y1, y2, y3, y4, y5, y6⟩ := hSw; go_simp; try with_reducible rfl)
        try simp only [Act.put, List.getElem_toArray, List.getElem_cons_succ, List.getElem_cons_zero, List.setIfInBounds_toArray, List.set_cons_zero, List.set_cons_succ]
        refine wpAnyI_takeN (i := 2) (v := ?_) (by kernel_rfl) rfl (by kernel_rfl) (by kernel_rfl) (by kernel_rfl) (fun _ _ _ h => h) HS (Or.inl ⟨by rfl, ?_⟩) ?_
        rotate_left
        · (intro w hSw; obtain ⟨y0, y1, y2, y3, y4, y5, y6⟩ := hSw; go_simp; try with_reducible rfl)
        try simp only [Act.put, List.getElem_toArray, List.getElem_cons_succ, List.getElem_cons_zero, List.setIfInBounds_toArray, List.set_cons_zero, List.set_cons_succ]
        refine wpAnyI_one (i := 3) rfl (by kernel_rfl) (fun K hK => ?_)
        dsimp only [List.getElem_toArray, List.getElem_cons_succ, List.getElem_cons_zero]
        go_simp
        refine HA.out.mono ?_
        rintro e wn ⟨X', F1', F2', rfl, D3, kA, hXX⟩
        replace BO := Lib.hid (BO.out.keep kA.out hgo1.out)
        have HS := hS.out _ BO.out
        replace hkw : Hid (Keeps [] w2 wn) := Lib.hid (hD.out.base rfl hkw.out kA.out (fun y hy => List.mem_append.1 hy))
        have hXn : Hid (∀ x ∈ X', w2.heap.size ≤ x) := Lib.hid (fun x hx => (hXX.out x hx).elim (hXb.out x) (fun h => Nat.le_trans hszc.out h))
        obtain ⟨v2, y20, hv2⟩ := glog_cell D3.out.c
        obtain ⟨Ac, cc, rfl, hAc⟩ := hv2
        rw [hLl'.out] at y20
        replace hAc := Lib.hid hAc
        refine hK _ _ (Or.inr HS) ?_
        clear hK K HA kA hXX
        obtain ⟨wc, hwc⟩ : ∃ x, x = wn := ⟨_, rfl⟩
        subst hwc
        try simp only [Act.put, List.getElem_toArray, List.getElem_cons_succ, List.getElem_cons_zero, List.setIfInBounds_toArray, List.set_cons_zero, List.set_cons_succ]
        refine wpAnyI_takeN (i := 4) (v := ?_) (by kernel_rfl) rfl (by kernel_rfl) (by kernel_rfl) (by kernel_rfl) (fun _ _ _ h => h) HS (Or.inl ⟨by rfl, ?_⟩) ?_
        rotate_left
        · (intro w hSw; obtain ⟨y0, y1, y2, y3, y4, y5, y6⟩ := hSw; go_simp; try with_reducible rfl)
        try simp only [Act.put, List.getElem_toArray, List.getElem_cons_succ, List.getElem_cons_zero, List.setIfInBounds_toArray, List.set_cons_zero, List.set_cons_succ]
        refine wpAnyI_takeN (i := 5) (v := ?_) (by kernel_rfl) rfl (by kernel_rfl) (by kernel_rfl) (by kernel_rfl) (fun _ _ _ h => h) HS (Or.inl ⟨by rfl, ?_⟩) ?_
        rotate_left
        · (intro w hSw; obtain ⟨y0, y1, y2, y3, y4, y5, y6⟩ := hSw; go_simp; try with_reducible rfl)
        try simp only [Act.put, List.getElem_toArray, List.getElem_cons_succ, List.getElem_cons_zero, List.setIfInBounds_toArray, List.set_cons_zero, List.set_cons_succ]
        refine wpAnyI_takeN (i := 6) (v := ?_) (by kernel_rfl) rfl (by kernel_rfl) (by kernel_rfl) (by kernel_rfl) (fun _ _ _ h => h) HS (Or.inl ⟨by rfl, ?_⟩) ?_
        rotate_left
        · (intro w hSw; obtain ⟨y0, y1, y2, y3, y4, y5, y6⟩ := hSw; go_simp; try with_reducible rfl)
        try simp only [Act.put, List.getElem_toArray, List.getElem_cons_succ, List.getElem_cons_zero, List.setIfInBounds_toArray, List.set_cons_zero, List.set_cons_succ]
        refine wpAnyI_takeN (i := 8) (v := ?_) (by kernel_rfl) rfl (by kernel_rfl) (by kernel_rfl) (by kernel_rfl) (fun _ _ _ h => h) HS (Or.inl ⟨by rfl, ?_⟩) ?_
        rotate_left
        · (intro w hSw; obtain ⟨y0, y1, y2, y3, y4, y5, y6⟩ := hSw; go_simp; try with_reducible rfl)
        try simp only [Act.put, List.getElem_toArray, List.getElem_cons_succ, List.getElem_cons_zero, List.setIfInBounds_toArray, List.set_cons_zero, List.set_cons_succ]
        refine wpAnyI_takeN (i := 9) (v := ?_) (by kernel_rfl) rfl (by kernel_rfl) (by kernel_rfl) (by kernel_rfl) (fun _ _ _ h => h) HS (Or.inl ⟨by rfl, ?_⟩) ?_
        rotate_left
        · (intro w hSw; obtain ⟨y0, y1, y2, y3, y4, y5, y6⟩ := hSw; go_simp; try with_reducible rfl)
        try simp only [Act.put, List.getElem_toArray, List.getElem_cons_succ, List.getElem_cons_zero, List.setIfInBounds_toArray, List.set_cons_zero, List.set_cons_succ]
        refine wpAnyI_takeN (i := 10) (v := ?_) (by kernel_rfl) rfl (by kernel_rfl) (by kernel_rfl) (by kernel_rfl) (fun _ _ _ h => h) HS (Or.inl ⟨by rfl, ?_⟩) ?_
        rotate_left
        · (intro w hSw; obtain ⟨y0, y1, y2, y3, y4, y5, y6⟩ := hSw; go_simp; try with_reducible rfl)
        try simp only [Act.put, List.getElem_toArray, List.getElem_cons_succ, List.getElem_cons_zero, List.setIfInBounds_toArray, List.set_cons_zero, List.set_cons_succ]
        refine wpAnyI_two (i := 7) (j := 11) rfl rfl (by kernel_rfl) (fun K hK => ?_) (fun K hK => ?_)
        · dsimp only [List.getElem_toArray, List.getElem_cons_succ, List.getElem_cons_zero]
          go_simp
          refine (len_log _ wc _ _ g1 _ _ D3.out.a).mono ?_
          rintro e wn ⟨rfl, rfl⟩
          rw [hLl'.out]
          refine hK _ _ (Or.inr HS) ?_
          clear hK K
          try simp only [Act.put, List.getElem_toArray, List.getElem_cons_succ, List.getElem_cons_zero, List.setIfInBounds_toArray, List.set_cons_zero, List.set_cons_succ]
          refine wpAnyI_one (i := 11) rfl (by kernel_rfl) (fun K hK => ?_)
          dsimp only [List.getElem_toArray, List.getElem_cons_succ, List.getElem_cons_zero]
          go_simp
          refine hK _ _ (Or.inr HS) ?_
          clear hK K
          try simp only [Act.put, List.getElem_toArray, List.getElem_cons_succ, List.getElem_cons_zero, List.setIfInBounds_toArray, List.set_cons_zero, List.set_cons_succ]
          refine wpAnyI_takeN (i := 12) (v := ?_) (by kernel_rfl) rfl (by kernel_rfl) (by kernel_rfl) (by kernel_rfl) (fun _ _ _ h => h) HS (Or.inl ⟨by rfl, ?_⟩) ?_
          rotate_left
          · (intro w hSw; obtain ⟨y0, y1, y2, y3, y4, y5, y6⟩ := hSw; go_simp; try with_reducible rfl)
          try simp only [Act.put, List.getElem_toArray, List.getElem_cons_succ, List.getElem_cons_zero, List.setIfInBounds_toArray, List.set_cons_zero, List.set_cons_succ]
          refine wpAnyI_takeN (i := 13) (v := .bool false) (by kernel_rfl) rfl (by kernel_rfl) (by kernel_rfl) (by kernel_rfl) (fun _ _ _ h => h) HS (Or.inl ⟨by rfl, ?_⟩) ?_
          · (intro w hSw; obtain ⟨y0, y1, y2, y3, y4, y5, y6⟩ := hSw; go_simp)
          try simp only [Act.put, List.getElem_toArray, List.getElem_cons_succ, List.getElem_cons_zero, List.setIfInBounds_toArray, List.set_cons_zero, List.set_cons_succ]
          refine wpAnyI_takeN (i := 14) (v := ?_) (by kernel_rfl) rfl (by kernel_rfl) (by kernel_rfl) (by kernel_rfl) (fun _ _ _ h => h) HS (Or.inl ⟨by rfl, ?_⟩) ?_
          rotate_left
          · (intro w hSw; obtain ⟨y0, y1, y2, y3, y4, y5, y6⟩ := hSw; go_simp; try with_reducible rfl)
          try simp only [Act.put, List.getElem_toArray, List.getElem_cons_succ, List.getElem_cons_zero, List.setIfInBounds_toArray, List.set_cons_zero, List.set_cons_succ]
          refine wpAnyI_takeN (i := 15) (v := ?_) (by kernel_rfl) rfl (by kernel_rfl) (by kernel_rfl) (by kernel_rfl) (fun _ _ _ h => h) HS (Or.inl ⟨by rfl, ?_⟩) ?_
          rotate_left
          · (intro w hSw; obtain ⟨y0, y1, y2, y3, y4, y5, y6⟩ := hSw; go_simp; try with_reducible rfl)
          try simp only [Act.put, List.getElem_toArray, List.getElem_cons_succ, List.getElem_cons_zero, List.setIfInBounds_toArray, List.set_cons_zero, List.set_cons_succ]
          refine wpAnyI_takeN (i := 16) (v := ?_) (by kernel_rfl) rfl (by kernel_rfl) (by kernel_rfl) (by kernel_rfl) (fun _ _ _ h => h) HS (Or.inl ⟨by rfl, ?_⟩) ?_
          rotate_left
          · (intro w hSw; obtain ⟨y0, y1, y2, y3, y4, y5, y6⟩ := hSw; go_simp; try with_reducible rfl)
          try simp only [Act.put, List.getElem_toArray, List.getElem_cons_succ, List.getElem_cons_zero, List.setIfInBounds_toArray, List.set_cons_zero, List.set_cons_succ]
          refine wpAnyI_takeN (i := 18) (v := ?_) (by kernel_rfl) rfl (by kernel_rfl) (by kernel_rfl) (by kernel_rfl) (fun _ _ _ h => h) HS (Or.inl ⟨by rfl, ?_⟩) ?_
          rotate_left
          · (intro w hSw; obtain ⟨y0, y1, y2, y3, y4, y5, y6⟩ := hSw; go_simp; try with_reducible rfl)
          try simp only [Act.put, List.getElem_toArray, List.getElem_cons_succ, List.getElem_cons_zero, List.setIfInBounds_toArray, List.set_cons_zero, List.set_cons_succ]
          refine wpAnyI_one (i := 17) rfl (by kernel_rfl) (fun K hK => ?_)
          dsimp only [List.getElem_toArray, List.getElem_cons_succ, List.getElem_cons_zero]
          go_simp
          refine (net_o _ wc _ _ g1 _ _ D3.out.a (by rw [hLl'.out]; omega)).mono ?_
          rintro e wn ⟨Aa, ca, rfl, ra, ka⟩
          have BO := Lib.hid (BO.out.keep ka.out (by simp))
          have HS := hS.out _ BO.out
          have D4 := Lib.hid (D3.out.keep ka.out)
          replace hkw := Lib.hid (hkw.out.trans ka.out)
          refine hK _ _ (Or.inr HS) ?_
          clear hK K ka
          obtain ⟨wc, hwc⟩ : ∃ x, x = wn := ⟨_, rfl⟩
          subst hwc
          try simp only [Act.put, List.getElem_toArray, List.getElem_cons_succ, List.getElem_cons_zero, List.setIfInBounds_toArray, List.set_cons_zero, List.set_cons_succ]
          refine wpAnyI_one (i := 19) rfl (by kernel_rfl) (fun K hK => ?_)
          dsimp only [List.getElem_toArray, List.getElem_cons_succ, List.getElem_cons_zero]
          go_simp
          refine (rnet_log _ wc _ _ g2 _ _ D4.out.c (by rw [hLl'.out]; omega)).mono ?_
          rintro e wn ⟨Ab, cb, rfl, rb, kb⟩
          have BO := Lib.hid (BO.out.keep kb.out (by simp))
          have HS := hS.out _ BO.out
          have D5 := Lib.hid (D4.out.keep kb.out)
          replace hkw := Lib.hid (hkw.out.trans kb.out)
          have ra := Lib.hid (ra.out.keep kb.out (by simp))
          refine hK _ _ (Or.inr HS) ?_
          clear hK K kb
          obtain ⟨wc, hwc⟩ : ∃ x, x = wn := ⟨_, rfl⟩
          subst hwc
          try simp only [Act.put, List.getElem_toArray, List.getElem_cons_succ, List.getElem_cons_zero, List.setIfInBounds_toArray, List.set_cons_zero, List.set_cons_succ]
          refine wpAnyI_one (i := 20) rfl (by kernel_rfl) (fun K hK => ?_)
          dsimp only [List.getElem_toArray, List.getElem_cons_succ, List.getElem_cons_zero]
          go_simp
          refine (same_any wc [] X' Aa Ab (netOut L') (netOut L') _ ca _ cb rfl rfl ra.out rb.out hsN.out hnN.out).mono ?_
          rintro e wn ⟨rfl, kb⟩
          rw [decide_eq_true rfl]
          have BO := Lib.hid (BO.out.keep kb (by simp))
          have HS := hS.out _ BO.out
          have D6 := Lib.hid (D5.out.keep kb)
          replace hkw := Lib.hid (hkw.out.trans kb)
          refine hK _ _ (Or.inr HS) ?_
          clear hK K kb
          obtain ⟨wc, hwc⟩ : ∃ x, x = wn := ⟨_, rfl⟩
          subst hwc
          try simp only [Act.put, List.getElem_toArray, List.getElem_cons_succ, List.getElem_cons_zero, List.setIfInBounds_toArray, List.set_cons_zero, List.set_cons_succ]
          refine wpAnyI_takeN (i := 21) (v := ?_) (by kernel_rfl) rfl (by kernel_rfl) (by kernel_rfl) (by kernel_rfl) (fun _ _ _ h => h) HS (Or.inl ⟨by rfl, ?_⟩) ?_
          rotate_left
          · (intro w hSw; obtain ⟨y0, y1, y2, y3, y4, y5, y6⟩ := hSw; go_simp; try with_reducible rfl)
          try simp only [Act.put, List.getElem_toArray, List.getElem_cons_succ, List.getElem_cons_zero, List.setIfInBounds_toArray, List.set_cons_zero, List.set_cons_succ]
          refine wpAnyI_takeN (i := 22) (v := ?_) (by kernel_rfl) rfl (by kernel_rfl) (by kernel_rfl) (by kernel_rfl) (fun _ _ _ h => h) HS (Or.inl ⟨by rfl, ?_⟩) ?_
          rotate_left
          · (intro w hSw; obtain ⟨y0, y1, y2, y3, y4, y5, y6⟩ := hSw; go_simp; try with_reducible rfl)
          try simp only [Act.put, List.getElem_toArray, List.getElem_cons_succ, List.getElem_cons_zero, List.setIfInBounds_toArray, List.set_cons_zero, List.set_cons_succ]
          refine wpAnyI_done (by kernel_rfl) ?_ _
          go_wp2_with fail
          go_roundw
          case rel => exact ⟨k + 1, _, _, _, by omega, by go_num, by rw [hrun.out]; exact D6, hXn, hkw⟩
          case measure => simp [intOf]; omega
        · dsimp only [List.getElem_toArray, List.getElem_cons_succ, List.getElem_cons_zero]
          go_simp
          refine hK _ _ (Or.inr HS) ?_
          clear hK K
          try simp only [Act.put, List.getElem_toArray, List.getElem_cons_succ, List.getElem_cons_zero, List.setIfInBounds_toArray, List.set_cons_zero, List.set_cons_succ]
          refine wpAnyI_takeN (i := 12) (v := ?_) (by kernel_rfl) rfl (by kernel_rfl) (by kernel_rfl) (by kernel_rfl) (fun _ _ _ h => h) HS (Or.inl ⟨by rfl, ?_⟩) ?_
          rotate_left
          · (intro w hSw; obtain ⟨y0, y1, y2, y3, y4, y5, y6⟩ := hSw; go_simp; try with_reducible rfl)
          try simp only [Act.put, List.getElem_toArray, List.getElem_cons_succ, List.getElem_cons_zero, List.setIfInBounds_toArray, List.set_cons_zero, List.set_cons_succ]
          refine wpAnyI_one (i := 7) rfl (by kernel_rfl) (fun K hK => ?_)
          dsimp only [List.getElem_toArray, List.getElem_cons_succ, List.getElem_cons_zero]
          go_simp
          refine (len_log _ wc _ _ g1 _ _ D3.out.a).mono ?_
          rintro e wn ⟨rfl, rfl⟩
          rw [hLl'.out]
          refine hK _ _ (Or.inr HS) ?_
          clear hK K
          try simp only [Act.put, List.getElem_toArray, List.getElem_cons_succ, List.getElem_cons_zero, List.setIfInBounds_toArray, List.set_cons_zero, List.set_cons_succ]
          refine wpAnyI_takeN (i := 13) (v := .bool false) (by kernel_rfl) rfl (by kernel_rfl) (by kernel_rfl) (by kernel_rfl) (fun _ _ _ h => h) HS (Or.inl ⟨by rfl, ?_⟩) ?_
          · (intro w hSw; obtain ⟨y0, y1, y2, y3, y4, y5, y6⟩ := hSw; go_simp)
          try simp only [Act.put, List.getElem_toArray, List.getElem_cons_succ, List.getElem_cons_zero, List.setIfInBounds_toArray, List.set_cons_zero, List.set_cons_succ]
          refine wpAnyI_takeN (i := 14) (v := ?_) (by kernel_rfl) rfl (by kernel_rfl) (by kernel_rfl) (by kernel_rfl) (fun _ _ _ h => h) HS (Or.inl ⟨by rfl, ?_⟩) ?_
          rotate_left
          · (intro w hSw; obtain ⟨y0, y1, y2, y3, y4, y5, y6⟩ := hSw; go_simp; try with_reducible rfl)
          try simp only [Act.put, List.getElem_toArray, List.getElem_cons_succ, List.getElem_cons_zero, List.setIfInBounds_toArray, List.set_cons_zero, List.set_cons_succ]
          refine wpAnyI_takeN (i := 15) (v := ?_) (by kernel_rfl) rfl (by kernel_rfl) (by kernel_rfl) (by kernel_rfl) (fun _ _ _ h => h) HS (Or.inl ⟨by rfl, ?_⟩) ?_
          rotate_left
          · (intro w hSw; obtain ⟨y0, y1, y2, y3, y4, y5, y6⟩ := hSw; go_simp; try with_reducible rfl)
          try simp only [Act.put, List.getElem_toArray, List.getElem_cons_succ, List.getElem_cons_zero, List.setIfInBounds_toArray, List.set_cons_zero, List.set_cons_succ]
          refine wpAnyI_takeN (i := 16) (v := ?_) (by kernel_rfl) rfl (by kernel_rfl) (by kernel_rfl) (by kernel_rfl) (fun _ _ _ h => h) HS (Or.inl ⟨by rfl, ?_⟩) ?_
          rotate_left
          · (intro w hSw; obtain ⟨y0, y1, y2, y3, y4, y5, y6⟩ := hSw; go_simp; try with_reducible rfl)
          try simp only [Act.put, List.getElem_toArray, List.getElem_cons_succ, List.getElem_cons_zero, List.setIfInBounds_toArray, List.set_cons_zero, List.set_cons_succ]
          refine wpAnyI_takeN (i := 18) (v := ?_) (by kernel_rfl) rfl (by kernel_rfl) (by kernel_rfl) (by kernel_rfl) (fun _ _ _ h => h) HS (Or.inl ⟨by rfl, ?_⟩) ?_
          rotate_left
          · (intro w hSw; obtain ⟨y0, y1, y2, y3, y4, y5, y6⟩ := hSw; go_simp; try with_reducible rfl)
          try simp only [Act.put, List.getElem_toArray, List.getElem_cons_succ, List.getElem_cons_zero, List.setIfInBounds_toArray, List.set_cons_zero, List.set_cons_succ]
          refine wpAnyI_one (i := 17) rfl (by kernel_rfl) (fun K hK => ?_)
          dsimp only [List.getElem_toArray, List.getElem_cons_succ, List.getElem_cons_zero]
          go_simp
          refine (net_o _ wc _ _ g1 _ _ D3.out.a (by rw [hLl'.out]; omega)).mono ?_
          rintro e wn ⟨Aa, ca, rfl, ra, ka⟩
          have BO := Lib.hid (BO.out.keep ka.out (by simp))
          have HS := hS.out _ BO.out
          have D4 := Lib.hid (D3.out.keep ka.out)
          replace hkw := Lib.hid (hkw.out.trans ka.out)
          refine hK _ _ (Or.inr HS) ?_
          clear hK K ka
          obtain ⟨wc, hwc⟩ : ∃ x, x = wn := ⟨_, rfl⟩
          subst hwc
          try simp only [Act.put, List.getElem_toArray, List.getElem_cons_succ, List.getElem_cons_zero, List.setIfInBounds_toArray, List.set_cons_zero, List.set_cons_succ]
          refine wpAnyI_one (i := 19) rfl (by kernel_rfl) (fun K hK => ?_)
          dsimp only [List.getElem_toArray, List.getElem_cons_succ, List.getElem_cons_zero]
          go_simp
          refine (rnet_log _ wc _ _ g2 _ _ D4.out.c (by rw [hLl'.out]; omega)).mono ?_
          rintro e wn ⟨Ab, cb, rfl, rb, kb⟩
          have BO := Lib.hid (BO.out.keep kb.out (by simp))
          have HS := hS.out _ BO.out
          have D5 := Lib.hid (D4.out.keep kb.out)
          replace hkw := Lib.hid (hkw.out.trans kb.out)
          have ra := Lib.hid (ra.out.keep kb.out (by simp))
          refine hK _ _ (Or.inr HS) ?_
          clear hK K kb
          obtain ⟨wc, hwc⟩ : ∃ x, x = wn := ⟨_, rfl⟩
          subst hwc
          try simp only [Act.put, List.getElem_toArray, List.getElem_cons_succ, List.getElem_cons_zero, List.setIfInBounds_toArray, List.set_cons_zero, List.set_cons_succ]
          refine wpAnyI_one (i := 20) rfl (by kernel_rfl) (fun K hK => ?_)
          dsimp only [List.getElem_toArray, List.getElem_cons_succ, List.getElem_cons_zero]
          go_simp
          refine (same_any wc [] X' Aa Ab (netOut L') (netOut L') _ ca _ cb rfl rfl ra.out rb.out hsN.out hnN.out).mono ?_
          rintro e wn ⟨rfl, kb⟩
          rw [decide_eq_true rfl]
          have BO := Lib.hid (BO.out.keep kb (by simp))
          have HS := hS.out _ BO.out
          have D6 := Lib.hid (D5.out.keep kb)
          replace hkw := Lib.hid (hkw.out.trans kb)
          refine hK _ _ (Or.inr HS) ?_
          clear hK K kb
          obtain ⟨wc, hwc⟩ : ∃ x, x = wn := ⟨_, rfl⟩
          subst hwc
          try simp only [Act.put, List.getElem_toArray, List.getElem_cons_succ, List.getElem_cons_zero, List.setIfInBounds_toArray, List.set_cons_zero, List.set_cons_succ]
          refine wpAnyI_takeN (i := 21) (v := ?_) (by kernel_rfl) rfl (by kernel_rfl) (by kernel_rfl) (by kernel_rfl) (fun _ _ _ h => h) HS (Or.inl ⟨by rfl, ?_⟩) ?_
          rotate_left
          · (intro w hSw; obtain ⟨y0, y1, y2, y3, y4, y5, y6⟩ := hSw; go_simp; try with_reducible rfl)
          try simp only [Act.put, List.getElem_toArray, List.getElem_cons_succ, List.getElem_cons_zero, List.setIfInBounds_toArray, List.set_cons_zero, List.set_cons_succ]
          refine wpAnyI_takeN (i := 22) (v := ?_) (by kernel_rfl) rfl (by kernel_rfl) (by kernel_rfl) (by kernel_rfl) (fun _ _ _ h => h) HS (Or.inl ⟨by rfl, ?_⟩) ?_
          rotate_left
          · (intro w hSw; obtain ⟨y0, y1, y2, y3, y4, y5, y6⟩ := hSw; go_simp; try with_reducible rfl)
          try simp only [Act.put, List.getElem_toArray, List.getElem_cons_succ, List.getElem_cons_zero, List.setIfInBounds_toArray, List.set_cons_zero, List.set_cons_succ]
          refine wpAnyI_done (by kernel_rfl) ?_ _
          go_wp2_with fail
          go_roundw
          case rel => exact ⟨k + 1, _, _, _, by omega, by go_num, by rw [hrun.out]; exact D6, hXn, hkw⟩
          case measure => simp [intOf]; omega
      · obtain rfl : k = n := by omega
        have hjf : ¬ (k : Int) < (k : Int) := by omega
        go_wp2_with fail
        go_ret
        exact ⟨rfl, kk.out.trans hkw.out⟩
end Go.Proofs.Ytmclfbhcddcebaa
