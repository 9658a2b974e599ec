/- The walk of the statement UndologInverse. -/
import Derived.Test.YtmclfbhcddcebaaU21
namespace Go.Proofs.Ytmclfbhcddcebaa
open Go.RowKit Go.Shelf
set_option linter.unusedSimpArgs false
set_option linter.unusedVariables false

theorem one_chs {w : World} {g : Nat} {r : Raw} {c : Chg} (hB : Blk w g 35 r.cells.toArray) (hr : RawIs w [] r c) : ChsAt w [] (some ⟨g, 0, none⟩) [c] := by
  intro i c' hi
  cases i with
  | zero =>
    obtain rfl : c = c' := by simpa using hi
    have hc := hB.cell
    exact ⟨g, 0, r, rfl, by simp, hc 0, hc 1, hc 2, hc 3, hr⟩
  | succ i => simp at hi
theorem same_one {w : World} {ga gb : Nat} {ra rb : Raw} {c : Chg} (hA : Blk w ga 35 ra.cells.toArray) (hB : Blk w gb 35 rb.cells.toArray) (ia : RawIs w [] ra c) (ib : RawIs w [] rb c) (hs : Small c) :
    Calls Try.prog 16 #[.slice (some ⟨ga, 0, none⟩) 1 1, .slice (some ⟨gb, 0, none⟩) 1 1] w fun e w' => e = .returned (.bool true) ∧ Keeps [] w w' := by
  refine (same_any w [] [] _ _ [c] [c] 1 1 1 1 rfl rfl (one_chs hA ia) (one_chs hB ib) (fun x hx => by rw [List.mem_singleton.1 hx]; exact hs) (by omega)).mono ?_
  rintro e w' ⟨rfl, k⟩
  exact ⟨by rw [decide_eq_true rfl], k⟩
theorem inv_inv (c : Chg) : inv (inv c) = c := rfl
theorem few_small {o : Oo} (h : fewB [o] = true) : Small o.c := by
  unfold fewB fewO at h
  simp at h
  exact ⟨by omega, by omega⟩
theorem ops_one {w : World} {X : List Nat} {g : Nat} {o : Oo} {r : Raw} (hB : Blk w g 37 (oCells o r).toArray) (hg : g ∉ X) (hr : RawIs w X r o.c) : OpsAt w X (some ⟨g, 0, none⟩) [o] := by
  intro i o' hi
  cases i with
  | zero =>
    obtain rfl : o = o' := by simpa using hi
    exact ⟨g, 0, r, rfl, hg, fun j v hj => by simp only [Nat.zero_mul, Nat.zero_add]; rw [hB.cell]; simpa using hj, hr⟩
  | succ i => simp at hi

set_option maxRecDepth 100000 in
set_option maxHeartbeats 16000000 in
theorem law_inverse (w : World) (r : Raw) (c : Chg) (h : RawIs w [] r c) :
    Calls Try.prog 4 #[.agg r.cells.toArray] w fun e w' => e = .returned (.bool true) ∧ Keeps [] w w' := by
  obtain ⟨t, id, Ao, no, co, An, nn, cn⟩ := r
  have hr := Lib.hid h
  unfold Raw.cells
  dsimp only
  have k0 : Hid (Keeps [] w (w.alloc (.cells #[.int .i64 t, .int .i64 id, .slice Ao no co, .slice An nn cn] 35))) := Lib.hid ((Keeps.refl [] w).alloc _)
  have B1 := Blk.new w 35 #[.int .i64 t, .int .i64 id, .slice Ao no co, .slice An nn cn]
  replace B1 := Lib.hid B1
  clear h
  go_enter Try.func4, Try.ntmps4
  go_wp2_with fail
  obtain ⟨g1, hg1⟩ : ∃ g, g = w.heap.size := ⟨_, rfl⟩
  rw [← hg1] at B1 ⊢
  generalize w.alloc (.cells #[.int .i64 t, .int .i64 id, .slice Ao no co, .slice An nn cn] 35) = w0 at *
  clear hg1
  refine (awake_any w0).mono ?_
  rintro e w1 ⟨rfl, k1⟩
  replace B1 := Lib.hid (B1.out.keep k1 (by simp))
  replace k0 := Lib.hid (k0.out.trans k1)
  have z1 := B1.out.cell
  have hF : Hid (Calls Try.prog 11 #[.slice (some ⟨w1.heap.size, 0, none⟩) 1 1] (w1.alloc (.cells #[.int .i64 0, .int .i64 t, .int .i64 id, .slice Ao no co, .slice An nn cn, .string ⟨#[]⟩, .int .i64 0] 37)) fun e w' => e = .returned (.bool (fewB [⟨0, c, ⟨#[]⟩, 0⟩])) ∧ Keeps [] (w1.alloc (.cells #[.int .i64 0, .int .i64 t, .int .i64 id, .slice Ao no co, .slice An nn cn, .string ⟨#[]⟩, .int .i64 0] 37)) w') := Lib.hid (by
    refine few_any _ [] (some ⟨w1.heap.size, 0, none⟩) [⟨0, c, ⟨#[]⟩, 0⟩] 1 1 rfl (ops_one (r := ⟨t, id, Ao, no, co, An, nn, cn⟩) (Blk.new w1 37 _) (by simp) ?_) (by omega)
    exact hr.out.keep (k0.out.trans ((Keeps.refl [] w1).alloc _)) (by simp))
  clear k1
  cases hfew : fewB [⟨0, c, ⟨#[]⟩, 0⟩]
  · rw [hfew] at hF
    clear hfew
    go_wp2_with fail
    refine hF.out.mono ?_
    rintro e w2 ⟨rfl, k2⟩
    replace k0 := Lib.hid (k0.out.trans (((Keeps.refl [] w1).alloc _).trans k2))
    clear hF z1 k2
    go_wp2_with fail
    refine (awake_any w2).mono ?_
    rintro e w3 ⟨rfl, k3⟩
    replace k0 := Lib.hid (k0.out.trans k3)
    clear k3
    go_wp2_with fail
    go_ret
    exact ⟨rfl, k0.out⟩
  · have hs := Lib.hid (few_small hfew)
    rw [hfew] at hF
    clear hfew
    go_wp2_with fail
    refine hF.out.mono ?_
    rintro e w2 ⟨rfl, k2⟩
    have k12 : Keeps [] w1 w2 := ((Keeps.refl [] w1).alloc _).trans k2
    replace k0 := Lib.hid (k0.out.trans k12)
    have B2 := Lib.hid (B1.out.keep k12 (by simp))
    have z2 := B2.out.cell
    have HI : Hid (Calls Try.prog 18 #[.agg #[.int .i64 t, .int .i64 id, .slice Ao no co, .slice An nn cn]] w2 (ChgCopy w2 (inv c))) := Lib.hid (inverse_any w2 [] ⟨t, id, Ao, no, co, An, nn, cn⟩ c (hr.out.keep k0.out (by simp)) hs.out)
    clear hF z1 k2 B1 k12
    go_wp2_with fail
    refine HI.out.mono ?_
    rintro e w3 ⟨⟨t3, i3, Ao3, no3, co3, An3, nn3, cn3⟩, rfl, ri3, fr3, k3⟩
    dsimp only [Raw.cells]
    have ka3 : Keeps [] w3 (w3.alloc (.cells #[.int .i64 t3, .int .i64 i3, .slice Ao3 no3 co3, .slice An3 nn3 cn3] 35)) := (Keeps.refl [] w3).alloc _
    have B1 := Lib.hid (B2.out.keep (k3.out.trans ka3) (by simp))
    have B3 := Lib.hid (Blk.new w3 35 #[.int .i64 t3, .int .i64 i3, .slice Ao3 no3 co3, .slice An3 nn3 cn3])
    have rI := Lib.hid (ri3.out.keep ka3 (by simp))
    have rC := Lib.hid (hr.out.keep (k0.out.trans (k3.out.trans ka3)) (by simp))
    replace k0 := Lib.hid (k0.out.trans (k3.out.trans ka3))
    clear z2 B2 HI ri3 fr3 k3 ka3 hr
    go_wp2_with fail
    obtain ⟨g3, hg3⟩ : ∃ g, g = w3.heap.size := ⟨_, rfl⟩
    rw [← hg3] at B3 ⊢
    generalize w3.alloc (.cells #[.int .i64 t3, .int .i64 i3, .slice Ao3 no3 co3, .slice An3 nn3 cn3] 35) = ww at *
    clear hg3
    have HSf : Hid (∀ w', Keeps [] ww.drew w' → (fun w' : World => (w'.cell? ⟨g1, 0, none⟩ = some (.int .i64 t) ∧ w'.cell? ⟨g1, 1, none⟩ = some (.int .i64 id) ∧ w'.cell? ⟨g1, 2, none⟩ = some (.slice Ao no co) ∧ w'.cell? ⟨g1, 3, none⟩ = some (.slice An nn cn)) ∧ (w'.cell? ⟨g3, 0, none⟩ = some (.int .i64 t3) ∧ w'.cell? ⟨g3, 1, none⟩ = some (.int .i64 i3) ∧ w'.cell? ⟨g3, 2, none⟩ = some (.slice Ao3 no3 co3) ∧ w'.cell? ⟨g3, 3, none⟩ = some (.slice An3 nn3 cn3))) w') := Lib.hid (fun w' hk => ⟨⟨hk.cellEq (B1.out.drew.cell 0) (by simp), hk.cellEq (B1.out.drew.cell 1) (by simp), hk.cellEq (B1.out.drew.cell 2) (by simp), hk.cellEq (B1.out.drew.cell 3) (by simp)⟩, ⟨hk.cellEq (B3.out.drew.cell 0) (by simp), hk.cellEq (B3.out.drew.cell 1) (by simp), hk.cellEq (B3.out.drew.cell 2) (by simp), hk.cellEq (B3.out.drew.cell 3) (by simp)⟩⟩)
    have h0 := HSf.out _ (Keeps.refl [] ww.drew)
    dsimp only at h0
    have H19 : Hid (∀ w', Calls Try.prog 19 #[.agg #[.int .i64 t, .int .i64 id, .slice Ao no co, .slice An nn cn]] w' fun e w2 => e = .returned (.agg #[.int .i64 t, .int .i64 id, .slice An nn cn, .slice Ao no co]) ∧ Hid (Keeps [] w' w2)) := Lib.hid (fun w' => rinverse_any w' ⟨t, id, Ao, no, co, An, nn, cn⟩)
    have H18 : Hid (∀ w', Keeps [] ww.drew w' → Calls Try.prog 18 #[.agg #[.int .i64 t3, .int .i64 i3, .slice Ao3 no3 co3, .slice An3 nn3 cn3]] w' (ChgCopy w' c)) := Lib.hid (fun w' hk => inverse_any w' [] ⟨t3, i3, Ao3, no3, co3, An3, nn3, cn3⟩ (inv c) (rI.out.keep ((Keeps.refl [] ww).drew.trans hk) (by simp)) ⟨hs.out.2, hs.out.1⟩)
    have HS1 : Hid (∀ w' ga gb, Keeps [] ww.drew w' → Blk w' ga 35 #[.int .i64 t3, .int .i64 i3, .slice Ao3 no3 co3, .slice An3 nn3 cn3] → Blk w' gb 35 #[.int .i64 t, .int .i64 id, .slice An nn cn, .slice Ao no co] → Calls Try.prog 16 #[.slice (some ⟨ga, 0, none⟩) 1 1, .slice (some ⟨gb, 0, none⟩) 1 1] w' fun e w2 => e = .returned (.bool true) ∧ Keeps [] w' w2) := Lib.hid (fun w' ga gb hk ha hb =>
      same_one (ra := ⟨t3, i3, Ao3, no3, co3, An3, nn3, cn3⟩) (rb := invR ⟨t, id, Ao, no, co, An, nn, cn⟩) ha hb (rI.out.keep ((Keeps.refl [] ww).drew.trans hk) (by simp)) (invR_is (rC.out.keep ((Keeps.refl [] ww).drew.trans hk) (by simp))) ⟨hs.out.2, hs.out.1⟩)
    have HS2 : Hid (∀ w' ga gb (q : Raw), Keeps [] ww.drew w' → RawIs w' [] q c → Blk w' ga 35 q.cells.toArray → Blk w' gb 35 #[.int .i64 t, .int .i64 id, .slice Ao no co, .slice An nn cn] → Calls Try.prog 16 #[.slice (some ⟨ga, 0, none⟩) 1 1, .slice (some ⟨gb, 0, none⟩) 1 1] w' fun e w2 => e = .returned (.bool true) ∧ Keeps [] w' w2) := Lib.hid (fun w' ga gb q hk hq ha hb =>
      same_one (ra := q) (rb := ⟨t, id, Ao, no, co, An, nn, cn⟩) ha hb hq (rC.out.keep ((Keeps.refl [] ww).drew.trans hk) (by simp)) hs.out)
    have kd := Lib.hid k0.out.drew
    clear B1 B3 rI rC k0
    refine wp_region_J (S := (fun w' : World => (w'.cell? ⟨g1, 0, none⟩ = some (.int .i64 t) ∧ w'.cell? ⟨g1, 1, none⟩ = some (.int .i64 id) ∧ w'.cell? ⟨g1, 2, none⟩ = some (.slice Ao no co) ∧ w'.cell? ⟨g1, 3, none⟩ = some (.slice An nn cn)) ∧ (w'.cell? ⟨g3, 0, none⟩ = some (.int .i64 t3) ∧ w'.cell? ⟨g3, 1, none⟩ = some (.int .i64 i3) ∧ w'.cell? ⟨g3, 2, none⟩ = some (.slice Ao3 no3 co3) ∧ w'.cell? ⟨g3, 3, none⟩ = some (.slice An3 nn3 cn3)))) (n := 15) (by kernel_rfl) ?_
    generalize ww.drew = wd at *
    have HS := h0
    have Kx := Lib.hid (Keeps.refl [] wd)
    obtain ⟨wc, hwc⟩ : ∃ x, x = wd := ⟨_, rfl⟩
    rw [← hwc]
    rw [← hwc] at HS Kx
    replace hwc := Lib.hid hwc
    replace Kx : Hid (Keeps [] wd wc) := Lib.hid (by rw [hwc.out]; exact Keeps.refl _ _)
    refine wpAnyJ_take (i := 0) (v := ?_) (by kernel_rfl) rfl (by kernel_rfl) (by kernel_rfl) (by kernel_rfl) (fun _ _ _ h => h) HS (Or.inl ⟨by rfl, ?_⟩) ?_
    rotate_left
    · (intro w hSw; obtain ⟨⟨y1, y2, y3, y4⟩, ⟨y5, y6, y7, y8⟩⟩ := hSw; go_simp; try with_reducible rfl)
    try simp only [Act.put, List.getElem_toArray, List.getElem_cons_succ, List.getElem_cons_zero, List.setIfInBounds_toArray, List.set_cons_zero, List.set_cons_succ]
    refine wpAnyJ_take (i := 2) (v := ?_) (by kernel_rfl) rfl (by kernel_rfl) (by kernel_rfl) (by kernel_rfl) (fun _ _ _ h => h) HS (Or.inl ⟨by rfl, ?_⟩) ?_
    rotate_left
    · (intro w hSw; obtain ⟨⟨y1, y2, y3, y4⟩, ⟨y5, y6, y7, y8⟩⟩ := hSw; go_simp; try with_reducible rfl)
    try simp only [Act.put, List.getElem_toArray, List.getElem_cons_succ, List.getElem_cons_zero, List.setIfInBounds_toArray, List.set_cons_zero, List.set_cons_succ]
    refine wpAnyJ_two (i := 1) (j := 3) rfl rfl (by kernel_rfl) (fun K hK => ?_) (fun K hK => ?_)
    · dsimp only [List.getElem_toArray, List.getElem_cons_succ, List.getElem_cons_zero]
      go_simp
      have hka : Keeps [] wc (wc.alloc (.cells #[.int .i64 t3, .int .i64 i3, .slice Ao3 no3 co3, .slice An3 nn3 cn3] 35)) := (Keeps.refl [] wc).alloc _
      have BA := Lib.hid (Blk.new wc 35 #[.int .i64 t3, .int .i64 i3, .slice Ao3 no3 co3, .slice An3 nn3 cn3])
      obtain ⟨gA, hgA⟩ : ∃ g, g = wc.heap.size := ⟨_, rfl⟩
      rw [← hgA] at BA ⊢
      replace Kx := Lib.hid (Kx.out.trans hka)
      have HS := HSf.out _ Kx.out
      refine hK _ _ (Or.inr HS) ?_
      clear hK K hka hgA
      generalize wc.alloc (.cells #[.int .i64 t3, .int .i64 i3, .slice Ao3 no3 co3, .slice An3 nn3 cn3] 35) = wn at *
      obtain ⟨wc, hwc⟩ : ∃ x, x = wn := ⟨_, rfl⟩
      subst hwc
      try simp only [Act.put, List.getElem_toArray, List.getElem_cons_succ, List.getElem_cons_zero, List.setIfInBounds_toArray, List.set_cons_zero, List.set_cons_succ]
      refine wpAnyJ_one (i := 3) rfl (by kernel_rfl) (fun K hK => ?_)
      dsimp only [List.getElem_toArray, List.getElem_cons_succ, List.getElem_cons_zero]
      go_simp
      refine (H19.out wc).mono ?_
      rintro e wn ⟨rfl, k19⟩
      replace BA := Lib.hid (BA.out.keep k19.out (by simp))
      
      replace Kx := Lib.hid (Kx.out.trans k19.out)
      have HS := HSf.out _ Kx.out
      refine hK _ _ (Or.inr HS) ?_
      clear hK K k19
      obtain ⟨wc, hwc⟩ : ∃ x, x = wn := ⟨_, rfl⟩
      subst hwc
      try simp only [Act.put, List.getElem_toArray, List.getElem_cons_succ, List.getElem_cons_zero, List.setIfInBounds_toArray, List.set_cons_zero, List.set_cons_succ]
      refine wpAnyJ_one (i := 4) rfl (by kernel_rfl) (fun K hK => ?_)
      dsimp only [List.getElem_toArray, List.getElem_cons_succ, List.getElem_cons_zero]
      go_simp
      have hka : Keeps [] wc (wc.alloc (.cells #[.int .i64 t, .int .i64 id, .slice An nn cn, .slice Ao no co] 35)) := (Keeps.refl [] wc).alloc _
      have BB := Lib.hid (Blk.new wc 35 #[.int .i64 t, .int .i64 id, .slice An nn cn, .slice Ao no co])
      obtain ⟨gB, hgB⟩ : ∃ g, g = wc.heap.size := ⟨_, rfl⟩
      rw [← hgB] at BB ⊢
      replace BA := Lib.hid (BA.out.keep hka (by simp))
      replace Kx := Lib.hid (Kx.out.trans hka)
      have HS := HSf.out _ Kx.out
      refine hK _ _ (Or.inr HS) ?_
      clear hK K hka hgB
      generalize wc.alloc (.cells #[.int .i64 t, .int .i64 id, .slice An nn cn, .slice Ao no co] 35) = wn at *
      obtain ⟨wc, hwc⟩ : ∃ x, x = wn := ⟨_, rfl⟩
      subst hwc
      try simp only [Act.put, List.getElem_toArray, List.getElem_cons_succ, List.getElem_cons_zero, List.setIfInBounds_toArray, List.set_cons_zero, List.set_cons_succ]
      refine wpAnyJ_one (i := 5) rfl (by kernel_rfl) (fun K hK => ?_)
      dsimp only [List.getElem_toArray, List.getElem_cons_succ, List.getElem_cons_zero]
      go_simp
      refine (HS1.out wc gA gB Kx.out BA.out BB.out).mono ?_
      rintro e wn ⟨rfl, k16⟩
      replace BA := Lib.hid (BA.out.keep k16 (by simp))
      replace BB := Lib.hid (BB.out.keep k16 (by simp))
      
      replace Kx := Lib.hid (Kx.out.trans k16)
      have HS := HSf.out _ Kx.out
      refine hK _ _ (Or.inr HS) ?_
      clear hK K k16
      obtain ⟨wc, hwc⟩ : ∃ x, x = wn := ⟨_, rfl⟩
      subst hwc
      try simp only [Act.put, List.getElem_toArray, List.getElem_cons_succ, List.getElem_cons_zero, List.setIfInBounds_toArray, List.set_cons_zero, List.set_cons_succ]
      refine wpAnyJ_take (i := 6) (v := ?_) (by kernel_rfl) rfl (by kernel_rfl) (by kernel_rfl) (by kernel_rfl) (fun _ _ _ h => h) HS (Or.inl ⟨by rfl, ?_⟩) ?_
      rotate_left
      · (intro w hSw; obtain ⟨⟨y1, y2, y3, y4⟩, ⟨y5, y6, y7, y8⟩⟩ := hSw; go_simp; try with_reducible rfl)
      try simp only [Act.put, List.getElem_toArray, List.getElem_cons_succ, List.getElem_cons_zero, List.setIfInBounds_toArray, List.set_cons_zero, List.set_cons_succ]
      refine wpAnyJ_take (i := 7) (v := ?_) (by kernel_rfl) rfl (by kernel_rfl) (by kernel_rfl) (by kernel_rfl) (fun _ _ _ h => h) HS (Or.inl ⟨by rfl, ?_⟩) ?_
      rotate_left
      · (intro w hSw; obtain ⟨⟨y1, y2, y3, y4⟩, ⟨y5, y6, y7, y8⟩⟩ := hSw; go_simp; try with_reducible rfl)
      try simp only [Act.put, List.getElem_toArray, List.getElem_cons_succ, List.getElem_cons_zero, List.setIfInBounds_toArray, List.set_cons_zero, List.set_cons_succ]
      refine wpAnyJ_take (i := 10) (v := ?_) (by kernel_rfl) rfl (by kernel_rfl) (by kernel_rfl) (by kernel_rfl) (fun _ _ _ h => h) HS (Or.inl ⟨by rfl, ?_⟩) ?_
      rotate_left
      · (intro w hSw; obtain ⟨⟨y1, y2, y3, y4⟩, ⟨y5, y6, y7, y8⟩⟩ := hSw; go_simp; try with_reducible rfl)
      try simp only [Act.put, List.getElem_toArray, List.getElem_cons_succ, List.getElem_cons_zero, List.setIfInBounds_toArray, List.set_cons_zero, List.set_cons_succ]
      refine wpAnyJ_two (i := 8) (j := 11) rfl rfl (by kernel_rfl) (fun K hK => ?_) (fun K hK => ?_)
      · dsimp only [List.getElem_toArray, List.getElem_cons_succ, List.getElem_cons_zero]
        go_simp
        refine (H18.out wc Kx.out).mono ?_
        rintro e wn ⟨⟨t8, i8, Ao8, no8, co8, An8, nn8, cn8⟩, rfl, ri8, fr8, k18⟩
        replace BA := Lib.hid (BA.out.keep k18.out (by simp))
        replace BB := Lib.hid (BB.out.keep k18.out (by simp))
        dsimp only [Raw.cells]
        have KX8 := Kx
        replace Kx := Lib.hid (Kx.out.trans k18.out)
        have HS := HSf.out _ Kx.out
        refine hK _ _ (Or.inr HS) ?_
        clear hK K k18
        obtain ⟨wc, hwc⟩ : ∃ x, x = wn := ⟨_, rfl⟩
        subst hwc
        try simp only [Act.put, List.getElem_toArray, List.getElem_cons_succ, List.getElem_cons_zero, List.setIfInBounds_toArray, List.set_cons_zero, List.set_cons_succ]
        refine wpAnyJ_two (i := 9) (j := 11) rfl rfl (by kernel_rfl) (fun K hK => ?_) (fun K hK => ?_)
        · dsimp only [List.getElem_toArray, List.getElem_cons_succ, List.getElem_cons_zero]
          go_simp
          have hka : Keeps [] wc (wc.alloc (.cells #[.int .i64 t8, .int .i64 i8, .slice Ao8 no8 co8, .slice An8 nn8 cn8] 35)) := (Keeps.refl [] wc).alloc _
          have BC := Lib.hid (Blk.new wc 35 #[.int .i64 t8, .int .i64 i8, .slice Ao8 no8 co8, .slice An8 nn8 cn8])
          obtain ⟨gC, hgC⟩ : ∃ g, g = wc.heap.size := ⟨_, rfl⟩
          rw [← hgC] at BC ⊢
          replace BA := Lib.hid (BA.out.keep hka (by simp))
          replace BB := Lib.hid (BB.out.keep hka (by simp))
          replace ri8 := Lib.hid (ri8.out.keep hka (by simp))
          replace Kx := Lib.hid (Kx.out.trans hka)
          have HS := HSf.out _ Kx.out
          refine hK _ _ (Or.inr HS) ?_
          clear hK K hka hgC
          generalize wc.alloc (.cells #[.int .i64 t8, .int .i64 i8, .slice Ao8 no8 co8, .slice An8 nn8 cn8] 35) = wn at *
          obtain ⟨wc, hwc⟩ : ∃ x, x = wn := ⟨_, rfl⟩
          subst hwc
          try simp only [Act.put, List.getElem_toArray, List.getElem_cons_succ, List.getElem_cons_zero, List.setIfInBounds_toArray, List.set_cons_zero, List.set_cons_succ]
          refine wpAnyJ_one (i := 11) rfl (by kernel_rfl) (fun K hK => ?_)
          dsimp only [List.getElem_toArray, List.getElem_cons_succ, List.getElem_cons_zero]
          go_simp
          have hka : Keeps [] wc (wc.alloc (.cells #[.int .i64 t, .int .i64 id, .slice Ao no co, .slice An nn cn] 35)) := (Keeps.refl [] wc).alloc _
          have BD := Lib.hid (Blk.new wc 35 #[.int .i64 t, .int .i64 id, .slice Ao no co, .slice An nn cn])
          obtain ⟨gD, hgD⟩ : ∃ g, g = wc.heap.size := ⟨_, rfl⟩
          rw [← hgD] at BD ⊢
          replace BA := Lib.hid (BA.out.keep hka (by simp))
          replace BB := Lib.hid (BB.out.keep hka (by simp))
          replace BC := Lib.hid (BC.out.keep hka (by simp))
          replace ri8 := Lib.hid (ri8.out.keep hka (by simp))
          replace Kx := Lib.hid (Kx.out.trans hka)
          have HS := HSf.out _ Kx.out
          refine hK _ _ (Or.inr HS) ?_
          clear hK K hka hgD
          generalize wc.alloc (.cells #[.int .i64 t, .int .i64 id, .slice Ao no co, .slice An nn cn] 35) = wn at *
          obtain ⟨wc, hwc⟩ : ∃ x, x = wn := ⟨_, rfl⟩
          subst hwc
          try simp only [Act.put, List.getElem_toArray, List.getElem_cons_succ, List.getElem_cons_zero, List.setIfInBounds_toArray, List.set_cons_zero, List.set_cons_succ]
          refine wpAnyJ_one (i := 12) rfl (by kernel_rfl) (fun K hK => ?_)
          dsimp only [List.getElem_toArray, List.getElem_cons_succ, List.getElem_cons_zero]
          go_simp
          refine (HS2.out wc gC gD ⟨t8, i8, Ao8, no8, co8, An8, nn8, cn8⟩ Kx.out ri8.out BC.out BD.out).mono ?_
          rintro e wn ⟨rfl, k16⟩
          replace BA := Lib.hid (BA.out.keep k16 (by simp))
          replace BB := Lib.hid (BB.out.keep k16 (by simp))
          replace BC := Lib.hid (BC.out.keep k16 (by simp))
          replace BD := Lib.hid (BD.out.keep k16 (by simp))
          
          replace Kx := Lib.hid (Kx.out.trans k16)
          have HS := HSf.out _ Kx.out
          refine hK _ _ (Or.inr HS) ?_
          clear hK K k16
          obtain ⟨wc, hwc⟩ : ∃ x, x = wn := ⟨_, rfl⟩
          subst hwc
          try simp only [Act.put, List.getElem_toArray, List.getElem_cons_succ, List.getElem_cons_zero, List.setIfInBounds_toArray, List.set_cons_zero, List.set_cons_succ]
          refine wpAnyJ_take (i := 13) (v := ?_) (by kernel_rfl) rfl (by kernel_rfl) (by kernel_rfl) (by kernel_rfl) (fun _ _ _ h => h) HS (Or.inl ⟨by rfl, ?_⟩) ?_
          rotate_left
          · (intro w hSw; obtain ⟨⟨y1, y2, y3, y4⟩, ⟨y5, y6, y7, y8⟩⟩ := hSw; go_simp; try with_reducible rfl)
          try simp only [Act.put, List.getElem_toArray, List.getElem_cons_succ, List.getElem_cons_zero, List.setIfInBounds_toArray, List.set_cons_zero, List.set_cons_succ]
          refine wpAnyJ_take (i := 14) (v := ?_) (by kernel_rfl) rfl (by kernel_rfl) (by kernel_rfl) (by kernel_rfl) (fun _ _ _ h => h) HS (Or.inl ⟨by rfl, ?_⟩) ?_
          rotate_left
          · (intro w hSw; obtain ⟨⟨y1, y2, y3, y4⟩, ⟨y5, y6, y7, y8⟩⟩ := hSw; go_simp; try with_reducible rfl)
          try simp only [Act.put, List.getElem_toArray, List.getElem_cons_succ, List.getElem_cons_zero, List.setIfInBounds_toArray, List.set_cons_zero, List.set_cons_succ]
          refine wpAnyJ_done (by kernel_rfl) ?_ _
          clear HS1 HS2 H18 H19 HSf HS
          go_wp2_with fail
          go_ret
          exact ⟨rfl, (kd.out.trans Kx.out)⟩
        · dsimp only [List.getElem_toArray, List.getElem_cons_succ, List.getElem_cons_zero]
          go_simp
          have hka : Keeps [] wc (wc.alloc (.cells #[.int .i64 t, .int .i64 id, .slice Ao no co, .slice An nn cn] 35)) := (Keeps.refl [] wc).alloc _
          have BD := Lib.hid (Blk.new wc 35 #[.int .i64 t, .int .i64 id, .slice Ao no co, .slice An nn cn])
          obtain ⟨gD, hgD⟩ : ∃ g, g = wc.heap.size := ⟨_, rfl⟩
          rw [← hgD] at BD ⊢
          replace BA := Lib.hid (BA.out.keep hka (by simp))
          replace BB := Lib.hid (BB.out.keep hka (by simp))
          replace ri8 := Lib.hid (ri8.out.keep hka (by simp))
          replace Kx := Lib.hid (Kx.out.trans hka)
          have HS := HSf.out _ Kx.out
          refine hK _ _ (Or.inr HS) ?_
          clear hK K hka hgD
          generalize wc.alloc (.cells #[.int .i64 t, .int .i64 id, .slice Ao no co, .slice An nn cn] 35) = wn at *
          obtain ⟨wc, hwc⟩ : ∃ x, x = wn := ⟨_, rfl⟩
          subst hwc
          try simp only [Act.put, List.getElem_toArray, List.getElem_cons_succ, List.getElem_cons_zero, List.setIfInBounds_toArray, List.set_cons_zero, List.set_cons_succ]
          refine wpAnyJ_one (i := 9) rfl (by kernel_rfl) (fun K hK => ?_)
          dsimp only [List.getElem_toArray, List.getElem_cons_succ, List.getElem_cons_zero]
          go_simp
          have hka : Keeps [] wc (wc.alloc (.cells #[.int .i64 t8, .int .i64 i8, .slice Ao8 no8 co8, .slice An8 nn8 cn8] 35)) := (Keeps.refl [] wc).alloc _
          have BC := Lib.hid (Blk.new wc 35 #[.int .i64 t8, .int .i64 i8, .slice Ao8 no8 co8, .slice An8 nn8 cn8])
          obtain ⟨gC, hgC⟩ : ∃ g, g = wc.heap.size := ⟨_, rfl⟩
          rw [← hgC] at BC ⊢
          replace BA := Lib.hid (BA.out.keep hka (by simp))
          replace BB := Lib.hid (BB.out.keep hka (by simp))
          replace BD := Lib.hid (BD.out.keep hka (by simp))
          replace ri8 := Lib.hid (ri8.out.keep hka (by simp))
          replace Kx := Lib.hid (Kx.out.trans hka)
          have HS := HSf.out _ Kx.out
          refine hK _ _ (Or.inr HS) ?_
          clear hK K hka hgC
          generalize wc.alloc (.cells #[.int .i64 t8, .int .i64 i8, .slice Ao8 no8 co8, .slice An8 nn8 cn8] 35) = wn at *
          obtain ⟨wc, hwc⟩ : ∃ x, x = wn := ⟨_, rfl⟩
          subst hwc
          try simp only [Act.put, List.getElem_toArray, List.getElem_cons_succ, List.getElem_cons_zero, List.setIfInBounds_toArray, List.set_cons_zero, List.set_cons_succ]
          refine wpAnyJ_one (i := 12) rfl (by kernel_rfl) (fun K hK => ?_)
          dsimp only [List.getElem_toArray, List.getElem_cons_succ, List.getElem_cons_zero]
          go_simp
          refine (HS2.out wc gC gD ⟨t8, i8, Ao8, no8, co8, An8, nn8, cn8⟩ Kx.out ri8.out BC.out BD.out).mono ?_
          rintro e wn ⟨rfl, k16⟩
          replace BA := Lib.hid (BA.out.keep k16 (by simp))
          replace BB := Lib.hid (BB.out.keep k16 (by simp))
          replace BC := Lib.hid (BC.out.keep k16 (by simp))
          replace BD := Lib.hid (BD.out.keep k16 (by simp))
          
          replace Kx := Lib.hid (Kx.out.trans k16)
          have HS := HSf.out _ Kx.out
          refine hK _ _ (Or.inr HS) ?_
          clear hK K k16
          obtain ⟨wc, hwc⟩ : ∃ x, x = wn := ⟨_, rfl⟩
          subst hwc
          try simp only [Act.put, List.getElem_toArray, List.getElem_cons_succ, List.getElem_cons_zero, List.setIfInBounds_toArray, List.set_cons_zero, List.set_cons_succ]
          refine wpAnyJ_take (i := 13) (v := ?_) (by kernel_rfl) rfl (by kernel_rfl) (by kernel_rfl) (by kernel_rfl) (fun _ _ _ h => h) HS (Or.inl ⟨by rfl, ?_⟩) ?_
          rotate_left
          · (intro w hSw; obtain ⟨⟨y1, y2, y3, y4⟩, ⟨y5, y6, y7, y8⟩⟩ := hSw; go_simp; try with_reducible rfl)
          try simp only [Act.put, List.getElem_toArray, List.getElem_cons_succ, List.getElem_cons_zero, List.setIfInBounds_toArray, List.set_cons_zero, List.set_cons_succ]
          refine wpAnyJ_take (i := 14) (v := ?_) (by kernel_rfl) rfl (by kernel_rfl) (by kernel_rfl) (by kernel_rfl) (fun _ _ _ h => h) HS (Or.inl ⟨by rfl, ?_⟩) ?_
          rotate_left
          · (intro w hSw; obtain ⟨⟨y1, y2, y3, y4⟩, ⟨y5, y6, y7, y8⟩⟩ := hSw; go_simp; try with_reducible rfl)
          try simp only [Act.put, List.getElem_toArray, List.getElem_cons_succ, List.getElem_cons_zero, List.setIfInBounds_toArray, List.set_cons_zero, List.set_cons_succ]
          refine wpAnyJ_done (by kernel_rfl) ?_ _
          clear HS1 HS2 H18 H19 HSf HS
          go_wp2_with fail
          go_ret
          exact ⟨rfl, (kd.out.trans Kx.out)⟩
      · dsimp only [List.getElem_toArray, List.getElem_cons_succ, List.getElem_cons_zero]
        go_simp
        have hka : Keeps [] wc (wc.alloc (.cells #[.int .i64 t, .int .i64 id, .slice Ao no co, .slice An nn cn] 35)) := (Keeps.refl [] wc).alloc _
        have BD := Lib.hid (Blk.new wc 35 #[.int .i64 t, .int .i64 id, .slice Ao no co, .slice An nn cn])
        obtain ⟨gD, hgD⟩ : ∃ g, g = wc.heap.size := ⟨_, rfl⟩
        rw [← hgD] at BD ⊢
        replace BA := Lib.hid (BA.out.keep hka (by simp))
        replace BB := Lib.hid (BB.out.keep hka (by simp))
        replace Kx := Lib.hid (Kx.out.trans hka)
        have HS := HSf.out _ Kx.out
        refine hK _ _ (Or.inr HS) ?_
        clear hK K hka hgD
        generalize wc.alloc (.cells #[.int .i64 t, .int .i64 id, .slice Ao no co, .slice An nn cn] 35) = wn at *
        obtain ⟨wc, hwc⟩ : ∃ x, x = wn := ⟨_, rfl⟩
        subst hwc
        try simp only [Act.put, List.getElem_toArray, List.getElem_cons_succ, List.getElem_cons_zero, List.setIfInBounds_toArray, List.set_cons_zero, List.set_cons_succ]
        refine wpAnyJ_one (i := 8) rfl (by kernel_rfl) (fun K hK => ?_)
        dsimp only [List.getElem_toArray, List.getElem_cons_succ, List.getElem_cons_zero]
        go_simp
        refine (H18.out wc Kx.out).mono ?_
        rintro e wn ⟨⟨t8, i8, Ao8, no8, co8, An8, nn8, cn8⟩, rfl, ri8, fr8, k18⟩
        replace BA := Lib.hid (BA.out.keep k18.out (by simp))
        replace BB := Lib.hid (BB.out.keep k18.out (by simp))
        replace BD := Lib.hid (BD.out.keep k18.out (by simp))
        dsimp only [Raw.cells]
        have KX8 := Kx
        replace Kx := Lib.hid (Kx.out.trans k18.out)
        have HS := HSf.out _ Kx.out
        refine hK _ _ (Or.inr HS) ?_
        clear hK K k18
        obtain ⟨wc, hwc⟩ : ∃ x, x = wn := ⟨_, rfl⟩
        subst hwc
        try simp only [Act.put, List.getElem_toArray, List.getElem_cons_succ, List.getElem_cons_zero, List.setIfInBounds_toArray, List.set_cons_zero, List.set_cons_succ]
        refine wpAnyJ_one (i := 9) rfl (by kernel_rfl) (fun K hK => ?_)
        dsimp only [List.getElem_toArray, List.getElem_cons_succ, List.getElem_cons_zero]
        go_simp
        have hka : Keeps [] wc (wc.alloc (.cells #[.int .i64 t8, .int .i64 i8, .slice Ao8 no8 co8, .slice An8 nn8 cn8] 35)) := (Keeps.refl [] wc).alloc _
        have BC := Lib.hid (Blk.new wc 35 #[.int .i64 t8, .int .i64 i8, .slice Ao8 no8 co8, .slice An8 nn8 cn8])
        obtain ⟨gC, hgC⟩ : ∃ g, g = wc.heap.size := ⟨_, rfl⟩
        rw [← hgC] at BC ⊢
        replace BA := Lib.hid (BA.out.keep hka (by simp))
        replace BB := Lib.hid (BB.out.keep hka (by simp))
        replace BD := Lib.hid (BD.out.keep hka (by simp))
        replace ri8 := Lib.hid (ri8.out.keep hka (by simp))
        replace Kx := Lib.hid (Kx.out.trans hka)
        have HS := HSf.out _ Kx.out
        refine hK _ _ (Or.inr HS) ?_
        clear hK K hka hgC
        generalize wc.alloc (.cells #[.int .i64 t8, .int .i64 i8, .slice Ao8 no8 co8, .slice An8 nn8 cn8] 35) = wn at *
        obtain ⟨wc, hwc⟩ : ∃ x, x = wn := ⟨_, rfl⟩
        subst hwc
        try simp only [Act.put, List.getElem_toArray, List.getElem_cons_succ, List.getElem_cons_zero, List.setIfInBounds_toArray, List.set_cons_zero, List.set_cons_succ]
        refine wpAnyJ_one (i := 12) rfl (by kernel_rfl) (fun K hK => ?_)
        dsimp only [List.getElem_toArray, List.getElem_cons_succ, List.getElem_cons_zero]
        go_simp
        refine (HS2.out wc gC gD ⟨t8, i8, Ao8, no8, co8, An8, nn8, cn8⟩ Kx.out ri8.out BC.out BD.out).mono ?_
        rintro e wn ⟨rfl, k16⟩
        replace BA := Lib.hid (BA.out.keep k16 (by simp))
        replace BB := Lib.hid (BB.out.keep k16 (by simp))
        replace BC := Lib.hid (BC.out.keep k16 (by simp))
        replace BD := Lib.hid (BD.out.keep k16 (by simp))
        
        replace Kx := Lib.hid (Kx.out.trans k16)
        have HS := HSf.out _ Kx.out
        refine hK _ _ (Or.inr HS) ?_
        clear hK K k16
        obtain ⟨wc, hwc⟩ : ∃ x, x = wn := ⟨_, rfl⟩
        subst hwc
        try simp only [Act.put, List.getElem_toArray, List.getElem_cons_succ, List.getElem_cons_zero, List.setIfInBounds_toArray, List.set_cons_zero, List.set_cons_succ]
        refine wpAnyJ_take (i := 13) (v := ?_) (by kernel_rfl) rfl (by kernel_rfl) (by kernel_rfl) (by kernel_rfl) (fun _ _ _ h => h) HS (Or.inl ⟨by rfl, ?_⟩) ?_
        rotate_left
        · (intro w hSw; obtain ⟨⟨y1, y2, y3, y4⟩, ⟨y5, y6, y7, y8⟩⟩ := hSw; go_simp; try with_reducible rfl)
        try simp only [Act.put, List.getElem_toArray, List.getElem_cons_succ, List.getElem_cons_zero, List.setIfInBounds_toArray, List.set_cons_zero, List.set_cons_succ]
        refine wpAnyJ_take (i := 14) (v := ?_) (by kernel_rfl) rfl (by kernel_rfl) (by kernel_rfl) (by kernel_rfl) (fun _ _ _ h => h) HS (Or.inl ⟨by rfl, ?_⟩) ?_
        rotate_left
        · (intro w hSw; obtain ⟨⟨y1, y2, y3, y4⟩, ⟨y5, y6, y7, y8⟩⟩ := hSw; go_simp; try with_reducible rfl)
        try simp only [Act.put, List.getElem_toArray, List.getElem_cons_succ, List.getElem_cons_zero, List.setIfInBounds_toArray, List.set_cons_zero, List.set_cons_succ]
        refine wpAnyJ_done (by kernel_rfl) ?_ _
        clear HS1 HS2 H18 H19 HSf HS
        go_wp2_with fail
        go_ret
        exact ⟨rfl, (kd.out.trans Kx.out)⟩
    · dsimp only [List.getElem_toArray, List.getElem_cons_succ, List.getElem_cons_zero]
      go_simp
      refine (H19.out wc).mono ?_
      rintro e wn ⟨rfl, k19⟩
      
      replace Kx := Lib.hid (Kx.out.trans k19.out)
      have HS := HSf.out _ Kx.out
      refine hK _ _ (Or.inr HS) ?_
      clear hK K k19
      obtain ⟨wc, hwc⟩ : ∃ x, x = wn := ⟨_, rfl⟩
      subst hwc
      try simp only [Act.put, List.getElem_toArray, List.getElem_cons_succ, List.getElem_cons_zero, List.setIfInBounds_toArray, List.set_cons_zero, List.set_cons_succ]
      refine wpAnyJ_two (i := 1) (j := 4) rfl rfl (by kernel_rfl) (fun K hK => ?_) (fun K hK => ?_)
      · dsimp only [List.getElem_toArray, List.getElem_cons_succ, List.getElem_cons_zero]
        go_simp
        have hka : Keeps [] wc (wc.alloc (.cells #[.int .i64 t3, .int .i64 i3, .slice Ao3 no3 co3, .slice An3 nn3 cn3] 35)) := (Keeps.refl [] wc).alloc _
        have BA := Lib.hid (Blk.new wc 35 #[.int .i64 t3, .int .i64 i3, .slice Ao3 no3 co3, .slice An3 nn3 cn3])
        obtain ⟨gA, hgA⟩ : ∃ g, g = wc.heap.size := ⟨_, rfl⟩
        rw [← hgA] at BA ⊢
        replace Kx := Lib.hid (Kx.out.trans hka)
        have HS := HSf.out _ Kx.out
        refine hK _ _ (Or.inr HS) ?_
        clear hK K hka hgA
        generalize wc.alloc (.cells #[.int .i64 t3, .int .i64 i3, .slice Ao3 no3 co3, .slice An3 nn3 cn3] 35) = wn at *
        obtain ⟨wc, hwc⟩ : ∃ x, x = wn := ⟨_, rfl⟩
        subst hwc
        try simp only [Act.put, List.getElem_toArray, List.getElem_cons_succ, List.getElem_cons_zero, List.setIfInBounds_toArray, List.set_cons_zero, List.set_cons_succ]
        refine wpAnyJ_one (i := 4) rfl (by kernel_rfl) (fun K hK => ?_)
        dsimp only [List.getElem_toArray, List.getElem_cons_succ, List.getElem_cons_zero]
        go_simp
        have hka : Keeps [] wc (wc.alloc (.cells #[.int .i64 t, .int .i64 id, .slice An nn cn, .slice Ao no co] 35)) := (Keeps.refl [] wc).alloc _
        have BB := Lib.hid (Blk.new wc 35 #[.int .i64 t, .int .i64 id, .slice An nn cn, .slice Ao no co])
        obtain ⟨gB, hgB⟩ : ∃ g, g = wc.heap.size := ⟨_, rfl⟩
        rw [← hgB] at BB ⊢
        replace BA := Lib.hid (BA.out.keep hka (by simp))
        replace Kx := Lib.hid (Kx.out.trans hka)
        have HS := HSf.out _ Kx.out
        refine hK _ _ (Or.inr HS) ?_
        clear hK K hka hgB
        generalize wc.alloc (.cells #[.int .i64 t, .int .i64 id, .slice An nn cn, .slice Ao no co] 35) = wn at *
        obtain ⟨wc, hwc⟩ : ∃ x, x = wn := ⟨_, rfl⟩
        subst hwc
        try simp only [Act.put, List.getElem_toArray, List.getElem_cons_succ, List.getElem_cons_zero, List.setIfInBounds_toArray, List.set_cons_zero, List.set_cons_succ]
        refine wpAnyJ_one (i := 5) rfl (by kernel_rfl) (fun K hK => ?_)
        dsimp only [List.getElem_toArray, List.getElem_cons_succ, List.getElem_cons_zero]
        go_simp
        refine (HS1.out wc gA gB Kx.out BA.out BB.out).mono ?_
        rintro e wn ⟨rfl, k16⟩
        replace BA := Lib.hid (BA.out.keep k16 (by simp))
        replace BB := Lib.hid (BB.out.keep k16 (by simp))
        
        replace Kx := Lib.hid (Kx.out.trans k16)
        have HS := HSf.out _ Kx.out
        refine hK _ _ (Or.inr HS) ?_
        clear hK K k16
        obtain ⟨wc, hwc⟩ : ∃ x, x = wn := ⟨_, rfl⟩
        subst hwc
        try simp only [Act.put, List.getElem_toArray, List.getElem_cons_succ, List.getElem_cons_zero, List.setIfInBounds_toArray, List.set_cons_zero, List.set_cons_succ]
        refine wpAnyJ_take (i := 6) (v := ?_) (by kernel_rfl) rfl (by kernel_rfl) (by kernel_rfl) (by kernel_rfl) (fun _ _ _ h => h) HS (Or.inl ⟨by rfl, ?_⟩) ?_
        rotate_left
        · (intro w hSw; obtain ⟨⟨y1, y2, y3, y4⟩, ⟨y5, y6, y7, y8⟩⟩ := hSw; go_simp; try with_reducible rfl)
        try simp only [Act.put, List.getElem_toArray, List.getElem_cons_succ, List.getElem_cons_zero, List.setIfInBounds_toArray, List.set_cons_zero, List.set_cons_succ]
        refine wpAnyJ_take (i := 7) (v := ?_) (by kernel_rfl) rfl (by kernel_rfl) (by kernel_rfl) (by kernel_rfl) (fun _ _ _ h => h) HS (Or.inl ⟨by rfl, ?_⟩) ?_
        rotate_left
        · (intro w hSw; obtain ⟨⟨y1, y2, y3, y4⟩, ⟨y5, y6, y7, y8⟩⟩ := hSw; go_simp; try with_reducible rfl)
        try simp only [Act.put, List.getElem_toArray, List.getElem_cons_succ, List.getElem_cons_zero, List.setIfInBounds_toArray, List.set_cons_zero, List.set_cons_succ]
        refine wpAnyJ_take (i := 10) (v := ?_) (by kernel_rfl) rfl (by kernel_rfl) (by kernel_rfl) (by kernel_rfl) (fun _ _ _ h => h) HS (Or.inl ⟨by rfl, ?_⟩) ?_
        rotate_left
        · (intro w hSw; obtain ⟨⟨y1, y2, y3, y4⟩, ⟨y5, y6, y7, y8⟩⟩ := hSw; go_simp; try with_reducible rfl)
        try simp only [Act.put, List.getElem_toArray, List.getElem_cons_succ, List.getElem_cons_zero, List.setIfInBounds_toArray, List.set_cons_zero, List.set_cons_succ]
        refine wpAnyJ_two (i := 8) (j := 11) rfl rfl (by kernel_rfl) (fun K hK => ?_) (fun K hK => ?_)
        · dsimp only [List.getElem_toArray, List.getElem_cons_succ, List.getElem_cons_zero]
          go_simp
          refine (H18.out wc Kx.out).mono ?_
          rintro e wn ⟨⟨t8, i8, Ao8, no8, co8, An8, nn8, cn8⟩, rfl, ri8, fr8, k18⟩
          replace BA := Lib.hid (BA.out.keep k18.out (by simp))
          replace BB := Lib.hid (BB.out.keep k18.out (by simp))
          dsimp only [Raw.cells]
          have KX8 := Kx
          replace Kx := Lib.hid (Kx.out.trans k18.out)
          have HS := HSf.out _ Kx.out
          refine hK _ _ (Or.inr HS) ?_
          clear hK K k18
          obtain ⟨wc, hwc⟩ : ∃ x, x = wn := ⟨_, rfl⟩
          subst hwc
          try simp only [Act.put, List.getElem_toArray, List.getElem_cons_succ, List.getElem_cons_zero, List.setIfInBounds_toArray, List.set_cons_zero, List.set_cons_succ]
          refine wpAnyJ_two (i := 9) (j := 11) rfl rfl (by kernel_rfl) (fun K hK => ?_) (fun K hK => ?_)
          · dsimp only [List.getElem_toArray, List.getElem_cons_succ, List.getElem_cons_zero]
            go_simp
            have hka : Keeps [] wc (wc.alloc (.cells #[.int .i64 t8, .int .i64 i8, .slice Ao8 no8 co8, .slice An8 nn8 cn8] 35)) := (Keeps.refl [] wc).alloc _
            have BC := Lib.hid (Blk.new wc 35 #[.int .i64 t8, .int .i64 i8, .slice Ao8 no8 co8, .slice An8 nn8 cn8])
            obtain ⟨gC, hgC⟩ : ∃ g, g = wc.heap.size := ⟨_, rfl⟩
            rw [← hgC] at BC ⊢
            replace BA := Lib.hid (BA.out.keep hka (by simp))
            replace BB := Lib.hid (BB.out.keep hka (by simp))
            replace ri8 := Lib.hid (ri8.out.keep hka (by simp))
            replace Kx := Lib.hid (Kx.out.trans hka)
            have HS := HSf.out _ Kx.out
            refine hK _ _ (Or.inr HS) ?_
            clear hK K hka hgC
            generalize wc.alloc (.cells #[.int .i64 t8, .int .i64 i8, .slice Ao8 no8 co8, .slice An8 nn8 cn8] 35) = wn at *
            obtain ⟨wc, hwc⟩ : ∃ x, x = wn := ⟨_, rfl⟩
            subst hwc
            try simp only [Act.put, List.getElem_toArray, List.getElem_cons_succ, List.getElem_cons_zero, List.setIfInBounds_toArray, List.set_cons_zero, List.set_cons_succ]
            refine wpAnyJ_one (i := 11) rfl (by kernel_rfl) (fun K hK => ?_)
            dsimp only [List.getElem_toArray, List.getElem_cons_succ, List.getElem_cons_zero]
            go_simp
            have hka : Keeps [] wc (wc.alloc (.cells #[.int .i64 t, .int .i64 id, .slice Ao no co, .slice An nn cn] 35)) := (Keeps.refl [] wc).alloc _
            have BD := Lib.hid (Blk.new wc 35 #[.int .i64 t, .int .i64 id, .slice Ao no co, .slice An nn cn])
            obtain ⟨gD, hgD⟩ : ∃ g, g = wc.heap.size := ⟨_, rfl⟩
            rw [← hgD] at BD ⊢
            replace BA := Lib.hid (BA.out.keep hka (by simp))
            replace BB := Lib.hid (BB.out.keep hka (by simp))
            replace BC := Lib.hid (BC.out.keep hka (by simp))
            replace ri8 := Lib.hid (ri8.out.keep hka (by simp))
            replace Kx := Lib.hid (Kx.out.trans hka)
            have HS := HSf.out _ Kx.out
            refine hK _ _ (Or.inr HS) ?_
            clear hK K hka hgD
            generalize wc.alloc (.cells #[.int .i64 t, .int .i64 id, .slice Ao no co, .slice An nn cn] 35) = wn at *
            obtain ⟨wc, hwc⟩ : ∃ x, x = wn := ⟨_, rfl⟩
            subst hwc
            try simp only [Act.put, List.getElem_toArray, List.getElem_cons_succ, List.getElem_cons_zero, List.setIfInBounds_toArray, List.set_cons_zero, List.set_cons_succ]
            refine wpAnyJ_one (i := 12) rfl (by kernel_rfl) (fun K hK => ?_)
            dsimp only [List.getElem_toArray, List.getElem_cons_succ, List.getElem_cons_zero]
            go_simp
            refine (HS2.out wc gC gD ⟨t8, i8, Ao8, no8, co8, An8, nn8, cn8⟩ Kx.out ri8.out BC.out BD.out).mono ?_
            rintro e wn ⟨rfl, k16⟩
            replace BA := Lib.hid (BA.out.keep k16 (by simp))
            replace BB := Lib.hid (BB.out.keep k16 (by simp))
            replace BC := Lib.hid (BC.out.keep k16 (by simp))
            replace BD := Lib.hid (BD.out.keep k16 (by simp))
            
            replace Kx := Lib.hid (Kx.out.trans k16)
            have HS := HSf.out _ Kx.out
            refine hK _ _ (Or.inr HS) ?_
            clear hK K k16
            obtain ⟨wc, hwc⟩ : ∃ x, x = wn := ⟨_, rfl⟩
            subst hwc
            try simp only [Act.put, List.getElem_toArray, List.getElem_cons_succ, List.getElem_cons_zero, List.setIfInBounds_toArray, List.set_cons_zero, List.set_cons_succ]
            refine wpAnyJ_take (i := 13) (v := ?_) (by kernel_rfl) rfl (by kernel_rfl) (by kernel_rfl) (by kernel_rfl) (fun _ _ _ h => h) HS (Or.inl ⟨by rfl, ?_⟩) ?_
            rotate_left
            · (intro w hSw; obtain ⟨⟨y1, y2, y3, y4⟩, ⟨y5, y6, y7, y8⟩⟩ := hSw; go_simp; try with_reducible rfl)
            try simp only [Act.put, List.getElem_toArray, List.getElem_cons_succ, List.getElem_cons_zero, List.setIfInBounds_toArray, List.set_cons_zero, List.set_cons_succ]
            refine wpAnyJ_take (i := 14) (v := ?_) (by kernel_rfl) rfl (by kernel_rfl) (by kernel_rfl) (by kernel_rfl) (fun _ _ _ h => h) HS (Or.inl ⟨by rfl, ?_⟩) ?_
            rotate_left
            · (intro w hSw; obtain ⟨⟨y1, y2, y3, y4⟩, ⟨y5, y6, y7, y8⟩⟩ := hSw; go_simp; try with_reducible rfl)
            try simp only [Act.put, List.getElem_toArray, List.getElem_cons_succ, List.getElem_cons_zero, List.setIfInBounds_toArray, List.set_cons_zero, List.set_cons_succ]
            refine wpAnyJ_done (by kernel_rfl) ?_ _
            clear HS1 HS2 H18 H19 HSf HS
            go_wp2_with fail
            go_ret
            exact ⟨rfl, (kd.out.trans Kx.out)⟩
          · dsimp only [List.getElem_toArray, List.getElem_cons_succ, List.getElem_cons_zero]
            go_simp
            have hka : Keeps [] wc (wc.alloc (.cells #[.int .i64 t, .int .i64 id, .slice Ao no co, .slice An nn cn] 35)) := (Keeps.refl [] wc).alloc _
            have BD := Lib.hid (Blk.new wc 35 #[.int .i64 t, .int .i64 id, .slice Ao no co, .slice An nn cn])
            obtain ⟨gD, hgD⟩ : ∃ g, g = wc.heap.size := ⟨_, rfl⟩
            rw [← hgD] at BD ⊢
            replace BA := Lib.hid (BA.out.keep hka (by simp))
            replace BB := Lib.hid (BB.out.keep hka (by simp))
            replace ri8 := Lib.hid (ri8.out.keep hka (by simp))
            replace Kx := Lib.hid (Kx.out.trans hka)
            have HS := HSf.out _ Kx.out
            refine hK _ _ (Or.inr HS) ?_
            clear hK K hka hgD
            generalize wc.alloc (.cells #[.int .i64 t, .int .i64 id, .slice Ao no co, .slice An nn cn] 35) = wn at *
            obtain ⟨wc, hwc⟩ : ∃ x, x = wn := ⟨_, rfl⟩
            subst hwc
            try simp only [Act.put, List.getElem_toArray, List.getElem_cons_succ, List.getElem_cons_zero, List.setIfInBounds_toArray, List.set_cons_zero, List.set_cons_succ]
            refine wpAnyJ_one (i := 9) rfl (by kernel_rfl) (fun K hK => ?_)
            dsimp only [List.getElem_toArray, List.getElem_cons_succ, List.getElem_cons_zero]
            go_simp
            have hka : Keeps [] wc (wc.alloc (.cells #[.int .i64 t8, .int .i64 i8, .slice Ao8 no8 co8, .slice An8 nn8 cn8] 35)) := (Keeps.refl [] wc).alloc _
            have BC := Lib.hid (Blk.new wc 35 #[.int .i64 t8, .int .i64 i8, .slice Ao8 no8 co8, .slice An8 nn8 cn8])
            obtain ⟨gC, hgC⟩ : ∃ g, g = wc.heap.size := ⟨_, rfl⟩
            rw [← hgC] at BC ⊢
            replace BA := Lib.hid (BA.out.keep hka (by simp))
            replace BB := Lib.hid (BB.out.keep hka (by simp))
            replace BD := Lib.hid (BD.out.keep hka (by simp))
            replace ri8 := Lib.hid (ri8.out.keep hka (by simp))
            replace Kx := Lib.hid (Kx.out.trans hka)
            have HS := HSf.out _ Kx.out
            refine hK _ _ (Or.inr HS) ?_
            clear hK K hka hgC
            generalize wc.alloc (.cells #[.int .i64 t8, .int .i64 i8, .slice Ao8 no8 co8, .slice An8 nn8 cn8] 35) = wn at *
            obtain ⟨wc, hwc⟩ : ∃ x, x = wn := ⟨_, rfl⟩
            subst hwc
            try simp only [Act.put, List.getElem_toArray, List.getElem_cons_succ, List.getElem_cons_zero, List.setIfInBounds_toArray, List.set_cons_zero, List.set_cons_succ]
            refine wpAnyJ_one (i := 12) rfl (by kernel_rfl) (fun K hK => ?_)
            dsimp only [List.getElem_toArray, List.getElem_cons_succ, List.getElem_cons_zero]
            go_simp
            refine (HS2.out wc gC gD ⟨t8, i8, Ao8, no8, co8, An8, nn8, cn8⟩ Kx.out ri8.out BC.out BD.out).mono ?_
            rintro e wn ⟨rfl, k16⟩
            replace BA := Lib.hid (BA.out.keep k16 (by simp))
            replace BB := Lib.hid (BB.out.keep k16 (by simp))
            replace BC := Lib.hid (BC.out.keep k16 (by simp))
            replace BD := Lib.hid (BD.out.keep k16 (by simp))
            
            replace Kx := Lib.hid (Kx.out.trans k16)
            have HS := HSf.out _ Kx.out
            refine hK _ _ (Or.inr HS) ?_
            clear hK K k16
            obtain ⟨wc, hwc⟩ : ∃ x, x = wn := ⟨_, rfl⟩
            subst hwc
            try simp only [Act.put, List.getElem_toArray, List.getElem_cons_succ, List.getElem_cons_zero, List.setIfInBounds_toArray, List.set_cons_zero, List.set_cons_succ]
            refine wpAnyJ_take (i := 13) (v := ?_) (by kernel_rfl) rfl (by kernel_rfl) (by kernel_rfl) (by kernel_rfl) (fun _ _ _ h => h) HS (Or.inl ⟨by rfl, ?_⟩) ?_
            rotate_left
            · (intro w hSw; obtain ⟨⟨y1, y2, y3, y4⟩, ⟨y5, y6, y7, y8⟩⟩ := hSw; go_simp; try with_reducible rfl)
            try simp only [Act.put, List.getElem_toArray, List.getElem_cons_succ, List.getElem_cons_zero, List.setIfInBounds_toArray, List.set_cons_zero, List.set_cons_succ]
            refine wpAnyJ_take (i := 14) (v := ?_) (by kernel_rfl) rfl (by kernel_rfl) (by kernel_rfl) (by kernel_rfl) (fun _ _ _ h => h) HS (Or.inl ⟨by rfl, ?_⟩) ?_
            rotate_left
            · (intro w hSw; obtain ⟨⟨y1, y2, y3, y4⟩, ⟨y5, y6, y7, y8⟩⟩ := hSw; go_simp; try with_reducible rfl)
            try simp only [Act.put, List.getElem_toArray, List.getElem_cons_succ, List.getElem_cons_zero, List.setIfInBounds_toArray, List.set_cons_zero, List.set_cons_succ]
            refine wpAnyJ_done (by kernel_rfl) ?_ _
            clear HS1 HS2 H18 H19 HSf HS
            go_wp2_with fail
            go_ret
            exact ⟨rfl, (kd.out.trans Kx.out)⟩
        · dsimp only [List.getElem_toArray, List.getElem_cons_succ, List.getElem_cons_zero]
          go_simp
          have hka : Keeps [] wc (wc.alloc (.cells #[.int .i64 t, .int .i64 id, .slice Ao no co, .slice An nn cn] 35)) := (Keeps.refl [] wc).alloc _
          have BD := Lib.hid (Blk.new wc 35 #[.int .i64 t, .int .i64 id, .slice Ao no co, .slice An nn cn])
          obtain ⟨gD, hgD⟩ : ∃ g, g = wc.heap.size := ⟨_, rfl⟩
          rw [← hgD] at BD ⊢
          replace BA := Lib.hid (BA.out.keep hka (by simp))
          replace BB := Lib.hid (BB.out.keep hka (by simp))
          replace Kx := Lib.hid (Kx.out.trans hka)
          have HS := HSf.out _ Kx.out
          refine hK _ _ (Or.inr HS) ?_
          clear hK K hka hgD
          generalize wc.alloc (.cells #[.int .i64 t, .int .i64 id, .slice Ao no co, .slice An nn cn] 35) = wn at *
          obtain ⟨wc, hwc⟩ : ∃ x, x = wn := ⟨_, rfl⟩
          subst hwc
          try simp only [Act.put, List.getElem_toArray, List.getElem_cons_succ, List.getElem_cons_zero, List.setIfInBounds_toArray, List.set_cons_zero, List.set_cons_succ]
          refine wpAnyJ_one (i := 8) rfl (by kernel_rfl) (fun K hK => ?_)
          dsimp only [List.getElem_toArray, List.getElem_cons_succ, List.getElem_cons_zero]
          go_simp
          refine (H18.out wc Kx.out).mono ?_
          rintro e wn ⟨⟨t8, i8, Ao8, no8, co8, An8, nn8, cn8⟩, rfl, ri8, fr8, k18⟩
          replace BA := Lib.hid (BA.out.keep k18.out (by simp))
          replace BB := Lib.hid (BB.out.keep k18.out (by simp))
          replace BD := Lib.hid (BD.out.keep k18.out (by simp))
          dsimp only [Raw.cells]
          have KX8 := Kx
          replace Kx := Lib.hid (Kx.out.trans k18.out)
          have HS := HSf.out _ Kx.out
          refine hK _ _ (Or.inr HS) ?_
          clear hK K k18
          obtain ⟨wc, hwc⟩ : ∃ x, x = wn := ⟨_, rfl⟩
          subst hwc
          try simp only [Act.put, List.getElem_toArray, List.getElem_cons_succ, List.getElem_cons_zero, List.setIfInBounds_toArray, List.set_cons_zero, List.set_cons_succ]
          refine wpAnyJ_one (i := 9) rfl (by kernel_rfl) (fun K hK => ?_)
          dsimp only [List.getElem_toArray, List.getElem_cons_succ, List.getElem_cons_zero]
          go_simp
          have hka : Keeps [] wc (wc.alloc (.cells #[.int .i64 t8, .int .i64 i8, .slice Ao8 no8 co8, .slice An8 nn8 cn8] 35)) := (Keeps.refl [] wc).alloc _
          have BC := Lib.hid (Blk.new wc 35 #[.int .i64 t8, .int .i64 i8, .slice Ao8 no8 co8, .slice An8 nn8 cn8])
          obtain ⟨gC, hgC⟩ : ∃ g, g = wc.heap.size := ⟨_, rfl⟩
          rw [← hgC] at BC ⊢
          replace BA := Lib.hid (BA.out.keep hka (by simp))
          replace BB := Lib.hid (BB.out.keep hka (by simp))
          replace BD := Lib.hid (BD.out.keep hka (by simp))
          replace ri8 := Lib.hid (ri8.out.keep hka (by simp))
          replace Kx := Lib.hid (Kx.out.trans hka)
          have HS := HSf.out _ Kx.out
          refine hK _ _ (Or.inr HS) ?_
          clear hK K hka hgC
          generalize wc.alloc (.cells #[.int .i64 t8, .int .i64 i8, .slice Ao8 no8 co8, .slice An8 nn8 cn8] 35) = wn at *
          obtain ⟨wc, hwc⟩ : ∃ x, x = wn := ⟨_, rfl⟩
          subst hwc
          try simp only [Act.put, List.getElem_toArray, List.getElem_cons_succ, List.getElem_cons_zero, List.setIfInBounds_toArray, List.set_cons_zero, List.set_cons_succ]
          refine wpAnyJ_one (i := 12) rfl (by kernel_rfl) (fun K hK => ?_)
          dsimp only [List.getElem_toArray, List.getElem_cons_succ, List.getElem_cons_zero]
          go_simp
          refine (HS2.out wc gC gD ⟨t8, i8, Ao8, no8, co8, An8, nn8, cn8⟩ Kx.out ri8.out BC.out BD.out).mono ?_
          rintro e wn ⟨rfl, k16⟩
          replace BA := Lib.hid (BA.out.keep k16 (by simp))
          replace BB := Lib.hid (BB.out.keep k16 (by simp))
          replace BC := Lib.hid (BC.out.keep k16 (by simp))
          replace BD := Lib.hid (BD.out.keep k16 (by simp))
          
          replace Kx := Lib.hid (Kx.out.trans k16)
          have HS := HSf.out _ Kx.out
          refine hK _ _ (Or.inr HS) ?_
          clear hK K k16
          obtain ⟨wc, hwc⟩ : ∃ x, x = wn := ⟨_, rfl⟩
          subst hwc
          try simp only [Act.put, List.getElem_toArray, List.getElem_cons_succ, List.getElem_cons_zero, List.setIfInBounds_toArray, List.set_cons_zero, List.set_cons_succ]
          refine wpAnyJ_take (i := 13) (v := ?_) (by kernel_rfl) rfl (by kernel_rfl) (by kernel_rfl) (by kernel_rfl) (fun _ _ _ h => h) HS (Or.inl ⟨by rfl, ?_⟩) ?_
          rotate_left
          · (intro w hSw; obtain ⟨⟨y1, y2, y3, y4⟩, ⟨y5, y6, y7, y8⟩⟩ := hSw; go_simp; try with_reducible rfl)
          try simp only [Act.put, List.getElem_toArray, List.getElem_cons_succ, List.getElem_cons_zero, List.setIfInBounds_toArray, List.set_cons_zero, List.set_cons_succ]
          refine wpAnyJ_take (i := 14) (v := ?_) (by kernel_rfl) rfl (by kernel_rfl) (by kernel_rfl) (by kernel_rfl) (fun _ _ _ h => h) HS (Or.inl ⟨by rfl, ?_⟩) ?_
          rotate_left
          · (intro w hSw; obtain ⟨⟨y1, y2, y3, y4⟩, ⟨y5, y6, y7, y8⟩⟩ := hSw; go_simp; try with_reducible rfl)
          try simp only [Act.put, List.getElem_toArray, List.getElem_cons_succ, List.getElem_cons_zero, List.setIfInBounds_toArray, List.set_cons_zero, List.set_cons_succ]
          refine wpAnyJ_done (by kernel_rfl) ?_ _
          clear HS1 HS2 H18 H19 HSf HS
          go_wp2_with fail
          go_ret
          exact ⟨rfl, (kd.out.trans Kx.out)⟩
      · dsimp only [List.getElem_toArray, List.getElem_cons_succ, List.getElem_cons_zero]
        go_simp
        have hka : Keeps [] wc (wc.alloc (.cells #[.int .i64 t, .int .i64 id, .slice An nn cn, .slice Ao no co] 35)) := (Keeps.refl [] wc).alloc _
        have BB := Lib.hid (Blk.new wc 35 #[.int .i64 t, .int .i64 id, .slice An nn cn, .slice Ao no co])
        obtain ⟨gB, hgB⟩ : ∃ g, g = wc.heap.size := ⟨_, rfl⟩
        rw [← hgB] at BB ⊢
        replace Kx := Lib.hid (Kx.out.trans hka)
        have HS := HSf.out _ Kx.out
        refine hK _ _ (Or.inr HS) ?_
        clear hK K hka hgB
        generalize wc.alloc (.cells #[.int .i64 t, .int .i64 id, .slice An nn cn, .slice Ao no co] 35) = wn at *
        obtain ⟨wc, hwc⟩ : ∃ x, x = wn := ⟨_, rfl⟩
        subst hwc
        try simp only [Act.put, List.getElem_toArray, List.getElem_cons_succ, List.getElem_cons_zero, List.setIfInBounds_toArray, List.set_cons_zero, List.set_cons_succ]
        refine wpAnyJ_one (i := 1) rfl (by kernel_rfl) (fun K hK => ?_)
        dsimp only [List.getElem_toArray, List.getElem_cons_succ, List.getElem_cons_zero]
        go_simp
        have hka : Keeps [] wc (wc.alloc (.cells #[.int .i64 t3, .int .i64 i3, .slice Ao3 no3 co3, .slice An3 nn3 cn3] 35)) := (Keeps.refl [] wc).alloc _
        have BA := Lib.hid (Blk.new wc 35 #[.int .i64 t3, .int .i64 i3, .slice Ao3 no3 co3, .slice An3 nn3 cn3])
        obtain ⟨gA, hgA⟩ : ∃ g, g = wc.heap.size := ⟨_, rfl⟩
        rw [← hgA] at BA ⊢
        replace BB := Lib.hid (BB.out.keep hka (by simp))
        replace Kx := Lib.hid (Kx.out.trans hka)
        have HS := HSf.out _ Kx.out
        refine hK _ _ (Or.inr HS) ?_
        clear hK K hka hgA
        generalize wc.alloc (.cells #[.int .i64 t3, .int .i64 i3, .slice Ao3 no3 co3, .slice An3 nn3 cn3] 35) = wn at *
        obtain ⟨wc, hwc⟩ : ∃ x, x = wn := ⟨_, rfl⟩
        subst hwc
        try simp only [Act.put, List.getElem_toArray, List.getElem_cons_succ, List.getElem_cons_zero, List.setIfInBounds_toArray, List.set_cons_zero, List.set_cons_succ]
        refine wpAnyJ_one (i := 5) rfl (by kernel_rfl) (fun K hK => ?_)
        dsimp only [List.getElem_toArray, List.getElem_cons_succ, List.getElem_cons_zero]
        go_simp
        refine (HS1.out wc gA gB Kx.out BA.out BB.out).mono ?_
        rintro e wn ⟨rfl, k16⟩
        replace BA := Lib.hid (BA.out.keep k16 (by simp))
        replace BB := Lib.hid (BB.out.keep k16 (by simp))
        
        replace Kx := Lib.hid (Kx.out.trans k16)
        have HS := HSf.out _ Kx.out
        refine hK _ _ (Or.inr HS) ?_
        clear hK K k16
        obtain ⟨wc, hwc⟩ : ∃ x, x = wn := ⟨_, rfl⟩
        subst hwc
        try simp only [Act.put, List.getElem_toArray, List.getElem_cons_succ, List.getElem_cons_zero, List.setIfInBounds_toArray, List.set_cons_zero, List.set_cons_succ]
        refine wpAnyJ_take (i := 6) (v := ?_) (by kernel_rfl) rfl (by kernel_rfl) (by kernel_rfl) (by kernel_rfl) (fun _ _ _ h => h) HS (Or.inl ⟨by rfl, ?_⟩) ?_
        rotate_left
        · (intro w hSw; obtain ⟨⟨y1, y2, y3, y4⟩, ⟨y5, y6, y7, y8⟩⟩ := hSw; go_simp; try with_reducible rfl)
        try simp only [Act.put, List.getElem_toArray, List.getElem_cons_succ, List.getElem_cons_zero, List.setIfInBounds_toArray, List.set_cons_zero, List.set_cons_succ]
        refine wpAnyJ_take (i := 7) (v := ?_) (by kernel_rfl) rfl (by kernel_rfl) (by kernel_rfl) (by kernel_rfl) (fun _ _ _ h => h) HS (Or.inl ⟨by rfl, ?_⟩) ?_
        rotate_left
        · (intro w hSw; obtain ⟨⟨y1, y2, y3, y4⟩, ⟨y5, y6, y7, y8⟩⟩ := hSw; go_simp; try with_reducible rfl)
        try simp only [Act.put, List.getElem_toArray, List.getElem_cons_succ, List.getElem_cons_zero, List.setIfInBounds_toArray, List.set_cons_zero, List.set_cons_succ]
        refine wpAnyJ_take (i := 10) (v := ?_) (by kernel_rfl) rfl (by kernel_rfl) (by kernel_rfl) (by kernel_rfl) (fun _ _ _ h => h) HS (Or.inl ⟨by rfl, ?_⟩) ?_
        rotate_left
        · (intro w hSw; obtain ⟨⟨y1, y2, y3, y4⟩, ⟨y5, y6, y7, y8⟩⟩ := hSw; go_simp; try with_reducible rfl)
        try simp only [Act.put, List.getElem_toArray, List.getElem_cons_succ, List.getElem_cons_zero, List.setIfInBounds_toArray, List.set_cons_zero, List.set_cons_succ]
        refine wpAnyJ_two (i := 8) (j := 11) rfl rfl (by kernel_rfl) (fun K hK => ?_) (fun K hK => ?_)
        · dsimp only [List.getElem_toArray, List.getElem_cons_succ, List.getElem_cons_zero]
          go_simp
          refine (H18.out wc Kx.out).mono ?_
          rintro e wn ⟨⟨t8, i8, Ao8, no8, co8, An8, nn8, cn8⟩, rfl, ri8, fr8, k18⟩
          replace BA := Lib.hid (BA.out.keep k18.out (by simp))
          replace BB := Lib.hid (BB.out.keep k18.out (by simp))
          dsimp only [Raw.cells]
          have KX8 := Kx
          replace Kx := Lib.hid (Kx.out.trans k18.out)
          have HS := HSf.out _ Kx.out
          refine hK _ _ (Or.inr HS) ?_
          clear hK K k18
          obtain ⟨wc, hwc⟩ : ∃ x, x = wn := ⟨_, rfl⟩
          subst hwc
          try simp only [Act.put, List.getElem_toArray, List.getElem_cons_succ, List.getElem_cons_zero, List.setIfInBounds_toArray, List.set_cons_zero, List.set_cons_succ]
          refine wpAnyJ_two (i := 9) (j := 11) rfl rfl (by kernel_rfl) (fun K hK => ?_) (fun K hK => ?_)
          · dsimp only [List.getElem_toArray, List.getElem_cons_succ, List.getElem_cons_zero]
            go_simp
            have hka : Keeps [] wc (wc.alloc (.cells #[.int .i64 t8, .int .i64 i8, .slice Ao8 no8 co8, .slice An8 nn8 cn8] 35)) := (Keeps.refl [] wc).alloc _
            have BC := Lib.hid (Blk.new wc 35 #[.int .i64 t8, .int .i64 i8, .slice Ao8 no8 co8, .slice An8 nn8 cn8])
            obtain ⟨gC, hgC⟩ : ∃ g, g = wc.heap.size := ⟨_, rfl⟩
            rw [← hgC] at BC ⊢
            replace BA := Lib.hid (BA.out.keep hka (by simp))
            replace BB := Lib.hid (BB.out.keep hka (by simp))
            replace ri8 := Lib.hid (ri8.out.keep hka (by simp))
            replace Kx := Lib.hid (Kx.out.trans hka)
            have HS := HSf.out _ Kx.out
            refine hK _ _ (Or.inr HS) ?_
            clear hK K hka hgC
            generalize wc.alloc (.cells #[.int .i64 t8, .int .i64 i8, .slice Ao8 no8 co8, .slice An8 nn8 cn8] 35) = wn at *
            obtain ⟨wc, hwc⟩ : ∃ x, x = wn := ⟨_, rfl⟩
            subst hwc
            try simp only [Act.put, List.getElem_toArray, List.getElem_cons_succ, List.getElem_cons_zero, List.setIfInBounds_toArray, List.set_cons_zero, List.set_cons_succ]
            refine wpAnyJ_one (i := 11) rfl (by kernel_rfl) (fun K hK => ?_)
            dsimp only [List.getElem_toArray, List.getElem_cons_succ, List.getElem_cons_zero]
            go_simp
            have hka : Keeps [] wc (wc.alloc (.cells #[.int .i64 t, .int .i64 id, .slice Ao no co, .slice An nn cn] 35)) := (Keeps.refl [] wc).alloc _
            have BD := Lib.hid (Blk.new wc 35 #[.int .i64 t, .int .i64 id, .slice Ao no co, .slice An nn cn])
            obtain ⟨gD, hgD⟩ : ∃ g, g = wc.heap.size := ⟨_, rfl⟩
            rw [← hgD] at BD ⊢
            replace BA := Lib.hid (BA.out.keep hka (by simp))
            replace BB := Lib.hid (BB.out.keep hka (by simp))
            replace BC := Lib.hid (BC.out.keep hka (by simp))
            replace ri8 := Lib.hid (ri8.out.keep hka (by simp))
            replace Kx := Lib.hid (Kx.out.trans hka)
            have HS := HSf.out _ Kx.out
            refine hK _ _ (Or.inr HS) ?_
            clear hK K hka hgD
            generalize wc.alloc (.cells #[.int .i64 t, .int .i64 id, .slice Ao no co, .slice An nn cn] 35) = wn at *
            obtain ⟨wc, hwc⟩ : ∃ x, x = wn := ⟨_, rfl⟩
            subst hwc
            try simp only [Act.put, List.getElem_toArray, List.getElem_cons_succ, List.getElem_cons_zero, List.setIfInBounds_toArray, List.set_cons_zero, List.set_cons_succ]
            refine wpAnyJ_one (i := 12) rfl (by kernel_rfl) (fun K hK => ?_)
            dsimp only [List.getElem_toArray, List.getElem_cons_succ, List.getElem_cons_zero]
            go_simp
            refine (HS2.out wc gC gD ⟨t8, i8, Ao8, no8, co8, An8, nn8, cn8⟩ Kx.out ri8.out BC.out BD.out).mono ?_
            rintro e wn ⟨rfl, k16⟩
            replace BA := Lib.hid (BA.out.keep k16 (by simp))
            replace BB := Lib.hid (BB.out.keep k16 (by simp))
            replace BC := Lib.hid (BC.out.keep k16 (by simp))
            replace BD := Lib.hid (BD.out.keep k16 (by simp))
            
            replace Kx := Lib.hid (Kx.out.trans k16)
            have HS := HSf.out _ Kx.out
            refine hK _ _ (Or.inr HS) ?_
            clear hK K k16
            obtain ⟨wc, hwc⟩ : ∃ x, x = wn := ⟨_, rfl⟩
            subst hwc
            try simp only [Act.put, List.getElem_toArray, List.getElem_cons_succ, List.getElem_cons_zero, List.setIfInBounds_toArray, List.set_cons_zero, List.set_cons_succ]
            refine wpAnyJ_take (i := 13) (v := ?_) (by kernel_rfl) rfl (by kernel_rfl) (by kernel_rfl) (by kernel_rfl) (fun _ _ _ h => h) HS (Or.inl ⟨by rfl, ?_⟩) ?_
            rotate_left
            · (intro w hSw; obtain ⟨⟨y1, y2, y3, y4⟩, ⟨y5, y6, y7, y8⟩⟩ := hSw; go_simp; try with_reducible rfl)
            try simp only [Act.put, List.getElem_toArray, List.getElem_cons_succ, List.getElem_cons_zero, List.setIfInBounds_toArray, List.set_cons_zero, List.set_cons_succ]
            refine wpAnyJ_take (i := 14) (v := ?_) (by kernel_rfl) rfl (by kernel_rfl) (by kernel_rfl) (by kernel_rfl) (fun _ _ _ h => h) HS (Or.inl ⟨by rfl, ?_⟩) ?_
            rotate_left
            · (intro w hSw; obtain ⟨⟨y1, y2, y3, y4⟩, ⟨y5, y6, y7, y8⟩⟩ := hSw; go_simp; try with_reducible rfl)
            try simp only [Act.put, List.getElem_toArray, List.getElem_cons_succ, List.getElem_cons_zero, List.setIfInBounds_toArray, List.set_cons_zero, List.set_cons_succ]
            refine wpAnyJ_done (by kernel_rfl) ?_ _
            clear HS1 HS2 H18 H19 HSf HS
            go_wp2_with fail
            go_ret
            exact ⟨rfl, (kd.out.trans Kx.out)⟩
          · dsimp only [List.getElem_toArray, List.getElem_cons_succ, List.getElem_cons_zero]
            go_simp
            have hka : Keeps [] wc (wc.alloc (.cells #[.int .i64 t, .int .i64 id, .slice Ao no co, .slice An nn cn] 35)) := (Keeps.refl [] wc).alloc _
            have BD := Lib.hid (Blk.new wc 35 #[.int .i64 t, .int .i64 id, .slice Ao no co, .slice An nn cn])
            obtain ⟨gD, hgD⟩ : ∃ g, g = wc.heap.size := ⟨_, rfl⟩
            rw [← hgD] at BD ⊢
            replace BA := Lib.hid (BA.out.keep hka (by simp))
            replace BB := Lib.hid (BB.out.keep hka (by simp))
            replace ri8 := Lib.hid (ri8.out.keep hka (by simp))
            replace Kx := Lib.hid (Kx.out.trans hka)
            have HS := HSf.out _ Kx.out
            refine hK _ _ (Or.inr HS) ?_
            clear hK K hka hgD
            generalize wc.alloc (.cells #[.int .i64 t, .int .i64 id, .slice Ao no co, .slice An nn cn] 35) = wn at *
            obtain ⟨wc, hwc⟩ : ∃ x, x = wn := ⟨_, rfl⟩
            subst hwc
            try simp only [Act.put, List.getElem_toArray, List.getElem_cons_succ, List.getElem_cons_zero, List.setIfInBounds_toArray, List.set_cons_zero, List.set_cons_succ]
            refine wpAnyJ_one (i := 9) rfl (by kernel_rfl) (fun K hK => ?_)
            dsimp only [List.getElem_toArray, List.getElem_cons_succ, List.getElem_cons_zero]
            go_simp
            have hka : Keeps [] wc (wc.alloc (.cells #[.int .i64 t8, .int .i64 i8, .slice Ao8 no8 co8, .slice An8 nn8 cn8] 35)) := (Keeps.refl [] wc).alloc _
            have BC := Lib.hid (Blk.new wc 35 #[.int .i64 t8, .int .i64 i8, .slice Ao8 no8 co8, .slice An8 nn8 cn8])
            obtain ⟨gC, hgC⟩ : ∃ g, g = wc.heap.size := ⟨_, rfl⟩
            rw [← hgC] at BC ⊢
            replace BA := Lib.hid (BA.out.keep hka (by simp))
            replace BB := Lib.hid (BB.out.keep hka (by simp))
            replace BD := Lib.hid (BD.out.keep hka (by simp))
            replace ri8 := Lib.hid (ri8.out.keep hka (by simp))
            replace Kx := Lib.hid (Kx.out.trans hka)
            have HS := HSf.out _ Kx.out
            refine hK _ _ (Or.inr HS) ?_
            clear hK K hka hgC
            generalize wc.alloc (.cells #[.int .i64 t8, .int .i64 i8, .slice Ao8 no8 co8, .slice An8 nn8 cn8] 35) = wn at *
            obtain ⟨wc, hwc⟩ : ∃ x, x = wn := ⟨_, rfl⟩
            subst hwc
            try simp only [Act.put, List.getElem_toArray, List.getElem_cons_succ, List.getElem_cons_zero, List.setIfInBounds_toArray, List.set_cons_zero, List.set_cons_succ]
            refine wpAnyJ_one (i := 12) rfl (by kernel_rfl) (fun K hK => ?_)
            dsimp only [List.getElem_toArray, List.getElem_cons_succ, List.getElem_cons_zero]
            go_simp
            refine (HS2.out wc gC gD ⟨t8, i8, Ao8, no8, co8, An8, nn8, cn8⟩ Kx.out ri8.out BC.out BD.out).mono ?_
            rintro e wn ⟨rfl, k16⟩
            replace BA := Lib.hid (BA.out.keep k16 (by simp))
            replace BB := Lib.hid (BB.out.keep k16 (by simp))
            replace BC := Lib.hid (BC.out.keep k16 (by simp))
            replace BD := Lib.hid (BD.out.keep k16 (by simp))
            
            replace Kx := Lib.hid (Kx.out.trans k16)
            have HS := HSf.out _ Kx.out
            refine hK _ _ (Or.inr HS) ?_
            clear hK K k16
            obtain ⟨wc, hwc⟩ : ∃ x, x = wn := ⟨_, rfl⟩
            subst hwc
            try simp only [Act.put, List.getElem_toArray, List.getElem_cons_succ, List.getElem_cons_zero, List.setIfInBounds_toArray, List.set_cons_zero, List.set_cons_succ]
            refine wpAnyJ_take (i := 13) (v := ?_) (by kernel_rfl) rfl (by kernel_rfl) (by kernel_rfl) (by kernel_rfl) (fun _ _ _ h => h) HS (Or.inl ⟨by rfl, ?_⟩) ?_
            rotate_left
            · (intro w hSw; obtain ⟨⟨y1, y2, y3, y4⟩, ⟨y5, y6, y7, y8⟩⟩ := hSw; go_simp; try with_reducible rfl)
            try simp only [Act.put, List.getElem_toArray, List.getElem_cons_succ, List.getElem_cons_zero, List.setIfInBounds_toArray, List.set_cons_zero, List.set_cons_succ]
            refine wpAnyJ_take (i := 14) (v := ?_) (by kernel_rfl) rfl (by kernel_rfl) (by kernel_rfl) (by kernel_rfl) (fun _ _ _ h => h) HS (Or.inl ⟨by rfl, ?_⟩) ?_
            rotate_left
            · (intro w hSw; obtain ⟨⟨y1, y2, y3, y4⟩, ⟨y5, y6, y7, y8⟩⟩ := hSw; go_simp; try with_reducible rfl)
            try simp only [Act.put, List.getElem_toArray, List.getElem_cons_succ, List.getElem_cons_zero, List.setIfInBounds_toArray, List.set_cons_zero, List.set_cons_succ]
            refine wpAnyJ_done (by kernel_rfl) ?_ _
            clear HS1 HS2 H18 H19 HSf HS
            go_wp2_with fail
            go_ret
            exact ⟨rfl, (kd.out.trans Kx.out)⟩
        · dsimp only [List.getElem_toArray, List.getElem_cons_succ, List.getElem_cons_zero]
          go_simp
          have hka : Keeps [] wc (wc.alloc (.cells #[.int .i64 t, .int .i64 id, .slice Ao no co, .slice An nn cn] 35)) := (Keeps.refl [] wc).alloc _
          have BD := Lib.hid (Blk.new wc 35 #[.int .i64 t, .int .i64 id, .slice Ao no co, .slice An nn cn])
          obtain ⟨gD, hgD⟩ : ∃ g, g = wc.heap.size := ⟨_, rfl⟩
          rw [← hgD] at BD ⊢
          replace BA := Lib.hid (BA.out.keep hka (by simp))
          replace BB := Lib.hid (BB.out.keep hka (by simp))
          replace Kx := Lib.hid (Kx.out.trans hka)
          have HS := HSf.out _ Kx.out
          refine hK _ _ (Or.inr HS) ?_
          clear hK K hka hgD
          generalize wc.alloc (.cells #[.int .i64 t, .int .i64 id, .slice Ao no co, .slice An nn cn] 35) = wn at *
          obtain ⟨wc, hwc⟩ : ∃ x, x = wn := ⟨_, rfl⟩
          subst hwc
          try simp only [Act.put, List.getElem_toArray, List.getElem_cons_succ, List.getElem_cons_zero, List.setIfInBounds_toArray, List.set_cons_zero, List.set_cons_succ]
          refine wpAnyJ_one (i := 8) rfl (by kernel_rfl) (fun K hK => ?_)
          dsimp only [List.getElem_toArray, List.getElem_cons_succ, List.getElem_cons_zero]
          go_simp
          refine (H18.out wc Kx.out).mono ?_
          rintro e wn ⟨⟨t8, i8, Ao8, no8, co8, An8, nn8, cn8⟩, rfl, ri8, fr8, k18⟩
          replace BA := Lib.hid (BA.out.keep k18.out (by simp))
          replace BB := Lib.hid (BB.out.keep k18.out (by simp))
          replace BD := Lib.hid (BD.out.keep k18.out (by simp))
          dsimp only [Raw.cells]
          have KX8 := Kx
          replace Kx := Lib.hid (Kx.out.trans k18.out)
          have HS := HSf.out _ Kx.out
          refine hK _ _ (Or.inr HS) ?_
          clear hK K k18
          obtain ⟨wc, hwc⟩ : ∃ x, x = wn := ⟨_, rfl⟩
          subst hwc
          try simp only [Act.put, List.getElem_toArray, List.getElem_cons_succ, List.getElem_cons_zero, List.setIfInBounds_toArray, List.set_cons_zero, List.set_cons_succ]
          refine wpAnyJ_one (i := 9) rfl (by kernel_rfl) (fun K hK => ?_)
          dsimp only [List.getElem_toArray, List.getElem_cons_succ, List.getElem_cons_zero]
          go_simp
          have hka : Keeps [] wc (wc.alloc (.cells #[.int .i64 t8, .int .i64 i8, .slice Ao8 no8 co8, .slice An8 nn8 cn8] 35)) := (Keeps.refl [] wc).alloc _
          have BC := Lib.hid (Blk.new wc 35 #[.int .i64 t8, .int .i64 i8, .slice Ao8 no8 co8, .slice An8 nn8 cn8])
          obtain ⟨gC, hgC⟩ : ∃ g, g = wc.heap.size := ⟨_, rfl⟩
          rw [← hgC] at BC ⊢
          replace BA := Lib.hid (BA.out.keep hka (by simp))
          replace BB := Lib.hid (BB.out.keep hka (by simp))
          replace BD := Lib.hid (BD.out.keep hka (by simp))
          replace ri8 := Lib.hid (ri8.out.keep hka (by simp))
          replace Kx := Lib.hid (Kx.out.trans hka)
          have HS := HSf.out _ Kx.out
          refine hK _ _ (Or.inr HS) ?_
          clear hK K hka hgC
          generalize wc.alloc (.cells #[.int .i64 t8, .int .i64 i8, .slice Ao8 no8 co8, .slice An8 nn8 cn8] 35) = wn at *
          obtain ⟨wc, hwc⟩ : ∃ x, x = wn := ⟨_, rfl⟩
          subst hwc
          try simp only [Act.put, List.getElem_toArray, List.getElem_cons_succ, List.getElem_cons_zero, List.setIfInBounds_toArray, List.set_cons_zero, List.set_cons_succ]
          refine wpAnyJ_one (i := 12) rfl (by kernel_rfl) (fun K hK => ?_)
          dsimp only [List.getElem_toArray, List.getElem_cons_succ, List.getElem_cons_zero]
          go_simp
          refine (HS2.out wc gC gD ⟨t8, i8, Ao8, no8, co8, An8, nn8, cn8⟩ Kx.out ri8.out BC.out BD.out).mono ?_
          rintro e wn ⟨rfl, k16⟩
          replace BA := Lib.hid (BA.out.keep k16 (by simp))
          replace BB := Lib.hid (BB.out.keep k16 (by simp))
          replace BC := Lib.hid (BC.out.keep k16 (by simp))
          replace BD := Lib.hid (BD.out.keep k16 (by simp))
          
          replace Kx := Lib.hid (Kx.out.trans k16)
          have HS := HSf.out _ Kx.out
          refine hK _ _ (Or.inr HS) ?_
          clear hK K k16
          obtain ⟨wc, hwc⟩ : ∃ x, x = wn := ⟨_, rfl⟩
          subst hwc
          try simp only [Act.put, List.getElem_toArray, List.getElem_cons_succ, List.getElem_cons_zero, List.setIfInBounds_toArray, List.set_cons_zero, List.set_cons_succ]
          refine wpAnyJ_take (i := 13) (v := ?_) (by kernel_rfl) rfl (by kernel_rfl) (by kernel_rfl) (by kernel_rfl) (fun _ _ _ h => h) HS (Or.inl ⟨by rfl, ?_⟩) ?_
          rotate_left
          · (intro w hSw; obtain ⟨⟨y1, y2, y3, y4⟩, ⟨y5, y6, y7, y8⟩⟩ := hSw; go_simp; try with_reducible rfl)
          try simp only [Act.put, List.getElem_toArray, List.getElem_cons_succ, List.getElem_cons_zero, List.setIfInBounds_toArray, List.set_cons_zero, List.set_cons_succ]
          refine wpAnyJ_take (i := 14) (v := ?_) (by kernel_rfl) rfl (by kernel_rfl) (by kernel_rfl) (by kernel_rfl) (fun _ _ _ h => h) HS (Or.inl ⟨by rfl, ?_⟩) ?_
          rotate_left
          · (intro w hSw; obtain ⟨⟨y1, y2, y3, y4⟩, ⟨y5, y6, y7, y8⟩⟩ := hSw; go_simp; try with_reducible rfl)
          try simp only [Act.put, List.getElem_toArray, List.getElem_cons_succ, List.getElem_cons_zero, List.setIfInBounds_toArray, List.set_cons_zero, List.set_cons_succ]
          refine wpAnyJ_done (by kernel_rfl) ?_ _
          clear HS1 HS2 H18 H19 HSf HS
          go_wp2_with fail
          go_ret
          exact ⟨rfl, (kd.out.trans Kx.out)⟩
end Go.Proofs.Ytmclfbhcddcebaa
