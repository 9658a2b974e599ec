/- The contract of the reference's Read. -/
import Derived.Test.YtoefbjeclghfhaaRef2
namespace Go.Proofs.Ytoefbjeclghfhaa
open Go.RowKit
set_option linter.unusedSimpArgs false
set_option linter.unusedVariables false

set_option maxHeartbeats 3200000 in
set_option maxRecDepth 100000 in
theorem rsread_any (w : World) (bm bS : Nat) (s : St) (hD : MRep [] w bm bS s) :
    Calls Try.prog 39 #[.pointer (some ⟨bm, 0, none⟩)] w (RPost w (sread s)) := by
  by_cases hb : bad s = 0
  · have HO := Lib.hid (rbegin_ok w bm bS s hD hb)
    obtain ⟨hd, h7, hr1⟩ := bad_zero hb
    have hn := hD.n
    have hmem := hD.len
    have har := area_le s.n
    have hHl := sec_len0 hmem (i := 1 + root s) (by omega)
    have hq : sread s = if hEp (sec s (1 + root s)) = 0 then ([], 0, 4) else
        if 64 * area s.n < hLen (sec s (1 + root s)) then ([], 0, 17) else
        if crc ((cat s (area0 s.n (root s)) (area s.n)).take (hLen (sec s (1 + root s)))) ≠ hSum (sec s (1 + root s)) then ([], 0, 17) else
        ((cat s (area0 s.n (root s)) (area s.n)).take (hLen (sec s (1 + root s))), hEp (sec s (1 + root s)), 0) := by
      unfold sread; rw [if_neg (by simp [hb])]
    have ha0 : area0 s.n (root s) + area s.n ≤ s.n := by unfold area0; split <;> omega
    have hE := hEp_lt hHl
    have hL := hLen_lt hHl
    have hS := hSum_lt hHl
    have hq5 : (layV s.n)[3 + root s]? = some (.int .i64 (area0 s.n (root s) : Nat)) := by
      rcases Nat.le_one_iff_eq_zero_or_eq_one.1 hr1 with h | h
      · rw [h]; rfl
      · rw [h]; rfl
    have hqI : (layV s.n)[1 + root s]? = some (.int .i64 ((1 + root s : Nat) : Int)) := by
      rcases Nat.le_one_iff_eq_zero_or_eq_one.1 hr1 with h | h
      · rw [h]; rfl
      · rw [h]; rfl
    have HSl := fun (w' : World) (k : Keeps [] w w') (i : Nat) (hi : i < s.n) => slot_cells (hD.keep k (by simp) (by simp) (by simp)) hi
    have HR0 := fun (w' : World) (k : Keeps [] w w') => root_cells (hD.keep k (by simp) (by simp) (by simp)) (by omega)
    unfold layV at HO
    have hEv : val ((sec s (1 + root s)).take 4) = hEp (sec s (1 + root s)) := rfl
    have hLv : val (((sec s (1 + root s)).drop 4).take 4) = hLen (sec s (1 + root s)) := rfl
    have hSv : val (((sec s (1 + root s)).drop 8).take 8) = hSum (sec s (1 + root s)) := rfl
    generalize hH : sec s (1 + root s) = H at *
    obtain ⟨r, hr⟩ : ∃ r, root s = r := ⟨_, rfl⟩
    rw [hr] at HO hr1 hq ha0 hq5 hqI HR0 hH
    obtain ⟨nn, hnn0⟩ : ∃ nn, s.n = nn := ⟨_, rfl⟩
    rw [hnn0] at HO h7 hn har hq ha0 hq5 hqI HR0 HSl
    obtain ⟨E, hEE⟩ : ∃ E, hEp H = E := ⟨_, rfl⟩
    obtain ⟨L, hLL⟩ : ∃ L, hLen H = L := ⟨_, rfl⟩
    obtain ⟨SS, hSS⟩ : ∃ SS, hSum H = SS := ⟨_, rfl⟩
    rw [hEE, hLL, hSS] at hq
    rw [hEE] at hE hEv
    rw [hLL] at hL hLv
    rw [hSS] at hS hSv
    obtain ⟨ar, har0⟩ : ∃ ar, area nn = ar := ⟨_, rfl⟩
    rw [har0] at HO har hq ha0
    obtain ⟨a0, ha00⟩ : ∃ a0, area0 nn r = a0 := ⟨_, rfl⟩
    rw [ha00] at hq ha0 hq5
    have hlv : layV nn = #[.int .i64 0, .int .i64 1, .int .i64 2, .int .i64 3, .int .i64 (3 + (ar : Int)), .int .i64 (ar : Int), .int .i64 (3 + 2 * (ar : Int)), .int .i64 ((nn : Int) - (3 + 2 * (ar : Int)))] := by unfold layV; rw [har0]
    rw [hlv] at hq5 hqI
    have hr2 : (r : Int) < 2 := by omega
    have hr20 : r < 2 := by omega
    obtain ⟨qq, hqq⟩ : ∃ qq, sread s = qq := ⟨_, rfl⟩
    rw [hqq] at hq ⊢
    have HV1 := Lib.hid (fun (w' : World) (gh ch : Nat) (hb : Bts w' (some ⟨gh, 0, none⟩) H) => value_any w' (some ⟨gh, 0, none⟩) (H.take 4) 4 ch (hb.take 4) (by rw [List.length_take, hHl]; rfl) (by decide))
    have HV2 := Lib.hid (fun (w' : World) (gh ch : Nat) (hb : Bts w' (some ⟨gh, 0, none⟩) H) => value_any w' (some ⟨gh, 4, none⟩) ((H.drop 4).take 4) 4 (ch - 4) (by have := (bts_from (k := 4) hb).take 4; rwa [Nat.zero_add] at this) (by rw [List.length_take, List.length_drop, hHl]; rfl) (by decide))
    have HV3 := Lib.hid (fun (w' : World) (gh ch : Nat) (hb : Bts w' (some ⟨gh, 0, none⟩) H) => value_any w' (some ⟨gh, 8, none⟩) ((H.drop 8).take 8) 8 (ch - 8) (by have := (bts_from (k := 8) hb).take 8; rwa [Nat.zero_add] at this) (by rw [List.length_take, List.length_drop, hHl]; rfl) (by decide))
    rw [hEv] at HV1
    rw [hLv] at HV2
    rw [hSv] at HV3
    replace hD := Lib.hid hD
    replace hq := Lib.hid hq
    replace hq5 := Lib.hid hq5
    replace hqI := Lib.hid hqI
    replace hmem := Lib.hid hmem
    replace hnn0 := Lib.hid hnn0
    replace HSl := Lib.hid HSl
    replace HR0 := Lib.hid HR0
    replace hH := Lib.hid hH
    clear hb hlv hEE hLL hSS har0 ha00 hHl hr hEv hLv hSv hqq
    go_enter Try.func39, Try.ntmps39
    go_wp2_with fail
    refine HO.out.mono ?_
    rintro e w1 ⟨rfl, k1⟩
    have e1 : IntKind.i64.wrap (64 * (ar : Int)) = 64 * (ar : Int) := IntWalk.i64_in _ (by omega)
    have e2 : IntKind.u64.wrap (64 * (ar : Int)) = 64 * (ar : Int) := IntWalk.u64_in _ (by omega)
    have k1a := k1.alloc (.cells #[.int .i64 0, .int .i64 1, .int .i64 2, .int .i64 3, .int .i64 (3 + (ar : Int)), .int .i64 (ar : Int), .int .i64 (3 + 2 * (ar : Int)), .int .i64 ((nn : Int) - (3 + 2 * (ar : Int)))] 28)
    have B7 := Lib.hid (Blk.new w1 28 #[.int .i64 0, .int .i64 1, .int .i64 2, .int .i64 3, .int .i64 (3 + (ar : Int)), .int .i64 (ar : Int), .int .i64 (3 + 2 * (ar : Int)), .int .i64 ((nn : Int) - (3 + 2 * (ar : Int)))])
    obtain ⟨cap, g0, c0, q1, _, _, _, _, _, _⟩ := HR0.out _ k1a
    obtain ⟨gh, ch, q2, hch64, _, hbh, _⟩ := HSl.out _ k1a (1 + r) (by omega)
    rw [hH.out] at hbh
    have q3 := (B7.out.cell (1 + r)).trans hqI.out
    have K2 := Lib.hid k1a
    replace HV1 := Lib.hid (fun w' hb => HV1.out w' gh ch hb)
    replace HV2 := Lib.hid (fun w' hb => HV2.out w' gh ch hb)
    replace HV3 := Lib.hid (fun w' hb => HV3.out w' gh ch hb)
    clear HO HR0 k1 k1a
    go_wp2_with fail
    generalize w1.alloc (.cells #[.int .i64 0, .int .i64 1, .int .i64 2, .int .i64 3, .int .i64 (3 + (ar : Int)), .int .i64 (ar : Int), .int .i64 (3 + 2 * (ar : Int)), .int .i64 ((nn : Int) - (3 + 2 * (ar : Int)))] 28) = w2 at *
    generalize w1.heap.size = g7 at *
    have h0 : w2.drew.cell? ⟨g7, 1 + r, none⟩ = some (.int .i64 ((1 + r : Nat) : Int)) ∧ w2.drew.cell? ⟨bm, 0, none⟩ = some (.slice (some ⟨bS, 0, none⟩) nn cap) ∧ w2.drew.cell? ⟨bS, 1 + r, none⟩ = some (.slice (some ⟨gh, 0, none⟩) 64 ch) := ⟨q3, q1, q2⟩
    replace hbh : Hid (Bts w2.drew (some ⟨gh, 0, none⟩) H) := Lib.hid hbh
    replace B7 := Lib.hid B7.out.drew
    replace K2 := Lib.hid K2.out.drew
    clear q1 q2 q3
    have h1r : 1 + r < nn := by omega
    have h1r2 : ((1 + r : Nat) : Int) < (nn : Int) := by omega
    have h4ch : (8 : Int) ≤ (ch : Int) := by omega
    have hc4 : ¬ ch = 4 := by omega
    have hc8 : ¬ ch = 8 := by omega
    refine wp_region_I (S := (fun w' : World => w'.cell? ⟨g7, 1 + r, none⟩ = some (.int .i64 ((1 + r : Nat) : Int)) ∧ w'.cell? ⟨bm, 0, none⟩ = some (.slice (some ⟨bS, 0, none⟩) nn cap) ∧ w'.cell? ⟨bS, 1 + r, none⟩ = some (.slice (some ⟨gh, 0, none⟩) 64 ch))) (n := 11) (by kernel_rfl) ?_
    have HS := h0
    clear h0
    refine wpAnyI_takeN (i := 0) (v := ?_) (by kernel_rfl) rfl (by kernel_rfl) (by kernel_rfl) (by kernel_rfl) (fun _ _ _ h => h) HS (Or.inl ⟨by rfl, ?_⟩) ?_
    rotate_left
    · (intro w hSw; obtain ⟨z1, z2, z3⟩ := hSw; go_simp; try with_reducible rfl)
    try simp only [Act.put, List.getElem_toArray, List.getElem_cons_succ, List.getElem_cons_zero, List.setIfInBounds_toArray, List.set_cons_zero, List.set_cons_succ]
    refine wpAnyI_takeN (i := 1) (v := ?_) (by kernel_rfl) rfl (by kernel_rfl) (by kernel_rfl) (by kernel_rfl) (fun _ _ _ h => h) HS (Or.inl ⟨by rfl, ?_⟩) ?_
    rotate_left
    · (intro w hSw; obtain ⟨z1, z2, z3⟩ := hSw; go_simp; try with_reducible rfl)
    try simp only [Act.put, List.getElem_toArray, List.getElem_cons_succ, List.getElem_cons_zero, List.setIfInBounds_toArray, List.set_cons_zero, List.set_cons_succ]
    refine wpAnyI_takeN (i := 2) (v := ?_) (by kernel_rfl) rfl (by kernel_rfl) (by kernel_rfl) (by kernel_rfl) (fun _ _ _ h => h) HS (Or.inl ⟨by rfl, ?_⟩) ?_
    rotate_left
    · (intro w hSw; obtain ⟨z1, z2, z3⟩ := hSw; go_simp; try with_reducible rfl)
    try simp only [Act.put, List.getElem_toArray, List.getElem_cons_succ, List.getElem_cons_zero, List.setIfInBounds_toArray, List.set_cons_zero, List.set_cons_succ]
    refine wpAnyI_takeN (i := 3) (v := ?_) (by kernel_rfl) rfl (by kernel_rfl) (by kernel_rfl) (by kernel_rfl) (fun _ _ _ h => h) HS (Or.inl ⟨by rfl, ?_⟩) ?_
    rotate_left
    · (intro w hSw; obtain ⟨z1, z2, z3⟩ := hSw; go_simp; try with_reducible rfl)
    try simp only [Act.put, List.getElem_toArray, List.getElem_cons_succ, List.getElem_cons_zero, List.setIfInBounds_toArray, List.set_cons_zero, List.set_cons_succ]
    refine wpAnyI_takeN (i := 4) (v := ?_) (by kernel_rfl) rfl (by kernel_rfl) (by kernel_rfl) (by kernel_rfl) (fun _ _ _ h => h) HS (Or.inl ⟨by rfl, ?_⟩) ?_
    rotate_left
    · (intro w hSw; obtain ⟨z1, z2, z3⟩ := hSw; go_simp; try with_reducible rfl)
    try simp only [Act.put, List.getElem_toArray, List.getElem_cons_succ, List.getElem_cons_zero, List.setIfInBounds_toArray, List.set_cons_zero, List.set_cons_succ]
    refine wpAnyI_takeN (i := 5) (v := ?_) (by kernel_rfl) rfl (by kernel_rfl) (by kernel_rfl) (by kernel_rfl) (fun _ _ _ h => h) HS (Or.inl ⟨by rfl, ?_⟩) ?_
    rotate_left
    · (intro w hSw; obtain ⟨z1, z2, z3⟩ := hSw; go_simp; try with_reducible rfl)
    try simp only [Act.put, List.getElem_toArray, List.getElem_cons_succ, List.getElem_cons_zero, List.setIfInBounds_toArray, List.set_cons_zero, List.set_cons_succ]
    refine wpAnyI_takeN (i := 6) (v := ?_) (by kernel_rfl) rfl (by kernel_rfl) (by kernel_rfl) (by kernel_rfl) (fun _ _ _ h => h) HS (Or.inl ⟨by rfl, ?_⟩) ?_
    rotate_left
    · (intro w hSw; obtain ⟨z1, z2, z3⟩ := hSw; go_simp; try with_reducible rfl)
    try simp only [Act.put, List.getElem_toArray, List.getElem_cons_succ, List.getElem_cons_zero, List.setIfInBounds_toArray, List.set_cons_zero, List.set_cons_succ]
    refine wpAnyI_takeN (i := 7) (v := ?_) (by kernel_rfl) rfl (by kernel_rfl) (by kernel_rfl) (by kernel_rfl) (fun _ _ _ h => h) HS (Or.inl ⟨by rfl, ?_⟩) ?_
    rotate_left
    · (intro w hSw; obtain ⟨z1, z2, z3⟩ := hSw; go_simp; try with_reducible rfl)
    try simp only [Act.put, List.getElem_toArray, List.getElem_cons_succ, List.getElem_cons_zero, List.setIfInBounds_toArray, List.set_cons_zero, List.set_cons_succ]
    refine wpAnyI_takeN (i := 8) (v := .pointer (some ⟨bS, 1 + r, none⟩)) (by kernel_rfl) rfl (by kernel_rfl) (by kernel_rfl) (by kernel_rfl) (fun _ _ _ h => h) HS (Or.inl ⟨by rfl, ?_⟩) ?_
    · (intro w hSw; obtain ⟨z1, z2, z3⟩ := hSw; go_simp; rw [if_pos ⟨by omega, by omega⟩, show (1 + (r : Int)).toNat = 1 + r by omega])
    try simp only [Act.put, List.getElem_toArray, List.getElem_cons_succ, List.getElem_cons_zero, List.setIfInBounds_toArray, List.set_cons_zero, List.set_cons_succ]
    refine wpAnyI_takeN (i := 9) (v := ?_) (by kernel_rfl) rfl (by kernel_rfl) (by kernel_rfl) (by kernel_rfl) (fun _ _ _ h => h) HS (Or.inl ⟨by rfl, ?_⟩) ?_
    rotate_left
    · (intro w hSw; obtain ⟨z1, z2, z3⟩ := hSw; go_simp; try with_reducible rfl)
    try simp only [Act.put, List.getElem_toArray, List.getElem_cons_succ, List.getElem_cons_zero, List.setIfInBounds_toArray, List.set_cons_zero, List.set_cons_succ]
    refine wpAnyI_takeN (i := 10) (v := ?_) (by kernel_rfl) rfl (by kernel_rfl) (by kernel_rfl) (by kernel_rfl) (fun _ _ _ h => h) HS (Or.inl ⟨by rfl, ?_⟩) ?_
    rotate_left
    · (intro w hSw; obtain ⟨z1, z2, z3⟩ := hSw; go_simp; try with_reducible rfl)
    try simp only [Act.put, List.getElem_toArray, List.getElem_cons_succ, List.getElem_cons_zero, List.setIfInBounds_toArray, List.set_cons_zero, List.set_cons_succ]
    refine wpAnyI_done (by kernel_rfl) ?_ _
    go_wp2_with fail
    have h0 : w2.drew.drew.cell? ⟨bm, 0, none⟩ = some (.slice (some ⟨bS, 0, none⟩) nn cap) := HS.2.1
    clear HS
    generalize w2.drew = w3 at *
    replace hbh : Hid (Bts w3.drew (some ⟨gh, 0, none⟩) H) := Lib.hid hbh.out
    replace B7 := Lib.hid B7.out.drew
    replace K2 := Lib.hid K2.out.drew
    refine wp_region_I (S := (fun w' : World => w'.cell? ⟨bm, 0, none⟩ = some (.slice (some ⟨bS, 0, none⟩) nn cap))) (n := 8) (by kernel_rfl) ?_
    have HS := h0
    clear h0
    refine wpAnyI_takeN (i := 0) (v := ?_) (by kernel_rfl) rfl (by kernel_rfl) (by kernel_rfl) (by kernel_rfl) (fun _ _ _ h => h) HS (Or.inl ⟨by rfl, ?_⟩) ?_
    rotate_left
    · (intro w hSw; obtain z1 := hSw; go_simp; try with_reducible rfl)
    try simp only [Act.put, List.getElem_toArray, List.getElem_cons_succ, List.getElem_cons_zero, List.setIfInBounds_toArray, List.set_cons_zero, List.set_cons_succ]
    refine wpAnyI_takeN (i := 1) (v := .slice (some ⟨gh, 0, none⟩) 4 ch) (by kernel_rfl) rfl (by kernel_rfl) (by kernel_rfl) (by kernel_rfl) (fun _ _ _ h => h) HS (Or.inl ⟨by rfl, ?_⟩) ?_
    · (intro w hSw; obtain z1 := hSw; go_simp; (intro hh; exfalso; omega))
    try simp only [Act.put, List.getElem_toArray, List.getElem_cons_succ, List.getElem_cons_zero, List.setIfInBounds_toArray, List.set_cons_zero, List.set_cons_succ]
    refine wpAnyI_takeN (i := 3) (v := ?_) (by kernel_rfl) rfl (by kernel_rfl) (by kernel_rfl) (by kernel_rfl) (fun _ _ _ h => h) HS (Or.inl ⟨by rfl, ?_⟩) ?_
    rotate_left
    · (intro w hSw; obtain z1 := hSw; go_simp; try with_reducible rfl)
    try simp only [Act.put, List.getElem_toArray, List.getElem_cons_succ, List.getElem_cons_zero, List.setIfInBounds_toArray, List.set_cons_zero, List.set_cons_succ]
    refine wpAnyI_takeN (i := 4) (v := .slice (some ⟨gh, 4, none⟩) 4 (ch - 4)) (by kernel_rfl) rfl (by kernel_rfl) (by kernel_rfl) (by kernel_rfl) (fun _ _ _ h => h) HS (Or.inl ⟨by rfl, ?_⟩) ?_
    · (intro w hSw; obtain z1 := hSw; go_simp; all_goals (first | (intro hh; exfalso; omega) | (simp; done) | omega))
    try simp only [Act.put, List.getElem_toArray, List.getElem_cons_succ, List.getElem_cons_zero, List.setIfInBounds_toArray, List.set_cons_zero, List.set_cons_succ]
    refine wpAnyI_one (i := 2) rfl (by kernel_rfl) (fun K hK => ?_)
    dsimp only [List.getElem_toArray, List.getElem_cons_succ, List.getElem_cons_zero]
    go_simp
    refine (HV1.out _ hbh.out).mono ?_
    rintro e w4 ⟨rfl, rfl⟩
    refine hK _ _ (Or.inr HS) ?_
    clear hK K
    try simp only [Act.put, List.getElem_toArray, List.getElem_cons_succ, List.getElem_cons_zero, List.setIfInBounds_toArray, List.set_cons_zero, List.set_cons_succ]
    refine wpAnyI_one (i := 5) rfl (by kernel_rfl) (fun K hK => ?_)
    dsimp only [List.getElem_toArray, List.getElem_cons_succ, List.getElem_cons_zero]
    go_simp
    refine (HV2.out _ hbh.out).mono ?_
    rintro e w4 ⟨rfl, rfl⟩
    refine hK _ _ (Or.inr HS) ?_
    clear hK K
    try simp only [Act.put, List.getElem_toArray, List.getElem_cons_succ, List.getElem_cons_zero, List.setIfInBounds_toArray, List.set_cons_zero, List.set_cons_succ]
    refine wpAnyI_takeN (i := 6) (v := ?_) (by kernel_rfl) rfl (by kernel_rfl) (by kernel_rfl) (by kernel_rfl) (fun _ _ _ h => h) HS (Or.inl ⟨by rfl, ?_⟩) ?_
    rotate_left
    · (intro w hSw; obtain z1 := hSw; go_simp; try with_reducible rfl)
    try simp only [Act.put, List.getElem_toArray, List.getElem_cons_succ, List.getElem_cons_zero, List.setIfInBounds_toArray, List.set_cons_zero, List.set_cons_succ]
    refine wpAnyI_takeN (i := 7) (v := ?_) (by kernel_rfl) rfl (by kernel_rfl) (by kernel_rfl) (by kernel_rfl) (fun _ _ _ h => h) HS (Or.inl ⟨by rfl, ?_⟩) ?_
    rotate_left
    · (intro w hSw; obtain z1 := hSw; go_simp; try with_reducible rfl)
    try simp only [Act.put, List.getElem_toArray, List.getElem_cons_succ, List.getElem_cons_zero, List.setIfInBounds_toArray, List.set_cons_zero, List.set_cons_succ]
    refine wpAnyI_done (by kernel_rfl) ?_ _
    generalize w3.drew = wO at *
    clear HV1 HV2
    by_cases hE0 : E = 0
    · have hq2 := hq.out
      rw [if_pos hE0] at hq2
      subst hq2
      subst hE0
      clear hq
      go_wp2_with fail
      refine bodyPost_ret (v := .tuple #[.slice none 0 0, .int .u32 0, .int .i64 4]) (by simp [results, Try.results39, go_sem]) rfl ?_
      exact RPost.err K2.out
    · have hEb : ((E : Int) == 0) = false := by simp; omega
      have c5 := B7.out.cell 5
      simp only [List.getElem?_toArray, List.getElem?_cons_succ, List.getElem?_cons_zero] at c5
      by_cases hLa : 64 * (ar : Int) < (L : Int)
      · have hq2 := hq.out
        rw [if_neg hE0, if_pos (by omega)] at hq2
        subst hq2
        clear hq
        go_wp2_with fail
        refine bodyPost_ret (v := .tuple #[.slice none 0 0, .int .u32 0, .int .i64 17]) (by simp [results, Try.results39, go_sem]) rfl ?_
        exact RPost.err K2.out
      · have hq2 := hq.out
        rw [if_neg hE0, if_neg (by omega)] at hq2
        replace hq := Lib.hid hq2
        have hLb : decide (64 * (ar : Int) < (L : Int)) = false := decide_eq_false hLa
        clear hq2
        have hi5 := Lib.hid info5
        go_wp2_with fail
        clear c5
        have hM0 : Hid ((wO.alloc (.cells #[] 5)).ownsRow wO.heap.size 5 1 (.slice (some ⟨wO.heap.size, 0, none⟩) 0 0) (64 * 0) ((cat s a0 0).map bv)) := Lib.hid (World.ownsRow_made wO #[] 0 (Nat.le_refl _) (by simp [maxLen]) (by simp))
        have hK0 : Hid (Keeps [] wO (wO.alloc (.cells #[] 5))) := Lib.hid ((Keeps.refl [] wO).alloc _)
        obtain ⟨gO, hgO0⟩ : ∃ g, g = wO.heap.size := ⟨_, rfl⟩
        rw [← hgO0] at hM0
        have hsO : Hid (wO.heap.size ≤ gO) := Lib.hid (Nat.le_of_eq hgO0.symm)
        have hgO1 := Lib.hid hgO0
        rw [← hgO0]
        clear hgO0
        have hLar : L ≤ 64 * ar := by omega
        go_loopw [11, 12] (fun ov iv wr => ∃ i : Nat, iv = .int .i64 i ∧ i ≤ ar ∧ Hid (wr.ownsRow gO 5 1 ov (64 * i) ((cat s a0 i).map bv)) ∧ Hid (Keeps [] wO wr)) (fun _ iv _ => ar - (intOf iv).toNat)
        case atStart => exact ⟨0, rfl, Nat.zero_le _, hM0, hK0⟩
        case round =>
          obtain ⟨i, rfl, hi, ho, hkw⟩ := hrel
          obtain ⟨Ao, co, rfl, hco, hcm⟩ := own_slice5 ho.out
          have hKr := Lib.hid (K2.out.trans hkw.out)
          have c5 := (B7.out.keep hkw.out (by simp)).cell 5
          simp only [List.getElem?_toArray, List.getElem?_cons_succ, List.getElem?_cons_zero] at c5
          by_cases hlt : i < ar
          · have hli : (i : Int) < (ar : Int) := by omega
            have hai : a0 + i < nn := by omega
            obtain ⟨gs, cs, x3, hcs64, _, hbs0, _⟩ := HSl.out _ K2.out (a0 + i) hai
            have x1 := (B7.out.cell (3 + r)).trans hq5.out
            have x2 := HS
            have hbs := hbs0.keep hkw.out.drew (by simp)
            clear hbs0
            have hsl := sec_len0 hmem.out (i := a0 + i) (by have := hnn0.out; omega)
            have hcs := cat_succ s i a0
            have hcl := cat_len hmem.out i a0 (by have := hnn0.out; omega)
            generalize hb0 : sec s (a0 + i) = b0 at *
            have h0 : wr.drew.cell? ⟨g7, 3 + r, none⟩ = some (.int .i64 (a0 : Nat)) ∧ wr.drew.cell? ⟨bm, 0, none⟩ = some (.slice (some ⟨bS, 0, none⟩) nn cap) ∧ wr.drew.cell? ⟨bS, a0 + i, none⟩ = some (.slice (some ⟨gs, 0, none⟩) 64 cs) := ⟨hkw.out.drew.cellEq x1 (by simp), hkw.out.drew.cellEq x2 (by simp), hkw.out.drew.cellEq x3 (by simp)⟩
            replace x1 := Lib.hid x1
            replace x2 := Lib.hid x2
            replace x3 := Lib.hid x3
            replace hbs := Lib.hid hbs
            replace hsl := Lib.hid hsl
            replace hcs := Lib.hid hcs
            replace hcl := Lib.hid hcl
            replace hb0 := Lib.hid hb0
            have h64 : Hid (64 * i + 64 = 64 * (i + 1)) := Lib.hid (by omega)
            have hgO : Hid (gO ≤ wr.heap.size) := Lib.hid (by have := hkw.out.size; have := hgO1.out; omega)
            have ew4 : IntKind.i64.wrap ((a0 : Int) + (i : Int)) = (a0 : Int) + (i : Int) := IntWalk.i64_in _ (by omega)
            go_wp2_with fail
            refine wp_region_I (S := (fun w' : World => w'.cell? ⟨g7, 3 + r, none⟩ = some (.int .i64 (a0 : Nat)) ∧ w'.cell? ⟨bm, 0, none⟩ = some (.slice (some ⟨bS, 0, none⟩) nn cap) ∧ w'.cell? ⟨bS, a0 + i, none⟩ = some (.slice (some ⟨gs, 0, none⟩) 64 cs))) (n := 15) (by kernel_rfl) ?_
            have HS := h0
            clear h0
            refine wpAnyI_takeN (i := 0) (v := ?_) (by kernel_rfl) rfl (by kernel_rfl) (by kernel_rfl) (by kernel_rfl) (fun _ _ _ h => h) HS (Or.inl ⟨by rfl, ?_⟩) ?_
            rotate_left
            · (intro w hSw; obtain ⟨z1, z2, z3⟩ := hSw; go_simp; try with_reducible rfl)
            try simp only [Act.put, List.getElem_toArray, List.getElem_cons_succ, List.getElem_cons_zero, List.setIfInBounds_toArray, List.set_cons_zero, List.set_cons_succ]
            refine wpAnyI_takeN (i := 1) (v := ?_) (by kernel_rfl) rfl (by kernel_rfl) (by kernel_rfl) (by kernel_rfl) (fun _ _ _ h => h) HS (Or.inl ⟨by rfl, ?_⟩) ?_
            rotate_left
            · (intro w hSw; obtain ⟨z1, z2, z3⟩ := hSw; go_simp; try with_reducible rfl)
            try simp only [Act.put, List.getElem_toArray, List.getElem_cons_succ, List.getElem_cons_zero, List.setIfInBounds_toArray, List.set_cons_zero, List.set_cons_succ]
            refine wpAnyI_takeN (i := 2) (v := ?_) (by kernel_rfl) rfl (by kernel_rfl) (by kernel_rfl) (by kernel_rfl) (fun _ _ _ h => h) HS (Or.inl ⟨by rfl, ?_⟩) ?_
            rotate_left
            · (intro w hSw; obtain ⟨z1, z2, z3⟩ := hSw; go_simp; try with_reducible rfl)
            try simp only [Act.put, List.getElem_toArray, List.getElem_cons_succ, List.getElem_cons_zero, List.setIfInBounds_toArray, List.set_cons_zero, List.set_cons_succ]
            refine wpAnyI_takeN (i := 3) (v := ?_) (by kernel_rfl) rfl (by kernel_rfl) (by kernel_rfl) (by kernel_rfl) (fun _ _ _ h => h) HS (Or.inl ⟨by rfl, ?_⟩) ?_
            rotate_left
            · (intro w hSw; obtain ⟨z1, z2, z3⟩ := hSw; go_simp; try with_reducible rfl)
            try simp only [Act.put, List.getElem_toArray, List.getElem_cons_succ, List.getElem_cons_zero, List.setIfInBounds_toArray, List.set_cons_zero, List.set_cons_succ]
            refine wpAnyI_takeN (i := 4) (v := ?_) (by kernel_rfl) rfl (by kernel_rfl) (by kernel_rfl) (by kernel_rfl) (fun _ _ _ h => h) HS (Or.inl ⟨by rfl, ?_⟩) ?_
            rotate_left
            · (intro w hSw; obtain ⟨z1, z2, z3⟩ := hSw; go_simp; try with_reducible rfl)
            try simp only [Act.put, List.getElem_toArray, List.getElem_cons_succ, List.getElem_cons_zero, List.setIfInBounds_toArray, List.set_cons_zero, List.set_cons_succ]
            refine wpAnyI_takeN (i := 5) (v := ?_) (by kernel_rfl) rfl (by kernel_rfl) (by kernel_rfl) (by kernel_rfl) (fun _ _ _ h => h) HS (Or.inl ⟨by rfl, ?_⟩) ?_
            rotate_left
            · (intro w hSw; obtain ⟨z1, z2, z3⟩ := hSw; go_simp; try with_reducible rfl)
            try simp only [Act.put, List.getElem_toArray, List.getElem_cons_succ, List.getElem_cons_zero, List.setIfInBounds_toArray, List.set_cons_zero, List.set_cons_succ]
            refine wpAnyI_takeN (i := 6) (v := ?_) (by kernel_rfl) rfl (by kernel_rfl) (by kernel_rfl) (by kernel_rfl) (fun _ _ _ h => h) HS (Or.inl ⟨by rfl, ?_⟩) ?_
            rotate_left
            · (intro w hSw; obtain ⟨z1, z2, z3⟩ := hSw; go_simp; try with_reducible rfl)
            try simp only [Act.put, List.getElem_toArray, List.getElem_cons_succ, List.getElem_cons_zero, List.setIfInBounds_toArray, List.set_cons_zero, List.set_cons_succ]
            refine wpAnyI_takeN (i := 7) (v := ?_) (by kernel_rfl) rfl (by kernel_rfl) (by kernel_rfl) (by kernel_rfl) (fun _ _ _ h => h) HS (Or.inl ⟨by rfl, ?_⟩) ?_
            rotate_left
            · (intro w hSw; obtain ⟨z1, z2, z3⟩ := hSw; go_simp; try with_reducible rfl)
            try simp only [Act.put, List.getElem_toArray, List.getElem_cons_succ, List.getElem_cons_zero, List.setIfInBounds_toArray, List.set_cons_zero, List.set_cons_succ]
            refine wpAnyI_takeN (i := 8) (v := ?_) (by kernel_rfl) rfl (by kernel_rfl) (by kernel_rfl) (by kernel_rfl) (fun _ _ _ h => h) HS (Or.inl ⟨by rfl, ?_⟩) ?_
            rotate_left
            · (intro w hSw; obtain ⟨z1, z2, z3⟩ := hSw; go_simp; try with_reducible rfl)
            try simp only [Act.put, List.getElem_toArray, List.getElem_cons_succ, List.getElem_cons_zero, List.setIfInBounds_toArray, List.set_cons_zero, List.set_cons_succ]
            refine wpAnyI_takeN (i := 9) (v := ?_) (by kernel_rfl) rfl (by kernel_rfl) (by kernel_rfl) (by kernel_rfl) (fun _ _ _ h => h) HS (Or.inl ⟨by rfl, ?_⟩) ?_
            rotate_left
            · (intro w hSw; obtain ⟨z1, z2, z3⟩ := hSw; go_simp; try with_reducible rfl)
            try simp only [Act.put, List.getElem_toArray, List.getElem_cons_succ, List.getElem_cons_zero, List.setIfInBounds_toArray, List.set_cons_zero, List.set_cons_succ]
            refine wpAnyI_takeN (i := 10) (v := ?_) (by kernel_rfl) rfl (by kernel_rfl) (by kernel_rfl) (by kernel_rfl) (fun _ _ _ h => h) HS (Or.inl ⟨by rfl, ?_⟩) ?_
            rotate_left
            · (intro w hSw; obtain ⟨z1, z2, z3⟩ := hSw; go_simp; try with_reducible rfl)
            try simp only [Act.put, List.getElem_toArray, List.getElem_cons_succ, List.getElem_cons_zero, List.setIfInBounds_toArray, List.set_cons_zero, List.set_cons_succ]
            refine wpAnyI_takeN (i := 11) (v := .pointer (some ⟨bS, a0 + i, none⟩)) (by kernel_rfl) rfl (by kernel_rfl) (by kernel_rfl) (by kernel_rfl) (fun _ _ _ h => h) HS (Or.inl ⟨by rfl, ?_⟩) ?_
            · (intro w hSw; obtain ⟨z1, z2, z3⟩ := hSw; go_simp; rw [if_pos ⟨by omega, by omega⟩, show ((a0 : Int) + (i : Int)).toNat = a0 + i by omega])
            try simp only [Act.put, List.getElem_toArray, List.getElem_cons_succ, List.getElem_cons_zero, List.setIfInBounds_toArray, List.set_cons_zero, List.set_cons_succ]
            refine wpAnyI_takeN (i := 12) (v := ?_) (by kernel_rfl) rfl (by kernel_rfl) (by kernel_rfl) (by kernel_rfl) (fun _ _ _ h => h) HS (Or.inl ⟨by rfl, ?_⟩) ?_
            rotate_left
            · (intro w hSw; obtain ⟨z1, z2, z3⟩ := hSw; go_simp; try with_reducible rfl)
            try simp only [Act.put, List.getElem_toArray, List.getElem_cons_succ, List.getElem_cons_zero, List.setIfInBounds_toArray, List.set_cons_zero, List.set_cons_succ]
            refine wpAnyI_one (i := 13) rfl (by kernel_rfl) (fun K hK => ?_)
            dsimp only [List.getElem_toArray, List.getElem_cons_succ, List.getElem_cons_zero]
            rw [if_pos (by rfl)]
            refine wp_append_bts (.tmp 53) (.tmp 65) 35 (by rfl) gO 5 Try.underlying35 hi5.out (.slice Ao (64 * i) co) (cat s a0 i) b0 (by rfl) (by rw [hcl.out]; exact ho.out) (some ⟨gs, 0, none⟩) 64 cs (by rfl) hsl.out hbs.out (by rw [hcl.out, hsl.out]; omega) (show gO ≤ wr.heap.size from hgO.out) ?_
            rw [hcl.out, ← hcs.out, h64.out]
            intro A' c' w4 G1 G2 G3
            have k4 : Hid (Keeps [] wO w4) := Lib.hid (hkw.out.drew.over hsO.out (below_grown (w := wr.drew) (show wr.drew.ownsRow gO 5 1 _ _ _ from ho.out) hgO.out G2.out))
            have HS : w4.cell? ⟨g7, 3 + r, none⟩ = some (.int .i64 (a0 : Nat)) ∧ w4.cell? ⟨bm, 0, none⟩ = some (.slice (some ⟨bS, 0, none⟩) nn cap) ∧ w4.cell? ⟨bS, a0 + i, none⟩ = some (.slice (some ⟨gs, 0, none⟩) 64 cs) :=
              ⟨k4.out.cellEq x1.out (by simp), k4.out.cellEq x2.out (by simp), k4.out.cellEq x3.out (by simp)⟩
            clear G2 G3
            refine hK _ _ (Or.inr HS) ?_
            clear hK K
            try simp only [Act.put, List.getElem_toArray, List.getElem_cons_succ, List.getElem_cons_zero, List.setIfInBounds_toArray, List.set_cons_zero, List.set_cons_succ]
            refine wpAnyI_takeN (i := 14) (v := ?_) (by kernel_rfl) rfl (by kernel_rfl) (by kernel_rfl) (by kernel_rfl) (fun _ _ _ h => h) HS (Or.inl ⟨by rfl, ?_⟩) ?_
            rotate_left
            · (intro w hSw; obtain ⟨z1, z2, z3⟩ := hSw; go_simp; try with_reducible rfl)
            try simp only [Act.put, List.getElem_toArray, List.getElem_cons_succ, List.getElem_cons_zero, List.setIfInBounds_toArray, List.set_cons_zero, List.set_cons_succ]
            refine wpAnyI_done (by kernel_rfl) ?_ _
            clear HS
            go_wp2_with fail
            go_roundw
            case rel => exact ⟨i + 1, by go_num, by omega, G1, k4⟩
            case measure => simp [intOf]; omega
          · obtain rfl : i = ar := by omega
            have hli : ¬ (i : Int) < (i : Int) := by omega
            have hop := own_le (own_prefix ho.out hLar) (show w.heap.size ≤ gO by have := K2.out.size; have := hgO1.out; omega)
            generalize hOO : (cat s a0 i).take L = OO at *
            obtain ⟨hBO, hOl, _, _, _⟩ := own_bts hop
            have hLc : L ≤ co := by omega
            have hLci : (L : Int) ≤ (co : Int) := by omega
            have hL0 : (0 : Int) ≤ (L : Int) := by omega
            have HSm := Lib.hid (rsum_any wr.drew Ao OO L co (show Bts wr.drew Ao OO from hBO) hOl (by omega))
            have h0 : wr.drew.cell? ⟨bm, 0, none⟩ = some (.slice (some ⟨bS, 0, none⟩) nn cap) := hkw.out.cellEq HS (by simp)
            replace hbh : Hid (Bts wr.drew (some ⟨gh, 0, none⟩) H) := Lib.hid (hbh.out.keep hkw.out.drew (by simp))
            replace hop := Lib.hid hop
            replace hOl := Lib.hid hOl
            replace hOO := Lib.hid hOO
            have e4 : IntKind.u32.wrap (E : Int) = E := IntWalk.u32_in _ (by omega)
            clear ho hBO HS
            generalize hcc : crc OO = CC at *
            by_cases hcrc : CC = SS
            · have hq2 := hq.out
              rw [if_neg (by simp [hcrc])] at hq2
              subst hq2
              clear hq
              go_wp2_with fail
              refine wp_region_I (S := (fun w' : World => w'.cell? ⟨bm, 0, none⟩ = some (.slice (some ⟨bS, 0, none⟩) nn cap))) (n := 6) (by kernel_rfl) ?_
              have HS := h0
              clear h0
              refine wpAnyI_takeN (i := 0) (v := ?_) (by kernel_rfl) rfl (by kernel_rfl) (by kernel_rfl) (by kernel_rfl) (fun _ _ _ h => h) HS (Or.inl ⟨by rfl, ?_⟩) ?_
              rotate_left
              · (intro w hSw; obtain z1 := hSw; go_simp; try with_reducible rfl)
              try simp only [Act.put, List.getElem_toArray, List.getElem_cons_succ, List.getElem_cons_zero, List.setIfInBounds_toArray, List.set_cons_zero, List.set_cons_succ]
              refine wpAnyI_takeN (i := 2) (v := ?_) (by kernel_rfl) rfl (by kernel_rfl) (by kernel_rfl) (by kernel_rfl) (fun _ _ _ h => h) HS (Or.inl ⟨by rfl, ?_⟩) ?_
              rotate_left
              · (intro w hSw; obtain z1 := hSw; go_simp; try with_reducible rfl)
              try simp only [Act.put, List.getElem_toArray, List.getElem_cons_succ, List.getElem_cons_zero, List.setIfInBounds_toArray, List.set_cons_zero, List.set_cons_succ]
              refine wpAnyI_takeN (i := 3) (v := .slice (some ⟨gh, 8, none⟩) 8 (ch - 8)) (by kernel_rfl) rfl (by kernel_rfl) (by kernel_rfl) (by kernel_rfl) (fun _ _ _ h => h) HS (Or.inl ⟨by rfl, ?_⟩) ?_
              · (intro w hSw; obtain z1 := hSw; go_simp; all_goals (first | (intro hh; exfalso; omega) | (simp; done) | omega))
              try simp only [Act.put, List.getElem_toArray, List.getElem_cons_succ, List.getElem_cons_zero, List.setIfInBounds_toArray, List.set_cons_zero, List.set_cons_succ]
              refine wpAnyI_one (i := 1) rfl (by kernel_rfl) (fun K hK => ?_)
              dsimp only [List.getElem_toArray, List.getElem_cons_succ, List.getElem_cons_zero]
              go_simp
              refine HSm.out.mono ?_
              rintro e w4 ⟨rfl, rfl⟩
              refine hK _ _ (Or.inr HS) ?_
              clear hK K
              try simp only [Act.put, List.getElem_toArray, List.getElem_cons_succ, List.getElem_cons_zero, List.setIfInBounds_toArray, List.set_cons_zero, List.set_cons_succ]
              refine wpAnyI_one (i := 4) rfl (by kernel_rfl) (fun K hK => ?_)
              dsimp only [List.getElem_toArray, List.getElem_cons_succ, List.getElem_cons_zero]
              go_simp
              refine (HV3.out _ hbh.out).mono ?_
              rintro e w4 ⟨rfl, rfl⟩
              refine hK _ _ (Or.inr HS) ?_
              clear hK K
              try simp only [Act.put, List.getElem_toArray, List.getElem_cons_succ, List.getElem_cons_zero, List.setIfInBounds_toArray, List.set_cons_zero, List.set_cons_succ]
              refine wpAnyI_takeN (i := 5) (v := .bool false) (by kernel_rfl) rfl (by kernel_rfl) (by kernel_rfl) (by kernel_rfl) (fun _ _ _ h => h) HS (Or.inl ⟨by rfl, ?_⟩) ?_
              · (intro w hSw; obtain z1 := hSw; go_simp; (try (simp [hcrc]; done)); all_goals omega)
              try simp only [Act.put, List.getElem_toArray, List.getElem_cons_succ, List.getElem_cons_zero, List.setIfInBounds_toArray, List.set_cons_zero, List.set_cons_succ]
              refine wpAnyI_done (by kernel_rfl) ?_ _
              go_wp2_with fail
              refine bodyPost_ret (v := .tuple #[.slice Ao L co, .int .u32 (E : Int), .int .i64 0]) (by simp [results, Try.results39, go_sem]) rfl ?_
              unfold RPost
              rw [hOl.out]
              exact ⟨Ao, co, rfl, hop.out, hKr.out.drew⟩
            · have hq2 := hq.out
              rw [if_pos hcrc] at hq2
              subst hq2
              clear hq
              go_wp2_with fail
              refine wp_region_I (S := (fun w' : World => w'.cell? ⟨bm, 0, none⟩ = some (.slice (some ⟨bS, 0, none⟩) nn cap))) (n := 6) (by kernel_rfl) ?_
              have HS := h0
              clear h0
              refine wpAnyI_takeN (i := 0) (v := ?_) (by kernel_rfl) rfl (by kernel_rfl) (by kernel_rfl) (by kernel_rfl) (fun _ _ _ h => h) HS (Or.inl ⟨by rfl, ?_⟩) ?_
              rotate_left
              · (intro w hSw; obtain z1 := hSw; go_simp; try with_reducible rfl)
              try simp only [Act.put, List.getElem_toArray, List.getElem_cons_succ, List.getElem_cons_zero, List.setIfInBounds_toArray, List.set_cons_zero, List.set_cons_succ]
              refine wpAnyI_takeN (i := 2) (v := ?_) (by kernel_rfl) rfl (by kernel_rfl) (by kernel_rfl) (by kernel_rfl) (fun _ _ _ h => h) HS (Or.inl ⟨by rfl, ?_⟩) ?_
              rotate_left
              · (intro w hSw; obtain z1 := hSw; go_simp; try with_reducible rfl)
              try simp only [Act.put, List.getElem_toArray, List.getElem_cons_succ, List.getElem_cons_zero, List.setIfInBounds_toArray, List.set_cons_zero, List.set_cons_succ]
              refine wpAnyI_takeN (i := 3) (v := .slice (some ⟨gh, 8, none⟩) 8 (ch - 8)) (by kernel_rfl) rfl (by kernel_rfl) (by kernel_rfl) (by kernel_rfl) (fun _ _ _ h => h) HS (Or.inl ⟨by rfl, ?_⟩) ?_
              · (intro w hSw; obtain z1 := hSw; go_simp; all_goals (first | (intro hh; exfalso; omega) | (simp; done) | omega))
              try simp only [Act.put, List.getElem_toArray, List.getElem_cons_succ, List.getElem_cons_zero, List.setIfInBounds_toArray, List.set_cons_zero, List.set_cons_succ]
              refine wpAnyI_one (i := 1) rfl (by kernel_rfl) (fun K hK => ?_)
              dsimp only [List.getElem_toArray, List.getElem_cons_succ, List.getElem_cons_zero]
              go_simp
              refine HSm.out.mono ?_
              rintro e w4 ⟨rfl, rfl⟩
              refine hK _ _ (Or.inr HS) ?_
              clear hK K
              try simp only [Act.put, List.getElem_toArray, List.getElem_cons_succ, List.getElem_cons_zero, List.setIfInBounds_toArray, List.set_cons_zero, List.set_cons_succ]
              refine wpAnyI_one (i := 4) rfl (by kernel_rfl) (fun K hK => ?_)
              dsimp only [List.getElem_toArray, List.getElem_cons_succ, List.getElem_cons_zero]
              go_simp
              refine (HV3.out _ hbh.out).mono ?_
              rintro e w4 ⟨rfl, rfl⟩
              refine hK _ _ (Or.inr HS) ?_
              clear hK K
              try simp only [Act.put, List.getElem_toArray, List.getElem_cons_succ, List.getElem_cons_zero, List.setIfInBounds_toArray, List.set_cons_zero, List.set_cons_succ]
              refine wpAnyI_takeN (i := 5) (v := .bool true) (by kernel_rfl) rfl (by kernel_rfl) (by kernel_rfl) (by kernel_rfl) (fun _ _ _ h => h) HS (Or.inl ⟨by rfl, ?_⟩) ?_
              · (intro w hSw; obtain z1 := hSw; go_simp; (try (simp [hcrc]; done)); all_goals omega)
              try simp only [Act.put, List.getElem_toArray, List.getElem_cons_succ, List.getElem_cons_zero, List.setIfInBounds_toArray, List.set_cons_zero, List.set_cons_succ]
              refine wpAnyI_done (by kernel_rfl) ?_ _
              go_wp2_with fail
              refine bodyPost_ret (v := .tuple #[.slice none 0 0, .int .u32 0, .int .i64 17]) (by simp [results, Try.results39, go_sem]) rfl ?_
              exact RPost.err hKr.out.drew
  · have HO := Lib.hid (rbegin_bad w bm bS s hD hb)
    have hq : sread s = ([], 0, bad s) := by unfold sread; rw [if_pos hb]
    rw [hq]
    have hbb : (bad s != 0) = true := by simp [hb]
    generalize bad s = x at *
    clear hD hq hb
    go_enter Try.func39, Try.ntmps39
    go_wp2_with fail
    refine HO.out.mono ?_
    rintro e w1 ⟨V, ⟨a0, a1, a2, a3, a4, a5, a6, a7, rfl⟩, rfl, k1⟩
    have k2 := Lib.hid (k1.alloc (.cells #[.int .i64 a0, .int .i64 a1, .int .i64 a2, .int .i64 a3, .int .i64 a4, .int .i64 a5, .int .i64 a6, .int .i64 a7] 28))
    clear HO k1
    go_wp2_with fail
    refine bodyPost_ret (v := .tuple #[.slice none 0 0, .int .u32 0, .int .i64 x]) (by simp [results, Try.results39, go_sem]) rfl ?_
    exact RPost.err k2.out
end Go.Proofs.Ytoefbjeclghfhaa
