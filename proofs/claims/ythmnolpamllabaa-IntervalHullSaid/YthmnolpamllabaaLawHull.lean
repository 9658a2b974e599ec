/- The walk of the statement IntervalHull. -/
import Derived.Test.YthmnolpamllabaaIvArgs
import Derived.Test.YthmnolpamllabaaReg3
namespace Go.Proofs.Ythmnolpamllabaa
open Go.RowKit
set_option linter.unusedSimpArgs false
set_option linter.unusedVariables false

set_option maxHeartbeats 3200000 in
set_option maxRecDepth 100000 in
theorem law_hull (w : World) (A : Option Addr) (c : Nat) (l : List Iv) (hO : IvAt w w.heap.size A l) (h64 : All64 l) :
    Calls Try.prog 7 #[.slice A l.length c] w fun e w' => e = .returned (.bool true) ∧ Keeps [] w w' := by
  replace hO := Lib.hid hO
  replace h64 := Lib.hid h64
  by_cases hn : l.length ≤ 30
  · have hd : decide (l.length ≤ 30) = true := decide_eq_true hn
    go_enter Try.func7, Try.ntmps7
    go_wp2_with fail
    refine (awake_any w).mono ?_
    rintro e w1 ⟨rfl, k1⟩
    replace k1 := Lib.hid k1
    go_wp2_with fail
    refine (few_any w1 A l.length c).mono ?_
    rintro e w2 ⟨rfl, rfl⟩
    rw [hd]
    go_wp2_with fail
    refine (rof_got w1 w.heap.size A c l k1.out.size (hO.out.keep k1.out (by simp)) h64.out (by omega)).mono ?_
    rintro e w2 ⟨out, hi, A2, c2, rfl, o2, n2, k2⟩
    replace k2 := Lib.hid (k1.out.trans k2.out)
    have hf : Hid (out.length ≤ 30) := Lib.hid (by have := hi.out.few; omega)
    clear k1 n2
    go_wp2_with fail
    refine (to_got w2 w2.heap.size A2 c2 out (Nat.le_refl _) (IvAt.of_own o2.out rfl) (by have := hf.out; omega)).mono ?_
    rintro e w3 ⟨A3, c3, rfl, o3, n3, k3⟩
    replace o2 := Lib.hid (own_keep0 o2.out k3.out)
    replace k3 := Lib.hid (k2.out.trans k3.out)
    clear n3 k2
    rcases ho : out with _ | ⟨⟨x1, x2⟩, r⟩
    · subst ho
      go_wp2_with fail
      refine (hull_nil w3 A3 c3).mono ?_
      rintro e w4 ⟨rfl, k4⟩
      replace k4 := Lib.hid ((k3.out.trans k4).alloc (.cells #[.int .i64 0, .int .i64 0] 39))
      go_wp2_with fail
      go_ret
      exact ⟨rfl, k4.out⟩
    · obtain ⟨q, hq⟩ : ∃ q, out.length = q + 1 := ⟨r.length, by rw [ho]; rfl⟩
      have hx : out[0]? = some (x1, x2) := by rw [ho]; rfl
      obtain ⟨⟨z1, z2⟩, hz⟩ : ∃ z, out[q]? = some z := ⟨out[q]'(by omega), List.getElem?_eq_getElem _⟩
      rw [← ho]
      rw [hq] at o2 o3 hf ⊢
      obtain ⟨gr, co', hv, _, _, _, _, hcells, curo, hBo⟩ := own_row o2.out (by omega)
      injection hv with hA _ hc
      subst hA hc
      have c0 := hcells _ _ (flat_get out 0 _ hx).1
      have c1 := hcells _ _ (flat_get out q _ hz).2
      dsimp only at c0 c1
      have HH := Lib.hid (hull_any w3 w3.heap.size A3 out q c3 x1 x2 z1 z2 hq (Nat.le_refl _) (IvAt.of_own o3.out hq) hx hz (by have := hf.out; omega))
      have hq1 : Hid (IntKind.i64.wrap ((q : Int) + 1 - 1) = (q : Int)) := Lib.hid (by have := hf.out; rw [IntWalk.i64_in _ (by omega)]; omega)
      have hq0 : Hid (IntKind.i64.wrap (q : Int) = (q : Int)) := Lib.hid (by have := hf.out; exact IntWalk.i64_in _ (by omega))
      have hqn : (q : Int) < (q : Int) + 1 := by omega
      have hqp : (0 : Int) < (q : Int) + 1 := by omega
      have hq0n : (0 : Int) ≤ (q : Int) := by omega
      have hqe : ¬ ((q : Int) + 1 = 0) := by omega
      have hqb : (((q : Int) + 1) == 0) = false := by simpa using hqe
      replace hq := Lib.hid hq
      replace ho := Lib.hid ho
      replace hx := Lib.hid hx
      replace hz := Lib.hid hz
      clear hcells hBo o3
      rw [Nat.zero_mul] at c0
      go_wp2_with fail
      refine HH.out.mono ?_
      rintro e w4 ⟨rfl, k4⟩
      have B4 := Lib.hid (Blk.new w4 39 #[.int .i64 x1, .int .i64 z2])
      have ka : Keeps [] w3 (w4.alloc (.cells #[.int .i64 x1, .int .i64 z2] 39)) := k4.alloc _
      have d0 := ka.cellEq c0 (by simp)
      have d1 := ka.cellEq c1 (by simp)
      have kk := Lib.hid (k3.out.trans ka)
      clear k4 ka c0 c1 HH o2
      go_wp2_with fail
      generalize w4.alloc (.cells #[.int .i64 x1, .int .i64 z2] 39) = wy at *
      generalize w4.heap.size = g4 at *
      have h0 := And.intro (And.intro (B4.out.drew.cell 0) (B4.out.drew.cell 1)) (And.intro d0 d1 : wy.drew.cell? ⟨gr, 0, none⟩ = some (.int .i64 x1) ∧ wy.drew.cell? ⟨gr, q * 2 + 1, none⟩ = some (.int .i64 z2))
      simp only [List.getElem?_toArray, List.getElem?_cons_succ, List.getElem?_cons_zero] at h0
      have Kd := Lib.hid kk.out.drew
      clear B4 d0 d1 kk
      refine wp_region_I (S := (fun w' : World => (w'.cell? ⟨g4, 0, none⟩ = some (.int .i64 x1) ∧ w'.cell? ⟨g4, 1, none⟩ = some (.int .i64 z2)) ∧ (w'.cell? ⟨gr, 0, none⟩ = some (.int .i64 x1) ∧ w'.cell? ⟨gr, q * 2 + 1, none⟩ = some (.int .i64 z2)))) (n := 23) (by kernel_rfl) ?_
      generalize wy.drew = wb at *
      have HS := h0
      clear h0
      refine wpAnyI_takeN (i := 0) (v := ?_) (by kernel_rfl) rfl (by kernel_rfl) (by kernel_rfl) (by kernel_rfl) (fun _ _ _ h => h) HS (Or.inl ⟨by rfl, ?_⟩) ?_
      rotate_left
      · (intro w hSw; obtain ⟨⟨y1, y2⟩, ⟨y3, y4⟩⟩ := hSw; go_simp; try with_reducible rfl)
      try simp only [Act.put, List.getElem_toArray, List.getElem_cons_succ, List.getElem_cons_zero, List.setIfInBounds_toArray, List.set_cons_zero, List.set_cons_succ]
      refine wpAnyI_takeN (i := 1) (v := ?_) (by kernel_rfl) rfl (by kernel_rfl) (by kernel_rfl) (by kernel_rfl) (fun _ _ _ h => h) HS (Or.inl ⟨by rfl, ?_⟩) ?_
      rotate_left
      · (intro w hSw; obtain ⟨⟨y1, y2⟩, ⟨y3, y4⟩⟩ := hSw; go_simp; try with_reducible rfl)
      try simp only [Act.put, List.getElem_toArray, List.getElem_cons_succ, List.getElem_cons_zero, List.setIfInBounds_toArray, List.set_cons_zero, List.set_cons_succ]
      refine wpAnyI_takeN (i := 2) (v := ?_) (by kernel_rfl) rfl (by kernel_rfl) (by kernel_rfl) (by kernel_rfl) (fun _ _ _ h => h) HS (Or.inl ⟨by rfl, ?_⟩) ?_
      rotate_left
      · (intro w hSw; obtain ⟨⟨y1, y2⟩, ⟨y3, y4⟩⟩ := hSw; go_simp; try with_reducible rfl)
      try simp only [Act.put, List.getElem_toArray, List.getElem_cons_succ, List.getElem_cons_zero, List.setIfInBounds_toArray, List.set_cons_zero, List.set_cons_succ]
      refine wpAnyI_takeN (i := 3) (v := ?_) (by kernel_rfl) rfl (by kernel_rfl) (by kernel_rfl) (by kernel_rfl) (fun _ _ _ h => h) HS (Or.inl ⟨by rfl, ?_⟩) ?_
      rotate_left
      · (intro w hSw; obtain ⟨⟨y1, y2⟩, ⟨y3, y4⟩⟩ := hSw; go_simp; try with_reducible rfl)
      try simp only [Act.put, List.getElem_toArray, List.getElem_cons_succ, List.getElem_cons_zero, List.setIfInBounds_toArray, List.set_cons_zero, List.set_cons_succ]
      refine wpAnyI_takeN (i := 4) (v := ?_) (by kernel_rfl) rfl (by kernel_rfl) (by kernel_rfl) (by kernel_rfl) (fun _ _ _ h => h) HS (Or.inl ⟨by rfl, ?_⟩) ?_
      rotate_left
      · (intro w hSw; obtain ⟨⟨y1, y2⟩, ⟨y3, y4⟩⟩ := hSw; go_simp; try with_reducible rfl)
      try simp only [Act.put, List.getElem_toArray, List.getElem_cons_succ, List.getElem_cons_zero, List.setIfInBounds_toArray, List.set_cons_zero, List.set_cons_succ]
      refine wpAnyI_takeN (i := 5) (v := .pointer (some ⟨gr, 0, none⟩)) (by kernel_rfl) rfl (by kernel_rfl) (by kernel_rfl) (by kernel_rfl) (fun _ _ _ h => h) HS (Or.inl ⟨by rfl, ?_⟩) ?_
      · (intro w hSw; obtain ⟨⟨y1, y2⟩, ⟨y3, y4⟩⟩ := hSw; go_simp; all_goals (first | (intro hh; exfalso; omega) | omega))
      try simp only [Act.put, List.getElem_toArray, List.getElem_cons_succ, List.getElem_cons_zero, List.setIfInBounds_toArray, List.set_cons_zero, List.set_cons_succ]
      refine wpAnyI_takeN (i := 6) (v := ?_) (by kernel_rfl) rfl (by kernel_rfl) (by kernel_rfl) (by kernel_rfl) (fun _ _ _ h => h) HS (Or.inl ⟨by rfl, ?_⟩) ?_
      rotate_left
      · (intro w hSw; obtain ⟨⟨y1, y2⟩, ⟨y3, y4⟩⟩ := hSw; go_simp; try with_reducible rfl)
      try simp only [Act.put, List.getElem_toArray, List.getElem_cons_succ, List.getElem_cons_zero, List.setIfInBounds_toArray, List.set_cons_zero, List.set_cons_succ]
      refine wpAnyI_takeN (i := 7) (v := ?_) (by kernel_rfl) rfl (by kernel_rfl) (by kernel_rfl) (by kernel_rfl) (fun _ _ _ h => h) HS (Or.inl ⟨by rfl, ?_⟩) ?_
      rotate_left
      · (intro w hSw; obtain ⟨⟨y1, y2⟩, ⟨y3, y4⟩⟩ := hSw; go_simp; try with_reducible rfl)
      try simp only [Act.put, List.getElem_toArray, List.getElem_cons_succ, List.getElem_cons_zero, List.setIfInBounds_toArray, List.set_cons_zero, List.set_cons_succ]
      refine wpAnyI_takeN (i := 8) (v := ?_) (by kernel_rfl) rfl (by kernel_rfl) (by kernel_rfl) (by kernel_rfl) (fun _ _ _ h => h) HS (Or.inl ⟨by rfl, ?_⟩) ?_
      rotate_left
      · (intro w hSw; obtain ⟨⟨y1, y2⟩, ⟨y3, y4⟩⟩ := hSw; go_simp; try with_reducible rfl)
      try simp only [Act.put, List.getElem_toArray, List.getElem_cons_succ, List.getElem_cons_zero, List.setIfInBounds_toArray, List.set_cons_zero, List.set_cons_succ]
      refine wpAnyI_takeN (i := 9) (v := ?_) (by kernel_rfl) rfl (by kernel_rfl) (by kernel_rfl) (by kernel_rfl) (fun _ _ _ h => h) HS (Or.inl ⟨by rfl, ?_⟩) ?_
      rotate_left
      · (intro w hSw; obtain ⟨⟨y1, y2⟩, ⟨y3, y4⟩⟩ := hSw; go_simp; try with_reducible rfl)
      try simp only [Act.put, List.getElem_toArray, List.getElem_cons_succ, List.getElem_cons_zero, List.setIfInBounds_toArray, List.set_cons_zero, List.set_cons_succ]
      refine wpAnyI_takeN (i := 10) (v := ?_) (by kernel_rfl) rfl (by kernel_rfl) (by kernel_rfl) (by kernel_rfl) (fun _ _ _ h => h) HS (Or.inl ⟨by rfl, ?_⟩) ?_
      rotate_left
      · (intro w hSw; obtain ⟨⟨y1, y2⟩, ⟨y3, y4⟩⟩ := hSw; go_simp; try with_reducible rfl)
      try simp only [Act.put, List.getElem_toArray, List.getElem_cons_succ, List.getElem_cons_zero, List.setIfInBounds_toArray, List.set_cons_zero, List.set_cons_succ]
      refine wpAnyI_takeN (i := 11) (v := ?_) (by kernel_rfl) rfl (by kernel_rfl) (by kernel_rfl) (by kernel_rfl) (fun _ _ _ h => h) HS (Or.inl ⟨by rfl, ?_⟩) ?_
      rotate_left
      · (intro w hSw; obtain ⟨⟨y1, y2⟩, ⟨y3, y4⟩⟩ := hSw; go_simp; try with_reducible rfl)
      try simp only [Act.put, List.getElem_toArray, List.getElem_cons_succ, List.getElem_cons_zero, List.setIfInBounds_toArray, List.set_cons_zero, List.set_cons_succ]
      refine wpAnyI_takeN (i := 12) (v := ?_) (by kernel_rfl) rfl (by kernel_rfl) (by kernel_rfl) (by kernel_rfl) (fun _ _ _ h => h) HS (Or.inl ⟨by rfl, ?_⟩) ?_
      rotate_left
      · (intro w hSw; obtain ⟨⟨y1, y2⟩, ⟨y3, y4⟩⟩ := hSw; go_simp; try with_reducible rfl)
      try simp only [Act.put, List.getElem_toArray, List.getElem_cons_succ, List.getElem_cons_zero, List.setIfInBounds_toArray, List.set_cons_zero, List.set_cons_succ]
      refine wpAnyI_takeN (i := 13) (v := ?_) (by kernel_rfl) rfl (by kernel_rfl) (by kernel_rfl) (by kernel_rfl) (fun _ _ _ h => h) HS (Or.inl ⟨by rfl, ?_⟩) ?_
      rotate_left
      · (intro w hSw; obtain ⟨⟨y1, y2⟩, ⟨y3, y4⟩⟩ := hSw; go_simp; try with_reducible rfl)
      try simp only [Act.put, List.getElem_toArray, List.getElem_cons_succ, List.getElem_cons_zero, List.setIfInBounds_toArray, List.set_cons_zero, List.set_cons_succ]
      refine wpAnyI_takeN (i := 14) (v := ?_) (by kernel_rfl) rfl (by kernel_rfl) (by kernel_rfl) (by kernel_rfl) (fun _ _ _ h => h) HS (Or.inl ⟨by rfl, ?_⟩) ?_
      rotate_left
      · (intro w hSw; obtain ⟨⟨y1, y2⟩, ⟨y3, y4⟩⟩ := hSw; go_simp; try with_reducible rfl)
      try simp only [Act.put, List.getElem_toArray, List.getElem_cons_succ, List.getElem_cons_zero, List.setIfInBounds_toArray, List.set_cons_zero, List.set_cons_succ]
      refine wpAnyI_takeN (i := 15) (v := ?_) (by kernel_rfl) rfl (by kernel_rfl) (by kernel_rfl) (by kernel_rfl) (fun _ _ _ h => h) HS (Or.inl ⟨by rfl, ?_⟩) ?_
      rotate_left
      · (intro w hSw; obtain ⟨⟨y1, y2⟩, ⟨y3, y4⟩⟩ := hSw; go_simp; try with_reducible rfl)
      try simp only [Act.put, List.getElem_toArray, List.getElem_cons_succ, List.getElem_cons_zero, List.setIfInBounds_toArray, List.set_cons_zero, List.set_cons_succ]
      refine wpAnyI_takeN (i := 16) (v := .int .i64 (q : Nat)) (by kernel_rfl) rfl (by kernel_rfl) (by kernel_rfl) (by kernel_rfl) (fun _ _ _ h => h) HS (Or.inl ⟨by rfl, ?_⟩) ?_
      · (intro w hSw; obtain ⟨⟨y1, y2⟩, ⟨y3, y4⟩⟩ := hSw; go_simp; first | rw [hq1.out] | rw [hq0.out])
      try simp only [Act.put, List.getElem_toArray, List.getElem_cons_succ, List.getElem_cons_zero, List.setIfInBounds_toArray, List.set_cons_zero, List.set_cons_succ]
      refine wpAnyI_takeN (i := 17) (v := .pointer (some ⟨gr, q * 2, none⟩)) (by kernel_rfl) rfl (by kernel_rfl) (by kernel_rfl) (by kernel_rfl) (fun _ _ _ h => h) HS (Or.inl ⟨by rfl, ?_⟩) ?_
      · (intro w hSw; obtain ⟨⟨y1, y2⟩, ⟨y3, y4⟩⟩ := hSw; go_simp; all_goals (first | (intro hh; exfalso; omega) | omega))
      try simp only [Act.put, List.getElem_toArray, List.getElem_cons_succ, List.getElem_cons_zero, List.setIfInBounds_toArray, List.set_cons_zero, List.set_cons_succ]
      refine wpAnyI_takeN (i := 18) (v := ?_) (by kernel_rfl) rfl (by kernel_rfl) (by kernel_rfl) (by kernel_rfl) (fun _ _ _ h => h) HS (Or.inl ⟨by rfl, ?_⟩) ?_
      rotate_left
      · (intro w hSw; obtain ⟨⟨y1, y2⟩, ⟨y3, y4⟩⟩ := hSw; go_simp; try with_reducible rfl)
      try simp only [Act.put, List.getElem_toArray, List.getElem_cons_succ, List.getElem_cons_zero, List.setIfInBounds_toArray, List.set_cons_zero, List.set_cons_succ]
      refine wpAnyI_takeN (i := 19) (v := ?_) (by kernel_rfl) rfl (by kernel_rfl) (by kernel_rfl) (by kernel_rfl) (fun _ _ _ h => h) HS (Or.inl ⟨by rfl, ?_⟩) ?_
      rotate_left
      · (intro w hSw; obtain ⟨⟨y1, y2⟩, ⟨y3, y4⟩⟩ := hSw; go_simp; try with_reducible rfl)
      try simp only [Act.put, List.getElem_toArray, List.getElem_cons_succ, List.getElem_cons_zero, List.setIfInBounds_toArray, List.set_cons_zero, List.set_cons_succ]
      refine wpAnyI_takeN (i := 20) (v := ?_) (by kernel_rfl) rfl (by kernel_rfl) (by kernel_rfl) (by kernel_rfl) (fun _ _ _ h => h) HS (Or.inl ⟨by rfl, ?_⟩) ?_
      rotate_left
      · (intro w hSw; obtain ⟨⟨y1, y2⟩, ⟨y3, y4⟩⟩ := hSw; go_simp; try with_reducible rfl)
      try simp only [Act.put, List.getElem_toArray, List.getElem_cons_succ, List.getElem_cons_zero, List.setIfInBounds_toArray, List.set_cons_zero, List.set_cons_succ]
      refine wpAnyI_takeN (i := 21) (v := ?_) (by kernel_rfl) rfl (by kernel_rfl) (by kernel_rfl) (by kernel_rfl) (fun _ _ _ h => h) HS (Or.inl ⟨by rfl, ?_⟩) ?_
      rotate_left
      · (intro w hSw; obtain ⟨⟨y1, y2⟩, ⟨y3, y4⟩⟩ := hSw; go_simp; try with_reducible rfl)
      try simp only [Act.put, List.getElem_toArray, List.getElem_cons_succ, List.getElem_cons_zero, List.setIfInBounds_toArray, List.set_cons_zero, List.set_cons_succ]
      refine wpAnyI_takeN (i := 22) (v := ?_) (by kernel_rfl) rfl (by kernel_rfl) (by kernel_rfl) (by kernel_rfl) (fun _ _ _ h => h) HS (Or.inl ⟨by rfl, ?_⟩) ?_
      rotate_left
      · (intro w hSw; obtain ⟨⟨y1, y2⟩, ⟨y3, y4⟩⟩ := hSw; go_simp; try with_reducible rfl)
      try simp only [Act.put, List.getElem_toArray, List.getElem_cons_succ, List.getElem_cons_zero, List.setIfInBounds_toArray, List.set_cons_zero, List.set_cons_succ]
      refine wpAnyI_done (by kernel_rfl) ?_ _
      go_wp2_with fail
      go_ret
      exact ⟨rfl, Kd.out⟩
  · have hd : decide (l.length ≤ 30) = false := decide_eq_false hn
    go_enter Try.func7, Try.ntmps7
    go_wp2_with fail
    refine (awake_any w).mono ?_
    rintro e w1 ⟨rfl, k1⟩
    replace k1 := Lib.hid k1
    go_wp2_with fail
    refine (few_any w1 A l.length c).mono ?_
    rintro e w2 ⟨rfl, rfl⟩
    rw [hd]
    go_wp2_with fail
    go_ret
    exact ⟨rfl, k1.out⟩
end Go.Proofs.Ythmnolpamllabaa
