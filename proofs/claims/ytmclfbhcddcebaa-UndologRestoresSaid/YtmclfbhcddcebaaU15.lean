/- The order of changes; SortFunc on a row that the call owns. -/
import Derived.Test.YtmclfbhcddcebaaU14
namespace Go.Proofs.Ytmclfbhcddcebaa
open Go.RowKit Go.Shelf Go.Sort
set_option linter.unusedSimpArgs false
set_option linter.unusedVariables false

def cmpI (a b : Int) : Int := if a < b then -1 else if b < a then 1 else 0
set_option maxHeartbeats 800000 in
theorem cmp39 (w : World) (a b : Int) : Calls Try.prog 39 #[.int .i64 a, .int .i64 b] w fun e w' => e = .returned (.int .i64 (cmpI a b)) ∧ w' = w := by
  unfold cmpI
  by_cases h1 : a < b
  · rw [if_pos h1]
    go_enter Try.func39, Try.ntmps39
    go_wp2_with (go_at_call 53; refine (Try.cmp_isNaN_int2 _ _).mono ?_; rintro e w' ⟨rfl, rfl⟩)
    all_goals (go_ret; exact ⟨rfl, rfl⟩)
  · rw [if_neg h1]
    by_cases h2 : b < a
    · rw [if_pos h2]
      go_enter Try.func39, Try.ntmps39
      go_wp2_with (go_at_call 53; refine (Try.cmp_isNaN_int2 _ _).mono ?_; rintro e w' ⟨rfl, rfl⟩)
      all_goals (go_ret; exact ⟨rfl, rfl⟩)
    · rw [if_neg h2]
      go_enter Try.func39, Try.ntmps39
      go_wp2_with (go_at_call 53; refine (Try.cmp_isNaN_int2 _ _).mono ?_; rintro e w' ⟨rfl, rfl⟩)
      all_goals (go_ret; exact ⟨rfl, rfl⟩)
set_option maxHeartbeats 800000 in
theorem cmp40 (w : World) (a b : Int) : Calls Try.prog 40 #[.int .i64 a, .int .i64 b] w fun e w' => e = .returned (.int .i64 (cmpI a b)) ∧ w' = w := by
  unfold cmpI
  by_cases h1 : a < b
  · rw [if_pos h1]
    go_enter Try.func40, Try.ntmps40
    go_wp2_with (go_at_call 54; refine (Try.cmp_isNaN_int2_f54 _ _).mono ?_; rintro e w' ⟨rfl, rfl⟩)
    all_goals (go_ret; exact ⟨rfl, rfl⟩)
  · rw [if_neg h1]
    by_cases h2 : b < a
    · rw [if_pos h2]
      go_enter Try.func40, Try.ntmps40
      go_wp2_with (go_at_call 54; refine (Try.cmp_isNaN_int2_f54 _ _).mono ?_; rintro e w' ⟨rfl, rfl⟩)
      all_goals (go_ret; exact ⟨rfl, rfl⟩)
    · rw [if_neg h2]
      go_enter Try.func40, Try.ntmps40
      go_wp2_with (go_at_call 54; refine (Try.cmp_isNaN_int2_f54 _ _).mono ?_; rintro e w' ⟨rfl, rfl⟩)
      all_goals (go_ret; exact ⟨rfl, rfl⟩)
def orI (a b : Int) : Int := if a = 0 then b else a
set_option maxHeartbeats 1600000 in
/-- cmp.Or of two numbers. -/
theorem or_any (w : World) (g : Nat) (a b : Int) (h0 : w.cell? ⟨g, 0, none⟩ = some (.int .i64 a)) (h1 : w.cell? ⟨g, 1, none⟩ = some (.int .i64 b)) :
    Calls Try.prog 38 #[.slice (some ⟨g, 0, none⟩) 2 2] w fun e w' => e = .returned (.int .i64 (orI a b)) ∧ w' = w := by
  unfold orI
  go_enter Try.func38, Try.ntmps38
  go_wp2_with fail
  go_loopw [8] (fun i wr => ∃ k : Nat, k ≤ 2 ∧ i = .int .i64 k ∧ wr = w ∧ (1 ≤ k → a = 0) ∧ (2 ≤ k → b = 0)) (fun i _ => 2 - (intOf i).toNat)
  case atStart => exact ⟨0, by omega, rfl, rfl, by omega, by omega⟩
  case round =>
    obtain ⟨k, hk, rfl, rfl, ha, hb⟩ := hrel
    obtain rfl | rfl | rfl : k = 0 ∨ k = 1 ∨ k = 2 := by omega
    · clear ha hb
      by_cases h : a = 0
      · subst h
        go_wp2_with fail
        go_roundw
        case rel => exact ⟨1, by omega, by go_num, by simp, by simp, by omega⟩
        case measure => simp [intOf] <;> omega
      · go_wp2_with fail
        go_ret
        exact ⟨rfl, rfl⟩
    · obtain rfl := ha (by omega)
      clear ha hb
      by_cases h : b = 0
      · subst h
        go_wp2_with fail
        go_roundw
        case rel => exact ⟨2, by omega, by go_num, by simp, by simp, by simp⟩
        case measure => simp [intOf] <;> omega
      · go_wp2_with fail
        go_ret
        exact ⟨rfl, rfl⟩
    · obtain rfl := ha (by omega)
      obtain rfl := hb (by omega)
      clear ha hb
      go_wp2_with fail
      go_ret
      exact ⟨rfl, rfl⟩

def cfP (x y : PQ) : Int := orI (cmpI x.1.t y.1.t) (cmpI x.1.id y.1.id)
theorem ltP (x y : PQ) : ltOf cfP x y = decide (x.1.t < y.1.t ∨ (x.1.t = y.1.t ∧ x.1.id < y.1.id)) := by
  unfold ltOf cfP orI cmpI
  by_cases h1 : x.1.t < y.1.t
  · simp [h1]
  · by_cases h2 : y.1.t < x.1.t
    · have : x.1.t ≠ y.1.t := by omega
      simp [h1, h2, this]
    · have e : x.1.t = y.1.t := by omega
      by_cases h3 : x.1.id < y.1.id
      · simp [h1, h2, h3, e]
      · by_cases h4 : y.1.id < x.1.id <;> simp [h1, h2, h3, h4, e]
theorem swoP : SWO (ltOf cfP) where
  irrefl x := by rw [ltP]; simp
  trans x y z h1 h2 := by rw [ltP] at *; simp at *; omega
  ntrans x y z h1 h2 := by rw [ltP] at *; simp at *; omega

theorem enter37 : ∀ args w, (callFunc 37 args).run Try.prog w = .ok (.enter 37 args) w := enters_of Try.func37 (by kernel_rfl) rfl
theorem keep4 {w : World} {g2 g3 : Nat} {v1 v2 v3 v4 : Value} (h : (w.cell? ⟨g2, 0, none⟩ = some v1 ∧ w.cell? ⟨g2, 1, none⟩ = some v2) ∧ (w.cell? ⟨g3, 0, none⟩ = some v3 ∧ w.cell? ⟨g3, 1, none⟩ = some v4)) (o : Obj) :
    ((w.alloc o).cell? ⟨g2, 0, none⟩ = some v1 ∧ (w.alloc o).cell? ⟨g2, 1, none⟩ = some v2) ∧ ((w.alloc o).cell? ⟨g3, 0, none⟩ = some v3 ∧ (w.alloc o).cell? ⟨g3, 1, none⟩ = some v4) := by
  have k := (Keeps.refl [] w).alloc o
  exact ⟨⟨k.cellEq h.1.1 (by simp), k.cellEq h.1.2 (by simp)⟩, ⟨k.cellEq h.2.1 (by simp), k.cellEq h.2.2 (by simp)⟩⟩
set_option maxRecDepth 100000 in
set_option maxHeartbeats 3200000 in
theorem closure37 (x y : Raw) (W : World) : Calls Try.prog 37 #[.agg x.cells.toArray, .agg y.cells.toArray] W fun e w' => e = .returned (.int .i64 (orI (cmpI x.t y.t) (cmpI x.id y.id))) ∧ ∃ q os', w' = grow (W.drewN q) os' := by
  obtain ⟨a, b, Ao, no, co, An, nn, cn⟩ := x
  obtain ⟨a', b', Ao', no', co', An', nn', cn'⟩ := y
  unfold Raw.cells
  dsimp only
  have H39 := Lib.hid (fun W' => cmp39 W' a a')
  have H40 := Lib.hid (fun W' => cmp40 W' b b')
  generalize cmpI a a' = r1 at *
  generalize cmpI b b' = r2 at *
  have H38 := Lib.hid (fun (W' : World) (g : Nat) (h0 : W'.cell? ⟨g, 0, none⟩ = some (.int .i64 r1)) (h1 : W'.cell? ⟨g, 1, none⟩ = some (.int .i64 r2)) => or_any W' g r1 r2 h0 h1)
  generalize orI r1 r2 = r at *
  have hw : Hid (∃ q os', ((W.alloc (.cells #[.int .i64 a, .int .i64 b, .slice Ao no co, .slice An nn cn] 35)).alloc (.cells #[.int .i64 a', .int .i64 b', .slice Ao' no' co', .slice An' nn' cn'] 35)).drew = grow (W.drewN q) os') := Lib.hid ⟨1, _, by rw [alloc_eq_grow, alloc_eq_grow, grow_grow]; rfl⟩
  have B2 : Blk ((W.alloc (.cells #[.int .i64 a, .int .i64 b, .slice Ao no co, .slice An nn cn] 35)).alloc (.cells #[.int .i64 a', .int .i64 b', .slice Ao' no' co', .slice An' nn' cn'] 35)) W.heap.size 35 #[.int .i64 a, .int .i64 b, .slice Ao no co, .slice An nn cn] := (Blk.new W 35 _).alloc _
  have B3 : Blk ((W.alloc (.cells #[.int .i64 a, .int .i64 b, .slice Ao no co, .slice An nn cn] 35)).alloc (.cells #[.int .i64 a', .int .i64 b', .slice Ao' no' co', .slice An' nn' cn'] 35)) (W.heap.size + 1) 35 #[.int .i64 a', .int .i64 b', .slice Ao' no' co', .slice An' nn' cn'] := by
    have := Blk.new (W.alloc (.cells #[.int .i64 a, .int .i64 b, .slice Ao no co, .slice An nn cn] 35)) 35 #[.int .i64 a', .int .i64 b', .slice Ao' no' co', .slice An' nn' cn']
    simpa using this
  obtain ⟨g2, hg2⟩ : ∃ g, g = W.heap.size := ⟨_, rfl⟩
  obtain ⟨g3, hg3⟩ : ∃ g, g = W.heap.size + 1 := ⟨_, rfl⟩
  rw [← hg2] at B2
  rw [← hg3] at B3
  have h0 : (fun w' : World => (w'.cell? ⟨g2, 0, none⟩ = some (.int .i64 a) ∧ w'.cell? ⟨g2, 1, none⟩ = some (.int .i64 b)) ∧ (w'.cell? ⟨g3, 0, none⟩ = some (.int .i64 a') ∧ w'.cell? ⟨g3, 1, none⟩ = some (.int .i64 b'))) (((W.alloc (.cells #[.int .i64 a, .int .i64 b, .slice Ao no co, .slice An nn cn] 35)).alloc (.cells #[.int .i64 a', .int .i64 b', .slice Ao' no' co', .slice An' nn' cn'] 35)).drew) := ⟨⟨B2.drew.cell 0, B2.drew.cell 1⟩, ⟨B3.drew.cell 0, B3.drew.cell 1⟩⟩
  dsimp only at h0
  clear B2 B3
  go_enter Try.func37, Try.ntmps37
  go_wp2_with fail
  generalize (W.alloc (.cells #[.int .i64 a, .int .i64 b, .slice Ao no co, .slice An nn cn] 35)).alloc (.cells #[.int .i64 a', .int .i64 b', .slice Ao' no' co', .slice An' nn' cn'] 35) = ww at *
  rw [← hg3, ← hg2]
  clear hg2 hg3
  refine wp_region_J (S := (fun w' : World => (w'.cell? ⟨g2, 0, none⟩ = some (.int .i64 a) ∧ w'.cell? ⟨g2, 1, none⟩ = some (.int .i64 b)) ∧ (w'.cell? ⟨g3, 0, none⟩ = some (.int .i64 a') ∧ w'.cell? ⟨g3, 1, none⟩ = some (.int .i64 b')))) (n := 13) (by kernel_rfl) ?_
  generalize ww.drew = WD at *
  have HS := h0
  refine wpAnyJ_take (i := 0) (v := ?_) (by kernel_rfl) rfl (by kernel_rfl) (by kernel_rfl) (by kernel_rfl) (fun _ _ _ h => h) HS (Or.inl ⟨by rfl, ?_⟩) ?_
  rotate_left
  · (intro w hSw; obtain ⟨⟨y1, y2⟩, ⟨y3, y4⟩⟩ := hSw; go_simp; try with_reducible rfl)
  try simp only [Act.put, List.getElem_toArray, List.getElem_cons_succ, List.getElem_cons_zero, List.setIfInBounds_toArray, List.set_cons_zero, List.set_cons_succ]
  refine wpAnyJ_take (i := 1) (v := ?_) (by kernel_rfl) rfl (by kernel_rfl) (by kernel_rfl) (by kernel_rfl) (fun _ _ _ h => h) HS (Or.inl ⟨by rfl, ?_⟩) ?_
  rotate_left
  · (intro w hSw; obtain ⟨⟨y1, y2⟩, ⟨y3, y4⟩⟩ := hSw; go_simp; try with_reducible rfl)
  try simp only [Act.put, List.getElem_toArray, List.getElem_cons_succ, List.getElem_cons_zero, List.setIfInBounds_toArray, List.set_cons_zero, List.set_cons_succ]
  refine wpAnyJ_take (i := 2) (v := ?_) (by kernel_rfl) rfl (by kernel_rfl) (by kernel_rfl) (by kernel_rfl) (fun _ _ _ h => h) HS (Or.inl ⟨by rfl, ?_⟩) ?_
  rotate_left
  · (intro w hSw; obtain ⟨⟨y1, y2⟩, ⟨y3, y4⟩⟩ := hSw; go_simp; try with_reducible rfl)
  try simp only [Act.put, List.getElem_toArray, List.getElem_cons_succ, List.getElem_cons_zero, List.setIfInBounds_toArray, List.set_cons_zero, List.set_cons_succ]
  refine wpAnyJ_take (i := 3) (v := ?_) (by kernel_rfl) rfl (by kernel_rfl) (by kernel_rfl) (by kernel_rfl) (fun _ _ _ h => h) HS (Or.inl ⟨by rfl, ?_⟩) ?_
  rotate_left
  · (intro w hSw; obtain ⟨⟨y1, y2⟩, ⟨y3, y4⟩⟩ := hSw; go_simp; try with_reducible rfl)
  try simp only [Act.put, List.getElem_toArray, List.getElem_cons_succ, List.getElem_cons_zero, List.setIfInBounds_toArray, List.set_cons_zero, List.set_cons_succ]
  refine wpAnyJ_take (i := 5) (v := ?_) (by kernel_rfl) rfl (by kernel_rfl) (by kernel_rfl) (by kernel_rfl) (fun _ _ _ h => h) HS (Or.inl ⟨by rfl, ?_⟩) ?_
  rotate_left
  · (intro w hSw; obtain ⟨⟨y1, y2⟩, ⟨y3, y4⟩⟩ := hSw; go_simp; try with_reducible rfl)
  try simp only [Act.put, List.getElem_toArray, List.getElem_cons_succ, List.getElem_cons_zero, List.setIfInBounds_toArray, List.set_cons_zero, List.set_cons_succ]
  refine wpAnyJ_take (i := 6) (v := ?_) (by kernel_rfl) rfl (by kernel_rfl) (by kernel_rfl) (by kernel_rfl) (fun _ _ _ h => h) HS (Or.inl ⟨by rfl, ?_⟩) ?_
  rotate_left
  · (intro w hSw; obtain ⟨⟨y1, y2⟩, ⟨y3, y4⟩⟩ := hSw; go_simp; try with_reducible rfl)
  try simp only [Act.put, List.getElem_toArray, List.getElem_cons_succ, List.getElem_cons_zero, List.setIfInBounds_toArray, List.set_cons_zero, List.set_cons_succ]
  refine wpAnyJ_take (i := 7) (v := ?_) (by kernel_rfl) rfl (by kernel_rfl) (by kernel_rfl) (by kernel_rfl) (fun _ _ _ h => h) HS (Or.inl ⟨by rfl, ?_⟩) ?_
  rotate_left
  · (intro w hSw; obtain ⟨⟨y1, y2⟩, ⟨y3, y4⟩⟩ := hSw; go_simp; try with_reducible rfl)
  try simp only [Act.put, List.getElem_toArray, List.getElem_cons_succ, List.getElem_cons_zero, List.setIfInBounds_toArray, List.set_cons_zero, List.set_cons_succ]
  refine wpAnyJ_take (i := 8) (v := ?_) (by kernel_rfl) rfl (by kernel_rfl) (by kernel_rfl) (by kernel_rfl) (fun _ _ _ h => h) HS (Or.inl ⟨by rfl, ?_⟩) ?_
  rotate_left
  · (intro w hSw; obtain ⟨⟨y1, y2⟩, ⟨y3, y4⟩⟩ := hSw; go_simp; try with_reducible rfl)
  try simp only [Act.put, List.getElem_toArray, List.getElem_cons_succ, List.getElem_cons_zero, List.setIfInBounds_toArray, List.set_cons_zero, List.set_cons_succ]
  refine wpAnyJ_one (i := 4) rfl (by kernel_rfl) (fun K hK => ?_)
  dsimp only [List.getElem_toArray, List.getElem_cons_succ, List.getElem_cons_zero]
  go_simp
  refine (H39.out _).mono ?_
  rintro e w9 ⟨rfl, hq⟩
  subst w9
  refine hK _ _ (Or.inr HS) ?_
  clear hK K
  try simp only [Act.put, List.getElem_toArray, List.getElem_cons_succ, List.getElem_cons_zero, List.setIfInBounds_toArray, List.set_cons_zero, List.set_cons_succ]
  refine wpAnyJ_one (i := 9) rfl (by kernel_rfl) (fun K hK => ?_)
  dsimp only [List.getElem_toArray, List.getElem_cons_succ, List.getElem_cons_zero]
  go_simp
  refine (H40.out _).mono ?_
  rintro e w9 ⟨rfl, hq⟩
  subst w9
  refine hK _ _ (Or.inr HS) ?_
  clear hK K
  try simp only [Act.put, List.getElem_toArray, List.getElem_cons_succ, List.getElem_cons_zero, List.setIfInBounds_toArray, List.set_cons_zero, List.set_cons_succ]
  refine wpAnyJ_one (i := 10) rfl (by kernel_rfl) (fun K hK => ?_)
  dsimp only [List.getElem_toArray, List.getElem_cons_succ, List.getElem_cons_zero]
  go_simp
  have HS := keep4 HS (.cells #[.int .i64 r1, .int .i64 r2] 3)
  have H38w := Lib.hid (H38.out (WD.alloc (.cells #[.int .i64 r1, .int .i64 r2] 3)) WD.heap.size ((Blk.new WD 3 #[.int .i64 r1, .int .i64 r2]).cell 0) ((Blk.new WD 3 #[.int .i64 r1, .int .i64 r2]).cell 1))
  have hw' : Hid (∃ q os', WD.alloc (.cells #[.int .i64 r1, .int .i64 r2] 3) = Sort.grow (W.drewN q) os') := Lib.hid (by
    obtain ⟨q, os, e⟩ := hw.out
    rw [e]
    exact ⟨q, _, by rw [Sort.alloc_eq_grow, Sort.grow_grow]⟩)
  refine hK _ _ (Or.inr HS) ?_
  clear hK K
  try simp only [Act.put, List.getElem_toArray, List.getElem_cons_succ, List.getElem_cons_zero, List.setIfInBounds_toArray, List.set_cons_zero, List.set_cons_succ]
  refine wpAnyJ_one (i := 11) rfl (by kernel_rfl) (fun K hK => ?_)
  dsimp only [List.getElem_toArray, List.getElem_cons_succ, List.getElem_cons_zero]
  go_simp
  refine H38w.out.mono ?_
  rintro e w11 ⟨rfl, hq⟩
  subst w11
  refine hK _ _ (Or.inr HS) ?_
  clear hK K
  try simp only [Act.put, List.getElem_toArray, List.getElem_cons_succ, List.getElem_cons_zero, List.setIfInBounds_toArray, List.set_cons_zero, List.set_cons_succ]
  refine wpAnyJ_take (i := 12) (v := ?_) (by kernel_rfl) rfl (by kernel_rfl) (by kernel_rfl) (by kernel_rfl) (fun _ _ _ h => h) HS (Or.inl ⟨by rfl, ?_⟩) ?_
  rotate_left
  · (intro w hSw; obtain ⟨⟨y1, y2⟩, ⟨y3, y4⟩⟩ := hSw; go_simp; try with_reducible rfl)
  try simp only [Act.put, List.getElem_toArray, List.getElem_cons_succ, List.getElem_cons_zero, List.setIfInBounds_toArray, List.set_cons_zero, List.set_cons_succ]
  refine wpAnyJ_done (by kernel_rfl) ?_ _
  clear H39 H40 H38 H38w h0 HS
  go_wp2_with fail
  go_ret
  exact ⟨rfl, hw'.out⟩
def encQ (p : PQ) : List Value := p.1.cells
theorem cmpLays37 (blk off size : Nat) (w : World) : CmpLays Try.prog 37 #[] encQ 4 cfP blk off size w := fun _ _ _ _ x y => closure37 x.1 y.1 _

/-- In the order of the rows. -/
def AscC (l : List Chg) : Prop := l.Pairwise fun a b => ¬ (b.t < a.t ∨ (b.t = a.t ∧ b.id < a.id))

theorem keeps_sort (w : World) (g n : Nat) (d : Array PQ) (os : Array Obj) (hg : g < w.heap.size) : Keeps [g] w (sortWorldK encQ 4 w g 0 n d os) := by
  refine ⟨rfl, rfl, rfl, ?_, fun k hk hx => ?_⟩
  · show w.heap.size ≤ (grow (putRowK encQ 4 (Go.Sort.ahead w n) g 0 d) os).heap.size
    rw [size_grow]
    have : (putRowK encQ 4 (Go.Sort.ahead w n) g 0 d).heap.size = w.heap.size := by simp [putRowK, putRow, mapBlock, Go.Sort.ahead]
    omega
  · show (grow (putRowK encQ 4 (Go.Sort.ahead w n) g 0 d) os).heap[k]? = _
    have hs : (putRowK encQ 4 (Go.Sort.ahead w n) g 0 d).heap.size = w.heap.size := by simp [putRowK, putRow, mapBlock, Go.Sort.ahead]
    rw [heap_grow_old _ _ (by omega)]
    have hne : ¬ g = k := by intro h; exact hx (by simp [h])
    simp [putRowK, putRow, mapBlock, Go.Sort.ahead, Array.getElem?_modify, hne]

theorem holds_rows {w : World} {g : Nat} {F : List PQ} {tail : List Value} (h : Blk w g 35 (rows F ++ tail).toArray) : HoldsK encQ 4 w g 0 F.toArray := by
  intro j hj
  rw [size_flatK] at hj
  have hj' : j < F.length * 4 := by simpa using hj
  refine ⟨?_, by rw [Nat.zero_add]; exact h.frozen j⟩
  have hi : j / 4 < F.length := by omega
  obtain ⟨x, hx⟩ : ∃ x, F[j / 4]? = some x := ⟨F[j / 4], List.getElem?_eq_getElem hi⟩
  obtain ⟨h1, h2, h3, h4⟩ := flatC_get (F.map (·.1)) (j / 4) x.1 (by rw [List.getElem?_map, hx]; rfl)
  have hfl := rows_len F
  unfold rows at h hfl
  have hxx : F.toArray[j / 4]! = x := by
    rw [List.getElem!_toArray, getElem!_pos F (j / 4) hi]
    rw [List.getElem?_eq_getElem hi] at hx
    exact Option.some.inj hx
  rw [get_flatK _ _ _ _ (by simpa using hj'), hxx, Nat.zero_add, h.cell, List.getElem?_toArray, List.getElem?_append_left (by omega)]
  rcases (by omega : j % 4 = 0 ∨ j % 4 = 1 ∨ j % 4 = 2 ∨ j % 4 = 3) with hm | hm | hm | hm
  · rw [hm, show j = j / 4 * 4 by omega, h1]
    rfl
  · rw [hm, show j = j / 4 * 4 + 1 by omega, h2]
    rfl
  · rw [hm, show j = j / 4 * 4 + 2 by omega, h3]
    rfl
  · rw [hm, show j = j / 4 * 4 + 3 by omega, h4]
    rfl
end Go.Proofs.Ytmclfbhcddcebaa
