/- Contracts: membership; the regions that draw their order are walked step by step. -/
import Derived.Test.YtbinnmcodlejmaaCong3
import Derived.Test.YtbinnmcodlejmaaReg
namespace Go.Proofs.Ytbinnmcodlejmaa
open Go.RowKit
set_option linter.unusedSimpArgs false
set_option linter.unusedVariables false

/-- Whether an integer is an element. -/
def memB (r m n : Int) : Bool := valB r m && decide (n % m = r)

theorem valid_yesK (r m : Int) (w : World) (h : Val r m) : Calls Try.prog 37 #[.agg #[.int .i64 r, .int .i64 m]] w (Gives (.bool true) w) :=
  (valid_yes r m w h).mono fun e w' ⟨he, hw⟩ => ⟨he, by rw [hw]; exact (Keeps.refl _ _).alloc _⟩
theorem valid_noK (r m : Int) (w : World) (h : ¬ Val r m) : Calls Try.prog 37 #[.agg #[.int .i64 r, .int .i64 m]] w (Gives (.bool false) w) :=
  (valid_no r m w h).mono fun e w' ⟨he, hw⟩ => ⟨he, by rw [hw]; exact (Keeps.refl _ _).alloc _⟩
theorem rvalid_yesK (r m : Int) (w : World) (h : Val r m) : Calls Try.prog 18 #[.agg #[.int .i64 r, .int .i64 m]] w (Gives (.bool true) w) :=
  (rvalid_yes r m w h).mono fun e w' ⟨he, n, hw⟩ => ⟨he, by rw [hw]; exact ((Keeps.refl _ _).alloc _).drewN _⟩
theorem rvalid_noK (r m : Int) (w : World) (h : ¬ Val r m) : Calls Try.prog 18 #[.agg #[.int .i64 r, .int .i64 m]] w (Gives (.bool false) w) :=
  (rvalid_no r m w h).mono fun e w' ⟨he, n, hw⟩ => ⟨he, by rw [hw]; exact ((Keeps.refl _ _).alloc _).drewN _⟩

set_option maxHeartbeats 800000 in
theorem contains_any (r m n : Int) (w : World) (h0 : -9223372036854775808 ≤ n) (h1 : n ≤ 9223372036854775807) :
    Calls Try.prog 34 #[.agg #[.int .i64 r, .int .i64 m], .int .i64 n] w (Gives (.bool (memB r m n)) w) := by
  by_cases hv : Val r m
  · have hm := hv.1
    have hm2 := hv.2.1
    have hr := emod_bd n m (by omega)
    have hB : memB r m n = (n % m == r) := by unfold memB; rw [valB_true hv]; simp; rfl
    rw [hB]
    clear hB
    replace hv := Lib.hid hv
    go_enter Try.func34, Try.ntmps34
    go_wp2_with fail
    obtain ⟨w0, hw0⟩ : ∃ w0, w0 = w.alloc (.cells #[.int .i64 r, .int .i64 m] 24) := ⟨_, rfl⟩
    rw [← hw0]
    have A : Blk w0 w.heap.size 24 #[.int .i64 r, .int .i64 m] := by rw [hw0]; exact Blk.new _ _ _
    have K0 : Hid (Keeps [] w w0) := Lib.hid (by rw [hw0]; exact (Keeps.refl _ _).alloc _)
    have a0 : w0.cell? ⟨w.heap.size, 0, none⟩ = some (.int .i64 r) := by have := A.cell 0; simpa using this
    have a1 : w0.cell? ⟨w.heap.size, 1, none⟩ = some (.int .i64 m) := by have := A.cell 1; simpa using this
    have HK : Hid (Keeps [] w0 w0.drew) := Lib.hid (Keeps.refl _ _).drew
    clear A hw0
    refine wp_region_I (S := (fun w' => w'.cell? ⟨w.heap.size, 0, none⟩ = some (.int .i64 r) ∧ w'.cell? ⟨w.heap.size, 1, none⟩ = some (.int .i64 m))) (n := 11) (by kernel_rfl) ?_
    have HS := (⟨HK.out.cellEq a0 (by simp), HK.out.cellEq a1 (by simp)⟩ : _ ∧ _)
    refine wpAnyI_take (i := 0) (v := ?_) (by kernel_rfl) rfl (by kernel_rfl) (by kernel_rfl) (by kernel_rfl) (fun _ _ _ h => h) HS (Or.inl ⟨by rfl, ?_⟩) ?_
    rotate_left
    · (intro w hSw; obtain ⟨q1, q2⟩ := hSw; go_simp; try with_reducible rfl)
    try simp only [Act.put, List.getElem_toArray, List.getElem_cons_succ, List.getElem_cons_zero, List.setIfInBounds_toArray, List.set_cons_zero, List.set_cons_succ]
    refine wpAnyI_one (i := 1) rfl (by kernel_rfl) (fun K hK => ?_)
    dsimp only [List.getElem_toArray, List.getElem_cons_succ, List.getElem_cons_zero]
    go_simp
    go_wp2_with ((refine (valid_yesK _ _ _ hv.out).mono ?_); rintro e w' ⟨rfl, hk⟩)
    replace HK := Lib.hid (HK.out.trans hk)
    clear hk
    have HS := (⟨HK.out.cellEq a0 (by simp), HK.out.cellEq a1 (by simp)⟩ : _ ∧ _)
    refine hK _ _ (Or.inr HS) ?_
    clear hK K
    try simp only [Act.put, List.getElem_toArray, List.getElem_cons_succ, List.getElem_cons_zero, List.setIfInBounds_toArray, List.set_cons_zero, List.set_cons_succ]
    refine wpAnyI_take (i := 2) (v := ?_) (by kernel_rfl) rfl (by kernel_rfl) (by kernel_rfl) (by kernel_rfl) (fun _ _ _ h => h) HS (Or.inl ⟨by rfl, ?_⟩) ?_
    rotate_left
    · (intro w hSw; obtain ⟨q1, q2⟩ := hSw; go_simp; try with_reducible rfl)
    try simp only [Act.put, List.getElem_toArray, List.getElem_cons_succ, List.getElem_cons_zero, List.setIfInBounds_toArray, List.set_cons_zero, List.set_cons_succ]
    refine wpAnyI_take (i := 3) (v := ?_) (by kernel_rfl) rfl (by kernel_rfl) (by kernel_rfl) (by kernel_rfl) (fun _ _ _ h => h) HS (Or.inl ⟨by rfl, ?_⟩) ?_
    rotate_left
    · (intro w hSw; obtain ⟨q1, q2⟩ := hSw; go_simp; try with_reducible rfl)
    try simp only [Act.put, List.getElem_toArray, List.getElem_cons_succ, List.getElem_cons_zero, List.setIfInBounds_toArray, List.set_cons_zero, List.set_cons_succ]
    refine wpAnyI_take (i := 4) (v := ?_) (by kernel_rfl) rfl (by kernel_rfl) (by kernel_rfl) (by kernel_rfl) (fun _ _ _ h => h) HS (Or.inl ⟨by rfl, ?_⟩) ?_
    rotate_left
    · (intro w hSw; obtain ⟨q1, q2⟩ := hSw; go_simp; try with_reducible rfl)
    try simp only [Act.put, List.getElem_toArray, List.getElem_cons_succ, List.getElem_cons_zero, List.setIfInBounds_toArray, List.set_cons_zero, List.set_cons_succ]
    refine wpAnyI_take (i := 5) (v := ?_) (by kernel_rfl) rfl (by kernel_rfl) (by kernel_rfl) (by kernel_rfl) (fun _ _ _ h => h) HS (Or.inl ⟨by rfl, ?_⟩) ?_
    rotate_left
    · (intro w hSw; obtain ⟨q1, q2⟩ := hSw; go_simp; try with_reducible rfl)
    try simp only [Act.put, List.getElem_toArray, List.getElem_cons_succ, List.getElem_cons_zero, List.setIfInBounds_toArray, List.set_cons_zero, List.set_cons_succ]
    refine wpAnyI_take (i := 7) (v := ?_) (by kernel_rfl) rfl (by kernel_rfl) (by kernel_rfl) (by kernel_rfl) (fun _ _ _ h => h) HS (Or.inl ⟨by rfl, ?_⟩) ?_
    rotate_left
    · (intro w hSw; obtain ⟨q1, q2⟩ := hSw; go_simp; try with_reducible rfl)
    try simp only [Act.put, List.getElem_toArray, List.getElem_cons_succ, List.getElem_cons_zero, List.setIfInBounds_toArray, List.set_cons_zero, List.set_cons_succ]
    refine wpAnyI_take (i := 8) (v := ?_) (by kernel_rfl) rfl (by kernel_rfl) (by kernel_rfl) (by kernel_rfl) (fun _ _ _ h => h) HS (Or.inl ⟨by rfl, ?_⟩) ?_
    rotate_left
    · (intro w hSw; obtain ⟨q1, q2⟩ := hSw; go_simp; try with_reducible rfl)
    try simp only [Act.put, List.getElem_toArray, List.getElem_cons_succ, List.getElem_cons_zero, List.setIfInBounds_toArray, List.set_cons_zero, List.set_cons_succ]
    refine wpAnyI_one (i := 6) rfl (by kernel_rfl) (fun K hK => ?_)
    dsimp only [List.getElem_toArray, List.getElem_cons_succ, List.getElem_cons_zero]
    go_simp
    go_wp2_with ((refine (mod_any _ _ _ h0 h1 (by omega) (by omega)).mono ?_); rintro e w' ⟨rfl, rfl⟩)
    refine hK _ _ (Or.inr HS) ?_
    clear hK K
    try simp only [Act.put, List.getElem_toArray, List.getElem_cons_succ, List.getElem_cons_zero, List.setIfInBounds_toArray, List.set_cons_zero, List.set_cons_succ]
    refine wpAnyI_take (i := 9) (v := ?_) (by kernel_rfl) rfl (by kernel_rfl) (by kernel_rfl) (by kernel_rfl) (fun _ _ _ h => h) HS (Or.inl ⟨by rfl, ?_⟩) ?_
    rotate_left
    · (intro w hSw; obtain ⟨q1, q2⟩ := hSw; go_simp; try with_reducible rfl)
    try simp only [Act.put, List.getElem_toArray, List.getElem_cons_succ, List.getElem_cons_zero, List.setIfInBounds_toArray, List.set_cons_zero, List.set_cons_succ]
    refine wpAnyI_take (i := 10) (v := ?_) (by kernel_rfl) rfl (by kernel_rfl) (by kernel_rfl) (by kernel_rfl) (fun _ _ _ h => h) HS (Or.inl ⟨by rfl, ?_⟩) ?_
    rotate_left
    · (intro w hSw; obtain ⟨q1, q2⟩ := hSw; go_simp; try with_reducible rfl)
    try simp only [Act.put, List.getElem_toArray, List.getElem_cons_succ, List.getElem_cons_zero, List.setIfInBounds_toArray, List.set_cons_zero, List.set_cons_succ]
    refine wpAnyI_one (i := 11) rfl (by kernel_rfl) (fun K hK => ?_)
    dsimp only [List.getElem_toArray, List.getElem_cons_succ, List.getElem_cons_zero]
    go_simp
    refine hK _ _ (Or.inl rfl) ?_
    clear hK K
    try simp only [Act.put, List.getElem_toArray, List.getElem_cons_succ, List.getElem_cons_zero, List.setIfInBounds_toArray, List.set_cons_zero, List.set_cons_succ]
    refine wpAnyI_done (by kernel_rfl) ?_ _
    go_wp2_with fail
    go_ret
    exact ⟨by simp, K0.out.trans HK.out⟩
  · have hB : memB r m n = false := by unfold memB; rw [valB_false hv]; rfl
    rw [hB]
    clear hB
    replace hv := Lib.hid hv
    go_enter Try.func34, Try.ntmps34
    go_wp2_with fail
    obtain ⟨w0, hw0⟩ : ∃ w0, w0 = w.alloc (.cells #[.int .i64 r, .int .i64 m] 24) := ⟨_, rfl⟩
    rw [← hw0]
    have A : Blk w0 w.heap.size 24 #[.int .i64 r, .int .i64 m] := by rw [hw0]; exact Blk.new _ _ _
    have K0 : Hid (Keeps [] w w0) := Lib.hid (by rw [hw0]; exact (Keeps.refl _ _).alloc _)
    have a0 : w0.cell? ⟨w.heap.size, 0, none⟩ = some (.int .i64 r) := by have := A.cell 0; simpa using this
    have a1 : w0.cell? ⟨w.heap.size, 1, none⟩ = some (.int .i64 m) := by have := A.cell 1; simpa using this
    have HK : Hid (Keeps [] w0 w0.drew) := Lib.hid (Keeps.refl _ _).drew
    clear A hw0
    refine wp_region_I (S := (fun w' => w'.cell? ⟨w.heap.size, 0, none⟩ = some (.int .i64 r) ∧ w'.cell? ⟨w.heap.size, 1, none⟩ = some (.int .i64 m))) (n := 11) (by kernel_rfl) ?_
    have HS := (⟨HK.out.cellEq a0 (by simp), HK.out.cellEq a1 (by simp)⟩ : _ ∧ _)
    refine wpAnyI_take (i := 0) (v := ?_) (by kernel_rfl) rfl (by kernel_rfl) (by kernel_rfl) (by kernel_rfl) (fun _ _ _ h => h) HS (Or.inl ⟨by rfl, ?_⟩) ?_
    rotate_left
    · (intro w hSw; obtain ⟨q1, q2⟩ := hSw; go_simp; try with_reducible rfl)
    try simp only [Act.put, List.getElem_toArray, List.getElem_cons_succ, List.getElem_cons_zero, List.setIfInBounds_toArray, List.set_cons_zero, List.set_cons_succ]
    refine wpAnyI_one (i := 1) rfl (by kernel_rfl) (fun K hK => ?_)
    dsimp only [List.getElem_toArray, List.getElem_cons_succ, List.getElem_cons_zero]
    go_simp
    go_wp2_with ((refine (valid_noK _ _ _ hv.out).mono ?_); rintro e w' ⟨rfl, hk⟩)
    replace HK := Lib.hid (HK.out.trans hk)
    clear hk
    have HS := (⟨HK.out.cellEq a0 (by simp), HK.out.cellEq a1 (by simp)⟩ : _ ∧ _)
    refine hK _ _ (Or.inr HS) ?_
    clear hK K
    try simp only [Act.put, List.getElem_toArray, List.getElem_cons_succ, List.getElem_cons_zero, List.setIfInBounds_toArray, List.set_cons_zero, List.set_cons_succ]
    refine wpAnyI_take (i := 2) (v := ?_) (by kernel_rfl) rfl (by kernel_rfl) (by kernel_rfl) (by kernel_rfl) (fun _ _ _ h => h) HS (Or.inl ⟨by rfl, ?_⟩) ?_
    rotate_left
    · (intro w hSw; obtain ⟨q1, q2⟩ := hSw; go_simp; try with_reducible rfl)
    try simp only [Act.put, List.getElem_toArray, List.getElem_cons_succ, List.getElem_cons_zero, List.setIfInBounds_toArray, List.set_cons_zero, List.set_cons_succ]
    refine wpAnyI_take (i := 3) (v := undef) (by kernel_rfl) rfl (by kernel_rfl) (by kernel_rfl) (by kernel_rfl) (fun _ _ _ h => h) HS (Or.inr ⟨by rfl, rfl⟩) ?_
    try simp only [Act.put, List.getElem_toArray, List.getElem_cons_succ, List.getElem_cons_zero, List.setIfInBounds_toArray, List.set_cons_zero, List.set_cons_succ]
    refine wpAnyI_take (i := 4) (v := undef) (by kernel_rfl) rfl (by kernel_rfl) (by kernel_rfl) (by kernel_rfl) (fun _ _ _ h => h) HS (Or.inr ⟨by rfl, rfl⟩) ?_
    try simp only [Act.put, List.getElem_toArray, List.getElem_cons_succ, List.getElem_cons_zero, List.setIfInBounds_toArray, List.set_cons_zero, List.set_cons_succ]
    refine wpAnyI_take (i := 5) (v := undef) (by kernel_rfl) rfl (by kernel_rfl) (by kernel_rfl) (by kernel_rfl) (fun _ _ _ h => h) HS (Or.inr ⟨by rfl, rfl⟩) ?_
    try simp only [Act.put, List.getElem_toArray, List.getElem_cons_succ, List.getElem_cons_zero, List.setIfInBounds_toArray, List.set_cons_zero, List.set_cons_succ]
    refine wpAnyI_take (i := 6) (v := undef) (by kernel_rfl) rfl (by kernel_rfl) (by kernel_rfl) (by kernel_rfl) (fun _ _ _ h => h) HS (Or.inr ⟨by rfl, rfl⟩) ?_
    try simp only [Act.put, List.getElem_toArray, List.getElem_cons_succ, List.getElem_cons_zero, List.setIfInBounds_toArray, List.set_cons_zero, List.set_cons_succ]
    refine wpAnyI_take (i := 7) (v := undef) (by kernel_rfl) rfl (by kernel_rfl) (by kernel_rfl) (by kernel_rfl) (fun _ _ _ h => h) HS (Or.inr ⟨by rfl, rfl⟩) ?_
    try simp only [Act.put, List.getElem_toArray, List.getElem_cons_succ, List.getElem_cons_zero, List.setIfInBounds_toArray, List.set_cons_zero, List.set_cons_succ]
    refine wpAnyI_take (i := 8) (v := undef) (by kernel_rfl) rfl (by kernel_rfl) (by kernel_rfl) (by kernel_rfl) (fun _ _ _ h => h) HS (Or.inr ⟨by rfl, rfl⟩) ?_
    try simp only [Act.put, List.getElem_toArray, List.getElem_cons_succ, List.getElem_cons_zero, List.setIfInBounds_toArray, List.set_cons_zero, List.set_cons_succ]
    refine wpAnyI_take (i := 9) (v := undef) (by kernel_rfl) rfl (by kernel_rfl) (by kernel_rfl) (by kernel_rfl) (fun _ _ _ h => h) HS (Or.inr ⟨by rfl, rfl⟩) ?_
    try simp only [Act.put, List.getElem_toArray, List.getElem_cons_succ, List.getElem_cons_zero, List.setIfInBounds_toArray, List.set_cons_zero, List.set_cons_succ]
    refine wpAnyI_take (i := 10) (v := ?_) (by kernel_rfl) rfl (by kernel_rfl) (by kernel_rfl) (by kernel_rfl) (fun _ _ _ h => h) HS (Or.inl ⟨by rfl, ?_⟩) ?_
    rotate_left
    · (intro w hSw; obtain ⟨q1, q2⟩ := hSw; go_simp; try with_reducible rfl)
    try simp only [Act.put, List.getElem_toArray, List.getElem_cons_succ, List.getElem_cons_zero, List.setIfInBounds_toArray, List.set_cons_zero, List.set_cons_succ]
    refine wpAnyI_one (i := 11) rfl (by kernel_rfl) (fun K hK => ?_)
    dsimp only [List.getElem_toArray, List.getElem_cons_succ, List.getElem_cons_zero]
    go_simp
    refine hK _ _ (Or.inl rfl) ?_
    clear hK K
    try simp only [Act.put, List.getElem_toArray, List.getElem_cons_succ, List.getElem_cons_zero, List.setIfInBounds_toArray, List.set_cons_zero, List.set_cons_succ]
    refine wpAnyI_done (by kernel_rfl) ?_ _
    go_wp2_with fail
    go_ret
    exact ⟨by simp, K0.out.trans HK.out⟩

set_option maxHeartbeats 800000 in
theorem rcontains_any (r m n : Int) (w : World) (h0 : -9223372036854775808 ≤ n) (h1 : n ≤ 9223372036854775807) :
    Calls Try.prog 21 #[.agg #[.int .i64 r, .int .i64 m], .int .i64 n] w (Gives (.bool (memB r m n)) w) := by
  by_cases hv : Val r m
  · have hm := hv.1
    have hm2 := hv.2.1
    have hr := emod_bd n m (by omega)
    have hB : memB r m n = (n % m == r) := by unfold memB; rw [valB_true hv]; simp; rfl
    rw [hB]
    clear hB
    replace hv := Lib.hid hv
    go_enter Try.func21, Try.ntmps21
    go_wp2_with fail
    obtain ⟨w0, hw0⟩ : ∃ w0, w0 = w.alloc (.cells #[.int .i64 r, .int .i64 m] 28) := ⟨_, rfl⟩
    rw [← hw0]
    have A : Blk w0 w.heap.size 28 #[.int .i64 r, .int .i64 m] := by rw [hw0]; exact Blk.new _ _ _
    have K0 : Hid (Keeps [] w w0) := Lib.hid (by rw [hw0]; exact (Keeps.refl _ _).alloc _)
    have a0 : w0.cell? ⟨w.heap.size, 0, none⟩ = some (.int .i64 r) := by have := A.cell 0; simpa using this
    have a1 : w0.cell? ⟨w.heap.size, 1, none⟩ = some (.int .i64 m) := by have := A.cell 1; simpa using this
    have HK : Hid (Keeps [] w0 w0.drew) := Lib.hid (Keeps.refl _ _).drew
    clear A hw0
    refine wp_region_I (S := (fun w' => w'.cell? ⟨w.heap.size, 0, none⟩ = some (.int .i64 r) ∧ w'.cell? ⟨w.heap.size, 1, none⟩ = some (.int .i64 m))) (n := 11) (by kernel_rfl) ?_
    have HS := (⟨HK.out.cellEq a0 (by simp), HK.out.cellEq a1 (by simp)⟩ : _ ∧ _)
    refine wpAnyI_take (i := 0) (v := ?_) (by kernel_rfl) rfl (by kernel_rfl) (by kernel_rfl) (by kernel_rfl) (fun _ _ _ h => h) HS (Or.inl ⟨by rfl, ?_⟩) ?_
    rotate_left
    · (intro w hSw; obtain ⟨q1, q2⟩ := hSw; go_simp; try with_reducible rfl)
    try simp only [Act.put, List.getElem_toArray, List.getElem_cons_succ, List.getElem_cons_zero, List.setIfInBounds_toArray, List.set_cons_zero, List.set_cons_succ]
    refine wpAnyI_one (i := 1) rfl (by kernel_rfl) (fun K hK => ?_)
    dsimp only [List.getElem_toArray, List.getElem_cons_succ, List.getElem_cons_zero]
    go_simp
    go_wp2_with ((refine (rvalid_yesK _ _ _ hv.out).mono ?_); rintro e w' ⟨rfl, hk⟩)
    replace HK := Lib.hid (HK.out.trans hk)
    clear hk
    have HS := (⟨HK.out.cellEq a0 (by simp), HK.out.cellEq a1 (by simp)⟩ : _ ∧ _)
    refine hK _ _ (Or.inr HS) ?_
    clear hK K
    try simp only [Act.put, List.getElem_toArray, List.getElem_cons_succ, List.getElem_cons_zero, List.setIfInBounds_toArray, List.set_cons_zero, List.set_cons_succ]
    refine wpAnyI_take (i := 2) (v := ?_) (by kernel_rfl) rfl (by kernel_rfl) (by kernel_rfl) (by kernel_rfl) (fun _ _ _ h => h) HS (Or.inl ⟨by rfl, ?_⟩) ?_
    rotate_left
    · (intro w hSw; obtain ⟨q1, q2⟩ := hSw; go_simp; try with_reducible rfl)
    try simp only [Act.put, List.getElem_toArray, List.getElem_cons_succ, List.getElem_cons_zero, List.setIfInBounds_toArray, List.set_cons_zero, List.set_cons_succ]
    refine wpAnyI_take (i := 3) (v := ?_) (by kernel_rfl) rfl (by kernel_rfl) (by kernel_rfl) (by kernel_rfl) (fun _ _ _ h => h) HS (Or.inl ⟨by rfl, ?_⟩) ?_
    rotate_left
    · (intro w hSw; obtain ⟨q1, q2⟩ := hSw; go_simp; try with_reducible rfl)
    try simp only [Act.put, List.getElem_toArray, List.getElem_cons_succ, List.getElem_cons_zero, List.setIfInBounds_toArray, List.set_cons_zero, List.set_cons_succ]
    refine wpAnyI_take (i := 4) (v := ?_) (by kernel_rfl) rfl (by kernel_rfl) (by kernel_rfl) (by kernel_rfl) (fun _ _ _ h => h) HS (Or.inl ⟨by rfl, ?_⟩) ?_
    rotate_left
    · (intro w hSw; obtain ⟨q1, q2⟩ := hSw; go_simp; try with_reducible rfl)
    try simp only [Act.put, List.getElem_toArray, List.getElem_cons_succ, List.getElem_cons_zero, List.setIfInBounds_toArray, List.set_cons_zero, List.set_cons_succ]
    refine wpAnyI_take (i := 5) (v := ?_) (by kernel_rfl) rfl (by kernel_rfl) (by kernel_rfl) (by kernel_rfl) (fun _ _ _ h => h) HS (Or.inl ⟨by rfl, ?_⟩) ?_
    rotate_left
    · (intro w hSw; obtain ⟨q1, q2⟩ := hSw; go_simp; try with_reducible rfl)
    try simp only [Act.put, List.getElem_toArray, List.getElem_cons_succ, List.getElem_cons_zero, List.setIfInBounds_toArray, List.set_cons_zero, List.set_cons_succ]
    refine wpAnyI_take (i := 7) (v := ?_) (by kernel_rfl) rfl (by kernel_rfl) (by kernel_rfl) (by kernel_rfl) (fun _ _ _ h => h) HS (Or.inl ⟨by rfl, ?_⟩) ?_
    rotate_left
    · (intro w hSw; obtain ⟨q1, q2⟩ := hSw; go_simp; try with_reducible rfl)
    try simp only [Act.put, List.getElem_toArray, List.getElem_cons_succ, List.getElem_cons_zero, List.setIfInBounds_toArray, List.set_cons_zero, List.set_cons_succ]
    refine wpAnyI_take (i := 8) (v := ?_) (by kernel_rfl) rfl (by kernel_rfl) (by kernel_rfl) (by kernel_rfl) (fun _ _ _ h => h) HS (Or.inl ⟨by rfl, ?_⟩) ?_
    rotate_left
    · (intro w hSw; obtain ⟨q1, q2⟩ := hSw; go_simp; try with_reducible rfl)
    try simp only [Act.put, List.getElem_toArray, List.getElem_cons_succ, List.getElem_cons_zero, List.setIfInBounds_toArray, List.set_cons_zero, List.set_cons_succ]
    refine wpAnyI_one (i := 6) rfl (by kernel_rfl) (fun K hK => ?_)
    dsimp only [List.getElem_toArray, List.getElem_cons_succ, List.getElem_cons_zero]
    go_simp
    go_wp2_with ((refine (rmod_any _ _ _ h0 h1 (by omega) (by omega)).mono ?_); rintro e w' ⟨rfl, rfl⟩)
    refine hK _ _ (Or.inr HS) ?_
    clear hK K
    try simp only [Act.put, List.getElem_toArray, List.getElem_cons_succ, List.getElem_cons_zero, List.setIfInBounds_toArray, List.set_cons_zero, List.set_cons_succ]
    refine wpAnyI_take (i := 9) (v := ?_) (by kernel_rfl) rfl (by kernel_rfl) (by kernel_rfl) (by kernel_rfl) (fun _ _ _ h => h) HS (Or.inl ⟨by rfl, ?_⟩) ?_
    rotate_left
    · (intro w hSw; obtain ⟨q1, q2⟩ := hSw; go_simp; try with_reducible rfl)
    try simp only [Act.put, List.getElem_toArray, List.getElem_cons_succ, List.getElem_cons_zero, List.setIfInBounds_toArray, List.set_cons_zero, List.set_cons_succ]
    refine wpAnyI_take (i := 10) (v := ?_) (by kernel_rfl) rfl (by kernel_rfl) (by kernel_rfl) (by kernel_rfl) (fun _ _ _ h => h) HS (Or.inl ⟨by rfl, ?_⟩) ?_
    rotate_left
    · (intro w hSw; obtain ⟨q1, q2⟩ := hSw; go_simp; try with_reducible rfl)
    try simp only [Act.put, List.getElem_toArray, List.getElem_cons_succ, List.getElem_cons_zero, List.setIfInBounds_toArray, List.set_cons_zero, List.set_cons_succ]
    refine wpAnyI_one (i := 11) rfl (by kernel_rfl) (fun K hK => ?_)
    dsimp only [List.getElem_toArray, List.getElem_cons_succ, List.getElem_cons_zero]
    go_simp
    refine hK _ _ (Or.inl rfl) ?_
    clear hK K
    try simp only [Act.put, List.getElem_toArray, List.getElem_cons_succ, List.getElem_cons_zero, List.setIfInBounds_toArray, List.set_cons_zero, List.set_cons_succ]
    refine wpAnyI_done (by kernel_rfl) ?_ _
    go_wp2_with fail
    go_ret
    exact ⟨by simp, K0.out.trans HK.out⟩
  · have hB : memB r m n = false := by unfold memB; rw [valB_false hv]; rfl
    rw [hB]
    clear hB
    replace hv := Lib.hid hv
    go_enter Try.func21, Try.ntmps21
    go_wp2_with fail
    obtain ⟨w0, hw0⟩ : ∃ w0, w0 = w.alloc (.cells #[.int .i64 r, .int .i64 m] 28) := ⟨_, rfl⟩
    rw [← hw0]
    have A : Blk w0 w.heap.size 28 #[.int .i64 r, .int .i64 m] := by rw [hw0]; exact Blk.new _ _ _
    have K0 : Hid (Keeps [] w w0) := Lib.hid (by rw [hw0]; exact (Keeps.refl _ _).alloc _)
    have a0 : w0.cell? ⟨w.heap.size, 0, none⟩ = some (.int .i64 r) := by have := A.cell 0; simpa using this
    have a1 : w0.cell? ⟨w.heap.size, 1, none⟩ = some (.int .i64 m) := by have := A.cell 1; simpa using this
    have HK : Hid (Keeps [] w0 w0.drew) := Lib.hid (Keeps.refl _ _).drew
    clear A hw0
    refine wp_region_I (S := (fun w' => w'.cell? ⟨w.heap.size, 0, none⟩ = some (.int .i64 r) ∧ w'.cell? ⟨w.heap.size, 1, none⟩ = some (.int .i64 m))) (n := 11) (by kernel_rfl) ?_
    have HS := (⟨HK.out.cellEq a0 (by simp), HK.out.cellEq a1 (by simp)⟩ : _ ∧ _)
    refine wpAnyI_take (i := 0) (v := ?_) (by kernel_rfl) rfl (by kernel_rfl) (by kernel_rfl) (by kernel_rfl) (fun _ _ _ h => h) HS (Or.inl ⟨by rfl, ?_⟩) ?_
    rotate_left
    · (intro w hSw; obtain ⟨q1, q2⟩ := hSw; go_simp; try with_reducible rfl)
    try simp only [Act.put, List.getElem_toArray, List.getElem_cons_succ, List.getElem_cons_zero, List.setIfInBounds_toArray, List.set_cons_zero, List.set_cons_succ]
    refine wpAnyI_one (i := 1) rfl (by kernel_rfl) (fun K hK => ?_)
    dsimp only [List.getElem_toArray, List.getElem_cons_succ, List.getElem_cons_zero]
    go_simp
    go_wp2_with ((refine (rvalid_noK _ _ _ hv.out).mono ?_); rintro e w' ⟨rfl, hk⟩)
    replace HK := Lib.hid (HK.out.trans hk)
    clear hk
    have HS := (⟨HK.out.cellEq a0 (by simp), HK.out.cellEq a1 (by simp)⟩ : _ ∧ _)
    refine hK _ _ (Or.inr HS) ?_
    clear hK K
    try simp only [Act.put, List.getElem_toArray, List.getElem_cons_succ, List.getElem_cons_zero, List.setIfInBounds_toArray, List.set_cons_zero, List.set_cons_succ]
    refine wpAnyI_take (i := 2) (v := ?_) (by kernel_rfl) rfl (by kernel_rfl) (by kernel_rfl) (by kernel_rfl) (fun _ _ _ h => h) HS (Or.inl ⟨by rfl, ?_⟩) ?_
    rotate_left
    · (intro w hSw; obtain ⟨q1, q2⟩ := hSw; go_simp; try with_reducible rfl)
    try simp only [Act.put, List.getElem_toArray, List.getElem_cons_succ, List.getElem_cons_zero, List.setIfInBounds_toArray, List.set_cons_zero, List.set_cons_succ]
    refine wpAnyI_take (i := 3) (v := undef) (by kernel_rfl) rfl (by kernel_rfl) (by kernel_rfl) (by kernel_rfl) (fun _ _ _ h => h) HS (Or.inr ⟨by rfl, rfl⟩) ?_
    try simp only [Act.put, List.getElem_toArray, List.getElem_cons_succ, List.getElem_cons_zero, List.setIfInBounds_toArray, List.set_cons_zero, List.set_cons_succ]
    refine wpAnyI_take (i := 4) (v := undef) (by kernel_rfl) rfl (by kernel_rfl) (by kernel_rfl) (by kernel_rfl) (fun _ _ _ h => h) HS (Or.inr ⟨by rfl, rfl⟩) ?_
    try simp only [Act.put, List.getElem_toArray, List.getElem_cons_succ, List.getElem_cons_zero, List.setIfInBounds_toArray, List.set_cons_zero, List.set_cons_succ]
    refine wpAnyI_take (i := 5) (v := undef) (by kernel_rfl) rfl (by kernel_rfl) (by kernel_rfl) (by kernel_rfl) (fun _ _ _ h => h) HS (Or.inr ⟨by rfl, rfl⟩) ?_
    try simp only [Act.put, List.getElem_toArray, List.getElem_cons_succ, List.getElem_cons_zero, List.setIfInBounds_toArray, List.set_cons_zero, List.set_cons_succ]
    refine wpAnyI_take (i := 6) (v := undef) (by kernel_rfl) rfl (by kernel_rfl) (by kernel_rfl) (by kernel_rfl) (fun _ _ _ h => h) HS (Or.inr ⟨by rfl, rfl⟩) ?_
    try simp only [Act.put, List.getElem_toArray, List.getElem_cons_succ, List.getElem_cons_zero, List.setIfInBounds_toArray, List.set_cons_zero, List.set_cons_succ]
    refine wpAnyI_take (i := 7) (v := undef) (by kernel_rfl) rfl (by kernel_rfl) (by kernel_rfl) (by kernel_rfl) (fun _ _ _ h => h) HS (Or.inr ⟨by rfl, rfl⟩) ?_
    try simp only [Act.put, List.getElem_toArray, List.getElem_cons_succ, List.getElem_cons_zero, List.setIfInBounds_toArray, List.set_cons_zero, List.set_cons_succ]
    refine wpAnyI_take (i := 8) (v := undef) (by kernel_rfl) rfl (by kernel_rfl) (by kernel_rfl) (by kernel_rfl) (fun _ _ _ h => h) HS (Or.inr ⟨by rfl, rfl⟩) ?_
    try simp only [Act.put, List.getElem_toArray, List.getElem_cons_succ, List.getElem_cons_zero, List.setIfInBounds_toArray, List.set_cons_zero, List.set_cons_succ]
    refine wpAnyI_take (i := 9) (v := undef) (by kernel_rfl) rfl (by kernel_rfl) (by kernel_rfl) (by kernel_rfl) (fun _ _ _ h => h) HS (Or.inr ⟨by rfl, rfl⟩) ?_
    try simp only [Act.put, List.getElem_toArray, List.getElem_cons_succ, List.getElem_cons_zero, List.setIfInBounds_toArray, List.set_cons_zero, List.set_cons_succ]
    refine wpAnyI_take (i := 10) (v := ?_) (by kernel_rfl) rfl (by kernel_rfl) (by kernel_rfl) (by kernel_rfl) (fun _ _ _ h => h) HS (Or.inl ⟨by rfl, ?_⟩) ?_
    rotate_left
    · (intro w hSw; obtain ⟨q1, q2⟩ := hSw; go_simp; try with_reducible rfl)
    try simp only [Act.put, List.getElem_toArray, List.getElem_cons_succ, List.getElem_cons_zero, List.setIfInBounds_toArray, List.set_cons_zero, List.set_cons_succ]
    refine wpAnyI_one (i := 11) rfl (by kernel_rfl) (fun K hK => ?_)
    dsimp only [List.getElem_toArray, List.getElem_cons_succ, List.getElem_cons_zero]
    go_simp
    refine hK _ _ (Or.inl rfl) ?_
    clear hK K
    try simp only [Act.put, List.getElem_toArray, List.getElem_cons_succ, List.getElem_cons_zero, List.setIfInBounds_toArray, List.set_cons_zero, List.set_cons_succ]
    refine wpAnyI_done (by kernel_rfl) ?_ _
    go_wp2_with fail
    go_ret
    exact ⟨by simp, K0.out.trans HK.out⟩
end Go.Proofs.Ytbinnmcodlejmaa
