/- floor, ceil and narrow. -/
import Derived.Test.YthmnolpamllabaaIv6
namespace Go.Proofs.Ythmnolpamllabaa
open Go.RowKit
set_option linter.unusedSimpArgs false
set_option linter.unusedVariables false

def B60 (a : Int) : Prop := -1152921504606846976 ≤ a ∧ a ≤ 1152921504606846976

theorem floor_eq {a b : Int} (hb : 0 < b) : a / b = if a.tmod b < 0 then a.tdiv b - 1 else a.tdiv b := by
  have h1 := Int.mul_tdiv_add_tmod a b
  have h2 := Int.mul_ediv_add_emod a b
  have h3 := Int.emod_nonneg a (show b ≠ 0 by omega)
  have h4 := Int.emod_lt_of_pos a hb
  have h5 := Int.tmod_lt_of_pos a hb
  have h6 : -b < a.tmod b := by
    have := Int.tmod_lt_of_pos (-a) hb
    rw [Int.neg_tmod] at this
    omega
  by_cases h : a.tmod b < 0
  · rw [if_pos h]
    have e : b * (a.tdiv b - 1 - a / b) = a % b - (a.tmod b + b) := by rw [Int.mul_sub, Int.mul_sub, Int.mul_one]; omega
    rcases Int.lt_trichotomy (a.tdiv b - 1 - a / b) 0 with hz | hz | hz
    · have := Int.mul_le_mul_of_nonneg_left (show a.tdiv b - 1 - a / b ≤ -1 by omega) (show 0 ≤ b by omega)
      omega
    · omega
    · have := Int.mul_le_mul_of_nonneg_left (show 1 ≤ a.tdiv b - 1 - a / b by omega) (show 0 ≤ b by omega)
      omega
  · rw [if_neg h]
    have e : b * (a.tdiv b - a / b) = a % b - a.tmod b := by rw [Int.mul_sub]; omega
    rcases Int.lt_trichotomy (a.tdiv b - a / b) 0 with hz | hz | hz
    · have := Int.mul_le_mul_of_nonneg_left (show a.tdiv b - a / b ≤ -1 by omega) (show 0 ≤ b by omega)
      omega
    · omega
    · have := Int.mul_le_mul_of_nonneg_left (show 1 ≤ a.tdiv b - a / b by omega) (show 0 ≤ b by omega)
      omega
theorem ediv_b60 {a b : Int} (hb : 0 < b) (ha : B60 a) : B60 (a / b) := by
  obtain ⟨h1, h2⟩ := ha
  refine ⟨?_, ?_⟩
  · refine (Int.le_ediv_iff_mul_le hb).2 ?_
    have := Int.mul_le_mul_of_nonneg_left (show 1 ≤ b by omega) (show (0 : Int) ≤ 1152921504606846976 by decide)
    omega
  · have h3 : a / b < 1152921504606846977 := (Int.ediv_lt_iff_lt_mul hb).2 (by
      have := Int.mul_le_mul_of_nonneg_left (show 1 ≤ b by omega) (show (0 : Int) ≤ 1152921504606846977 by decide)
      omega)
    omega

set_option maxHeartbeats 800000 in
theorem floor_any (w : World) (a b : Int) (hb : 0 < b) (ha : B60 a) : Calls Try.prog 50 #[.int .i64 a, .int .i64 b] w fun e w' => e = .returned (.int .i64 (a / b)) ∧ w = w' := by
  have hq := ediv_b60 hb ha
  have he := floor_eq (a := a) hb
  unfold B60 at hq ha
  have hbz : ¬ b = 0 := by omega
  by_cases h : a.tmod b < 0
  · rw [if_pos h] at he
    have hd := decide_eq_true h
    have hw1 : IntKind.i64.wrap (a.tdiv b) = a.tdiv b := IntWalk.i64_in _ (by omega)
    have hw2 : IntKind.i64.wrap (a.tdiv b - 1) = a.tdiv b - 1 := IntWalk.i64_in _ (by omega)
    rw [he]
    clear he hq
    go_enter Try.func50, Try.ntmps50
    go_wp2
    go_ret
    exact ⟨rfl, rfl⟩
  · rw [if_neg h] at he
    have hd := decide_eq_false h
    have hw1 : IntKind.i64.wrap (a.tdiv b) = a.tdiv b := IntWalk.i64_in _ (by omega)
    rw [he]
    clear he hq
    go_enter Try.func50, Try.ntmps50
    go_wp2
    go_ret
    exact ⟨rfl, rfl⟩

set_option maxHeartbeats 800000 in
theorem ceil_any (w : World) (a b : Int) (hb : 0 < b) (ha : B60 a) : Calls Try.prog 51 #[.int .i64 a, .int .i64 b] w fun e w' => e = .returned (.int .i64 (-(-a / b))) ∧ w = w' := by
  have hna : B60 (-a) := by unfold B60 at *; omega
  have HF := Lib.hid (floor_any w (-a) b hb hna)
  have hq := ediv_b60 hb hna
  unfold B60 at hq ha
  have hw1 : IntKind.i64.wrap (-a) = -a := IntWalk.i64_in _ (by omega)
  have hw2 : IntKind.i64.wrap (-(-a / b)) = -(-a / b) := IntWalk.i64_in _ (by omega)
  generalize -a / b = q at *
  go_enter Try.func51, Try.ntmps51
  go_wp2_with fail
  refine HF.out.mono ?_
  rintro e w1 ⟨rfl, rfl⟩
  go_wp2_with fail
  go_ret
  exact ⟨rfl, rfl⟩

/-- What narrow computes. -/
def narM (x : Iv) (a : Int) (r : Iv) (eq : Bool) : Iv :=
  if 0 < a then (if eq then max x.1 (-(r.2 / a)) else x.1, min x.2 (-r.1 / a)) else (max x.1 (-(-r.1 / -a)), if eq then min x.2 (r.2 / -a) else x.2)

def NarPost (w : World) (y : Iv) (e : Ending) (w' : World) : Prop := e = .returned (.agg #[.int .i64 y.1, .int .i64 y.2]) ∧ Keeps [] w w'


set_option maxHeartbeats 1600000 in
set_option maxRecDepth 100000 in
theorem narrow_pi (w : World) (x1 x2 a r1 r2 : Int) (ha : 0 < a) (h1 : B60 r1) (h2 : B60 r2) (h3 : B60 a) :
    Calls Try.prog 36 #[.agg #[.int .i64 x1, .int .i64 x2], .int .i64 a, .agg #[.int .i64 r1, .int .i64 r2], .bool false] w (NarPost w (narM (x1, x2) a (r1, r2) false)) := by
  have hnr : narM (x1, x2) a (r1, r2) false = (x1, (min x2 (-r1 / a))) := by unfold narM; rw [if_pos (by omega)]; first | rfl | (rw [Int.neg_neg]; rfl)
  rw [hnr]
  have HF := Lib.hid (fun w' : World => floor_any w' (-r1) a ha (by unfold B60 at *; omega))
  have HG := Lib.hid (fun w' : World => ceil_any w' (-r2) a ha (by unfold B60 at *; omega))
  rw [Int.neg_neg] at HG
  have hw1 : IntKind.i64.wrap (-r1) = -r1 := IntWalk.i64_in _ (by unfold B60 at h1; omega)
  have hw2 : IntKind.i64.wrap (-r2) = -r2 := IntWalk.i64_in _ (by unfold B60 at h2; omega)
  have k1 : Keeps [] w (((w.alloc (.cells #[.int .i64 x1, .int .i64 x2] 39)).alloc (.cells #[.int .i64 r1, .int .i64 r2] 39)).alloc (.cells #[.int .i64 0, .int .i64 0] 39)) := (((Keeps.refl [] w).alloc _).alloc _).alloc _
  have Bx : Blk (((w.alloc (.cells #[.int .i64 x1, .int .i64 x2] 39)).alloc (.cells #[.int .i64 r1, .int .i64 r2] 39)).alloc (.cells #[.int .i64 0, .int .i64 0] 39)) w.heap.size 39 #[.int .i64 x1, .int .i64 x2] := ((Blk.new w 39 _).alloc _).alloc _
  have Br : Blk (((w.alloc (.cells #[.int .i64 x1, .int .i64 x2] 39)).alloc (.cells #[.int .i64 r1, .int .i64 r2] 39)).alloc (.cells #[.int .i64 0, .int .i64 0] 39)) (w.heap.size + 1) 39 #[.int .i64 r1, .int .i64 r2] := by
    have := (Blk.new (w.alloc (.cells #[.int .i64 x1, .int .i64 x2] 39)) 39 #[.int .i64 r1, .int .i64 r2]).alloc (.cells #[.int .i64 0, .int .i64 0] 39)
    simpa using this
  have Bt : Blk (((w.alloc (.cells #[.int .i64 x1, .int .i64 x2] 39)).alloc (.cells #[.int .i64 r1, .int .i64 r2] 39)).alloc (.cells #[.int .i64 0, .int .i64 0] 39)) (w.heap.size + 1 + 1) 39 #[.int .i64 0, .int .i64 0] := by
    have := Blk.new ((w.alloc (.cells #[.int .i64 x1, .int .i64 x2] 39)).alloc (.cells #[.int .i64 r1, .int .i64 r2] 39)) 39 #[.int .i64 0, .int .i64 0]
    simpa using this
  replace k1 := Lib.hid k1
  replace Bx := Lib.hid Bx
  replace Br := Lib.hid Br
  replace Bt := Lib.hid Bt
  obtain ⟨gx, hgx⟩ : ∃ g, g = w.heap.size := ⟨_, rfl⟩
  obtain ⟨gr, hgr⟩ : ∃ g, g = w.heap.size + 1 := ⟨_, rfl⟩
  obtain ⟨gt, hgt⟩ : ∃ g, g = w.heap.size + 1 + 1 := ⟨_, rfl⟩
  rw [← hgx] at Bx
  rw [← hgr] at Br
  rw [← hgt] at Bt
  have hg := Lib.hid (show gx ≠ gr ∧ gt ≠ gx ∧ gr ≠ gx ∧ w.heap.size ≤ gx ∧ w.heap.size ≤ gt by omega)
  clear h1 h2 h3 hnr
  go_enter Try.func36, Try.ntmps36
  go_wp2_with fail
  generalize (((w.alloc (.cells #[.int .i64 x1, .int .i64 x2] 39)).alloc (.cells #[.int .i64 r1, .int .i64 r2] 39)).alloc (.cells #[.int .i64 0, .int .i64 0] 39)) = wa at *
  rw [← hgt, ← hgr, ← hgx]
  clear hgx hgr hgt
  have h0 := And.intro (And.intro (Bx.out.drew.cell 0) (Bx.out.drew.cell 1)) (And.intro (Br.out.drew.cell 0) (Br.out.drew.cell 1))
  simp only [List.getElem?_toArray, List.getElem?_cons_succ, List.getElem?_cons_zero] at h0
  have HC := Lib.hid (HF.out wa.drew)
  have fz := Bx.out.drew.frozen 1
  replace Bx := Lib.hid Bx.out.drew
  replace Br := Lib.hid Br.out.drew
  replace Bt := Lib.hid Bt.out.drew
  replace k1 := Lib.hid k1.out.drew
  refine wp_region_I (S := (fun w' : World => (w'.cell? ⟨gx, 0, none⟩ = some (.int .i64 x1) ∧ w'.cell? ⟨gx, 1, none⟩ = some (.int .i64 x2)) ∧ (w'.cell? ⟨gr, 0, none⟩ = some (.int .i64 r1) ∧ w'.cell? ⟨gr, 1, none⟩ = some (.int .i64 r2)))) (n := 9) (by kernel_rfl) ?_
  generalize wa.drew = wd at *
  have HS := h0
  clear h0
  refine wpAnyI_take (i := 0) (v := ?_) (by kernel_rfl) rfl (by kernel_rfl) (by kernel_rfl) (by kernel_rfl) (fun _ _ _ h => h) HS (Or.inl ⟨by rfl, ?_⟩) ?_
  rotate_left
  · (intro w hSw; obtain ⟨⟨y1, y2⟩, ⟨y3, y4⟩⟩ := hSw; go_simp; try with_reducible rfl)
  try simp only [Act.put, List.getElem_toArray, List.getElem_cons_succ, List.getElem_cons_zero, List.setIfInBounds_toArray, List.set_cons_zero, List.set_cons_succ]
  refine wpAnyI_take (i := 1) (v := ?_) (by kernel_rfl) rfl (by kernel_rfl) (by kernel_rfl) (by kernel_rfl) (fun _ _ _ h => h) HS (Or.inl ⟨by rfl, ?_⟩) ?_
  rotate_left
  · (intro w hSw; obtain ⟨⟨y1, y2⟩, ⟨y3, y4⟩⟩ := hSw; go_simp; try with_reducible rfl)
  try simp only [Act.put, List.getElem_toArray, List.getElem_cons_succ, List.getElem_cons_zero, List.setIfInBounds_toArray, List.set_cons_zero, List.set_cons_succ]
  refine wpAnyI_take (i := 2) (v := ?_) (by kernel_rfl) rfl (by kernel_rfl) (by kernel_rfl) (by kernel_rfl) (fun _ _ _ h => h) HS (Or.inl ⟨by rfl, ?_⟩) ?_
  rotate_left
  · (intro w hSw; obtain ⟨⟨y1, y2⟩, ⟨y3, y4⟩⟩ := hSw; go_simp; try with_reducible rfl)
  try simp only [Act.put, List.getElem_toArray, List.getElem_cons_succ, List.getElem_cons_zero, List.setIfInBounds_toArray, List.set_cons_zero, List.set_cons_succ]
  refine wpAnyI_take (i := 3) (v := ?_) (by kernel_rfl) rfl (by kernel_rfl) (by kernel_rfl) (by kernel_rfl) (fun _ _ _ h => h) HS (Or.inl ⟨by rfl, ?_⟩) ?_
  rotate_left
  · (intro w hSw; obtain ⟨⟨y1, y2⟩, ⟨y3, y4⟩⟩ := hSw; go_simp; try with_reducible rfl)
  try simp only [Act.put, List.getElem_toArray, List.getElem_cons_succ, List.getElem_cons_zero, List.setIfInBounds_toArray, List.set_cons_zero, List.set_cons_succ]
  refine wpAnyI_take (i := 4) (v := .int .i64 (-r1)) (by kernel_rfl) rfl (by kernel_rfl) (by kernel_rfl) (by kernel_rfl) (fun _ _ _ h => h) HS (Or.inl ⟨by rfl, ?_⟩) ?_
  · (intro w hSw; obtain ⟨⟨y1, y2⟩, ⟨y3, y4⟩⟩ := hSw; go_simp; try rw [hw1])
  try simp only [Act.put, List.getElem_toArray, List.getElem_cons_succ, List.getElem_cons_zero, List.setIfInBounds_toArray, List.set_cons_zero, List.set_cons_succ]
  refine wpAnyI_take (i := 5) (v := ?_) (by kernel_rfl) rfl (by kernel_rfl) (by kernel_rfl) (by kernel_rfl) (fun _ _ _ h => h) HS (Or.inl ⟨by rfl, ?_⟩) ?_
  rotate_left
  · (intro w hSw; obtain ⟨⟨y1, y2⟩, ⟨y3, y4⟩⟩ := hSw; go_simp; try with_reducible rfl)
  try simp only [Act.put, List.getElem_toArray, List.getElem_cons_succ, List.getElem_cons_zero, List.setIfInBounds_toArray, List.set_cons_zero, List.set_cons_succ]
  refine wpAnyI_one (i := 6) rfl (by kernel_rfl) (fun K hK => ?_)
  dsimp only [List.getElem_toArray, List.getElem_cons_succ, List.getElem_cons_zero]
  go_simp
  refine HC.out.mono ?_
  rintro e w4 ⟨rfl, rfl⟩
  refine hK _ _ (Or.inr HS) ?_
  clear hK K
  try simp only [Act.put, List.getElem_toArray, List.getElem_cons_succ, List.getElem_cons_zero, List.setIfInBounds_toArray, List.set_cons_zero, List.set_cons_succ]
  refine wpAnyI_take (i := 7) (v := ?_) (by kernel_rfl) rfl (by kernel_rfl) (by kernel_rfl) (by kernel_rfl) (fun _ _ _ h => h) HS (Or.inl ⟨by rfl, ?_⟩) ?_
  rotate_left
  · (intro w hSw; obtain ⟨⟨y1, y2⟩, ⟨y3, y4⟩⟩ := hSw; go_simp; try with_reducible rfl)
  try simp only [Act.put, List.getElem_toArray, List.getElem_cons_succ, List.getElem_cons_zero, List.setIfInBounds_toArray, List.set_cons_zero, List.set_cons_succ]
  refine wpAnyI_take (i := 8) (v := ?_) (by kernel_rfl) rfl (by kernel_rfl) (by kernel_rfl) (by kernel_rfl) (fun _ _ _ h => h) HS (Or.inl ⟨by rfl, ?_⟩) ?_
  rotate_left
  · (intro w hSw; obtain ⟨⟨y1, y2⟩, ⟨y3, y4⟩⟩ := hSw; go_simp; try with_reducible rfl)
  try simp only [Act.put, List.getElem_toArray, List.getElem_cons_succ, List.getElem_cons_zero, List.setIfInBounds_toArray, List.set_cons_zero, List.set_cons_succ]
  refine wpAnyI_one (i := 9) rfl (by kernel_rfl) (fun K hK => ?_)
  dsimp only [List.getElem_toArray, List.getElem_cons_succ, List.getElem_cons_zero]
  go_simp
  refine hK _ _ (Or.inl rfl) ?_
  clear hK K
  try simp only [Act.put, List.getElem_toArray, List.getElem_cons_succ, List.getElem_cons_zero, List.setIfInBounds_toArray, List.set_cons_zero, List.set_cons_succ]
  refine wpAnyI_done (by kernel_rfl) ?_ _
  replace Bx := Lib.hid (Bx.out.set_ 1 (.int .i64 (min x2 (-r1 / a))))
  replace Br := Lib.hid (Br.out.far (p := ⟨gx, 1, none⟩) hg.out.2.2.1 (.int .i64 (min x2 (-r1 / a))))
  replace Bt := Lib.hid (Bt.out.far (p := ⟨gx, 1, none⟩) hg.out.2.1 (.int .i64 (min x2 (-r1 / a))))
  replace k1 := Lib.hid (k1.out.setCell (p := ⟨gx, 1, none⟩) (.inr hg.out.2.2.2.1) (.int .i64 (min x2 (-r1 / a))))
  clear HS fz HC
  generalize wd.setCell ⟨gx, 1, none⟩ (.int .i64 (min x2 (-r1 / a))) = we at *
  have c0 := Bx.out.cell 0
  have c1 := Bx.out.cell 1
  simp only [List.setIfInBounds_toArray, List.set_cons_zero, List.set_cons_succ, List.getElem?_toArray, List.getElem?_cons_succ, List.getElem?_cons_zero] at c0 c1
  have t0 := Bt.out.cell
  have ft := Bt.out.frozen
  have kt := Lib.hid (fun (u v : Value) => (k1.out.setCell (p := ⟨gt, 0, none⟩) (.inr hg.out.2.2.2.2) u).setCell (p := ⟨gt, 1, none⟩) (.inr hg.out.2.2.2.2) v)
  have Bf := Lib.hid (fun (u v : Value) => (Bt.out.set_ 0 u).set_ 1 v)
  have hgn := hg.out.2.1
  go_wp2_with fail
  have z0 := (Bf.out (.int .i64 (x1)) (.int .i64 ((min x2 (-r1 / a))))).cell
  refine bodyPost_ret (v := .agg #[.int .i64 (x1), .int .i64 ((min x2 (-r1 / a)))]) (by simp [results, Try.results36, go_sem, z0]) rfl ⟨rfl, kt.out _ _⟩

set_option maxHeartbeats 1600000 in
set_option maxRecDepth 100000 in
theorem narrow_pe (w : World) (x1 x2 a r1 r2 : Int) (ha : 0 < a) (h1 : B60 r1) (h2 : B60 r2) (h3 : B60 a) :
    Calls Try.prog 36 #[.agg #[.int .i64 x1, .int .i64 x2], .int .i64 a, .agg #[.int .i64 r1, .int .i64 r2], .bool true] w (NarPost w (narM (x1, x2) a (r1, r2) true)) := by
  have hnr : narM (x1, x2) a (r1, r2) true = ((max x1 (-(r2 / a))), (min x2 (-r1 / a))) := by unfold narM; rw [if_pos (by omega)]; first | rfl | (rw [Int.neg_neg]; rfl)
  rw [hnr]
  have HF := Lib.hid (fun w' : World => floor_any w' (-r1) a ha (by unfold B60 at *; omega))
  have HG := Lib.hid (fun w' : World => ceil_any w' (-r2) a ha (by unfold B60 at *; omega))
  rw [Int.neg_neg] at HG
  have hw1 : IntKind.i64.wrap (-r1) = -r1 := IntWalk.i64_in _ (by unfold B60 at h1; omega)
  have hw2 : IntKind.i64.wrap (-r2) = -r2 := IntWalk.i64_in _ (by unfold B60 at h2; omega)
  have k1 : Keeps [] w (((w.alloc (.cells #[.int .i64 x1, .int .i64 x2] 39)).alloc (.cells #[.int .i64 r1, .int .i64 r2] 39)).alloc (.cells #[.int .i64 0, .int .i64 0] 39)) := (((Keeps.refl [] w).alloc _).alloc _).alloc _
  have Bx : Blk (((w.alloc (.cells #[.int .i64 x1, .int .i64 x2] 39)).alloc (.cells #[.int .i64 r1, .int .i64 r2] 39)).alloc (.cells #[.int .i64 0, .int .i64 0] 39)) w.heap.size 39 #[.int .i64 x1, .int .i64 x2] := ((Blk.new w 39 _).alloc _).alloc _
  have Br : Blk (((w.alloc (.cells #[.int .i64 x1, .int .i64 x2] 39)).alloc (.cells #[.int .i64 r1, .int .i64 r2] 39)).alloc (.cells #[.int .i64 0, .int .i64 0] 39)) (w.heap.size + 1) 39 #[.int .i64 r1, .int .i64 r2] := by
    have := (Blk.new (w.alloc (.cells #[.int .i64 x1, .int .i64 x2] 39)) 39 #[.int .i64 r1, .int .i64 r2]).alloc (.cells #[.int .i64 0, .int .i64 0] 39)
    simpa using this
  have Bt : Blk (((w.alloc (.cells #[.int .i64 x1, .int .i64 x2] 39)).alloc (.cells #[.int .i64 r1, .int .i64 r2] 39)).alloc (.cells #[.int .i64 0, .int .i64 0] 39)) (w.heap.size + 1 + 1) 39 #[.int .i64 0, .int .i64 0] := by
    have := Blk.new ((w.alloc (.cells #[.int .i64 x1, .int .i64 x2] 39)).alloc (.cells #[.int .i64 r1, .int .i64 r2] 39)) 39 #[.int .i64 0, .int .i64 0]
    simpa using this
  replace k1 := Lib.hid k1
  replace Bx := Lib.hid Bx
  replace Br := Lib.hid Br
  replace Bt := Lib.hid Bt
  obtain ⟨gx, hgx⟩ : ∃ g, g = w.heap.size := ⟨_, rfl⟩
  obtain ⟨gr, hgr⟩ : ∃ g, g = w.heap.size + 1 := ⟨_, rfl⟩
  obtain ⟨gt, hgt⟩ : ∃ g, g = w.heap.size + 1 + 1 := ⟨_, rfl⟩
  rw [← hgx] at Bx
  rw [← hgr] at Br
  rw [← hgt] at Bt
  have hg := Lib.hid (show gx ≠ gr ∧ gt ≠ gx ∧ gr ≠ gx ∧ w.heap.size ≤ gx ∧ w.heap.size ≤ gt by omega)
  clear h1 h2 h3 hnr
  go_enter Try.func36, Try.ntmps36
  go_wp2_with fail
  generalize (((w.alloc (.cells #[.int .i64 x1, .int .i64 x2] 39)).alloc (.cells #[.int .i64 r1, .int .i64 r2] 39)).alloc (.cells #[.int .i64 0, .int .i64 0] 39)) = wa at *
  rw [← hgt, ← hgr, ← hgx]
  clear hgx hgr hgt
  have h0 := And.intro (And.intro (Bx.out.drew.cell 0) (Bx.out.drew.cell 1)) (And.intro (Br.out.drew.cell 0) (Br.out.drew.cell 1))
  simp only [List.getElem?_toArray, List.getElem?_cons_succ, List.getElem?_cons_zero] at h0
  have HC := Lib.hid (HF.out wa.drew)
  have fz := Bx.out.drew.frozen 1
  replace Bx := Lib.hid Bx.out.drew
  replace Br := Lib.hid Br.out.drew
  replace Bt := Lib.hid Bt.out.drew
  replace k1 := Lib.hid k1.out.drew
  refine wp_region_I (S := (fun w' : World => (w'.cell? ⟨gx, 0, none⟩ = some (.int .i64 x1) ∧ w'.cell? ⟨gx, 1, none⟩ = some (.int .i64 x2)) ∧ (w'.cell? ⟨gr, 0, none⟩ = some (.int .i64 r1) ∧ w'.cell? ⟨gr, 1, none⟩ = some (.int .i64 r2)))) (n := 9) (by kernel_rfl) ?_
  generalize wa.drew = wd at *
  have HS := h0
  clear h0
  refine wpAnyI_take (i := 0) (v := ?_) (by kernel_rfl) rfl (by kernel_rfl) (by kernel_rfl) (by kernel_rfl) (fun _ _ _ h => h) HS (Or.inl ⟨by rfl, ?_⟩) ?_
  rotate_left
  · (intro w hSw; obtain ⟨⟨y1, y2⟩, ⟨y3, y4⟩⟩ := hSw; go_simp; try with_reducible rfl)
  try simp only [Act.put, List.getElem_toArray, List.getElem_cons_succ, List.getElem_cons_zero, List.setIfInBounds_toArray, List.set_cons_zero, List.set_cons_succ]
  refine wpAnyI_take (i := 1) (v := ?_) (by kernel_rfl) rfl (by kernel_rfl) (by kernel_rfl) (by kernel_rfl) (fun _ _ _ h => h) HS (Or.inl ⟨by rfl, ?_⟩) ?_
  rotate_left
  · (intro w hSw; obtain ⟨⟨y1, y2⟩, ⟨y3, y4⟩⟩ := hSw; go_simp; try with_reducible rfl)
  try simp only [Act.put, List.getElem_toArray, List.getElem_cons_succ, List.getElem_cons_zero, List.setIfInBounds_toArray, List.set_cons_zero, List.set_cons_succ]
  refine wpAnyI_take (i := 2) (v := ?_) (by kernel_rfl) rfl (by kernel_rfl) (by kernel_rfl) (by kernel_rfl) (fun _ _ _ h => h) HS (Or.inl ⟨by rfl, ?_⟩) ?_
  rotate_left
  · (intro w hSw; obtain ⟨⟨y1, y2⟩, ⟨y3, y4⟩⟩ := hSw; go_simp; try with_reducible rfl)
  try simp only [Act.put, List.getElem_toArray, List.getElem_cons_succ, List.getElem_cons_zero, List.setIfInBounds_toArray, List.set_cons_zero, List.set_cons_succ]
  refine wpAnyI_take (i := 3) (v := ?_) (by kernel_rfl) rfl (by kernel_rfl) (by kernel_rfl) (by kernel_rfl) (fun _ _ _ h => h) HS (Or.inl ⟨by rfl, ?_⟩) ?_
  rotate_left
  · (intro w hSw; obtain ⟨⟨y1, y2⟩, ⟨y3, y4⟩⟩ := hSw; go_simp; try with_reducible rfl)
  try simp only [Act.put, List.getElem_toArray, List.getElem_cons_succ, List.getElem_cons_zero, List.setIfInBounds_toArray, List.set_cons_zero, List.set_cons_succ]
  refine wpAnyI_take (i := 4) (v := .int .i64 (-r1)) (by kernel_rfl) rfl (by kernel_rfl) (by kernel_rfl) (by kernel_rfl) (fun _ _ _ h => h) HS (Or.inl ⟨by rfl, ?_⟩) ?_
  · (intro w hSw; obtain ⟨⟨y1, y2⟩, ⟨y3, y4⟩⟩ := hSw; go_simp; try rw [hw1])
  try simp only [Act.put, List.getElem_toArray, List.getElem_cons_succ, List.getElem_cons_zero, List.setIfInBounds_toArray, List.set_cons_zero, List.set_cons_succ]
  refine wpAnyI_take (i := 5) (v := ?_) (by kernel_rfl) rfl (by kernel_rfl) (by kernel_rfl) (by kernel_rfl) (fun _ _ _ h => h) HS (Or.inl ⟨by rfl, ?_⟩) ?_
  rotate_left
  · (intro w hSw; obtain ⟨⟨y1, y2⟩, ⟨y3, y4⟩⟩ := hSw; go_simp; try with_reducible rfl)
  try simp only [Act.put, List.getElem_toArray, List.getElem_cons_succ, List.getElem_cons_zero, List.setIfInBounds_toArray, List.set_cons_zero, List.set_cons_succ]
  refine wpAnyI_one (i := 6) rfl (by kernel_rfl) (fun K hK => ?_)
  dsimp only [List.getElem_toArray, List.getElem_cons_succ, List.getElem_cons_zero]
  go_simp
  refine HC.out.mono ?_
  rintro e w4 ⟨rfl, rfl⟩
  refine hK _ _ (Or.inr HS) ?_
  clear hK K
  try simp only [Act.put, List.getElem_toArray, List.getElem_cons_succ, List.getElem_cons_zero, List.setIfInBounds_toArray, List.set_cons_zero, List.set_cons_succ]
  refine wpAnyI_take (i := 7) (v := ?_) (by kernel_rfl) rfl (by kernel_rfl) (by kernel_rfl) (by kernel_rfl) (fun _ _ _ h => h) HS (Or.inl ⟨by rfl, ?_⟩) ?_
  rotate_left
  · (intro w hSw; obtain ⟨⟨y1, y2⟩, ⟨y3, y4⟩⟩ := hSw; go_simp; try with_reducible rfl)
  try simp only [Act.put, List.getElem_toArray, List.getElem_cons_succ, List.getElem_cons_zero, List.setIfInBounds_toArray, List.set_cons_zero, List.set_cons_succ]
  refine wpAnyI_take (i := 8) (v := ?_) (by kernel_rfl) rfl (by kernel_rfl) (by kernel_rfl) (by kernel_rfl) (fun _ _ _ h => h) HS (Or.inl ⟨by rfl, ?_⟩) ?_
  rotate_left
  · (intro w hSw; obtain ⟨⟨y1, y2⟩, ⟨y3, y4⟩⟩ := hSw; go_simp; try with_reducible rfl)
  try simp only [Act.put, List.getElem_toArray, List.getElem_cons_succ, List.getElem_cons_zero, List.setIfInBounds_toArray, List.set_cons_zero, List.set_cons_succ]
  refine wpAnyI_one (i := 9) rfl (by kernel_rfl) (fun K hK => ?_)
  dsimp only [List.getElem_toArray, List.getElem_cons_succ, List.getElem_cons_zero]
  go_simp
  refine hK _ _ (Or.inl rfl) ?_
  clear hK K
  try simp only [Act.put, List.getElem_toArray, List.getElem_cons_succ, List.getElem_cons_zero, List.setIfInBounds_toArray, List.set_cons_zero, List.set_cons_succ]
  refine wpAnyI_done (by kernel_rfl) ?_ _
  replace Bx := Lib.hid (Bx.out.set_ 1 (.int .i64 (min x2 (-r1 / a))))
  replace Br := Lib.hid (Br.out.far (p := ⟨gx, 1, none⟩) hg.out.2.2.1 (.int .i64 (min x2 (-r1 / a))))
  replace Bt := Lib.hid (Bt.out.far (p := ⟨gx, 1, none⟩) hg.out.2.1 (.int .i64 (min x2 (-r1 / a))))
  replace k1 := Lib.hid (k1.out.setCell (p := ⟨gx, 1, none⟩) (.inr hg.out.2.2.2.1) (.int .i64 (min x2 (-r1 / a))))
  clear HS fz HC
  generalize wd.setCell ⟨gx, 1, none⟩ (.int .i64 (min x2 (-r1 / a))) = we at *
  go_wp2_with fail
  have h0 := And.intro (And.intro (Bx.out.drew.cell 0) (Bx.out.drew.cell 1)) (And.intro (Br.out.drew.cell 0) (Br.out.drew.cell 1))
  simp only [List.setIfInBounds_toArray, List.set_cons_zero, List.set_cons_succ, List.getElem?_toArray, List.getElem?_cons_succ, List.getElem?_cons_zero] at h0
  have HC := Lib.hid (HG.out we.drew)
  have fz := Bx.out.drew.frozen 0
  replace Bx := Lib.hid Bx.out.drew
  replace Br := Lib.hid Br.out.drew
  replace Bt := Lib.hid Bt.out.drew
  replace k1 := Lib.hid k1.out.drew
  refine wp_region_I (S := (fun w' : World => (w'.cell? ⟨gx, 0, none⟩ = some (.int .i64 x1) ∧ w'.cell? ⟨gx, 1, none⟩ = some (.int .i64 (min x2 (-r1 / a)))) ∧ (w'.cell? ⟨gr, 0, none⟩ = some (.int .i64 r1) ∧ w'.cell? ⟨gr, 1, none⟩ = some (.int .i64 r2)))) (n := 9) (by kernel_rfl) ?_
  generalize we.drew = wf at *
  have HS := h0
  clear h0
  refine wpAnyI_take (i := 0) (v := ?_) (by kernel_rfl) rfl (by kernel_rfl) (by kernel_rfl) (by kernel_rfl) (fun _ _ _ h => h) HS (Or.inl ⟨by rfl, ?_⟩) ?_
  rotate_left
  · (intro w hSw; obtain ⟨⟨y1, y2⟩, ⟨y3, y4⟩⟩ := hSw; go_simp; try with_reducible rfl)
  try simp only [Act.put, List.getElem_toArray, List.getElem_cons_succ, List.getElem_cons_zero, List.setIfInBounds_toArray, List.set_cons_zero, List.set_cons_succ]
  refine wpAnyI_take (i := 1) (v := ?_) (by kernel_rfl) rfl (by kernel_rfl) (by kernel_rfl) (by kernel_rfl) (fun _ _ _ h => h) HS (Or.inl ⟨by rfl, ?_⟩) ?_
  rotate_left
  · (intro w hSw; obtain ⟨⟨y1, y2⟩, ⟨y3, y4⟩⟩ := hSw; go_simp; try with_reducible rfl)
  try simp only [Act.put, List.getElem_toArray, List.getElem_cons_succ, List.getElem_cons_zero, List.setIfInBounds_toArray, List.set_cons_zero, List.set_cons_succ]
  refine wpAnyI_take (i := 2) (v := ?_) (by kernel_rfl) rfl (by kernel_rfl) (by kernel_rfl) (by kernel_rfl) (fun _ _ _ h => h) HS (Or.inl ⟨by rfl, ?_⟩) ?_
  rotate_left
  · (intro w hSw; obtain ⟨⟨y1, y2⟩, ⟨y3, y4⟩⟩ := hSw; go_simp; try with_reducible rfl)
  try simp only [Act.put, List.getElem_toArray, List.getElem_cons_succ, List.getElem_cons_zero, List.setIfInBounds_toArray, List.set_cons_zero, List.set_cons_succ]
  refine wpAnyI_take (i := 3) (v := ?_) (by kernel_rfl) rfl (by kernel_rfl) (by kernel_rfl) (by kernel_rfl) (fun _ _ _ h => h) HS (Or.inl ⟨by rfl, ?_⟩) ?_
  rotate_left
  · (intro w hSw; obtain ⟨⟨y1, y2⟩, ⟨y3, y4⟩⟩ := hSw; go_simp; try with_reducible rfl)
  try simp only [Act.put, List.getElem_toArray, List.getElem_cons_succ, List.getElem_cons_zero, List.setIfInBounds_toArray, List.set_cons_zero, List.set_cons_succ]
  refine wpAnyI_take (i := 4) (v := .int .i64 (-r2)) (by kernel_rfl) rfl (by kernel_rfl) (by kernel_rfl) (by kernel_rfl) (fun _ _ _ h => h) HS (Or.inl ⟨by rfl, ?_⟩) ?_
  · (intro w hSw; obtain ⟨⟨y1, y2⟩, ⟨y3, y4⟩⟩ := hSw; go_simp; try rw [hw2])
  try simp only [Act.put, List.getElem_toArray, List.getElem_cons_succ, List.getElem_cons_zero, List.setIfInBounds_toArray, List.set_cons_zero, List.set_cons_succ]
  refine wpAnyI_take (i := 5) (v := ?_) (by kernel_rfl) rfl (by kernel_rfl) (by kernel_rfl) (by kernel_rfl) (fun _ _ _ h => h) HS (Or.inl ⟨by rfl, ?_⟩) ?_
  rotate_left
  · (intro w hSw; obtain ⟨⟨y1, y2⟩, ⟨y3, y4⟩⟩ := hSw; go_simp; try with_reducible rfl)
  try simp only [Act.put, List.getElem_toArray, List.getElem_cons_succ, List.getElem_cons_zero, List.setIfInBounds_toArray, List.set_cons_zero, List.set_cons_succ]
  refine wpAnyI_one (i := 6) rfl (by kernel_rfl) (fun K hK => ?_)
  dsimp only [List.getElem_toArray, List.getElem_cons_succ, List.getElem_cons_zero]
  go_simp
  refine HC.out.mono ?_
  rintro e w4 ⟨rfl, rfl⟩
  refine hK _ _ (Or.inr HS) ?_
  clear hK K
  try simp only [Act.put, List.getElem_toArray, List.getElem_cons_succ, List.getElem_cons_zero, List.setIfInBounds_toArray, List.set_cons_zero, List.set_cons_succ]
  refine wpAnyI_take (i := 7) (v := ?_) (by kernel_rfl) rfl (by kernel_rfl) (by kernel_rfl) (by kernel_rfl) (fun _ _ _ h => h) HS (Or.inl ⟨by rfl, ?_⟩) ?_
  rotate_left
  · (intro w hSw; obtain ⟨⟨y1, y2⟩, ⟨y3, y4⟩⟩ := hSw; go_simp; try with_reducible rfl)
  try simp only [Act.put, List.getElem_toArray, List.getElem_cons_succ, List.getElem_cons_zero, List.setIfInBounds_toArray, List.set_cons_zero, List.set_cons_succ]
  refine wpAnyI_take (i := 8) (v := ?_) (by kernel_rfl) rfl (by kernel_rfl) (by kernel_rfl) (by kernel_rfl) (fun _ _ _ h => h) HS (Or.inl ⟨by rfl, ?_⟩) ?_
  rotate_left
  · (intro w hSw; obtain ⟨⟨y1, y2⟩, ⟨y3, y4⟩⟩ := hSw; go_simp; try with_reducible rfl)
  try simp only [Act.put, List.getElem_toArray, List.getElem_cons_succ, List.getElem_cons_zero, List.setIfInBounds_toArray, List.set_cons_zero, List.set_cons_succ]
  refine wpAnyI_one (i := 9) rfl (by kernel_rfl) (fun K hK => ?_)
  dsimp only [List.getElem_toArray, List.getElem_cons_succ, List.getElem_cons_zero]
  go_simp
  refine hK _ _ (Or.inl rfl) ?_
  clear hK K
  try simp only [Act.put, List.getElem_toArray, List.getElem_cons_succ, List.getElem_cons_zero, List.setIfInBounds_toArray, List.set_cons_zero, List.set_cons_succ]
  refine wpAnyI_done (by kernel_rfl) ?_ _
  replace Bx := Lib.hid (Bx.out.set_ 0 (.int .i64 (max x1 (-(r2 / a)))))
  replace Bt := Lib.hid (Bt.out.far (p := ⟨gx, 0, none⟩) hg.out.2.1 (.int .i64 (max x1 (-(r2 / a)))))
  replace k1 := Lib.hid (k1.out.setCell (p := ⟨gx, 0, none⟩) (.inr hg.out.2.2.2.1) (.int .i64 (max x1 (-(r2 / a)))))
  clear HS fz HC
  generalize wf.setCell ⟨gx, 0, none⟩ (.int .i64 (max x1 (-(r2 / a)))) = wg at *
  have c0 := Bx.out.cell 0
  have c1 := Bx.out.cell 1
  simp only [List.setIfInBounds_toArray, List.set_cons_zero, List.set_cons_succ, List.getElem?_toArray, List.getElem?_cons_succ, List.getElem?_cons_zero] at c0 c1
  have t0 := Bt.out.cell
  have ft := Bt.out.frozen
  have kt := Lib.hid (fun (u v : Value) => (k1.out.setCell (p := ⟨gt, 0, none⟩) (.inr hg.out.2.2.2.2) u).setCell (p := ⟨gt, 1, none⟩) (.inr hg.out.2.2.2.2) v)
  have Bf := Lib.hid (fun (u v : Value) => (Bt.out.set_ 0 u).set_ 1 v)
  have hgn := hg.out.2.1
  go_wp2_with fail
  have z0 := (Bf.out (.int .i64 ((max x1 (-(r2 / a))))) (.int .i64 ((min x2 (-r1 / a))))).cell
  refine bodyPost_ret (v := .agg #[.int .i64 ((max x1 (-(r2 / a)))), .int .i64 ((min x2 (-r1 / a)))]) (by simp [results, Try.results36, go_sem, z0]) rfl ⟨rfl, kt.out _ _⟩

set_option maxHeartbeats 1600000 in
set_option maxRecDepth 100000 in
theorem narrow_ni (w : World) (x1 x2 b r1 r2 : Int) (ha : 0 < b) (h1 : B60 r1) (h2 : B60 r2) (h3 : B60 b) :
    Calls Try.prog 36 #[.agg #[.int .i64 x1, .int .i64 x2], .int .i64 (-b), .agg #[.int .i64 r1, .int .i64 r2], .bool false] w (NarPost w (narM (x1, x2) (-b) (r1, r2) false)) := by
  have hnr : narM (x1, x2) (-b) (r1, r2) false = ((max x1 (-(-r1 / b))), x2) := by unfold narM; rw [if_neg (by omega)]; first | rfl | (rw [Int.neg_neg]; rfl)
  rw [hnr]
  have HF := Lib.hid (fun w' : World => ceil_any w' r1 b ha h1)
  have HG := Lib.hid (fun w' : World => floor_any w' r2 b ha h2)
  have hwa : IntKind.i64.wrap b = b := IntWalk.i64_in _ (by unfold B60 at h3; omega)
  have hw1 : IntKind.i64.wrap (-r1) = -r1 := IntWalk.i64_in _ (by unfold B60 at h1; omega)
  have hw2 : IntKind.i64.wrap (-r2) = -r2 := IntWalk.i64_in _ (by unfold B60 at h2; omega)
  have k1 : Keeps [] w (((w.alloc (.cells #[.int .i64 x1, .int .i64 x2] 39)).alloc (.cells #[.int .i64 r1, .int .i64 r2] 39)).alloc (.cells #[.int .i64 0, .int .i64 0] 39)) := (((Keeps.refl [] w).alloc _).alloc _).alloc _
  have Bx : Blk (((w.alloc (.cells #[.int .i64 x1, .int .i64 x2] 39)).alloc (.cells #[.int .i64 r1, .int .i64 r2] 39)).alloc (.cells #[.int .i64 0, .int .i64 0] 39)) w.heap.size 39 #[.int .i64 x1, .int .i64 x2] := ((Blk.new w 39 _).alloc _).alloc _
  have Br : Blk (((w.alloc (.cells #[.int .i64 x1, .int .i64 x2] 39)).alloc (.cells #[.int .i64 r1, .int .i64 r2] 39)).alloc (.cells #[.int .i64 0, .int .i64 0] 39)) (w.heap.size + 1) 39 #[.int .i64 r1, .int .i64 r2] := by
    have := (Blk.new (w.alloc (.cells #[.int .i64 x1, .int .i64 x2] 39)) 39 #[.int .i64 r1, .int .i64 r2]).alloc (.cells #[.int .i64 0, .int .i64 0] 39)
    simpa using this
  have Bt : Blk (((w.alloc (.cells #[.int .i64 x1, .int .i64 x2] 39)).alloc (.cells #[.int .i64 r1, .int .i64 r2] 39)).alloc (.cells #[.int .i64 0, .int .i64 0] 39)) (w.heap.size + 1 + 1) 39 #[.int .i64 0, .int .i64 0] := by
    have := Blk.new ((w.alloc (.cells #[.int .i64 x1, .int .i64 x2] 39)).alloc (.cells #[.int .i64 r1, .int .i64 r2] 39)) 39 #[.int .i64 0, .int .i64 0]
    simpa using this
  replace k1 := Lib.hid k1
  replace Bx := Lib.hid Bx
  replace Br := Lib.hid Br
  replace Bt := Lib.hid Bt
  obtain ⟨gx, hgx⟩ : ∃ g, g = w.heap.size := ⟨_, rfl⟩
  obtain ⟨gr, hgr⟩ : ∃ g, g = w.heap.size + 1 := ⟨_, rfl⟩
  obtain ⟨gt, hgt⟩ : ∃ g, g = w.heap.size + 1 + 1 := ⟨_, rfl⟩
  rw [← hgx] at Bx
  rw [← hgr] at Br
  rw [← hgt] at Bt
  have hg := Lib.hid (show gx ≠ gr ∧ gt ≠ gx ∧ gr ≠ gx ∧ w.heap.size ≤ gx ∧ w.heap.size ≤ gt by omega)
  clear h1 h2 h3 hnr
  go_enter Try.func36, Try.ntmps36
  go_wp2_with fail
  generalize (((w.alloc (.cells #[.int .i64 x1, .int .i64 x2] 39)).alloc (.cells #[.int .i64 r1, .int .i64 r2] 39)).alloc (.cells #[.int .i64 0, .int .i64 0] 39)) = wa at *
  rw [← hgt, ← hgr, ← hgx]
  clear hgx hgr hgt
  have h0 := And.intro (And.intro (Bx.out.drew.cell 0) (Bx.out.drew.cell 1)) (And.intro (Br.out.drew.cell 0) (Br.out.drew.cell 1))
  simp only [List.getElem?_toArray, List.getElem?_cons_succ, List.getElem?_cons_zero] at h0
  have HC := Lib.hid (HF.out wa.drew)
  have fz := Bx.out.drew.frozen 0
  replace Bx := Lib.hid Bx.out.drew
  replace Br := Lib.hid Br.out.drew
  replace Bt := Lib.hid Bt.out.drew
  replace k1 := Lib.hid k1.out.drew
  refine wp_region_I (S := (fun w' : World => (w'.cell? ⟨gx, 0, none⟩ = some (.int .i64 x1) ∧ w'.cell? ⟨gx, 1, none⟩ = some (.int .i64 x2)) ∧ (w'.cell? ⟨gr, 0, none⟩ = some (.int .i64 r1) ∧ w'.cell? ⟨gr, 1, none⟩ = some (.int .i64 r2)))) (n := 9) (by kernel_rfl) ?_
  generalize wa.drew = wd at *
  have HS := h0
  clear h0
  refine wpAnyI_take (i := 0) (v := ?_) (by kernel_rfl) rfl (by kernel_rfl) (by kernel_rfl) (by kernel_rfl) (fun _ _ _ h => h) HS (Or.inl ⟨by rfl, ?_⟩) ?_
  rotate_left
  · (intro w hSw; obtain ⟨⟨y1, y2⟩, ⟨y3, y4⟩⟩ := hSw; go_simp; try with_reducible rfl)
  try simp only [Act.put, List.getElem_toArray, List.getElem_cons_succ, List.getElem_cons_zero, List.setIfInBounds_toArray, List.set_cons_zero, List.set_cons_succ]
  refine wpAnyI_take (i := 1) (v := ?_) (by kernel_rfl) rfl (by kernel_rfl) (by kernel_rfl) (by kernel_rfl) (fun _ _ _ h => h) HS (Or.inl ⟨by rfl, ?_⟩) ?_
  rotate_left
  · (intro w hSw; obtain ⟨⟨y1, y2⟩, ⟨y3, y4⟩⟩ := hSw; go_simp; try with_reducible rfl)
  try simp only [Act.put, List.getElem_toArray, List.getElem_cons_succ, List.getElem_cons_zero, List.setIfInBounds_toArray, List.set_cons_zero, List.set_cons_succ]
  refine wpAnyI_take (i := 2) (v := ?_) (by kernel_rfl) rfl (by kernel_rfl) (by kernel_rfl) (by kernel_rfl) (fun _ _ _ h => h) HS (Or.inl ⟨by rfl, ?_⟩) ?_
  rotate_left
  · (intro w hSw; obtain ⟨⟨y1, y2⟩, ⟨y3, y4⟩⟩ := hSw; go_simp; try with_reducible rfl)
  try simp only [Act.put, List.getElem_toArray, List.getElem_cons_succ, List.getElem_cons_zero, List.setIfInBounds_toArray, List.set_cons_zero, List.set_cons_succ]
  refine wpAnyI_take (i := 3) (v := ?_) (by kernel_rfl) rfl (by kernel_rfl) (by kernel_rfl) (by kernel_rfl) (fun _ _ _ h => h) HS (Or.inl ⟨by rfl, ?_⟩) ?_
  rotate_left
  · (intro w hSw; obtain ⟨⟨y1, y2⟩, ⟨y3, y4⟩⟩ := hSw; go_simp; try with_reducible rfl)
  try simp only [Act.put, List.getElem_toArray, List.getElem_cons_succ, List.getElem_cons_zero, List.setIfInBounds_toArray, List.set_cons_zero, List.set_cons_succ]
  refine wpAnyI_take (i := 4) (v := ?_) (by kernel_rfl) rfl (by kernel_rfl) (by kernel_rfl) (by kernel_rfl) (fun _ _ _ h => h) HS (Or.inl ⟨by rfl, ?_⟩) ?_
  rotate_left
  · (intro w hSw; obtain ⟨⟨y1, y2⟩, ⟨y3, y4⟩⟩ := hSw; go_simp; try with_reducible rfl)
  try simp only [Act.put, List.getElem_toArray, List.getElem_cons_succ, List.getElem_cons_zero, List.setIfInBounds_toArray, List.set_cons_zero, List.set_cons_succ]
  refine wpAnyI_take (i := 5) (v := .int .i64 b) (by kernel_rfl) rfl (by kernel_rfl) (by kernel_rfl) (by kernel_rfl) (fun _ _ _ h => h) HS (Or.inl ⟨by rfl, ?_⟩) ?_
  · (intro w hSw; obtain ⟨⟨y1, y2⟩, ⟨y3, y4⟩⟩ := hSw; go_simp; try rw [hwa])
  try simp only [Act.put, List.getElem_toArray, List.getElem_cons_succ, List.getElem_cons_zero, List.setIfInBounds_toArray, List.set_cons_zero, List.set_cons_succ]
  refine wpAnyI_one (i := 6) rfl (by kernel_rfl) (fun K hK => ?_)
  dsimp only [List.getElem_toArray, List.getElem_cons_succ, List.getElem_cons_zero]
  go_simp
  refine HC.out.mono ?_
  rintro e w4 ⟨rfl, rfl⟩
  refine hK _ _ (Or.inr HS) ?_
  clear hK K
  try simp only [Act.put, List.getElem_toArray, List.getElem_cons_succ, List.getElem_cons_zero, List.setIfInBounds_toArray, List.set_cons_zero, List.set_cons_succ]
  refine wpAnyI_take (i := 7) (v := ?_) (by kernel_rfl) rfl (by kernel_rfl) (by kernel_rfl) (by kernel_rfl) (fun _ _ _ h => h) HS (Or.inl ⟨by rfl, ?_⟩) ?_
  rotate_left
  · (intro w hSw; obtain ⟨⟨y1, y2⟩, ⟨y3, y4⟩⟩ := hSw; go_simp; try with_reducible rfl)
  try simp only [Act.put, List.getElem_toArray, List.getElem_cons_succ, List.getElem_cons_zero, List.setIfInBounds_toArray, List.set_cons_zero, List.set_cons_succ]
  refine wpAnyI_take (i := 8) (v := ?_) (by kernel_rfl) rfl (by kernel_rfl) (by kernel_rfl) (by kernel_rfl) (fun _ _ _ h => h) HS (Or.inl ⟨by rfl, ?_⟩) ?_
  rotate_left
  · (intro w hSw; obtain ⟨⟨y1, y2⟩, ⟨y3, y4⟩⟩ := hSw; go_simp; try with_reducible rfl)
  try simp only [Act.put, List.getElem_toArray, List.getElem_cons_succ, List.getElem_cons_zero, List.setIfInBounds_toArray, List.set_cons_zero, List.set_cons_succ]
  refine wpAnyI_one (i := 9) rfl (by kernel_rfl) (fun K hK => ?_)
  dsimp only [List.getElem_toArray, List.getElem_cons_succ, List.getElem_cons_zero]
  go_simp
  refine hK _ _ (Or.inl rfl) ?_
  clear hK K
  try simp only [Act.put, List.getElem_toArray, List.getElem_cons_succ, List.getElem_cons_zero, List.setIfInBounds_toArray, List.set_cons_zero, List.set_cons_succ]
  refine wpAnyI_done (by kernel_rfl) ?_ _
  replace Bx := Lib.hid (Bx.out.set_ 0 (.int .i64 (max x1 (-(-r1 / b)))))
  replace Br := Lib.hid (Br.out.far (p := ⟨gx, 0, none⟩) hg.out.2.2.1 (.int .i64 (max x1 (-(-r1 / b)))))
  replace Bt := Lib.hid (Bt.out.far (p := ⟨gx, 0, none⟩) hg.out.2.1 (.int .i64 (max x1 (-(-r1 / b)))))
  replace k1 := Lib.hid (k1.out.setCell (p := ⟨gx, 0, none⟩) (.inr hg.out.2.2.2.1) (.int .i64 (max x1 (-(-r1 / b)))))
  clear HS fz HC
  generalize wd.setCell ⟨gx, 0, none⟩ (.int .i64 (max x1 (-(-r1 / b)))) = we at *
  have c0 := Bx.out.cell 0
  have c1 := Bx.out.cell 1
  simp only [List.setIfInBounds_toArray, List.set_cons_zero, List.set_cons_succ, List.getElem?_toArray, List.getElem?_cons_succ, List.getElem?_cons_zero] at c0 c1
  have t0 := Bt.out.cell
  have ft := Bt.out.frozen
  have kt := Lib.hid (fun (u v : Value) => (k1.out.setCell (p := ⟨gt, 0, none⟩) (.inr hg.out.2.2.2.2) u).setCell (p := ⟨gt, 1, none⟩) (.inr hg.out.2.2.2.2) v)
  have Bf := Lib.hid (fun (u v : Value) => (Bt.out.set_ 0 u).set_ 1 v)
  have hgn := hg.out.2.1
  go_wp2_with fail
  have z0 := (Bf.out (.int .i64 ((max x1 (-(-r1 / b))))) (.int .i64 (x2))).cell
  refine bodyPost_ret (v := .agg #[.int .i64 ((max x1 (-(-r1 / b)))), .int .i64 (x2)]) (by simp [results, Try.results36, go_sem, z0]) rfl ⟨rfl, kt.out _ _⟩

set_option maxHeartbeats 1600000 in
set_option maxRecDepth 100000 in
theorem narrow_ne (w : World) (x1 x2 b r1 r2 : Int) (ha : 0 < b) (h1 : B60 r1) (h2 : B60 r2) (h3 : B60 b) :
    Calls Try.prog 36 #[.agg #[.int .i64 x1, .int .i64 x2], .int .i64 (-b), .agg #[.int .i64 r1, .int .i64 r2], .bool true] w (NarPost w (narM (x1, x2) (-b) (r1, r2) true)) := by
  have hnr : narM (x1, x2) (-b) (r1, r2) true = ((max x1 (-(-r1 / b))), (min x2 (r2 / b))) := by unfold narM; rw [if_neg (by omega)]; first | rfl | (rw [Int.neg_neg]; rfl)
  rw [hnr]
  have HF := Lib.hid (fun w' : World => ceil_any w' r1 b ha h1)
  have HG := Lib.hid (fun w' : World => floor_any w' r2 b ha h2)
  have hwa : IntKind.i64.wrap b = b := IntWalk.i64_in _ (by unfold B60 at h3; omega)
  have hw1 : IntKind.i64.wrap (-r1) = -r1 := IntWalk.i64_in _ (by unfold B60 at h1; omega)
  have hw2 : IntKind.i64.wrap (-r2) = -r2 := IntWalk.i64_in _ (by unfold B60 at h2; omega)
  have k1 : Keeps [] w (((w.alloc (.cells #[.int .i64 x1, .int .i64 x2] 39)).alloc (.cells #[.int .i64 r1, .int .i64 r2] 39)).alloc (.cells #[.int .i64 0, .int .i64 0] 39)) := (((Keeps.refl [] w).alloc _).alloc _).alloc _
  have Bx : Blk (((w.alloc (.cells #[.int .i64 x1, .int .i64 x2] 39)).alloc (.cells #[.int .i64 r1, .int .i64 r2] 39)).alloc (.cells #[.int .i64 0, .int .i64 0] 39)) w.heap.size 39 #[.int .i64 x1, .int .i64 x2] := ((Blk.new w 39 _).alloc _).alloc _
  have Br : Blk (((w.alloc (.cells #[.int .i64 x1, .int .i64 x2] 39)).alloc (.cells #[.int .i64 r1, .int .i64 r2] 39)).alloc (.cells #[.int .i64 0, .int .i64 0] 39)) (w.heap.size + 1) 39 #[.int .i64 r1, .int .i64 r2] := by
    have := (Blk.new (w.alloc (.cells #[.int .i64 x1, .int .i64 x2] 39)) 39 #[.int .i64 r1, .int .i64 r2]).alloc (.cells #[.int .i64 0, .int .i64 0] 39)
    simpa using this
  have Bt : Blk (((w.alloc (.cells #[.int .i64 x1, .int .i64 x2] 39)).alloc (.cells #[.int .i64 r1, .int .i64 r2] 39)).alloc (.cells #[.int .i64 0, .int .i64 0] 39)) (w.heap.size + 1 + 1) 39 #[.int .i64 0, .int .i64 0] := by
    have := Blk.new ((w.alloc (.cells #[.int .i64 x1, .int .i64 x2] 39)).alloc (.cells #[.int .i64 r1, .int .i64 r2] 39)) 39 #[.int .i64 0, .int .i64 0]
    simpa using this
  replace k1 := Lib.hid k1
  replace Bx := Lib.hid Bx
  replace Br := Lib.hid Br
  replace Bt := Lib.hid Bt
  obtain ⟨gx, hgx⟩ : ∃ g, g = w.heap.size := ⟨_, rfl⟩
  obtain ⟨gr, hgr⟩ : ∃ g, g = w.heap.size + 1 := ⟨_, rfl⟩
  obtain ⟨gt, hgt⟩ : ∃ g, g = w.heap.size + 1 + 1 := ⟨_, rfl⟩
  rw [← hgx] at Bx
  rw [← hgr] at Br
  rw [← hgt] at Bt
  have hg := Lib.hid (show gx ≠ gr ∧ gt ≠ gx ∧ gr ≠ gx ∧ w.heap.size ≤ gx ∧ w.heap.size ≤ gt by omega)
  clear h1 h2 h3 hnr
  go_enter Try.func36, Try.ntmps36
  go_wp2_with fail
  generalize (((w.alloc (.cells #[.int .i64 x1, .int .i64 x2] 39)).alloc (.cells #[.int .i64 r1, .int .i64 r2] 39)).alloc (.cells #[.int .i64 0, .int .i64 0] 39)) = wa at *
  rw [← hgt, ← hgr, ← hgx]
  clear hgx hgr hgt
  have h0 := And.intro (And.intro (Bx.out.drew.cell 0) (Bx.out.drew.cell 1)) (And.intro (Br.out.drew.cell 0) (Br.out.drew.cell 1))
  simp only [List.getElem?_toArray, List.getElem?_cons_succ, List.getElem?_cons_zero] at h0
  have HC := Lib.hid (HF.out wa.drew)
  have fz := Bx.out.drew.frozen 0
  replace Bx := Lib.hid Bx.out.drew
  replace Br := Lib.hid Br.out.drew
  replace Bt := Lib.hid Bt.out.drew
  replace k1 := Lib.hid k1.out.drew
  refine wp_region_I (S := (fun w' : World => (w'.cell? ⟨gx, 0, none⟩ = some (.int .i64 x1) ∧ w'.cell? ⟨gx, 1, none⟩ = some (.int .i64 x2)) ∧ (w'.cell? ⟨gr, 0, none⟩ = some (.int .i64 r1) ∧ w'.cell? ⟨gr, 1, none⟩ = some (.int .i64 r2)))) (n := 9) (by kernel_rfl) ?_
  generalize wa.drew = wd at *
  have HS := h0
  clear h0
  refine wpAnyI_take (i := 0) (v := ?_) (by kernel_rfl) rfl (by kernel_rfl) (by kernel_rfl) (by kernel_rfl) (fun _ _ _ h => h) HS (Or.inl ⟨by rfl, ?_⟩) ?_
  rotate_left
  · (intro w hSw; obtain ⟨⟨y1, y2⟩, ⟨y3, y4⟩⟩ := hSw; go_simp; try with_reducible rfl)
  try simp only [Act.put, List.getElem_toArray, List.getElem_cons_succ, List.getElem_cons_zero, List.setIfInBounds_toArray, List.set_cons_zero, List.set_cons_succ]
  refine wpAnyI_take (i := 1) (v := ?_) (by kernel_rfl) rfl (by kernel_rfl) (by kernel_rfl) (by kernel_rfl) (fun _ _ _ h => h) HS (Or.inl ⟨by rfl, ?_⟩) ?_
  rotate_left
  · (intro w hSw; obtain ⟨⟨y1, y2⟩, ⟨y3, y4⟩⟩ := hSw; go_simp; try with_reducible rfl)
  try simp only [Act.put, List.getElem_toArray, List.getElem_cons_succ, List.getElem_cons_zero, List.setIfInBounds_toArray, List.set_cons_zero, List.set_cons_succ]
  refine wpAnyI_take (i := 2) (v := ?_) (by kernel_rfl) rfl (by kernel_rfl) (by kernel_rfl) (by kernel_rfl) (fun _ _ _ h => h) HS (Or.inl ⟨by rfl, ?_⟩) ?_
  rotate_left
  · (intro w hSw; obtain ⟨⟨y1, y2⟩, ⟨y3, y4⟩⟩ := hSw; go_simp; try with_reducible rfl)
  try simp only [Act.put, List.getElem_toArray, List.getElem_cons_succ, List.getElem_cons_zero, List.setIfInBounds_toArray, List.set_cons_zero, List.set_cons_succ]
  refine wpAnyI_take (i := 3) (v := ?_) (by kernel_rfl) rfl (by kernel_rfl) (by kernel_rfl) (by kernel_rfl) (fun _ _ _ h => h) HS (Or.inl ⟨by rfl, ?_⟩) ?_
  rotate_left
  · (intro w hSw; obtain ⟨⟨y1, y2⟩, ⟨y3, y4⟩⟩ := hSw; go_simp; try with_reducible rfl)
  try simp only [Act.put, List.getElem_toArray, List.getElem_cons_succ, List.getElem_cons_zero, List.setIfInBounds_toArray, List.set_cons_zero, List.set_cons_succ]
  refine wpAnyI_take (i := 4) (v := ?_) (by kernel_rfl) rfl (by kernel_rfl) (by kernel_rfl) (by kernel_rfl) (fun _ _ _ h => h) HS (Or.inl ⟨by rfl, ?_⟩) ?_
  rotate_left
  · (intro w hSw; obtain ⟨⟨y1, y2⟩, ⟨y3, y4⟩⟩ := hSw; go_simp; try with_reducible rfl)
  try simp only [Act.put, List.getElem_toArray, List.getElem_cons_succ, List.getElem_cons_zero, List.setIfInBounds_toArray, List.set_cons_zero, List.set_cons_succ]
  refine wpAnyI_take (i := 5) (v := .int .i64 b) (by kernel_rfl) rfl (by kernel_rfl) (by kernel_rfl) (by kernel_rfl) (fun _ _ _ h => h) HS (Or.inl ⟨by rfl, ?_⟩) ?_
  · (intro w hSw; obtain ⟨⟨y1, y2⟩, ⟨y3, y4⟩⟩ := hSw; go_simp; try rw [hwa])
  try simp only [Act.put, List.getElem_toArray, List.getElem_cons_succ, List.getElem_cons_zero, List.setIfInBounds_toArray, List.set_cons_zero, List.set_cons_succ]
  refine wpAnyI_one (i := 6) rfl (by kernel_rfl) (fun K hK => ?_)
  dsimp only [List.getElem_toArray, List.getElem_cons_succ, List.getElem_cons_zero]
  go_simp
  refine HC.out.mono ?_
  rintro e w4 ⟨rfl, rfl⟩
  refine hK _ _ (Or.inr HS) ?_
  clear hK K
  try simp only [Act.put, List.getElem_toArray, List.getElem_cons_succ, List.getElem_cons_zero, List.setIfInBounds_toArray, List.set_cons_zero, List.set_cons_succ]
  refine wpAnyI_take (i := 7) (v := ?_) (by kernel_rfl) rfl (by kernel_rfl) (by kernel_rfl) (by kernel_rfl) (fun _ _ _ h => h) HS (Or.inl ⟨by rfl, ?_⟩) ?_
  rotate_left
  · (intro w hSw; obtain ⟨⟨y1, y2⟩, ⟨y3, y4⟩⟩ := hSw; go_simp; try with_reducible rfl)
  try simp only [Act.put, List.getElem_toArray, List.getElem_cons_succ, List.getElem_cons_zero, List.setIfInBounds_toArray, List.set_cons_zero, List.set_cons_succ]
  refine wpAnyI_take (i := 8) (v := ?_) (by kernel_rfl) rfl (by kernel_rfl) (by kernel_rfl) (by kernel_rfl) (fun _ _ _ h => h) HS (Or.inl ⟨by rfl, ?_⟩) ?_
  rotate_left
  · (intro w hSw; obtain ⟨⟨y1, y2⟩, ⟨y3, y4⟩⟩ := hSw; go_simp; try with_reducible rfl)
  try simp only [Act.put, List.getElem_toArray, List.getElem_cons_succ, List.getElem_cons_zero, List.setIfInBounds_toArray, List.set_cons_zero, List.set_cons_succ]
  refine wpAnyI_one (i := 9) rfl (by kernel_rfl) (fun K hK => ?_)
  dsimp only [List.getElem_toArray, List.getElem_cons_succ, List.getElem_cons_zero]
  go_simp
  refine hK _ _ (Or.inl rfl) ?_
  clear hK K
  try simp only [Act.put, List.getElem_toArray, List.getElem_cons_succ, List.getElem_cons_zero, List.setIfInBounds_toArray, List.set_cons_zero, List.set_cons_succ]
  refine wpAnyI_done (by kernel_rfl) ?_ _
  replace Bx := Lib.hid (Bx.out.set_ 0 (.int .i64 (max x1 (-(-r1 / b)))))
  replace Br := Lib.hid (Br.out.far (p := ⟨gx, 0, none⟩) hg.out.2.2.1 (.int .i64 (max x1 (-(-r1 / b)))))
  replace Bt := Lib.hid (Bt.out.far (p := ⟨gx, 0, none⟩) hg.out.2.1 (.int .i64 (max x1 (-(-r1 / b)))))
  replace k1 := Lib.hid (k1.out.setCell (p := ⟨gx, 0, none⟩) (.inr hg.out.2.2.2.1) (.int .i64 (max x1 (-(-r1 / b)))))
  clear HS fz HC
  generalize wd.setCell ⟨gx, 0, none⟩ (.int .i64 (max x1 (-(-r1 / b)))) = we at *
  go_wp2_with fail
  have h0 := And.intro (And.intro (Bx.out.drew.cell 0) (Bx.out.drew.cell 1)) (And.intro (Br.out.drew.cell 0) (Br.out.drew.cell 1))
  simp only [List.setIfInBounds_toArray, List.set_cons_zero, List.set_cons_succ, List.getElem?_toArray, List.getElem?_cons_succ, List.getElem?_cons_zero] at h0
  have HC := Lib.hid (HG.out we.drew)
  have fz := Bx.out.drew.frozen 1
  replace Bx := Lib.hid Bx.out.drew
  replace Br := Lib.hid Br.out.drew
  replace Bt := Lib.hid Bt.out.drew
  replace k1 := Lib.hid k1.out.drew
  refine wp_region_I (S := (fun w' : World => (w'.cell? ⟨gx, 0, none⟩ = some (.int .i64 (max x1 (-(-r1 / b)))) ∧ w'.cell? ⟨gx, 1, none⟩ = some (.int .i64 x2)) ∧ (w'.cell? ⟨gr, 0, none⟩ = some (.int .i64 r1) ∧ w'.cell? ⟨gr, 1, none⟩ = some (.int .i64 r2)))) (n := 9) (by kernel_rfl) ?_
  generalize we.drew = wf at *
  have HS := h0
  clear h0
  refine wpAnyI_take (i := 0) (v := ?_) (by kernel_rfl) rfl (by kernel_rfl) (by kernel_rfl) (by kernel_rfl) (fun _ _ _ h => h) HS (Or.inl ⟨by rfl, ?_⟩) ?_
  rotate_left
  · (intro w hSw; obtain ⟨⟨y1, y2⟩, ⟨y3, y4⟩⟩ := hSw; go_simp; try with_reducible rfl)
  try simp only [Act.put, List.getElem_toArray, List.getElem_cons_succ, List.getElem_cons_zero, List.setIfInBounds_toArray, List.set_cons_zero, List.set_cons_succ]
  refine wpAnyI_take (i := 1) (v := ?_) (by kernel_rfl) rfl (by kernel_rfl) (by kernel_rfl) (by kernel_rfl) (fun _ _ _ h => h) HS (Or.inl ⟨by rfl, ?_⟩) ?_
  rotate_left
  · (intro w hSw; obtain ⟨⟨y1, y2⟩, ⟨y3, y4⟩⟩ := hSw; go_simp; try with_reducible rfl)
  try simp only [Act.put, List.getElem_toArray, List.getElem_cons_succ, List.getElem_cons_zero, List.setIfInBounds_toArray, List.set_cons_zero, List.set_cons_succ]
  refine wpAnyI_take (i := 2) (v := ?_) (by kernel_rfl) rfl (by kernel_rfl) (by kernel_rfl) (by kernel_rfl) (fun _ _ _ h => h) HS (Or.inl ⟨by rfl, ?_⟩) ?_
  rotate_left
  · (intro w hSw; obtain ⟨⟨y1, y2⟩, ⟨y3, y4⟩⟩ := hSw; go_simp; try with_reducible rfl)
  try simp only [Act.put, List.getElem_toArray, List.getElem_cons_succ, List.getElem_cons_zero, List.setIfInBounds_toArray, List.set_cons_zero, List.set_cons_succ]
  refine wpAnyI_take (i := 3) (v := ?_) (by kernel_rfl) rfl (by kernel_rfl) (by kernel_rfl) (by kernel_rfl) (fun _ _ _ h => h) HS (Or.inl ⟨by rfl, ?_⟩) ?_
  rotate_left
  · (intro w hSw; obtain ⟨⟨y1, y2⟩, ⟨y3, y4⟩⟩ := hSw; go_simp; try with_reducible rfl)
  try simp only [Act.put, List.getElem_toArray, List.getElem_cons_succ, List.getElem_cons_zero, List.setIfInBounds_toArray, List.set_cons_zero, List.set_cons_succ]
  refine wpAnyI_take (i := 4) (v := ?_) (by kernel_rfl) rfl (by kernel_rfl) (by kernel_rfl) (by kernel_rfl) (fun _ _ _ h => h) HS (Or.inl ⟨by rfl, ?_⟩) ?_
  rotate_left
  · (intro w hSw; obtain ⟨⟨y1, y2⟩, ⟨y3, y4⟩⟩ := hSw; go_simp; try with_reducible rfl)
  try simp only [Act.put, List.getElem_toArray, List.getElem_cons_succ, List.getElem_cons_zero, List.setIfInBounds_toArray, List.set_cons_zero, List.set_cons_succ]
  refine wpAnyI_take (i := 5) (v := .int .i64 b) (by kernel_rfl) rfl (by kernel_rfl) (by kernel_rfl) (by kernel_rfl) (fun _ _ _ h => h) HS (Or.inl ⟨by rfl, ?_⟩) ?_
  · (intro w hSw; obtain ⟨⟨y1, y2⟩, ⟨y3, y4⟩⟩ := hSw; go_simp; try rw [hwa])
  try simp only [Act.put, List.getElem_toArray, List.getElem_cons_succ, List.getElem_cons_zero, List.setIfInBounds_toArray, List.set_cons_zero, List.set_cons_succ]
  refine wpAnyI_one (i := 6) rfl (by kernel_rfl) (fun K hK => ?_)
  dsimp only [List.getElem_toArray, List.getElem_cons_succ, List.getElem_cons_zero]
  go_simp
  refine HC.out.mono ?_
  rintro e w4 ⟨rfl, rfl⟩
  refine hK _ _ (Or.inr HS) ?_
  clear hK K
  try simp only [Act.put, List.getElem_toArray, List.getElem_cons_succ, List.getElem_cons_zero, List.setIfInBounds_toArray, List.set_cons_zero, List.set_cons_succ]
  refine wpAnyI_take (i := 7) (v := ?_) (by kernel_rfl) rfl (by kernel_rfl) (by kernel_rfl) (by kernel_rfl) (fun _ _ _ h => h) HS (Or.inl ⟨by rfl, ?_⟩) ?_
  rotate_left
  · (intro w hSw; obtain ⟨⟨y1, y2⟩, ⟨y3, y4⟩⟩ := hSw; go_simp; try with_reducible rfl)
  try simp only [Act.put, List.getElem_toArray, List.getElem_cons_succ, List.getElem_cons_zero, List.setIfInBounds_toArray, List.set_cons_zero, List.set_cons_succ]
  refine wpAnyI_take (i := 8) (v := ?_) (by kernel_rfl) rfl (by kernel_rfl) (by kernel_rfl) (by kernel_rfl) (fun _ _ _ h => h) HS (Or.inl ⟨by rfl, ?_⟩) ?_
  rotate_left
  · (intro w hSw; obtain ⟨⟨y1, y2⟩, ⟨y3, y4⟩⟩ := hSw; go_simp; try with_reducible rfl)
  try simp only [Act.put, List.getElem_toArray, List.getElem_cons_succ, List.getElem_cons_zero, List.setIfInBounds_toArray, List.set_cons_zero, List.set_cons_succ]
  refine wpAnyI_one (i := 9) rfl (by kernel_rfl) (fun K hK => ?_)
  dsimp only [List.getElem_toArray, List.getElem_cons_succ, List.getElem_cons_zero]
  go_simp
  refine hK _ _ (Or.inl rfl) ?_
  clear hK K
  try simp only [Act.put, List.getElem_toArray, List.getElem_cons_succ, List.getElem_cons_zero, List.setIfInBounds_toArray, List.set_cons_zero, List.set_cons_succ]
  refine wpAnyI_done (by kernel_rfl) ?_ _
  replace Bx := Lib.hid (Bx.out.set_ 1 (.int .i64 (min x2 (r2 / b))))
  replace Bt := Lib.hid (Bt.out.far (p := ⟨gx, 1, none⟩) hg.out.2.1 (.int .i64 (min x2 (r2 / b))))
  replace k1 := Lib.hid (k1.out.setCell (p := ⟨gx, 1, none⟩) (.inr hg.out.2.2.2.1) (.int .i64 (min x2 (r2 / b))))
  clear HS fz HC
  generalize wf.setCell ⟨gx, 1, none⟩ (.int .i64 (min x2 (r2 / b))) = wg at *
  have c0 := Bx.out.cell 0
  have c1 := Bx.out.cell 1
  simp only [List.setIfInBounds_toArray, List.set_cons_zero, List.set_cons_succ, List.getElem?_toArray, List.getElem?_cons_succ, List.getElem?_cons_zero] at c0 c1
  have t0 := Bt.out.cell
  have ft := Bt.out.frozen
  have kt := Lib.hid (fun (u v : Value) => (k1.out.setCell (p := ⟨gt, 0, none⟩) (.inr hg.out.2.2.2.2) u).setCell (p := ⟨gt, 1, none⟩) (.inr hg.out.2.2.2.2) v)
  have Bf := Lib.hid (fun (u v : Value) => (Bt.out.set_ 0 u).set_ 1 v)
  have hgn := hg.out.2.1
  go_wp2_with fail
  have z0 := (Bf.out (.int .i64 ((max x1 (-(-r1 / b))))) (.int .i64 ((min x2 (r2 / b))))).cell
  refine bodyPost_ret (v := .agg #[.int .i64 ((max x1 (-(-r1 / b)))), .int .i64 ((min x2 (r2 / b)))]) (by simp [results, Try.results36, go_sem, z0]) rfl ⟨rfl, kt.out _ _⟩

theorem narrow_any (w : World) (x1 x2 a r1 r2 : Int) (eq : Bool) (ha : a ≠ 0) (h1 : B60 r1) (h2 : B60 r2) (h3 : B60 a) :
    Calls Try.prog 36 #[.agg #[.int .i64 x1, .int .i64 x2], .int .i64 a, .agg #[.int .i64 r1, .int .i64 r2], .bool eq] w (NarPost w (narM (x1, x2) a (r1, r2) eq)) := by
  by_cases h : 0 < a
  · cases eq
    · exact narrow_pi w x1 x2 a r1 r2 h h1 h2 h3
    · exact narrow_pe w x1 x2 a r1 r2 h h1 h2 h3
  · obtain ⟨b, rfl⟩ : ∃ b, a = -b := ⟨-a, by omega⟩
    have h' : 0 < b := by omega
    have h4 : B60 b := by unfold B60 at *; omega
    cases eq
    · exact narrow_ni w x1 x2 b r1 r2 h' h1 h2 h4
    · exact narrow_ne w x1 x2 b r1 r2 h' h1 h2 h4
end Go.Proofs.Ythmnolpamllabaa
