/- The contract of the reference's begin. -/
import Derived.Test.YtoefbjeclghfhaaSnap9
namespace Go.Proofs.Ytoefbjeclghfhaa
open Go.RowKit
set_option linter.unusedSimpArgs false
set_option linter.unusedVariables false

/-- Any layout, cell by cell. -/
def LayAny (V : Array Value) : Prop := ∃ a0 a1 a2 a3 a4 a5 a6 a7 : Int, V = #[.int .i64 a0, .int .i64 a1, .int .i64 a2, .int .i64 a3, .int .i64 a4, .int .i64 a5, .int .i64 a6, .int .i64 a7]
theorem layAny0 : LayAny lay0 := ⟨0, 0, 0, 0, 0, 0, 0, 0, rfl⟩
theorem layAnyV (n : Nat) : LayAny (layV n) := ⟨_, _, _, _, _, _, _, _, rfl⟩

/-- The root's byte, and the cells that lead to it. -/
theorem root_cells {Z : List Nat} {w : World} {bm bS : Nat} {s : St} (hM : MRep Z w bm bS s) (h : 0 < s.n) : ∃ cap g0 c0, w.cell? ⟨bm, 0, none⟩ = some (.slice (some ⟨bS, 0, none⟩) s.n cap) ∧ w.cell? ⟨bm, 1, none⟩ = some (.bool s.down) ∧ w.cell? ⟨bS, 0, none⟩ = some (.slice (some ⟨g0, 0, none⟩) 64 c0) ∧ w.cell? ⟨g0, 0, none⟩ = some (.int .u8 (root s : Nat)) ∧ bm < w.heap.size ∧ bS < w.heap.size ∧ g0 < w.heap.size := by
  obtain ⟨cap, cells, a1, a2, a3, a4, a5⟩ := hM.ex
  obtain ⟨v, hv, hs⟩ := a5 0 h
  obtain ⟨g0, c0, rfl, h1, h2, h3, h4, h5, cur, h6⟩ := hs.bts
  have hg := sec_get hM.len h
  have hc := bts_cell h3 hg
  rw [Nat.add_zero] at hc
  exact ⟨cap, g0, c0, a1.cell 0, a1.cell 1, (a2.cell 0).trans hv, hc, a1.lt, a2.lt, h5⟩

set_option maxHeartbeats 3200000 in
set_option maxRecDepth 100000 in
theorem rbegin_ok {Z : List Nat} (w : World) (bm bS : Nat) (s : St) (hM : MRep Z w bm bS s) (hb : bad s = 0) :
    Calls Try.prog 44 #[.pointer (some ⟨bm, 0, none⟩)] w fun e w' => e = .returned (.tuple #[.agg (layV s.n), .int .i64 (root s : Nat), .int .i64 0]) ∧ Keeps [] w w' := by
  obtain ⟨hd, h7, hr1⟩ := bad_zero hb
  have hn := hM.n
  obtain ⟨cap, g0, c0, q1, q2, q3, q4, l1, l2, l3⟩ := root_cells hM (by omega)
  rw [hd] at q2
  clear hM hb hd
  generalize s.n = n at *
  generalize root s = r at *
  have HV := Lib.hid (fun w' => rdivide_ok w' n h7 hn)
  unfold layV at HV
  have hrn : ¬ (1 : Int) < (r : Int) := by omega
  have hn0 : 0 < n := by omega
  have nlt := Lib.hid (And.intro l1 (And.intro l2 l3))
  clear l1 l2 l3
  have k0 := (Keeps.refl [] w).alloc (.cells lay0 28)
  have p1 := k0.cellEq q1 (by simp)
  have p2 := k0.cellEq q2 (by simp)
  have p3 := k0.cellEq q3 (by simp)
  have p4 := k0.cellEq q4 (by simp)
  have B2 := Lib.hid (Blk.new w 28 lay0)
  have K0 := Lib.hid k0
  clear q1 q2 q3 q4 k0
  unfold lay0 at p1 p2 p3 p4
  go_enter Try.func44, Try.ntmps44
  go_wp2_with fail
  refine (HV.out _).mono ?_
  rintro e w2 ⟨rfl, k2⟩
  replace p1 := k2.cellEq p1 (by simp)
  replace p3 := k2.cellEq p3 (by simp)
  replace p4 := k2.cellEq p4 (by simp)
  replace B2 := Lib.hid (B2.out.keep k2 (by simp))
  have K2 := Lib.hid (K0.out.trans k2)
  have hsz := Lib.hid (show w.heap.size < w2.heap.size from B2.out.lt)
  have k3 := (Keeps.refl [] w2).alloc (.cells (layV n) 28)
  replace p1 := k3.cellEq p1 (by simp)
  replace p3 := k3.cellEq p3 (by simp)
  replace p4 := k3.cellEq p4 (by simp)
  replace B2 := Lib.hid (B2.out.keep k3 (by simp))
  have B6 := Lib.hid (Blk.new w2 28 (layV n))
  have K5 := Lib.hid (K2.out.trans k3)
  have n1 : Hid (w2.heap.size ≠ w.heap.size) := Lib.hid (by have := hsz.out; omega)
  clear HV k2 K0 K2 k3 p2
  unfold layV at p1 p3 p4
  go_wp2_with fail
  have h0 := And.intro B6.out.drew.cell (And.intro p1 (And.intro p3 p4))
  unfold layV at h0
  clear p1 p3 p4
  refine wp_region_I (S := (fun w' : World => (∀ i, w'.cell? ⟨w2.heap.size, i, none⟩ = (#[.int .i64 0, .int .i64 1, .int .i64 2, .int .i64 3, .int .i64 (3 + (area n : Nat)), .int .i64 (area n : Nat), .int .i64 (3 + 2 * (area n : Nat)), .int .i64 ((n : Int) - (3 + 2 * (area n : Nat)))] : Array Value)[i]?) ∧ w'.cell? ⟨bm, 0, none⟩ = some (.slice (some ⟨bS, 0, none⟩) n cap) ∧ w'.cell? ⟨bS, 0, none⟩ = some (.slice (some ⟨g0, 0, none⟩) 64 c0) ∧ w'.cell? ⟨g0, 0, none⟩ = some (.int .u8 (r : Nat)))) (n := 13) (by kernel_rfl) ?_
  replace B2 := Lib.hid B2.out.drew
  replace B6 := Lib.hid B6.out.drew
  replace K5 := Lib.hid K5.out.drew
  have HS := h0
  clear h0
  refine wpAnyI_takeN (i := 0) (v := ?_) (by kernel_rfl) rfl (by kernel_rfl) (by kernel_rfl) (by kernel_rfl) (fun _ _ _ h => h) HS (Or.inl ⟨by rfl, ?_⟩) ?_
  rotate_left
  · (intro w hSw; obtain ⟨z1, z2, z3, z4⟩ := hSw; go_simp; try with_reducible rfl)
  try simp only [Act.put, List.getElem_toArray, List.getElem_cons_succ, List.getElem_cons_zero, List.setIfInBounds_toArray, List.set_cons_zero, List.set_cons_succ]
  refine wpAnyI_takeN (i := 1) (v := ?_) (by kernel_rfl) rfl (by kernel_rfl) (by kernel_rfl) (by kernel_rfl) (fun _ _ _ h => h) HS (Or.inl ⟨by rfl, ?_⟩) ?_
  rotate_left
  · (intro w hSw; obtain ⟨z1, z2, z3, z4⟩ := hSw; go_simp; try with_reducible rfl)
  try simp only [Act.put, List.getElem_toArray, List.getElem_cons_succ, List.getElem_cons_zero, List.setIfInBounds_toArray, List.set_cons_zero, List.set_cons_succ]
  refine wpAnyI_takeN (i := 2) (v := ?_) (by kernel_rfl) rfl (by kernel_rfl) (by kernel_rfl) (by kernel_rfl) (fun _ _ _ h => h) HS (Or.inl ⟨by rfl, ?_⟩) ?_
  rotate_left
  · (intro w hSw; obtain ⟨z1, z2, z3, z4⟩ := hSw; go_simp; try with_reducible rfl)
  try simp only [Act.put, List.getElem_toArray, List.getElem_cons_succ, List.getElem_cons_zero, List.setIfInBounds_toArray, List.set_cons_zero, List.set_cons_succ]
  refine wpAnyI_takeN (i := 3) (v := ?_) (by kernel_rfl) rfl (by kernel_rfl) (by kernel_rfl) (by kernel_rfl) (fun _ _ _ h => h) HS (Or.inl ⟨by rfl, ?_⟩) ?_
  rotate_left
  · (intro w hSw; obtain ⟨z1, z2, z3, z4⟩ := hSw; go_simp; try with_reducible rfl)
  try simp only [Act.put, List.getElem_toArray, List.getElem_cons_succ, List.getElem_cons_zero, List.setIfInBounds_toArray, List.set_cons_zero, List.set_cons_succ]
  refine wpAnyI_takeN (i := 4) (v := ?_) (by kernel_rfl) rfl (by kernel_rfl) (by kernel_rfl) (by kernel_rfl) (fun _ _ _ h => h) HS (Or.inl ⟨by rfl, ?_⟩) ?_
  rotate_left
  · (intro w hSw; obtain ⟨z1, z2, z3, z4⟩ := hSw; go_simp; try with_reducible rfl)
  try simp only [Act.put, List.getElem_toArray, List.getElem_cons_succ, List.getElem_cons_zero, List.setIfInBounds_toArray, List.set_cons_zero, List.set_cons_succ]
  refine wpAnyI_takeN (i := 5) (v := ?_) (by kernel_rfl) rfl (by kernel_rfl) (by kernel_rfl) (by kernel_rfl) (fun _ _ _ h => h) HS (Or.inl ⟨by rfl, ?_⟩) ?_
  rotate_left
  · (intro w hSw; obtain ⟨z1, z2, z3, z4⟩ := hSw; go_simp; try with_reducible rfl)
  try simp only [Act.put, List.getElem_toArray, List.getElem_cons_succ, List.getElem_cons_zero, List.setIfInBounds_toArray, List.set_cons_zero, List.set_cons_succ]
  refine wpAnyI_takeN (i := 6) (v := ?_) (by kernel_rfl) rfl (by kernel_rfl) (by kernel_rfl) (by kernel_rfl) (fun _ _ _ h => h) HS (Or.inl ⟨by rfl, ?_⟩) ?_
  rotate_left
  · (intro w hSw; obtain ⟨z1, z2, z3, z4⟩ := hSw; go_simp; try with_reducible rfl)
  try simp only [Act.put, List.getElem_toArray, List.getElem_cons_succ, List.getElem_cons_zero, List.setIfInBounds_toArray, List.set_cons_zero, List.set_cons_succ]
  refine wpAnyI_takeN (i := 7) (v := ?_) (by kernel_rfl) rfl (by kernel_rfl) (by kernel_rfl) (by kernel_rfl) (fun _ _ _ h => h) HS (Or.inl ⟨by rfl, ?_⟩) ?_
  rotate_left
  · (intro w hSw; obtain ⟨z1, z2, z3, z4⟩ := hSw; go_simp; try with_reducible rfl)
  try simp only [Act.put, List.getElem_toArray, List.getElem_cons_succ, List.getElem_cons_zero, List.setIfInBounds_toArray, List.set_cons_zero, List.set_cons_succ]
  refine wpAnyI_takeN (i := 8) (v := ?_) (by kernel_rfl) rfl (by kernel_rfl) (by kernel_rfl) (by kernel_rfl) (fun _ _ _ h => h) HS (Or.inl ⟨by rfl, ?_⟩) ?_
  rotate_left
  · (intro w hSw; obtain ⟨z1, z2, z3, z4⟩ := hSw; go_simp; try with_reducible rfl)
  try simp only [Act.put, List.getElem_toArray, List.getElem_cons_succ, List.getElem_cons_zero, List.setIfInBounds_toArray, List.set_cons_zero, List.set_cons_succ]
  refine wpAnyI_takeN (i := 9) (v := ?_) (by kernel_rfl) rfl (by kernel_rfl) (by kernel_rfl) (by kernel_rfl) (fun _ _ _ h => h) HS (Or.inl ⟨by rfl, ?_⟩) ?_
  rotate_left
  · (intro w hSw; obtain ⟨z1, z2, z3, z4⟩ := hSw; go_simp; try with_reducible rfl)
  try simp only [Act.put, List.getElem_toArray, List.getElem_cons_succ, List.getElem_cons_zero, List.setIfInBounds_toArray, List.set_cons_zero, List.set_cons_succ]
  refine wpAnyI_one (i := 10) rfl (by kernel_rfl) (fun K hK => ?_)
  dsimp only [List.getElem_toArray, List.getElem_cons_succ, List.getElem_cons_zero]
  rw [if_pos (by rfl)]
  refine wp_store_all 28 (.tmp 2) (.tmp 35) (by rfl) w.heap.size (by rfl) 28 lay0.toList (layV n).toList (by rfl) B2.out (by kernel_rfl) (by rfl) (by intro v hv; simp [layV] at hv; rcases hv with rfl | rfl | rfl | rfl | rfl | rfl | rfl | rfl <;> rfl) ?_
  intro w6 C2 k6
  have K6 : Hid (Keeps [] w w6) := Lib.hid ((K5.out.nil.trans k6).mono (fun y hy => .inr (by simp at hy; omega)))
  have HS : (∀ i, w6.cell? ⟨w2.heap.size, i, none⟩ = (#[.int .i64 0, .int .i64 1, .int .i64 2, .int .i64 3, .int .i64 (3 + (area n : Nat)), .int .i64 (area n : Nat), .int .i64 (3 + 2 * (area n : Nat)), .int .i64 ((n : Int) - (3 + 2 * (area n : Nat)))] : Array Value)[i]?) ∧ w6.cell? ⟨bm, 0, none⟩ = some (.slice (some ⟨bS, 0, none⟩) n cap) ∧ w6.cell? ⟨bS, 0, none⟩ = some (.slice (some ⟨g0, 0, none⟩) 64 c0) ∧ w6.cell? ⟨g0, 0, none⟩ = some (.int .u8 (r : Nat)) :=
    ⟨(B6.out.keep k6 (by simp; exact n1.out)).cell, k6.cellEq HS.2.1 (by simp; have := nlt.out; omega), k6.cellEq HS.2.2.1 (by simp; have := nlt.out; omega), k6.cellEq HS.2.2.2 (by simp; have := nlt.out; omega)⟩
  clear k6
  refine hK _ _ (Or.inr HS) ?_
  clear hK K
  try simp only [Act.put, List.getElem_toArray, List.getElem_cons_succ, List.getElem_cons_zero, List.setIfInBounds_toArray, List.set_cons_zero, List.set_cons_succ]
  refine wpAnyI_takeN (i := 11) (v := ?_) (by kernel_rfl) rfl (by kernel_rfl) (by kernel_rfl) (by kernel_rfl) (fun _ _ _ h => h) HS (Or.inl ⟨by rfl, ?_⟩) ?_
  rotate_left
  · (intro w hSw; obtain ⟨z1, z2, z3, z4⟩ := hSw; go_simp; try with_reducible rfl)
  try simp only [Act.put, List.getElem_toArray, List.getElem_cons_succ, List.getElem_cons_zero, List.setIfInBounds_toArray, List.set_cons_zero, List.set_cons_succ]
  refine wpAnyI_takeN (i := 12) (v := ?_) (by kernel_rfl) rfl (by kernel_rfl) (by kernel_rfl) (by kernel_rfl) (fun _ _ _ h => h) HS (Or.inl ⟨by rfl, ?_⟩) ?_
  rotate_left
  · (intro w hSw; obtain ⟨z1, z2, z3, z4⟩ := hSw; go_simp; try with_reducible rfl)
  try simp only [Act.put, List.getElem_toArray, List.getElem_cons_succ, List.getElem_cons_zero, List.setIfInBounds_toArray, List.set_cons_zero, List.set_cons_succ]
  refine wpAnyI_done (by kernel_rfl) ?_ _
  go_wp2_with fail
  have q2 := C2.out.cell
  exact bodyPost_ret (v := .tuple #[.agg (layV n), .int .i64 (r : Nat), .int .i64 0]) (by simp [results, Try.results44, go_sem, layV, q2, show IntKind.i64.wrap (r : Int) = (r : Int) from IntWalk.i64_in _ (by omega)]) rfl ⟨rfl, K6.out⟩

set_option maxHeartbeats 3200000 in
set_option maxRecDepth 100000 in
theorem rbegin_bad {Z : List Nat} (w : World) (bm bS : Nat) (s : St) (hM : MRep Z w bm bS s) (hb : bad s ≠ 0) :
    Calls Try.prog 44 #[.pointer (some ⟨bm, 0, none⟩)] w fun e w' => ∃ V, LayAny V ∧ e = .returned (.tuple #[.agg V, .int .i64 0, .int .i64 (bad s)]) ∧ Keeps [] w w' := by
  have hn := hM.n
  have k0 := (Keeps.refl [] w).alloc (.cells lay0 28)
  have K0 := Lib.hid k0
  have B2 := Blk.new w 28 lay0
  by_cases hd : s.down = true
  · have hb2 : bad s = 15 := by unfold bad; rw [if_pos hd]
    obtain ⟨cap, cells, a1, _⟩ := hM.ex
    have p2 : (w.alloc (.cells lay0 28)).cell? ⟨bm, 1, none⟩ = some (.bool true) := by rw [← hd]; exact k0.cellEq (a1.cell 1) (by simp)
    rw [hb2]
    have q2 := B2.cell
    have f2 := B2.frozen
    clear hb hb2 hM hd a1 k0
    unfold lay0 at p2 q2 f2
    go_enter Try.func44, Try.ntmps44
    go_wp2_with fail
    refine bodyPost_ret (v := .tuple #[.agg lay0, .int .i64 0, .int .i64 15]) (by simp [results, Try.results44, go_sem, lay0]) rfl ⟨_, layAny0, rfl, ?_⟩
    first | exact K0.out | (repeat (first | exact K0.out | refine Keeps.setCell ?_ (Or.inr (by simp)) _))
  · have hd' : s.down = false := by simpa using hd
    by_cases h7 : s.n < 7
    · have hb2 : bad s = 1 := by unfold bad; rw [if_neg hd, if_pos (.inl h7)]
      obtain ⟨cap, cells, a1, _⟩ := hM.ex
      have p2 : (w.alloc (.cells lay0 28)).cell? ⟨bm, 1, none⟩ = some (.bool false) := by rw [← hd']; exact k0.cellEq (a1.cell 1) (by simp)
      have p1 : (w.alloc (.cells lay0 28)).cell? ⟨bm, 0, none⟩ = some (.slice (some ⟨bS, 0, none⟩) s.n cap) := k0.cellEq (a1.cell 0) (by simp)
      have HV := Lib.hid (fun w' => rdivide_bad w' s.n (.inl (by omega)))
      unfold lay0 at HV
      rw [hb2]
      clear hb hb2 hM hd hd' a1 k0
      generalize s.n = n at *
      replace B2 := Lib.hid B2
      unfold lay0 at p1 p2
      go_enter Try.func44, Try.ntmps44
      go_wp2_with fail
      refine (HV.out _).mono ?_
      rintro e w2 ⟨rfl, k2⟩
      have q2 := fun o => ((B2.out.keep k2 (by simp)).alloc o).cell
      have f2 := fun o => ((B2.out.keep k2 (by simp)).alloc o).frozen
      have K2 := Lib.hid (K0.out.trans k2)
      clear HV k2 K0 B2 p1 p2
      unfold lay0 at q2
      go_wp2_with fail
      refine bodyPost_ret (v := .tuple #[.agg lay0, .int .i64 0, .int .i64 1]) (by simp [results, Try.results44, go_sem, lay0, q2, f2]) rfl ⟨_, layAny0, rfl, ?_⟩
      iterate 8 refine Keeps.setCell ?_ (Or.inr (by simp)) _
      exact K2.out.alloc _
    · have hb2 : bad s = 17 ∧ 1 < root s := by
        unfold bad at hb ⊢
        rw [if_neg hd, if_neg (by omega)] at hb ⊢
        by_cases hr : 1 < root s
        · rw [if_pos hr]; exact ⟨rfl, hr⟩
        · rw [if_neg hr] at hb; exact absurd rfl hb
      rw [hb2.1]
      have hr := hb2.2
      obtain ⟨cap, g0, c0, p1, p2, p3, p4, l1, l2, l3⟩ := root_cells hM (by omega)
      rw [hd'] at p2
      have HV := Lib.hid (fun w' => rdivide_ok w' s.n (by omega) hn)
      unfold layV at HV
      replace p1 := k0.cellEq p1 (by simp)
      replace p2 := k0.cellEq p2 (by simp)
      replace p3 := k0.cellEq p3 (by simp)
      replace p4 := k0.cellEq p4 (by simp)
      have hri : (1 : Int) < (root s : Int) := by omega
      clear hb hb2 hM hd hd' k0 hr l1 l2 l3
      generalize s.n = n at *
      generalize root s = r at *
      have hn0 : 0 < n := by omega
      replace B2 := Lib.hid B2
      unfold lay0 at p1 p2 p3 p4
      go_enter Try.func44, Try.ntmps44
      go_wp2_with fail
      refine (HV.out _).mono ?_
      rintro e w2 ⟨rfl, k2⟩
      have B6 := Lib.hid (Blk.new w2 28 (layV n))
      have k3 := (Keeps.refl [] w2).alloc (.cells (layV n) 28)
      replace p1 := k3.cellEq (k2.cellEq p1 (by simp)) (by simp)
      replace p3 := k3.cellEq (k2.cellEq p3 (by simp)) (by simp)
      replace p4 := k3.cellEq (k2.cellEq p4 (by simp)) (by simp)
      have q2 := ((B2.out.keep k2 (by simp)).keep k3 (by simp)).cell
      have f2 := ((B2.out.keep k2 (by simp)).keep k3 (by simp)).frozen
      have K2 := Lib.hid ((K0.out.trans k2).trans k3)
      clear HV k2 K0 B2 p2 k3 B6
      unfold layV at p1 p3 p4 q2 f2
      unfold lay0 at q2
      go_wp2_with fail
      refine bodyPost_ret (v := .tuple #[.agg (layV n), .int .i64 0, .int .i64 17]) (by simp [results, Try.results44, go_sem, layV, q2, f2]) rfl ⟨_, layAnyV n, rfl, ?_⟩
      iterate 8 refine Keeps.setCell ?_ (Or.inr (by simp)) _
      exact K2.out
end Go.Proofs.Ytoefbjeclghfhaa
