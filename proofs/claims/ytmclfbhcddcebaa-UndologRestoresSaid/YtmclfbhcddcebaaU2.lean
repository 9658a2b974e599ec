/- Inverse of both; New, Len, row. -/
import Derived.Test.YtmclfbhcddcebaaU1
namespace Go.Proofs.Ytmclfbhcddcebaa
open Go.RowKit
set_option linter.unusedSimpArgs false
set_option linter.unusedVariables false

def inv (c : Chg) : Chg := ⟨c.t, c.id, c.new, c.old⟩
set_option maxHeartbeats 3200000 in
set_option maxRecDepth 100000 in
theorem inverse_any (w : World) (X : List Nat) (r : Raw) (c : Chg) (h : RawIs w X r c) (hs : Small c) : Calls Try.prog 18 #[.agg r.cells.toArray] w (ChgCopy w (inv c)) := by
  obtain ⟨t, id, Ao, no, co, An, nn, cn⟩ := r
  obtain ⟨ht, hid, hno, hnn, hO, hN⟩ := h
  dsimp only at ht hid hno hnn hO hN
  subst ht hid
  have ka : Keeps [] w ((w.alloc (.cells #[.int .i64 c.t, .int .i64 c.id, .slice Ao no co, .slice An nn cn] 35)).alloc (.cells #[.int .i64 0, .int .i64 0, .slice none 0 0, .slice none 0 0] 35)) := ((Keeps.refl [] w).alloc _).alloc _
  have B1 : Blk ((w.alloc (.cells #[.int .i64 c.t, .int .i64 c.id, .slice Ao no co, .slice An nn cn] 35)).alloc (.cells #[.int .i64 0, .int .i64 0, .slice none 0 0, .slice none 0 0] 35)) w.heap.size 35 #[.int .i64 c.t, .int .i64 c.id, .slice Ao no co, .slice An nn cn] := (Blk.new w 35 _).alloc _
  have B2 : Blk ((w.alloc (.cells #[.int .i64 c.t, .int .i64 c.id, .slice Ao no co, .slice An nn cn] 35)).alloc (.cells #[.int .i64 0, .int .i64 0, .slice none 0 0, .slice none 0 0] 35)) (w.heap.size + 1) 35 #[.int .i64 0, .int .i64 0, .slice none 0 0, .slice none 0 0] := by
    have := Blk.new (w.alloc (.cells #[.int .i64 c.t, .int .i64 c.id, .slice Ao no co, .slice An nn cn] 35)) 35 #[.int .i64 0, .int .i64 0, .slice none 0 0, .slice none 0 0]
    simpa using this
  have HO : Hid (∀ w', Keeps [] ((w.alloc (.cells #[.int .i64 c.t, .int .i64 c.id, .slice Ao no co, .slice An nn cn] 35)).alloc (.cells #[.int .i64 0, .int .i64 0, .slice none 0 0, .slice none 0 0] 35)).drew w' → Calls Try.prog 33 #[.slice Ao no co] w' (RowCopy w' c.old no)) := Lib.hid (fun w' hk => clone_any w' X Ao c.old no co hno (hO.keep (ka.drew.trans hk) (by simp)) (by have := hs.1; omega))
  have HN : Hid (∀ w', Keeps [] ((w.alloc (.cells #[.int .i64 c.t, .int .i64 c.id, .slice Ao no co, .slice An nn cn] 35)).alloc (.cells #[.int .i64 0, .int .i64 0, .slice none 0 0, .slice none 0 0] 35)).drew w' → Calls Try.prog 33 #[.slice An nn cn] w' (RowCopy w' c.new nn)) := Lib.hid (fun w' hk => clone_any w' X An c.new nn cn hnn (hN.keep (ka.drew.trans hk) (by simp)) (by have := hs.2; omega))
  replace ka := Lib.hid ka
  replace B1 := Lib.hid B1
  replace B2 := Lib.hid B2
  replace hno := Lib.hid hno
  replace hnn := Lib.hid hnn
  unfold Raw.cells
  dsimp only
  clear hO hN hs
  obtain ⟨g1, hg1⟩ : ∃ g, g = w.heap.size := ⟨_, rfl⟩
  have hg1w := Lib.hid (show w.heap.size ≤ g1 by omega)
  rw [← hg1] at B1
  obtain ⟨g2, hg2⟩ : ∃ g, g = w.heap.size + 1 := ⟨_, rfl⟩
  have hg := Lib.hid (show g1 ≠ g2 ∧ g2 ≠ g1 ∧ w.heap.size ≤ g2 by omega)
  rw [← hg2] at B2
  go_enter Try.func18, Try.ntmps18
  go_wp2_with fail
  generalize (w.alloc (.cells #[.int .i64 c.t, .int .i64 c.id, .slice Ao no co, .slice An nn cn] 35)).alloc (.cells #[.int .i64 0, .int .i64 0, .slice none 0 0, .slice none 0 0] 35) = ww at *
  rw [← hg2, ← hg1]
  clear hg1 hg2
  have HSf : Hid (∀ w', Keeps [] ww.drew w' → w'.cell? ⟨g1, 0, none⟩ = some (.int .i64 c.t) ∧ w'.cell? ⟨g1, 1, none⟩ = some (.int .i64 c.id) ∧ w'.cell? ⟨g1, 2, none⟩ = some (.slice Ao no co) ∧ w'.cell? ⟨g1, 3, none⟩ = some (.slice An nn cn)) := Lib.hid (fun w' hk => ⟨hk.cellEq (B1.out.drew.cell 0) (by simp), hk.cellEq (B1.out.drew.cell 1) (by simp), hk.cellEq (B1.out.drew.cell 2) (by simp), hk.cellEq (B1.out.drew.cell 3) (by simp)⟩)
  have h0 := HSf.out _ (Keeps.refl [] ww.drew)
  have B2d := Lib.hid B2.out.drew
  have kd := Lib.hid ka.out.drew
  have hgd : Hid (g1 < ww.drew.heap.size ∧ g2 < ww.drew.heap.size) := Lib.hid ⟨B1.out.drew.lt, B2d.out.lt⟩
  have hwd : Hid (w.heap.size ≤ ww.drew.heap.size) := Lib.hid kd.out.size
  clear B1 B2 ka
  refine wp_region_J (S := (fun w' : World => w'.cell? ⟨g1, 0, none⟩ = some (.int .i64 c.t) ∧ w'.cell? ⟨g1, 1, none⟩ = some (.int .i64 c.id) ∧ w'.cell? ⟨g1, 2, none⟩ = some (.slice Ao no co) ∧ w'.cell? ⟨g1, 3, none⟩ = some (.slice An nn cn))) (n := 12) (by kernel_rfl) ?_
  generalize ww.drew = wd at *
  have HS := h0
  have Kx := Lib.hid (Keeps.refl [] wd)
  refine wpAnyJ_take (i := 0) (v := ?_) (by kernel_rfl) rfl (by kernel_rfl) (by kernel_rfl) (by kernel_rfl) (fun _ _ _ h => h) HS (Or.inl ⟨by rfl, ?_⟩) ?_
  rotate_left
  · (intro w hSw; obtain ⟨y1, y2, y3, y4⟩ := hSw; go_simp; try with_reducible rfl)
  try simp only [Act.put, List.getElem_toArray, List.getElem_cons_succ, List.getElem_cons_zero, List.setIfInBounds_toArray, List.set_cons_zero, List.set_cons_succ]
  refine wpAnyJ_take (i := 1) (v := ?_) (by kernel_rfl) rfl (by kernel_rfl) (by kernel_rfl) (by kernel_rfl) (fun _ _ _ h => h) HS (Or.inl ⟨by rfl, ?_⟩) ?_
  rotate_left
  · (intro w hSw; obtain ⟨y1, y2, y3, y4⟩ := hSw; go_simp; try with_reducible rfl)
  try simp only [Act.put, List.getElem_toArray, List.getElem_cons_succ, List.getElem_cons_zero, List.setIfInBounds_toArray, List.set_cons_zero, List.set_cons_succ]
  refine wpAnyJ_take (i := 2) (v := ?_) (by kernel_rfl) rfl (by kernel_rfl) (by kernel_rfl) (by kernel_rfl) (fun _ _ _ h => h) HS (Or.inl ⟨by rfl, ?_⟩) ?_
  rotate_left
  · (intro w hSw; obtain ⟨y1, y2, y3, y4⟩ := hSw; go_simp; try with_reducible rfl)
  try simp only [Act.put, List.getElem_toArray, List.getElem_cons_succ, List.getElem_cons_zero, List.setIfInBounds_toArray, List.set_cons_zero, List.set_cons_succ]
  refine wpAnyJ_take (i := 3) (v := ?_) (by kernel_rfl) rfl (by kernel_rfl) (by kernel_rfl) (by kernel_rfl) (fun _ _ _ h => h) HS (Or.inl ⟨by rfl, ?_⟩) ?_
  rotate_left
  · (intro w hSw; obtain ⟨y1, y2, y3, y4⟩ := hSw; go_simp; try with_reducible rfl)
  try simp only [Act.put, List.getElem_toArray, List.getElem_cons_succ, List.getElem_cons_zero, List.setIfInBounds_toArray, List.set_cons_zero, List.set_cons_succ]
  refine wpAnyJ_take (i := 4) (v := ?_) (by kernel_rfl) rfl (by kernel_rfl) (by kernel_rfl) (by kernel_rfl) (fun _ _ _ h => h) HS (Or.inl ⟨by rfl, ?_⟩) ?_
  rotate_left
  · (intro w hSw; obtain ⟨y1, y2, y3, y4⟩ := hSw; go_simp; try with_reducible rfl)
  try simp only [Act.put, List.getElem_toArray, List.getElem_cons_succ, List.getElem_cons_zero, List.setIfInBounds_toArray, List.set_cons_zero, List.set_cons_succ]
  refine wpAnyJ_take (i := 5) (v := ?_) (by kernel_rfl) rfl (by kernel_rfl) (by kernel_rfl) (by kernel_rfl) (fun _ _ _ h => h) HS (Or.inl ⟨by rfl, ?_⟩) ?_
  rotate_left
  · (intro w hSw; obtain ⟨y1, y2, y3, y4⟩ := hSw; go_simp; try with_reducible rfl)
  try simp only [Act.put, List.getElem_toArray, List.getElem_cons_succ, List.getElem_cons_zero, List.setIfInBounds_toArray, List.set_cons_zero, List.set_cons_succ]
  refine wpAnyJ_take (i := 7) (v := ?_) (by kernel_rfl) rfl (by kernel_rfl) (by kernel_rfl) (by kernel_rfl) (fun _ _ _ h => h) HS (Or.inl ⟨by rfl, ?_⟩) ?_
  rotate_left
  · (intro w hSw; obtain ⟨y1, y2, y3, y4⟩ := hSw; go_simp; try with_reducible rfl)
  try simp only [Act.put, List.getElem_toArray, List.getElem_cons_succ, List.getElem_cons_zero, List.setIfInBounds_toArray, List.set_cons_zero, List.set_cons_succ]
  refine wpAnyJ_take (i := 8) (v := ?_) (by kernel_rfl) rfl (by kernel_rfl) (by kernel_rfl) (by kernel_rfl) (fun _ _ _ h => h) HS (Or.inl ⟨by rfl, ?_⟩) ?_
  rotate_left
  · (intro w hSw; obtain ⟨y1, y2, y3, y4⟩ := hSw; go_simp; try with_reducible rfl)
  try simp only [Act.put, List.getElem_toArray, List.getElem_cons_succ, List.getElem_cons_zero, List.setIfInBounds_toArray, List.set_cons_zero, List.set_cons_succ]
  refine wpAnyJ_one (i := 6) rfl (by kernel_rfl) (fun K hK => ?_)
  dsimp only [List.getElem_toArray, List.getElem_cons_succ, List.getElem_cons_zero]
  go_simp
  refine (HN.out _ Kx.out).mono ?_
  rintro e wA ⟨A', cA', rfl, rA, fA, kA⟩
  replace Kx := Lib.hid (Kx.out.trans kA.out)
  have HS := HSf.out _ Kx.out
  refine hK _ _ (Or.inr HS) ?_
  clear hK K
  try simp only [Act.put, List.getElem_toArray, List.getElem_cons_succ, List.getElem_cons_zero, List.setIfInBounds_toArray, List.set_cons_zero, List.set_cons_succ]
  refine wpAnyJ_one (i := 9) rfl (by kernel_rfl) (fun K hK => ?_)
  dsimp only [List.getElem_toArray, List.getElem_cons_succ, List.getElem_cons_zero]
  go_simp
  refine (HO.out _ Kx.out).mono ?_
  rintro e wB ⟨B', cB', rfl, rB, fB, kB⟩
  replace rA := Lib.hid (rA.out.keep kB.out (by simp))
  have hfr : Hid (wd.heap.size ≤ wA.heap.size) := Lib.hid Kx.out.size
  replace Kx := Lib.hid (Kx.out.trans kB.out)
  have HS := HSf.out _ Kx.out
  have Z := Lib.hid (B2d.out.keep Kx.out (by simp))
  refine hK _ _ (Or.inr HS) ?_
  clear hK K
  try simp only [Act.put, List.getElem_toArray, List.getElem_cons_succ, List.getElem_cons_zero, List.setIfInBounds_toArray, List.set_cons_zero, List.set_cons_succ]
  refine wpAnyJ_take (i := 10) (v := ?_) (by kernel_rfl) rfl (by kernel_rfl) (by kernel_rfl) (by kernel_rfl) (fun _ _ _ h => h) HS (Or.inl ⟨by rfl, ?_⟩) ?_
  rotate_left
  · (intro w hSw; obtain ⟨y1, y2, y3, y4⟩ := hSw; go_simp; try with_reducible rfl)
  try simp only [Act.put, List.getElem_toArray, List.getElem_cons_succ, List.getElem_cons_zero, List.setIfInBounds_toArray, List.set_cons_zero, List.set_cons_succ]
  refine wpAnyJ_one (i := 11) rfl (by kernel_rfl) (fun K hK => ?_)
  dsimp only [List.getElem_toArray, List.getElem_cons_succ, List.getElem_cons_zero]
  rw [if_pos (by rfl)]
  refine wp_store_all 35 (.tmp 2) (.tmp 13) (by rfl) g2 (by rfl) 35 [.int .i64 0, .int .i64 0, .slice none 0 0, .slice none 0 0] [.int .i64 c.t, .int .i64 c.id, .slice A' nn cA', .slice B' no cB'] (by rfl) Z.out (by kernel_rfl) (by rfl) (by simp [Value.oneCell']) ?_
  intro w8 C8 k8
  replace Kx := Lib.hid (Kx.out.nil.trans k8)
  have HS : _ ∧ _ ∧ _ ∧ _ := ⟨k8.cellEq HS.1 (by simp; exact hg.out.1), k8.cellEq HS.2.1 (by simp; exact hg.out.1), k8.cellEq HS.2.2.1 (by simp; exact hg.out.1), k8.cellEq HS.2.2.2 (by simp; exact hg.out.1)⟩
  have rA2 := Lib.hid ((rA.out.fresh (Y := [g2]) fA.out (by intro y hy; have := hgd.out; simp at hy; omega)).keep k8 (by simp))
  have rB2 := Lib.hid ((rB.out.fresh (Y := [g2]) fB.out (by intro y hy; have := hgd.out; have := hfr.out; simp at hy; omega)).keep k8 (by simp))
  clear k8 Z
  refine hK _ _ (Or.inr HS) ?_
  clear hK K
  try simp only [Act.put, List.getElem_toArray, List.getElem_cons_succ, List.getElem_cons_zero, List.setIfInBounds_toArray, List.set_cons_zero, List.set_cons_succ]
  refine wpAnyJ_done (by kernel_rfl) ?_ _
  have z0 := C8.out.cell
  have Kw := Lib.hid ((kd.out.nil.trans Kx.out).mono (Y := []) (fun y hy => .inr (by have := hg.out.2.2; simp at hy; omega)))
  clear HO HN HSf h0 HS
  go_wp2_with fail
  refine bodyPost_ret (v := .agg #[.int .i64 c.t, .int .i64 c.id, .slice A' nn cA', .slice B' no cB']) (by simp [results, Try.results18, go_sem, z0]) rfl ⟨⟨c.t, c.id, A', nn, cA', B', no, cB'⟩, rfl, Lib.hid ⟨rfl, rfl, hnn.out, hno.out, rA2.out.other (by simp), rB2.out.other (by simp)⟩, Lib.hid ⟨fA.out.mono hwd.out, fB.out.mono (Nat.le_trans hwd.out hfr.out)⟩, Kw⟩

/-- The reference's shares the rows. -/
def invR (r : Raw) : Raw := ⟨r.t, r.id, r.An, r.nn, r.cn, r.Ao, r.no, r.co⟩
theorem invR_is {w : World} {X : List Nat} {r : Raw} {c : Chg} (h : RawIs w X r c) : RawIs w X (invR r) (inv c) := ⟨h.t, h.id, h.nn, h.no, h.new, h.old⟩
set_option maxHeartbeats 3200000 in
set_option maxRecDepth 100000 in
theorem rinverse_any (w : World) (r : Raw) : Calls Try.prog 19 #[.agg r.cells.toArray] w fun e w' => e = .returned (.agg (invR r).cells.toArray) ∧ Hid (Keeps [] w w') := by
  obtain ⟨t, id, Ao, no, co, An, nn, cn⟩ := r
  unfold invR Raw.cells
  dsimp only
  have ka : Keeps [] w ((w.alloc (.cells #[.int .i64 t, .int .i64 id, .slice Ao no co, .slice An nn cn] 35)).alloc (.cells #[.int .i64 0, .int .i64 0, .slice none 0 0, .slice none 0 0] 35)) := ((Keeps.refl [] w).alloc _).alloc _
  have B2 : Blk ((w.alloc (.cells #[.int .i64 t, .int .i64 id, .slice Ao no co, .slice An nn cn] 35)).alloc (.cells #[.int .i64 0, .int .i64 0, .slice none 0 0, .slice none 0 0] 35)) (w.heap.size + 1) 35 #[.int .i64 0, .int .i64 0, .slice none 0 0, .slice none 0 0] := by
    have := Blk.new (w.alloc (.cells #[.int .i64 t, .int .i64 id, .slice Ao no co, .slice An nn cn] 35)) 35 #[.int .i64 0, .int .i64 0, .slice none 0 0, .slice none 0 0]
    simpa using this
  have kk := Lib.hid (fun (u0 u1 u2 u3 : Value) => (((ka.setCell (p := ⟨w.heap.size + 1, 0, none⟩) (.inr (by simp)) u0).setCell (p := ⟨w.heap.size + 1, 1, none⟩) (.inr (by simp)) u1).setCell (p := ⟨w.heap.size + 1, 2, none⟩) (.inr (by simp)) u2).setCell (p := ⟨w.heap.size + 1, 3, none⟩) (.inr (by simp)) u3)
  have Bf := Lib.hid (fun (u0 u1 u2 u3 : Value) => (((B2.set_ 0 u0).set_ 1 u1).set_ 2 u2).set_ 3 u3)
  have c2 := B2.cell
  have f2 := B2.frozen
  clear ka B2
  go_enter Try.func19, Try.ntmps19
  go_wp2_with fail
  have z0 := (Bf.out (.int .i64 t) (.int .i64 id) (.slice An nn cn) (.slice Ao no co)).cell
  simp only [List.setIfInBounds_toArray, List.set_cons_zero, List.set_cons_succ] at z0
  refine bodyPost_ret (v := .agg #[.int .i64 t, .int .i64 id, .slice An nn cn, .slice Ao no co]) (by simp [results, Try.results19, go_sem, z0]) rfl ⟨rfl, Lib.hid (by first | exact kk.out _ _ _ _ | exact ((Keeps.refl [] w).alloc _).alloc _)⟩

theorem new_any (w : World) : Calls Try.prog 12 #[] w fun e w' => e = .returned (.pointer (some ⟨w.heap.size, 0, none⟩)) ∧ w' = w.alloc (.cells #[.slice none 0 0, .slice none 0 0] 64) := by
  go_enter Try.func12, Try.ntmps12
  go_wp2
  go_ret
  exact ⟨rfl, rfl⟩
theorem len_any (w : World) (gl : Nat) (A : Option Addr) (n c : Nat) (h : w.cell? ⟨gl, 0, none⟩ = some (.slice A n c)) : Calls Try.prog 20 #[.pointer (some ⟨gl, 0, none⟩)] w fun e w' => e = .returned (.int .i64 n) ∧ w = w' := by
  go_enter Try.func20, Try.ntmps20
  go_wp2
  go_ret
  exact ⟨rfl, rfl⟩
theorem rowf_any (w : World) (n : Int) : Calls Try.prog 28 #[.int .i64 n] w fun e w' => e = .returned (.slice (some ⟨w.heap.size, 0, none⟩) 1 1) ∧ w' = w.alloc (.cells #[.int .i64 1, .int .i64 n, .string ⟨#[]⟩] 41) := by
  go_enter Try.func28, Try.ntmps28
  go_wp2
  go_ret
  exact ⟨rfl, rfl⟩
end Go.Proofs.Ytmclfbhcddcebaa
