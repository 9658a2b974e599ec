/- The walk of the statement SnapshotWrites. -/
import Derived.Test.YtoefbjeclghfhaaSnapV
namespace Go.Proofs.Ytoefbjeclghfhaa
open Go.RowKit
set_option linter.unusedSimpArgs false
set_option linter.unusedVariables false

set_option maxHeartbeats 3200000 in
set_option maxRecDepth 100000 in
theorem law_writes (w : World) (S : Int) (ep : Nat) (A : Option Addr) (n c : Nat) (l : List UInt8) (hl : l.length = n) (hnc : n ≤ c) (hcm : c ≤ maxLen) (hB : BtsB w.heap.size w A l) (hS : 0 ≤ S ∧ S < 256) (hep : ep < 4294967296) :
    Calls Try.prog 7 #[.agg (verV S ep A n c)] w fun e w' => e = .returned (.bool true) ∧ Keeps [] w w' := by
  have hC := Lib.hid (VerAt.start (S := S) (ep := ep) (n := n) (c := c) hB)
  replace hcm := Lib.hid hcm
  clear hB
  have cc := hC.out.cc
  go_enter Try.func7, Try.ntmps7
  go_wp2_with fail
  clear cc
  generalize w.alloc (.cells (verV S ep A n c) 37) = wx at *
  refine (fresh_any wx S ep A n c hS hep).mono ?_
  rintro e w1 (⟨hno, rfl, k⟩ | ⟨hok, bd, bs, rfl, hD, hbd, hbs, k⟩)
  · replace hC := Lib.hid (hC.out.keep_ k)
    clear k
    go_wp2_with fail
    refine (awake_any w1).mono ?_
    rintro e w2 ⟨rfl, k⟩
    replace hC := Lib.hid (hC.out.keep_ k)
    clear k
    go_wp2_with fail
    refine (awake_any w2).mono ?_
    rintro e w3 ⟨rfl, k⟩
    replace hC := Lib.hid (hC.out.keep_ k)
    clear k
    go_wp2_with fail
    go_ret
    exact ⟨rfl, hC.out.keep⟩
  · obtain ⟨m, rfl⟩ : ∃ m : Nat, S = m := ⟨S.toNat, by omega⟩
    obtain ⟨h7, h60, hcap, h600, h1⟩ := hok
    rw [Int.toNat_natCast] at hD
    have hnew : Hid (w.heap.size < bd ∧ w.heap.size < bs) := Lib.hid (by have := hC.out.keep.size; omega)
    replace hC := Lib.hid (hC.out.keep_ k)
    replace hD := Lib.hid hD
    clear k hbd hbs
    obtain ⟨t, hq, hh, htw⟩ := first_write (m := m) (ep := ep) (l := l) (by omega) (by omega) h1 hep (by rw [hl]; exact hcap)
    replace hq := Lib.hid hq
    replace hh := Lib.hid hh
    replace htw := Lib.hid htw
    replace hcap := Lib.hid hcap
    go_wp2_with fail
    refine (awake_any w1).mono ?_
    rintro e w2 ⟨rfl, k⟩
    replace hC := Lib.hid (hC.out.keep_ k)
    replace hD := Lib.hid (hD.out.keep k (by simp) (by simp))
    clear k
    have hC3 : Hid (VerAt w w2.drew m ep A n c l) := Lib.hid ⟨hC.out.blk.drew, ⟨hC.out.data.bts.drew_, hC.out.data.low⟩, hC.out.keep.drew⟩
    have hD3 : Hid (DRep w2.drew bd bs (st0 m)) := Lib.hid (hD.out.keep ((Keeps.refl [] w2).drew) (by simp) (by simp))
    have HCp : Hid (Calls Try.prog 17 #[.slice A n c] w2.drew (CpPost w2.drew n l)) := Lib.hid (cp_any w2.drew A l n c hC3.out.data.bts hl h600)
    have HW : Hid (∀ (w1 : World) (A : Option Addr) (c : Nat), w1.ownsRow w2.drew.heap.size 5 1 (.slice A n c) n (l.map bv) → Keeps [] w2.drew w1 → Calls Try.prog 16 #[.pointer (some ⟨bd, 0, none⟩), .int .u32 ep, .slice A n c] w1 fun e w' => e = .returned (.int .i64 0) ∧ DRep w' bd bs t ∧ Keeps [bd, bs] w2.drew w') :=
      Lib.hid (fun w1 A c ho hk => swrite_own w2.drew bd bs (st0 m) t 0 ep l n hq.out hep (Int.le_refl 0) (show (0 : Int) ≤ 900000 by decide) w1 A c ho hk hD3.out)
    have h0 := And.intro hC3.out.c1 hC3.out.c2
    clear hC hD
    go_wp2_with fail
    refine wp_region_I (S := (fun w' : World => w'.cell? ⟨w.heap.size, 1, none⟩ = some (.int .u32 (ep : Int)) ∧ w'.cell? ⟨w.heap.size, 2, none⟩ = some (.slice A n c))) (n := 20) (by kernel_rfl) ?_
    generalize w2.drew = w3 at *
    have HS := h0
    clear h0
    refine wpAnyI_takeN (i := 0) (v := ?_) (by kernel_rfl) rfl (by kernel_rfl) (by kernel_rfl) (by kernel_rfl) (fun _ _ _ h => h) HS (Or.inl ⟨by rfl, ?_⟩) ?_
    rotate_left
    · (intro w hSw; obtain ⟨z1, z2⟩ := hSw; go_simp; try with_reducible rfl)
    try simp only [Act.put, List.getElem_toArray, List.getElem_cons_succ, List.getElem_cons_zero, List.setIfInBounds_toArray, List.set_cons_zero, List.set_cons_succ]
    refine wpAnyI_takeN (i := 1) (v := ?_) (by kernel_rfl) rfl (by kernel_rfl) (by kernel_rfl) (by kernel_rfl) (fun _ _ _ h => h) HS (Or.inl ⟨by rfl, ?_⟩) ?_
    rotate_left
    · (intro w hSw; obtain ⟨z1, z2⟩ := hSw; go_simp; try with_reducible rfl)
    try simp only [Act.put, List.getElem_toArray, List.getElem_cons_succ, List.getElem_cons_zero, List.setIfInBounds_toArray, List.set_cons_zero, List.set_cons_succ]
    refine wpAnyI_takeN (i := 2) (v := ?_) (by kernel_rfl) rfl (by kernel_rfl) (by kernel_rfl) (by kernel_rfl) (fun _ _ _ h => h) HS (Or.inl ⟨by rfl, ?_⟩) ?_
    rotate_left
    · (intro w hSw; obtain ⟨z1, z2⟩ := hSw; go_simp; try with_reducible rfl)
    try simp only [Act.put, List.getElem_toArray, List.getElem_cons_succ, List.getElem_cons_zero, List.setIfInBounds_toArray, List.set_cons_zero, List.set_cons_succ]
    refine wpAnyI_takeN (i := 3) (v := ?_) (by kernel_rfl) rfl (by kernel_rfl) (by kernel_rfl) (by kernel_rfl) (fun _ _ _ h => h) HS (Or.inl ⟨by rfl, ?_⟩) ?_
    rotate_left
    · (intro w hSw; obtain ⟨z1, z2⟩ := hSw; go_simp; try with_reducible rfl)
    try simp only [Act.put, List.getElem_toArray, List.getElem_cons_succ, List.getElem_cons_zero, List.setIfInBounds_toArray, List.set_cons_zero, List.set_cons_succ]
    refine wpAnyI_takeN (i := 4) (v := ?_) (by kernel_rfl) rfl (by kernel_rfl) (by kernel_rfl) (by kernel_rfl) (fun _ _ _ h => h) HS (Or.inl ⟨by rfl, ?_⟩) ?_
    rotate_left
    · (intro w hSw; obtain ⟨z1, z2⟩ := hSw; go_simp; try with_reducible rfl)
    try simp only [Act.put, List.getElem_toArray, List.getElem_cons_succ, List.getElem_cons_zero, List.setIfInBounds_toArray, List.set_cons_zero, List.set_cons_succ]
    refine wpAnyI_one (i := 5) rfl (by kernel_rfl) (fun K hK => ?_)
    dsimp only [List.getElem_toArray, List.getElem_cons_succ, List.getElem_cons_zero]
    go_simp
    refine HCp.out.mono ?_
    rintro e w4 ⟨A1, c1, rfl, o1, k4⟩
    have HS : w4.cell? ⟨w.heap.size, 1, none⟩ = some (.int .u32 (ep : Int)) ∧ w4.cell? ⟨w.heap.size, 2, none⟩ = some (.slice A n c) := ⟨k4.cellEq HS.1 (by simp), k4.cellEq HS.2 (by simp)⟩
    have HW4 := Lib.hid (HW.out w4 A1 c1 o1 k4)
    refine hK _ _ (Or.inr HS) ?_
    clear hK K HW HCp o1 k4
    try simp only [Act.put, List.getElem_toArray, List.getElem_cons_succ, List.getElem_cons_zero, List.setIfInBounds_toArray, List.set_cons_zero, List.set_cons_succ]
    refine wpAnyI_one (i := 6) rfl (by kernel_rfl) (fun K hK => ?_)
    dsimp only [List.getElem_toArray, List.getElem_cons_succ, List.getElem_cons_zero]
    go_simp
    refine HW4.out.mono ?_
    rintro e w5 ⟨rfl, hD5, k5⟩
    replace hC := Lib.hid (hC3.out.keepX k5 (by have := hnew.out; simp; omega))
    have HS := And.intro hC.out.c1 hC.out.c2
    replace hD5 := Lib.hid hD5
    refine hK _ _ (Or.inr HS) ?_
    clear hK K HW4 k5 hD3 hC3
    try simp only [Act.put, List.getElem_toArray, List.getElem_cons_succ, List.getElem_cons_zero, List.setIfInBounds_toArray, List.set_cons_zero, List.set_cons_succ]
    refine wpAnyI_takeN (i := 7) (v := .bool true) (by kernel_rfl) rfl (by kernel_rfl) (by kernel_rfl) (by kernel_rfl) (fun _ _ _ h => h) HS (Or.inl ⟨by rfl, ?_⟩) ?_
    · (intro w hSw; obtain ⟨z1, z2⟩ := hSw; go_simp)
    try simp only [Act.put, List.getElem_toArray, List.getElem_cons_succ, List.getElem_cons_zero, List.setIfInBounds_toArray, List.set_cons_zero, List.set_cons_succ]
    refine wpAnyI_takeN (i := 8) (v := ?_) (by kernel_rfl) rfl (by kernel_rfl) (by kernel_rfl) (by kernel_rfl) (fun _ _ _ h => h) HS (Or.inl ⟨by rfl, ?_⟩) ?_
    rotate_left
    · (intro w hSw; obtain ⟨z1, z2⟩ := hSw; go_simp; try with_reducible rfl)
    try simp only [Act.put, List.getElem_toArray, List.getElem_cons_succ, List.getElem_cons_zero, List.setIfInBounds_toArray, List.set_cons_zero, List.set_cons_succ]
    refine wpAnyI_takeN (i := 9) (v := ?_) (by kernel_rfl) rfl (by kernel_rfl) (by kernel_rfl) (by kernel_rfl) (fun _ _ _ h => h) HS (Or.inl ⟨by rfl, ?_⟩) ?_
    rotate_left
    · (intro w hSw; obtain ⟨z1, z2⟩ := hSw; go_simp; try with_reducible rfl)
    try simp only [Act.put, List.getElem_toArray, List.getElem_cons_succ, List.getElem_cons_zero, List.setIfInBounds_toArray, List.set_cons_zero, List.set_cons_succ]
    refine wpAnyI_takeN (i := 11) (v := ?_) (by kernel_rfl) rfl (by kernel_rfl) (by kernel_rfl) (by kernel_rfl) (fun _ _ _ h => h) HS (Or.inl ⟨by rfl, ?_⟩) ?_
    rotate_left
    · (intro w hSw; obtain ⟨z1, z2⟩ := hSw; go_simp; try with_reducible rfl)
    try simp only [Act.put, List.getElem_toArray, List.getElem_cons_succ, List.getElem_cons_zero, List.setIfInBounds_toArray, List.set_cons_zero, List.set_cons_succ]
    refine wpAnyI_takeN (i := 12) (v := ?_) (by kernel_rfl) rfl (by kernel_rfl) (by kernel_rfl) (by kernel_rfl) (fun _ _ _ h => h) HS (Or.inl ⟨by rfl, ?_⟩) ?_
    rotate_left
    · (intro w hSw; obtain ⟨z1, z2⟩ := hSw; go_simp; try with_reducible rfl)
    try simp only [Act.put, List.getElem_toArray, List.getElem_cons_succ, List.getElem_cons_zero, List.setIfInBounds_toArray, List.set_cons_zero, List.set_cons_succ]
    refine wpAnyI_takeN (i := 13) (v := ?_) (by kernel_rfl) rfl (by kernel_rfl) (by kernel_rfl) (by kernel_rfl) (fun _ _ _ h => h) HS (Or.inl ⟨by rfl, ?_⟩) ?_
    rotate_left
    · (intro w hSw; obtain ⟨z1, z2⟩ := hSw; go_simp; try with_reducible rfl)
    try simp only [Act.put, List.getElem_toArray, List.getElem_cons_succ, List.getElem_cons_zero, List.setIfInBounds_toArray, List.set_cons_zero, List.set_cons_succ]
    refine wpAnyI_takeN (i := 14) (v := ?_) (by kernel_rfl) rfl (by kernel_rfl) (by kernel_rfl) (by kernel_rfl) (fun _ _ _ h => h) HS (Or.inl ⟨by rfl, ?_⟩) ?_
    rotate_left
    · (intro w hSw; obtain ⟨z1, z2⟩ := hSw; go_simp; try with_reducible rfl)
    try simp only [Act.put, List.getElem_toArray, List.getElem_cons_succ, List.getElem_cons_zero, List.setIfInBounds_toArray, List.set_cons_zero, List.set_cons_succ]
    refine wpAnyI_takeN (i := 15) (v := ?_) (by kernel_rfl) rfl (by kernel_rfl) (by kernel_rfl) (by kernel_rfl) (fun _ _ _ h => h) HS (Or.inl ⟨by rfl, ?_⟩) ?_
    rotate_left
    · (intro w hSw; obtain ⟨z1, z2⟩ := hSw; go_simp; try with_reducible rfl)
    try simp only [Act.put, List.getElem_toArray, List.getElem_cons_succ, List.getElem_cons_zero, List.setIfInBounds_toArray, List.set_cons_zero, List.set_cons_succ]
    refine wpAnyI_takeN (i := 16) (v := ?_) (by kernel_rfl) rfl (by kernel_rfl) (by kernel_rfl) (by kernel_rfl) (fun _ _ _ h => h) HS (Or.inl ⟨by rfl, ?_⟩) ?_
    rotate_left
    · (intro w hSw; obtain ⟨z1, z2⟩ := hSw; go_simp; try with_reducible rfl)
    try simp only [Act.put, List.getElem_toArray, List.getElem_cons_succ, List.getElem_cons_zero, List.setIfInBounds_toArray, List.set_cons_zero, List.set_cons_succ]
    refine wpAnyI_one (i := 10) rfl (by kernel_rfl) (fun K hK => ?_)
    dsimp only [List.getElem_toArray, List.getElem_cons_succ, List.getElem_cons_zero]
    go_simp
    refine (writes_any w5 bd bs t hD5.out).mono ?_
    rintro e w6 ⟨rfl, rfl⟩
    refine hK _ _ (Or.inr HS) ?_
    clear hK K
    try simp only [Act.put, List.getElem_toArray, List.getElem_cons_succ, List.getElem_cons_zero, List.setIfInBounds_toArray, List.set_cons_zero, List.set_cons_succ]
    refine wpAnyI_takeN (i := 17) (v := .bool true) (by kernel_rfl) rfl (by kernel_rfl) (by kernel_rfl) (by kernel_rfl) (fun _ _ _ h => h) HS (Or.inl ⟨by rfl, ?_⟩) ?_
    · (intro w hSw; obtain ⟨z1, z2⟩ := hSw; go_simp; rw [htw.out, hl, IntWalk.i64_in ((n : Int) + 63) (by omega), Int.tdiv_eq_ediv_of_nonneg (by omega), IntWalk.i64_in (((n : Int) + 63) / 64) (by omega), IntWalk.i64_in _ (by omega)]; omega)
    try simp only [Act.put, List.getElem_toArray, List.getElem_cons_succ, List.getElem_cons_zero, List.setIfInBounds_toArray, List.set_cons_zero, List.set_cons_succ]
    refine wpAnyI_takeN (i := 18) (v := ?_) (by kernel_rfl) rfl (by kernel_rfl) (by kernel_rfl) (by kernel_rfl) (fun _ _ _ h => h) HS (Or.inl ⟨by rfl, ?_⟩) ?_
    rotate_left
    · (intro w hSw; obtain ⟨z1, z2⟩ := hSw; go_simp; try with_reducible rfl)
    try simp only [Act.put, List.getElem_toArray, List.getElem_cons_succ, List.getElem_cons_zero, List.setIfInBounds_toArray, List.set_cons_zero, List.set_cons_succ]
    refine wpAnyI_takeN (i := 19) (v := ?_) (by kernel_rfl) rfl (by kernel_rfl) (by kernel_rfl) (by kernel_rfl) (fun _ _ _ h => h) HS (Or.inl ⟨by rfl, ?_⟩) ?_
    rotate_left
    · (intro w hSw; obtain ⟨z1, z2⟩ := hSw; go_simp; try with_reducible rfl)
    try simp only [Act.put, List.getElem_toArray, List.getElem_cons_succ, List.getElem_cons_zero, List.setIfInBounds_toArray, List.set_cons_zero, List.set_cons_succ]
    refine wpAnyI_done (by kernel_rfl) ?_ _
    go_wp2_with fail
    go_ret
    exact ⟨rfl, hC.out.keep⟩
end Go.Proofs.Ytoefbjeclghfhaa
