/- The walk of the statement SnapshotFull. -/
import Derived.Test.YtoefbjeclghfhaaSnapV
namespace Go.Proofs.Ytoefbjeclghfhaa
open Go.RowKit
set_option linter.unusedSimpArgs false
set_option linter.unusedVariables false

set_option maxHeartbeats 3200000 in
set_option maxRecDepth 100000 in
theorem law_full (w : World) (S : Int) (ep : Nat) (A : Option Addr) (n c : Nat) (l : List UInt8) (hl : l.length = n) (hnc : n ≤ c) (hcm : c ≤ maxLen) (hB : BtsB w.heap.size w A l) (hS : 0 ≤ S ∧ S < 256) (hep : ep < 4294967296) (more : Int) (hmo : 0 ≤ more ∧ more < 256) :
    Calls Try.prog 6 #[.agg (verV S ep A n c), .int .u8 more] w fun e w' => e = .returned (.bool true) ∧ Keeps [] w w' := by
  have hC := Lib.hid (VerAt.start (S := S) (ep := ep) (n := n) (c := c) hB)
  replace hcm := Lib.hid hcm
  clear hB
  have cc := hC.out.cc
  go_enter Try.func6, Try.ntmps6
  go_wp2_with fail
  clear cc
  generalize w.alloc (.cells (verV S ep A n c) 37) = wx at *
  refine (fresh_any wx S ep A n c hS hep).mono ?_
  rintro e w1 (⟨hno, rfl, k⟩ | ⟨hok, bd, bs, rfl, hD, hbd, hbs, k⟩)
  · replace hC := Lib.hid (hC.out.keep_ k)
    clear k
    go_wp2_with fail
    refine (awake_any w1).mono ?_
    rintro e w2 ⟨rfl, k⟩
    replace hC := Lib.hid (hC.out.keep_ k)
    clear k
    go_wp2_with fail
    refine (awake_any w2).mono ?_
    rintro e w3 ⟨rfl, k⟩
    replace hC := Lib.hid (hC.out.keep_ k)
    clear k
    go_wp2_with fail
    go_ret
    exact ⟨rfl, hC.out.keep⟩
  · obtain ⟨m, rfl⟩ : ∃ m : Nat, S = m := ⟨S.toNat, by omega⟩
    obtain ⟨h7, h60, hcap, h600, h1⟩ := hok
    rw [Int.toNat_natCast] at hD
    have hnew : Hid (w.heap.size < bd ∧ w.heap.size < bs) := Lib.hid (by have := hC.out.keep.size; omega)
    replace hC := Lib.hid (hC.out.keep_ k)
    replace hD := Lib.hid hD
    clear k hbd hbs
    obtain ⟨t, hq, hh, htw⟩ := first_write (m := m) (ep := ep) (l := l) (by omega) (by omega) h1 hep (by rw [hl]; exact hcap)
    replace hq := Lib.hid hq
    replace hh := Lib.hid hh
    replace htw := Lib.hid htw
    replace hcap := Lib.hid hcap
    go_wp2_with fail
    refine (awake_any w1).mono ?_
    rintro e w2 ⟨rfl, k⟩
    replace hC := Lib.hid (hC.out.keep_ k)
    replace hD := Lib.hid (hD.out.keep k (by simp) (by simp))
    clear k
    have hC3 : Hid (VerAt w w2.drew m ep A n c l) := Lib.hid ⟨hC.out.blk.drew, ⟨hC.out.data.bts.drew_, hC.out.data.low⟩, hC.out.keep.drew⟩
    have hD3 : Hid (DRep w2.drew bd bs (st0 m)) := Lib.hid (hD.out.keep ((Keeps.refl [] w2).drew) (by simp) (by simp))
    have HCp : Hid (Calls Try.prog 17 #[.slice A n c] w2.drew (CpPost w2.drew n l)) := Lib.hid (cp_any w2.drew A l n c hC3.out.data.bts hl h600)
    have HW : Hid (∀ (w1 : World) (A : Option Addr) (c : Nat), w1.ownsRow w2.drew.heap.size 5 1 (.slice A n c) n (l.map bv) → Keeps [] w2.drew w1 → Calls Try.prog 16 #[.pointer (some ⟨bd, 0, none⟩), .int .u32 ep, .slice A n c] w1 fun e w' => e = .returned (.int .i64 0) ∧ DRep w' bd bs t ∧ Keeps [bd, bs] w2.drew w') :=
      Lib.hid (fun w1 A c ho hk => swrite_own w2.drew bd bs (st0 m) t 0 ep l n hq.out hep (Int.le_refl 0) (show (0 : Int) ≤ 900000 by decide) w1 A c ho hk hD3.out)
    have h0 := And.intro hC3.out.c1 hC3.out.c2
    clear hC hD
    go_wp2_with fail
    refine wp_region_I (S := (fun w' : World => w'.cell? ⟨w.heap.size, 1, none⟩ = some (.int .u32 (ep : Int)) ∧ w'.cell? ⟨w.heap.size, 2, none⟩ = some (.slice A n c))) (n := 8) (by kernel_rfl) ?_
    generalize w2.drew = w3 at *
    have HS := h0
    clear h0
    refine wpAnyI_takeN (i := 0) (v := ?_) (by kernel_rfl) rfl (by kernel_rfl) (by kernel_rfl) (by kernel_rfl) (fun _ _ _ h => h) HS (Or.inl ⟨by rfl, ?_⟩) ?_
    rotate_left
    · (intro w hSw; obtain ⟨z1, z2⟩ := hSw; go_simp; try with_reducible rfl)
    try simp only [Act.put, List.getElem_toArray, List.getElem_cons_succ, List.getElem_cons_zero, List.setIfInBounds_toArray, List.set_cons_zero, List.set_cons_succ]
    refine wpAnyI_takeN (i := 1) (v := ?_) (by kernel_rfl) rfl (by kernel_rfl) (by kernel_rfl) (by kernel_rfl) (fun _ _ _ h => h) HS (Or.inl ⟨by rfl, ?_⟩) ?_
    rotate_left
    · (intro w hSw; obtain ⟨z1, z2⟩ := hSw; go_simp; try with_reducible rfl)
    try simp only [Act.put, List.getElem_toArray, List.getElem_cons_succ, List.getElem_cons_zero, List.setIfInBounds_toArray, List.set_cons_zero, List.set_cons_succ]
    refine wpAnyI_takeN (i := 2) (v := ?_) (by kernel_rfl) rfl (by kernel_rfl) (by kernel_rfl) (by kernel_rfl) (fun _ _ _ h => h) HS (Or.inl ⟨by rfl, ?_⟩) ?_
    rotate_left
    · (intro w hSw; obtain ⟨z1, z2⟩ := hSw; go_simp; try with_reducible rfl)
    try simp only [Act.put, List.getElem_toArray, List.getElem_cons_succ, List.getElem_cons_zero, List.setIfInBounds_toArray, List.set_cons_zero, List.set_cons_succ]
    refine wpAnyI_takeN (i := 3) (v := ?_) (by kernel_rfl) rfl (by kernel_rfl) (by kernel_rfl) (by kernel_rfl) (fun _ _ _ h => h) HS (Or.inl ⟨by rfl, ?_⟩) ?_
    rotate_left
    · (intro w hSw; obtain ⟨z1, z2⟩ := hSw; go_simp; try with_reducible rfl)
    try simp only [Act.put, List.getElem_toArray, List.getElem_cons_succ, List.getElem_cons_zero, List.setIfInBounds_toArray, List.set_cons_zero, List.set_cons_succ]
    refine wpAnyI_takeN (i := 4) (v := ?_) (by kernel_rfl) rfl (by kernel_rfl) (by kernel_rfl) (by kernel_rfl) (fun _ _ _ h => h) HS (Or.inl ⟨by rfl, ?_⟩) ?_
    rotate_left
    · (intro w hSw; obtain ⟨z1, z2⟩ := hSw; go_simp; try with_reducible rfl)
    try simp only [Act.put, List.getElem_toArray, List.getElem_cons_succ, List.getElem_cons_zero, List.setIfInBounds_toArray, List.set_cons_zero, List.set_cons_succ]
    refine wpAnyI_one (i := 5) rfl (by kernel_rfl) (fun K hK => ?_)
    dsimp only [List.getElem_toArray, List.getElem_cons_succ, List.getElem_cons_zero]
    go_simp
    refine HCp.out.mono ?_
    rintro e w4 ⟨A1, c1, rfl, o1, k4⟩
    have HS : w4.cell? ⟨w.heap.size, 1, none⟩ = some (.int .u32 (ep : Int)) ∧ w4.cell? ⟨w.heap.size, 2, none⟩ = some (.slice A n c) := ⟨k4.cellEq HS.1 (by simp), k4.cellEq HS.2 (by simp)⟩
    have HW4 := Lib.hid (HW.out w4 A1 c1 o1 k4)
    refine hK _ _ (Or.inr HS) ?_
    clear hK K HW HCp o1 k4
    try simp only [Act.put, List.getElem_toArray, List.getElem_cons_succ, List.getElem_cons_zero, List.setIfInBounds_toArray, List.set_cons_zero, List.set_cons_succ]
    refine wpAnyI_one (i := 6) rfl (by kernel_rfl) (fun K hK => ?_)
    dsimp only [List.getElem_toArray, List.getElem_cons_succ, List.getElem_cons_zero]
    go_simp
    refine HW4.out.mono ?_
    rintro e w5 ⟨rfl, hD5, k5⟩
    replace hC := Lib.hid (hC3.out.keepX k5 (by have := hnew.out; simp; omega))
    have HS := And.intro hC.out.c1 hC.out.c2
    replace hD5 := Lib.hid hD5
    refine hK _ _ (Or.inr HS) ?_
    clear hK K HW4 k5 hD3 hC3
    try simp only [Act.put, List.getElem_toArray, List.getElem_cons_succ, List.getElem_cons_zero, List.setIfInBounds_toArray, List.set_cons_zero, List.set_cons_succ]
    refine wpAnyI_takeN (i := 7) (v := .bool false) (by kernel_rfl) rfl (by kernel_rfl) (by kernel_rfl) (by kernel_rfl) (fun _ _ _ h => h) HS (Or.inl ⟨by rfl, ?_⟩) ?_
    · (intro w hSw; obtain ⟨z1, z2⟩ := hSw; go_simp)
    try simp only [Act.put, List.getElem_toArray, List.getElem_cons_succ, List.getElem_cons_zero, List.setIfInBounds_toArray, List.set_cons_zero, List.set_cons_succ]
    refine wpAnyI_done (by kernel_rfl) ?_ _
    obtain ⟨M, rfl⟩ : ∃ M : Nat, more = M := ⟨more.toNat, by omega⟩
    have hcf := hC.out.cc
    have hw0 : Hid (0 ≤ t.writes ∧ t.writes ≤ 900000) := Lib.hid (by rw [htw.out]; subst hl; omega)
    obtain ⟨ee, hee⟩ : ∃ ee : Nat, ee = if ep = 4294967295 then 0 else ep + 1 := ⟨_, rfl⟩
    obtain ⟨x1, hx1⟩ : ∃ x1 : Int, x1 = if ep = 4294967295 then 1 else 16 := ⟨_, rfl⟩
    have hcl : capOf (m : Int) = 64 * area m := by unfold capOf; rw [if_neg (by omega)]; simp
    have hcb : capOf (m : Int) ≤ 4000 := by rw [hcl]; unfold area; omega
    have hlong : Hid (swrite t ee (List.replicate (capOf m + 1 + M) 0) = (t, x1)) := Lib.hid (by
      by_cases h : ep = 4294967295
      · rw [if_pos h] at hee hx1; subst hx1; exact write_old hh.out.toStands (by omega)
      · rw [if_neg h] at hee hx1; subst hx1; exact write_long hh.out.toStands (by omega) (by rw [List.length_replicate]; omega))
    have hee2 : Hid (ee < 4294967296) := Lib.hid (by rw [hee]; split <;> omega)
    obtain ⟨r, hr⟩ : ∃ r, r = M % ep := ⟨_, rfl⟩
    have hrl : r < ep := hr ▸ Nat.mod_lt _ h1
    replace hr := Lib.hid hr
    have hold : Hid (swrite t (ep - r) [] = (t, 1)) := Lib.hid (write_old hh.out.toStands (by omega))
    have hadd : Hid ((IntKind.u32.wrap ((ep : Int) + 1)) = (ee : Int)) := Lib.hid (by
      rw [hee]; split
      · rename_i h; subst h; rfl
      · exact IntWalk.u32_in _ (by omega))
    replace hcl := Lib.hid hcl
    replace hee := Lib.hid hee
    replace hx1 := Lib.hid hx1
    have HN := Lib.hid (writes_any w5 bd bs t hD5.out)
    clear HS
    go_wp2_with fail
    refine HN.out.mono ?_
    rintro e w6 ⟨rfl, rfl⟩
    go_wp2_with fail
    refine (rcap_any w5 m).mono ?_
    rintro e w6 ⟨rfl, k6⟩
    replace hC := Lib.hid (hC.out.keep_ k6)
    replace hD5 := Lib.hid (hD5.out.keep k6 (by simp) (by simp))
    clear k6 HN hcf
    have info5 : Hid ((Try.prog.info? 5).map (fun i => (i.zero, i.size, i.bytes)) = some (some (.int .u8 0), 1, 1)) := Lib.hid (by kernel_rfl)
    go_wp2_with (refine wpList_make rfl 35 (.tmp 39) (.tmp 39) rfl 5 (.int .u8 0) 1 1 Try.underlying35 info5.out .i64 .i64 (capOf m + 1 + M) (capOf m + 1 + M) ?_ ?_ ?_ ?_ ?_ ?_; rfl; rfl; omega; omega; omega; intro w8 m8 k8 z8; replace k8 := Lib.hid k8; clear z8)
    have hC8 : Hid (VerAt w w8.drew m ep A n c l) := Lib.hid (by have h := hC.out.keep_ k8.out; exact ⟨h.blk.drew, ⟨h.data.bts.drew_, h.data.low⟩, h.keep.drew⟩)
    have hD8 : Hid (DRep w8.drew bd bs t) := Lib.hid ((hD5.out.keep k8.out (by simp) (by simp)).keep ((Keeps.refl [] w8).drew) (by simp) (by simp))
    have hB8 : Hid (Bts w8.drew (some ⟨w6.heap.size, 0, none⟩) (List.replicate (capOf m + 1 + M) 0)) := Lib.hid (bts_zeros m8.out)
    have hlt : Hid (w6.heap.size ≠ bd ∧ w6.heap.size ≠ bs) := Lib.hid (by have := hD5.out.d.lt; have := hD5.out.m.lt; omega)
    have HW := Lib.hid (swrite_to w8.drew bd bs t t x1 ee (some ⟨w6.heap.size, 0, none⟩) (List.replicate (capOf m + 1 + M) 0) (capOf m + 1 + M) (capOf m + 1 + M) hlong.out hD8.out hB8.out (by simp) (Nat.le_refl _) (by simp [maxLen]; omega) hee2.out (fun a ha => by cases ha; exact hlt.out) hw0.out.1 hw0.out.2)
    have h0 := hC8.out.c1
    clear hC hD5 m8 k8 hB8 hlt
    go_wp2_with fail
    refine wp_region_I (S := (fun w' : World => w'.cell? ⟨w.heap.size, 1, none⟩ = some (.int .u32 (ep : Int)))) (n := 18) (by kernel_rfl) ?_
    generalize w8.drew = w9 at *
    have HS := h0
    clear h0
    refine wpAnyI_takeN (i := 0) (v := ?_) (by kernel_rfl) rfl (by kernel_rfl) (by kernel_rfl) (by kernel_rfl) (fun _ _ _ h => h) HS (Or.inl ⟨by rfl, ?_⟩) ?_
    rotate_left
    · (intro w hSw; obtain z1 := hSw; go_simp; try with_reducible rfl)
    try simp only [Act.put, List.getElem_toArray, List.getElem_cons_succ, List.getElem_cons_zero, List.setIfInBounds_toArray, List.set_cons_zero, List.set_cons_succ]
    refine wpAnyI_takeN (i := 1) (v := ?_) (by kernel_rfl) rfl (by kernel_rfl) (by kernel_rfl) (by kernel_rfl) (fun _ _ _ h => h) HS (Or.inl ⟨by rfl, ?_⟩) ?_
    rotate_left
    · (intro w hSw; obtain z1 := hSw; go_simp; try with_reducible rfl)
    try simp only [Act.put, List.getElem_toArray, List.getElem_cons_succ, List.getElem_cons_zero, List.setIfInBounds_toArray, List.set_cons_zero, List.set_cons_succ]
    refine wpAnyI_takeN (i := 2) (v := ?_) (by kernel_rfl) rfl (by kernel_rfl) (by kernel_rfl) (by kernel_rfl) (fun _ _ _ h => h) HS (Or.inl ⟨by rfl, ?_⟩) ?_
    rotate_left
    · (intro w hSw; obtain z1 := hSw; go_simp; try with_reducible rfl)
    try simp only [Act.put, List.getElem_toArray, List.getElem_cons_succ, List.getElem_cons_zero, List.setIfInBounds_toArray, List.set_cons_zero, List.set_cons_succ]
    refine wpAnyI_takeN (i := 3) (v := .int .u32 (ee : Int)) (by kernel_rfl) rfl (by kernel_rfl) (by kernel_rfl) (by kernel_rfl) (fun _ _ _ h => h) HS (Or.inl ⟨by rfl, ?_⟩) ?_
    · (intro w hSw; obtain z1 := hSw; go_simp; try rw [hadd.out])
    try simp only [Act.put, List.getElem_toArray, List.getElem_cons_succ, List.getElem_cons_zero, List.setIfInBounds_toArray, List.set_cons_zero, List.set_cons_succ]
    refine wpAnyI_takeN (i := 4) (v := ?_) (by kernel_rfl) rfl (by kernel_rfl) (by kernel_rfl) (by kernel_rfl) (fun _ _ _ h => h) HS (Or.inl ⟨by rfl, ?_⟩) ?_
    rotate_left
    · (intro w hSw; obtain z1 := hSw; go_simp; try with_reducible rfl)
    try simp only [Act.put, List.getElem_toArray, List.getElem_cons_succ, List.getElem_cons_zero, List.setIfInBounds_toArray, List.set_cons_zero, List.set_cons_succ]
    refine wpAnyI_takeN (i := 6) (v := ?_) (by kernel_rfl) rfl (by kernel_rfl) (by kernel_rfl) (by kernel_rfl) (fun _ _ _ h => h) HS (Or.inl ⟨by rfl, ?_⟩) ?_
    rotate_left
    · (intro w hSw; obtain z1 := hSw; go_simp; try with_reducible rfl)
    try simp only [Act.put, List.getElem_toArray, List.getElem_cons_succ, List.getElem_cons_zero, List.setIfInBounds_toArray, List.set_cons_zero, List.set_cons_succ]
    refine wpAnyI_takeN (i := 7) (v := ?_) (by kernel_rfl) rfl (by kernel_rfl) (by kernel_rfl) (by kernel_rfl) (fun _ _ _ h => h) HS (Or.inl ⟨by rfl, ?_⟩) ?_
    rotate_left
    · (intro w hSw; obtain z1 := hSw; go_simp; try with_reducible rfl)
    try simp only [Act.put, List.getElem_toArray, List.getElem_cons_succ, List.getElem_cons_zero, List.setIfInBounds_toArray, List.set_cons_zero, List.set_cons_succ]
    refine wpAnyI_takeN (i := 8) (v := ?_) (by kernel_rfl) rfl (by kernel_rfl) (by kernel_rfl) (by kernel_rfl) (fun _ _ _ h => h) HS (Or.inl ⟨by rfl, ?_⟩) ?_
    rotate_left
    · (intro w hSw; obtain z1 := hSw; go_simp; try with_reducible rfl)
    try simp only [Act.put, List.getElem_toArray, List.getElem_cons_succ, List.getElem_cons_zero, List.setIfInBounds_toArray, List.set_cons_zero, List.set_cons_succ]
    refine wpAnyI_takeN (i := 9) (v := ?_) (by kernel_rfl) rfl (by kernel_rfl) (by kernel_rfl) (by kernel_rfl) (fun _ _ _ h => h) HS (Or.inl ⟨by rfl, ?_⟩) ?_
    rotate_left
    · (intro w hSw; obtain z1 := hSw; go_simp; try with_reducible rfl)
    try simp only [Act.put, List.getElem_toArray, List.getElem_cons_succ, List.getElem_cons_zero, List.setIfInBounds_toArray, List.set_cons_zero, List.set_cons_succ]
    refine wpAnyI_takeN (i := 10) (v := ?_) (by kernel_rfl) rfl (by kernel_rfl) (by kernel_rfl) (by kernel_rfl) (fun _ _ _ h => h) HS (Or.inl ⟨by rfl, ?_⟩) ?_
    rotate_left
    · (intro w hSw; obtain z1 := hSw; go_simp; try with_reducible rfl)
    try simp only [Act.put, List.getElem_toArray, List.getElem_cons_succ, List.getElem_cons_zero, List.setIfInBounds_toArray, List.set_cons_zero, List.set_cons_succ]
    refine wpAnyI_takeN (i := 11) (v := ?_) (by kernel_rfl) rfl (by kernel_rfl) (by kernel_rfl) (by kernel_rfl) (fun _ _ _ h => h) HS (Or.inl ⟨by rfl, ?_⟩) ?_
    rotate_left
    · (intro w hSw; obtain z1 := hSw; go_simp; try with_reducible rfl)
    try simp only [Act.put, List.getElem_toArray, List.getElem_cons_succ, List.getElem_cons_zero, List.setIfInBounds_toArray, List.set_cons_zero, List.set_cons_succ]
    refine wpAnyI_takeN (i := 12) (v := ?_) (by kernel_rfl) rfl (by kernel_rfl) (by kernel_rfl) (by kernel_rfl) (fun _ _ _ h => h) HS (Or.inl ⟨by rfl, ?_⟩) ?_
    rotate_left
    · (intro w hSw; obtain z1 := hSw; go_simp; try with_reducible rfl)
    try simp only [Act.put, List.getElem_toArray, List.getElem_cons_succ, List.getElem_cons_zero, List.setIfInBounds_toArray, List.set_cons_zero, List.set_cons_succ]
    refine wpAnyI_takeN (i := 13) (v := .int .u32 (r : Int)) (by kernel_rfl) rfl (by kernel_rfl) (by kernel_rfl) (by kernel_rfl) (fun _ _ _ h => h) HS (Or.inl ⟨by rfl, ?_⟩) ?_
    · (intro w hSw; obtain z1 := hSw; go_simp; rw [if_neg (by omega), IntWalk.u32_in (M : Int) (by omega), Int.tmod_eq_emod_of_nonneg (by omega), hr.out, Int.natCast_emod])
    try simp only [Act.put, List.getElem_toArray, List.getElem_cons_succ, List.getElem_cons_zero, List.setIfInBounds_toArray, List.set_cons_zero, List.set_cons_succ]
    refine wpAnyI_takeN (i := 14) (v := .int .u32 ((ep - r : Nat) : Int)) (by kernel_rfl) rfl (by kernel_rfl) (by kernel_rfl) (by kernel_rfl) (fun _ _ _ h => h) HS (Or.inl ⟨by rfl, ?_⟩) ?_
    · (intro w hSw; obtain z1 := hSw; go_simp; rw [IntWalk.u32_in _ (by omega)]; omega)
    try simp only [Act.put, List.getElem_toArray, List.getElem_cons_succ, List.getElem_cons_zero, List.setIfInBounds_toArray, List.set_cons_zero, List.set_cons_succ]
    refine wpAnyI_one (i := 5) rfl (by kernel_rfl) (fun K hK => ?_)
    dsimp only [List.getElem_toArray, List.getElem_cons_succ, List.getElem_cons_zero]
    go_simp
    refine HW.out.mono ?_
    rintro e wa ⟨rfl, hDa, ka⟩
    have hC := Lib.hid (hC8.out.keepX ka (by have := hnew.out; simp; omega))
    have HS := hC.out.c1
    have HV := Lib.hid (swrite_to wa bd bs t t 1 (ep - r) none [] 0 0 hold.out hDa (.inl rfl) rfl (Nat.le_refl _) (by simp [maxLen]) (by omega) (fun a ha => by cases ha) hw0.out.1 hw0.out.2)
    refine hK _ _ (Or.inr HS) ?_
    clear hK K HW ka hDa hD8 hC8
    try simp only [Act.put, List.getElem_toArray, List.getElem_cons_succ, List.getElem_cons_zero, List.setIfInBounds_toArray, List.set_cons_zero, List.set_cons_succ]
    refine wpAnyI_one (i := 15) rfl (by kernel_rfl) (fun K hK => ?_)
    dsimp only [List.getElem_toArray, List.getElem_cons_succ, List.getElem_cons_zero]
    go_simp
    refine HV.out.mono ?_
    rintro e wb ⟨rfl, hDb, kb⟩
    replace hC := Lib.hid (hC.out.keepX kb (by have := hnew.out; simp; omega))
    have HS := hC.out.c1
    replace hDb := Lib.hid hDb
    refine hK _ _ (Or.inr HS) ?_
    clear hK K HV kb
    try simp only [Act.put, List.getElem_toArray, List.getElem_cons_succ, List.getElem_cons_zero, List.setIfInBounds_toArray, List.set_cons_zero, List.set_cons_succ]
    refine wpAnyI_takeN (i := 16) (v := ?_) (by kernel_rfl) rfl (by kernel_rfl) (by kernel_rfl) (by kernel_rfl) (fun _ _ _ h => h) HS (Or.inl ⟨by rfl, ?_⟩) ?_
    rotate_left
    · (intro w hSw; obtain z1 := hSw; go_simp; try with_reducible rfl)
    try simp only [Act.put, List.getElem_toArray, List.getElem_cons_succ, List.getElem_cons_zero, List.setIfInBounds_toArray, List.set_cons_zero, List.set_cons_succ]
    refine wpAnyI_takeN (i := 17) (v := ?_) (by kernel_rfl) rfl (by kernel_rfl) (by kernel_rfl) (by kernel_rfl) (fun _ _ _ h => h) HS (Or.inl ⟨by rfl, ?_⟩) ?_
    rotate_left
    · (intro w hSw; obtain z1 := hSw; go_simp; try with_reducible rfl)
    try simp only [Act.put, List.getElem_toArray, List.getElem_cons_succ, List.getElem_cons_zero, List.setIfInBounds_toArray, List.set_cons_zero, List.set_cons_succ]
    refine wpAnyI_done (by kernel_rfl) ?_ _
    have HR := Lib.hid (sread_to wb bd bs t l ep n 0 hh.out.read hl hDb.out)
    go_wp2_with fail
    refine HR.out.mono ?_
    rintro e wc ⟨A3, c3, rfl, hb3, kc⟩
    replace hC := Lib.hid (hC.out.keep_ kc)
    have cv := run_convert_bts (P := Try.prog) (w := wc) 35 9 5 Try.underlying35 Try.underlying5 Try.underlying9 A3 l n c3 hl hb3
    have cw := run_convert_bts (P := Try.prog) (w := wc) 35 9 5 Try.underlying35 Try.underlying5 Try.underlying9 A l n c hl hC.out.data.bts
    have HN := Lib.hid (writes_any wc bd bs t (hDb.out.keep kc (by simp) (by simp)))
    clear HR kc hb3 HS hDb
    have cc := hC.out.cc
    have hx2 := hx1.out
    have he2 := hee.out
    by_cases hm : ep = 4294967295
    · rw [if_pos hm] at hx2 he2
      subst hm
      subst hx2
      go_wp2_with (go_at_call 23; refine HN.out.mono ?_; rintro e wd ⟨rfl, rfl⟩)
      go_ret
      exact ⟨rfl, hC.out.keep⟩
    · rw [if_neg hm] at hx2 he2
      subst hx2
      go_wp2_with (go_at_call 23; refine HN.out.mono ?_; rintro e wd ⟨rfl, rfl⟩)
      go_ret
      exact ⟨rfl, hC.out.keep⟩
end Go.Proofs.Ytoefbjeclghfhaa
