/- The walk of the statement SnapshotRoundTrip. -/
import Derived.Test.YtoefbjeclghfhaaSnapV
namespace Go.Proofs.Ytoefbjeclghfhaa
open Go.RowKit
set_option linter.unusedSimpArgs false
set_option linter.unusedVariables false

set_option maxHeartbeats 3200000 in
set_option maxRecDepth 100000 in
theorem law_roundtrip (w : World) (S : Int) (ep : Nat) (A : Option Addr) (n c : Nat) (l : List UInt8) (hl : l.length = n) (hnc : n ≤ c) (hcm : c ≤ maxLen) (hB : BtsB w.heap.size w A l) (hS : 0 ≤ S ∧ S < 256) (hep : ep < 4294967296) :
    Calls Try.prog 5 #[.agg (verV S ep A n c)] w fun e w' => e = .returned (.bool true) ∧ Keeps [] w w' := by
  have hC := Lib.hid (VerAt.start (S := S) (ep := ep) (n := n) (c := c) hB)
  replace hcm := Lib.hid hcm
  clear hB
  have cc := hC.out.cc
  go_enter Try.func5, Try.ntmps5
  go_wp2_with fail
  clear cc
  generalize w.alloc (.cells (verV S ep A n c) 37) = wx at *
  refine (fresh_any wx S ep A n c hS hep).mono ?_
  rintro e w1 (⟨hno, rfl, k⟩ | ⟨hok, bd, bs, rfl, hD, hbd, hbs, k⟩)
  · replace hC := Lib.hid (hC.out.keep_ k)
    clear k
    go_wp2_with fail
    refine (awake_any w1).mono ?_
    rintro e w2 ⟨rfl, k⟩
    replace hC := Lib.hid (hC.out.keep_ k)
    clear k
    go_wp2_with fail
    refine (awake_any w2).mono ?_
    rintro e w3 ⟨rfl, k⟩
    replace hC := Lib.hid (hC.out.keep_ k)
    clear k
    go_wp2_with fail
    go_ret
    exact ⟨rfl, hC.out.keep⟩
  · obtain ⟨m, rfl⟩ : ∃ m : Nat, S = m := ⟨S.toNat, by omega⟩
    obtain ⟨h7, h60, hcap, h600, h1⟩ := hok
    rw [Int.toNat_natCast] at hD
    have hnew : Hid (w.heap.size < bd ∧ w.heap.size < bs) := Lib.hid (by have := hC.out.keep.size; omega)
    replace hC := Lib.hid (hC.out.keep_ k)
    replace hD := Lib.hid hD
    clear k hbd hbs
    obtain ⟨t, hq, hh, htw⟩ := first_write (m := m) (ep := ep) (l := l) (by omega) (by omega) h1 hep (by rw [hl]; exact hcap)
    replace hq := Lib.hid hq
    replace hh := Lib.hid hh
    replace htw := Lib.hid htw
    replace hcap := Lib.hid hcap
    go_wp2_with fail
    refine (awake_any w1).mono ?_
    rintro e w2 ⟨rfl, k⟩
    replace hC := Lib.hid (hC.out.keep_ k)
    replace hD := Lib.hid (hD.out.keep k (by simp) (by simp))
    clear k
    have hC3 : Hid (VerAt w w2.drew m ep A n c l) := Lib.hid ⟨hC.out.blk.drew, ⟨hC.out.data.bts.drew_, hC.out.data.low⟩, hC.out.keep.drew⟩
    have hD3 : Hid (DRep w2.drew bd bs (st0 m)) := Lib.hid (hD.out.keep ((Keeps.refl [] w2).drew) (by simp) (by simp))
    have HCp : Hid (Calls Try.prog 17 #[.slice A n c] w2.drew (CpPost w2.drew n l)) := Lib.hid (cp_any w2.drew A l n c hC3.out.data.bts hl h600)
    have HW : Hid (∀ (w1 : World) (A : Option Addr) (c : Nat), w1.ownsRow w2.drew.heap.size 5 1 (.slice A n c) n (l.map bv) → Keeps [] w2.drew w1 → Calls Try.prog 16 #[.pointer (some ⟨bd, 0, none⟩), .int .u32 ep, .slice A n c] w1 fun e w' => e = .returned (.int .i64 0) ∧ DRep w' bd bs t ∧ Keeps [bd, bs] w2.drew w') :=
      Lib.hid (fun w1 A c ho hk => swrite_own w2.drew bd bs (st0 m) t 0 ep l n hq.out hep (Int.le_refl 0) (show (0 : Int) ≤ 900000 by decide) w1 A c ho hk hD3.out)
    have h0 := And.intro hC3.out.c1 hC3.out.c2
    clear hC hD
    go_wp2_with fail
    refine wp_region_I (S := (fun w' : World => w'.cell? ⟨w.heap.size, 1, none⟩ = some (.int .u32 (ep : Int)) ∧ w'.cell? ⟨w.heap.size, 2, none⟩ = some (.slice A n c))) (n := 8) (by kernel_rfl) ?_
    generalize w2.drew = w3 at *
    have HS := h0
    clear h0
    refine wpAnyI_takeN (i := 0) (v := ?_) (by kernel_rfl) rfl (by kernel_rfl) (by kernel_rfl) (by kernel_rfl) (fun _ _ _ h => h) HS (Or.inl ⟨by rfl, ?_⟩) ?_
    rotate_left
    · (intro w hSw; obtain ⟨z1, z2⟩ := hSw; go_simp; try with_reducible rfl)
    try simp only [Act.put, List.getElem_toArray, List.getElem_cons_succ, List.getElem_cons_zero, List.setIfInBounds_toArray, List.set_cons_zero, List.set_cons_succ]
    refine wpAnyI_takeN (i := 1) (v := ?_) (by kernel_rfl) rfl (by kernel_rfl) (by kernel_rfl) (by kernel_rfl) (fun _ _ _ h => h) HS (Or.inl ⟨by rfl, ?_⟩) ?_
    rotate_left
    · (intro w hSw; obtain ⟨z1, z2⟩ := hSw; go_simp; try with_reducible rfl)
    try simp only [Act.put, List.getElem_toArray, List.getElem_cons_succ, List.getElem_cons_zero, List.setIfInBounds_toArray, List.set_cons_zero, List.set_cons_succ]
    refine wpAnyI_takeN (i := 2) (v := ?_) (by kernel_rfl) rfl (by kernel_rfl) (by kernel_rfl) (by kernel_rfl) (fun _ _ _ h => h) HS (Or.inl ⟨by rfl, ?_⟩) ?_
    rotate_left
    · (intro w hSw; obtain ⟨z1, z2⟩ := hSw; go_simp; try with_reducible rfl)
    try simp only [Act.put, List.getElem_toArray, List.getElem_cons_succ, List.getElem_cons_zero, List.setIfInBounds_toArray, List.set_cons_zero, List.set_cons_succ]
    refine wpAnyI_takeN (i := 3) (v := ?_) (by kernel_rfl) rfl (by kernel_rfl) (by kernel_rfl) (by kernel_rfl) (fun _ _ _ h => h) HS (Or.inl ⟨by rfl, ?_⟩) ?_
    rotate_left
    · (intro w hSw; obtain ⟨z1, z2⟩ := hSw; go_simp; try with_reducible rfl)
    try simp only [Act.put, List.getElem_toArray, List.getElem_cons_succ, List.getElem_cons_zero, List.setIfInBounds_toArray, List.set_cons_zero, List.set_cons_succ]
    refine wpAnyI_takeN (i := 4) (v := ?_) (by kernel_rfl) rfl (by kernel_rfl) (by kernel_rfl) (by kernel_rfl) (fun _ _ _ h => h) HS (Or.inl ⟨by rfl, ?_⟩) ?_
    rotate_left
    · (intro w hSw; obtain ⟨z1, z2⟩ := hSw; go_simp; try with_reducible rfl)
    try simp only [Act.put, List.getElem_toArray, List.getElem_cons_succ, List.getElem_cons_zero, List.setIfInBounds_toArray, List.set_cons_zero, List.set_cons_succ]
    refine wpAnyI_one (i := 5) rfl (by kernel_rfl) (fun K hK => ?_)
    dsimp only [List.getElem_toArray, List.getElem_cons_succ, List.getElem_cons_zero]
    go_simp
    refine HCp.out.mono ?_
    rintro e w4 ⟨A1, c1, rfl, o1, k4⟩
    have HS : w4.cell? ⟨w.heap.size, 1, none⟩ = some (.int .u32 (ep : Int)) ∧ w4.cell? ⟨w.heap.size, 2, none⟩ = some (.slice A n c) := ⟨k4.cellEq HS.1 (by simp), k4.cellEq HS.2 (by simp)⟩
    have HW4 := Lib.hid (HW.out w4 A1 c1 o1 k4)
    refine hK _ _ (Or.inr HS) ?_
    clear hK K HW HCp o1 k4
    try simp only [Act.put, List.getElem_toArray, List.getElem_cons_succ, List.getElem_cons_zero, List.setIfInBounds_toArray, List.set_cons_zero, List.set_cons_succ]
    refine wpAnyI_one (i := 6) rfl (by kernel_rfl) (fun K hK => ?_)
    dsimp only [List.getElem_toArray, List.getElem_cons_succ, List.getElem_cons_zero]
    go_simp
    refine HW4.out.mono ?_
    rintro e w5 ⟨rfl, hD5, k5⟩
    replace hC := Lib.hid (hC3.out.keepX k5 (by have := hnew.out; simp; omega))
    have HS := And.intro hC.out.c1 hC.out.c2
    replace hD5 := Lib.hid hD5
    refine hK _ _ (Or.inr HS) ?_
    clear hK K HW4 k5 hD3 hC3
    try simp only [Act.put, List.getElem_toArray, List.getElem_cons_succ, List.getElem_cons_zero, List.setIfInBounds_toArray, List.set_cons_zero, List.set_cons_succ]
    refine wpAnyI_takeN (i := 7) (v := ?_) (by kernel_rfl) rfl (by kernel_rfl) (by kernel_rfl) (by kernel_rfl) (fun _ _ _ h => h) HS (Or.inl ⟨by rfl, ?_⟩) ?_
    rotate_left
    · (intro w hSw; obtain ⟨z1, z2⟩ := hSw; go_simp; try with_reducible rfl)
    try simp only [Act.put, List.getElem_toArray, List.getElem_cons_succ, List.getElem_cons_zero, List.setIfInBounds_toArray, List.set_cons_zero, List.set_cons_succ]
    refine wpAnyI_done (by kernel_rfl) ?_ _
    have hw0 : Hid (0 ≤ t.writes ∧ t.writes ≤ 900000) := Lib.hid (by rw [htw.out]; subst hl; omega)
    have HF := Lib.hid (fail_any w5 bd bs t hD5.out)
    go_wp2_with fail
    refine HF.out.mono ?_
    rintro e w6 ⟨rfl, hD6, k6⟩
    replace hC := Lib.hid (hC.out.keepX k6 (by have := hnew.out; simp; omega))
    have HR := Lib.hid (sread_to w6 bd bs (fail t) [] 0 0 15 (read_down rfl) rfl hD6)
    replace hD6 := Lib.hid hD6
    clear HF k6 hD5
    go_wp2_with fail
    refine HR.out.mono ?_
    rintro e w7 ⟨A2, c2, rfl, _, k7⟩
    replace hC := Lib.hid (hC.out.keep_ k7)
    have hD7 := hD6.out.keep k7 (by simp) (by simp)
    have HN := Lib.hid (swrite_none w7 bd bs (fail t) 15 (fun _ => write_down rfl) hD7 hw0.out.1 hw0.out.2)
    clear HR k7 hD6 hD7 HS
    have cc := hC.out.cc
    go_wp2_with fail
    refine (HN.out _ (by omega) (by omega)).mono ?_
    rintro e w8 ⟨rfl, hD8, k8⟩
    replace hC := Lib.hid (hC.out.keepX k8 (by have := hnew.out; simp; omega))
    have HF := Lib.hid (restart_any w8 bd bs (fail t) hD8)
    clear HN k8 hD8 cc
    go_wp2_with fail
    refine HF.out.mono ?_
    rintro e w9 ⟨rfl, hD9, k9⟩
    replace hC := Lib.hid (hC.out.keepX k9 (by have := hnew.out; simp; omega))
    have HR := Lib.hid (sread_to w9 bd bs (restart (fail t)) l ep n 0 (read_back hh.out) hl hD9)
    clear HF k9 hD9
    go_wp2_with fail
    refine HR.out.mono ?_
    rintro e wa ⟨A3, c3, rfl, hb3, ka⟩
    replace hC := Lib.hid (hC.out.keep_ ka)
    have cv := run_convert_bts (P := Try.prog) (w := wa) 35 9 5 Try.underlying35 Try.underlying5 Try.underlying9 A3 l n c3 hl hb3
    have cw := run_convert_bts (P := Try.prog) (w := wa) 35 9 5 Try.underlying35 Try.underlying5 Try.underlying9 A l n c hl hC.out.data.bts
    clear HR ka hb3
    have cc := hC.out.cc
    go_wp2_with fail
    go_ret
    exact ⟨rfl, hC.out.keep⟩
end Go.Proofs.Ytoefbjeclghfhaa
