/- The contract of open. -/
import Derived.Test.YtoefbjeclghfhaaSnap5
import Derived.Test.YtoefbjeclghfhaaReg3
import Derived.Deep.DeepCutAuto
import Derived.Deep.CutBlock
namespace Go.Proofs.Ytoefbjeclghfhaa
open Go.RowKit
set_option linter.unusedSimpArgs false
set_option linter.unusedVariables false

def head0 : Array Value := #[.int .u64 0, .int .u64 0, .int .u64 0]
def headV (h : List UInt8) : Array Value := #[.int .u64 (hEp h : Nat), .int .u64 (hLen h : Nat), .int .u64 (hSum h : Nat)]

theorem sec_len0 {s : St} (h : s.mem.length = 64 * s.n) {i : Nat} (hi : i < s.n) : (sec s i).length = 64 := by
  unfold sec; rw [List.length_take, List.length_drop]; omega
theorem bts_new {w : World} {g : Nat} {t : TypeId} {l : List UInt8} (h : Blk w g t (l.map bv).toArray) : Bts w (some ⟨g, 0, none⟩) l := .inr ⟨g, 0, rfl, fun j v hj => by
  rw [h.cell, Nat.zero_add]
  simp [hj]⟩
theorem bts_from {w : World} {g o k : Nat} {l : List UInt8} (h : Bts w (some ⟨g, o, none⟩) l) : Bts w (some ⟨g, o + k, none⟩) (l.drop k) := by
  rcases h with rfl | ⟨g', o', e, h⟩
  · exact .inl (by simp)
  · injection e with e
    injection e with e1 e2
    subst e1 e2
    refine .inr ⟨_, _, rfl, fun j v hj => ?_⟩
    rw [List.getElem?_drop] at hj
    rw [Nat.add_assoc]
    exact h _ _ hj
theorem sec_get {s : St} (h : s.mem.length = 64 * s.n) {i : Nat} (hi : i < s.n) : (sec s i)[0]? = some ((sec s i).getD 0 0) := by
  have := sec_len0 h hi
  rw [List.getD_eq_getElem?_getD, List.getElem?_eq_getElem (by omega)]
  rfl

set_option maxHeartbeats 1600000 in
theorem open_bad (w : World) (bd bs : Nat) (s : St) (hD : DRep w bd bs s) (hb : bad s ≠ 0) :
    Calls Try.prog 29 #[.pointer (some ⟨bd, 0, none⟩)] w fun e w' => e = .returned (.tuple #[.agg lay0, .int .i64 0, .agg head0, .int .i64 (bad s)]) ∧ Keeps [] w w' := by
  have hn := hD.n
  have hmem := hD.len
  by_cases hd : s.down = true
  · have hb2 : bad s = 15 := by unfold bad; rw [if_pos hd]
    have HF := Lib.hid (fun w' k => failed_any w' bd bs s (hD.keep (w := w) (w' := w') (X := []) k (by simp) (by simp)))
    rw [hd] at HF
    rw [hb2]
    clear hb hb2 hD hd
    go_enter Try.func29, Try.ntmps29
    go_wp2_with fail
    refine (HF.out _ (((Keeps.refl [] w).alloc _).alloc _)).mono ?_
    rintro e w1 ⟨rfl, rfl⟩
    clear HF
    go_wp2_with fail
    refine bodyPost_ret (v := .tuple #[.agg lay0, .int .i64 0, .agg head0, .int .i64 15]) (by simp [results, Try.results29, go_sem, lay0, head0]) rfl ⟨rfl, ((Keeps.refl _ _).alloc _).alloc _⟩
  · have hd' : s.down = false := by simpa using hd
    have HF := Lib.hid (fun w' k => failed_any w' bd bs s (hD.keep (w := w) (w' := w') (X := []) k (by simp) (by simp)))
    rw [hd'] at HF
    have HS := Lib.hid (fun w' k => sectors_any w' bd bs s (hD.keep (w := w) (w' := w') (X := []) k (by simp) (by simp)))
    by_cases h7 : s.n < 7
    · have hb2 : bad s = 1 := by unfold bad; rw [if_neg hd, if_pos (.inl h7)]
      rw [hb2]
      have HV := Lib.hid (fun w' => divide_bad w' s.n (.inl (by omega)))
      unfold lay0 at HV
      clear hb hb2 hD hd hd'
      generalize s.n = n at *
      go_enter Try.func29, Try.ntmps29
      go_wp2_with fail
      refine (HF.out _ (((Keeps.refl [] w).alloc _).alloc _)).mono ?_
      rintro e w1 ⟨rfl, rfl⟩
      clear HF
      go_wp2_with fail
      refine (HS.out _ (((Keeps.refl [] w).alloc _).alloc _)).mono ?_
      rintro e w1 ⟨rfl, rfl⟩
      clear HS
      go_wp2_with fail
      have B2 : Blk ((w.alloc (.cells lay0 24)).alloc (.cells head0 68)) w.heap.size 24 lay0 := (Blk.new w 24 lay0).alloc _
      have B4 : Blk ((w.alloc (.cells lay0 24)).alloc (.cells head0 68)) (w.heap.size + 1) 68 head0 := by
        have := Blk.new (w.alloc (.cells lay0 24)) 68 head0
        simpa using this
      have K0 : Keeps [] w ((w.alloc (.cells lay0 24)).alloc (.cells head0 68)) := ((Keeps.refl _ _).alloc _).alloc _
      refine (HV.out _).mono ?_
      rintro e w2 ⟨rfl, k2⟩
      have q2 := fun o => ((B2.keep k2 (by simp)).alloc o).cell
      have f2 := fun o => ((B2.keep k2 (by simp)).alloc o).frozen
      have q4 := fun o => ((B4.keep k2 (by simp)).alloc o).cell
      have f4 := fun o => ((B4.keep k2 (by simp)).alloc o).frozen
      have K2 := Lib.hid (K0.trans k2)
      clear HV k2 K0 B2 B4
      unfold lay0 at q2
      unfold head0 at q4
      go_wp2_with fail
      refine bodyPost_ret (v := .tuple #[.agg lay0, .int .i64 0, .agg head0, .int .i64 1]) (by simp [results, Try.results29, go_sem, lay0, head0, q2, f2, q4, f4]) rfl ⟨rfl, ?_⟩
      iterate 11 refine Keeps.setCell ?_ (Or.inr (by simp)) _
      first | exact K2.out | exact K2.out.alloc _
    · have hb2 : bad s = 17 ∧ 1 < root s := by
        unfold bad at hb ⊢
        rw [if_neg hd, if_neg (by omega)] at hb ⊢
        by_cases hr : 1 < root s
        · rw [if_pos hr]; exact ⟨rfl, hr⟩
        · rw [if_neg hr] at hb; exact absurd rfl hb
      rw [hb2.1]
      have hr := hb2.2
      have HV := Lib.hid (fun w' => divide_ok w' s.n (by omega) (by omega))
      unfold layV at HV
      have HR := Lib.hid (fun w' k => read_ok w' bd bs s 0 (hD.keep (w := w) (w' := w') (X := []) k (by simp) (by simp)) (by unfold chk; rw [hd']; simp; omega) (by omega))
      have hg := sec_get hmem (i := 0) (by omega)
      have hrt : ((sec s 0).getD 0 0).toNat = root s := rfl
      generalize hb0 : sec s 0 = b0 at *
      generalize root s = r at *
      replace hg := Lib.hid hg
      replace hb0 := Lib.hid hb0
      replace hrt := Lib.hid hrt
      have hri : (1 : Int) < (r : Int) := by omega
      clear hb hb2 hD hd hd'
      generalize s.n = n at *
      go_enter Try.func29, Try.ntmps29
      go_wp2_with fail
      refine (HF.out _ (((Keeps.refl [] w).alloc _).alloc _)).mono ?_
      rintro e w1 ⟨rfl, rfl⟩
      clear HF
      go_wp2_with fail
      refine (HS.out _ (((Keeps.refl [] w).alloc _).alloc _)).mono ?_
      rintro e w1 ⟨rfl, rfl⟩
      clear HS
      go_wp2_with fail
      have B2 : Blk ((w.alloc (.cells lay0 24)).alloc (.cells head0 68)) w.heap.size 24 lay0 := (Blk.new w 24 lay0).alloc _
      have B4 : Blk ((w.alloc (.cells lay0 24)).alloc (.cells head0 68)) (w.heap.size + 1) 68 head0 := by
        have := Blk.new (w.alloc (.cells lay0 24)) 68 head0
        simpa using this
      have K0 : Keeps [] w ((w.alloc (.cells lay0 24)).alloc (.cells head0 68)) := ((Keeps.refl _ _).alloc _).alloc _
      refine (HV.out _).mono ?_
      rintro e w2 ⟨rfl, k2⟩
      replace B2 := Lib.hid (B2.keep k2 (by simp))
      replace B4 := Lib.hid (B4.keep k2 (by simp))
      have K2 := Lib.hid (K0.trans k2)
      clear HV k2 K0
      go_wp2_with fail
      refine (HR.out _ (K2.out.alloc _)).mono ?_
      rintro e w3 ⟨rfl, hB, k3⟩
      have K3 := Lib.hid ((K2.out.alloc _).trans k3)
      have q2 := ((B2.out.alloc _).keep k3 (by simp)).cell
      have f2 := ((B2.out.alloc _).keep k3 (by simp)).frozen
      have q4 := ((B4.out.alloc _).keep k3 (by simp)).cell
      have f4 := ((B4.out.alloc _).keep k3 (by simp)).frozen
      have c0 := bts_cell (bts_new hB) hg.out
      rw [hrt.out, Nat.zero_add, show (w2.alloc _).heap.size = w2.heap.size + 1 by simp] at c0
      unfold lay0 at q2
      unfold head0 at q4
      clear HR hB k3 B2 B4
      have hrl : r < 256 := by rw [← hrt.out]; exact UInt8.toNat_lt _
      have hwr : IntKind.i64.wrap (r : Int) = r := IntWalk.i64_in _ (by omega)
      go_wp2_with fail
      refine bodyPost_ret (v := .tuple #[.agg lay0, .int .i64 0, .agg head0, .int .i64 17]) (by simp [results, Try.results29, go_sem, lay0, head0, q2, f2, q4, f4]) rfl ⟨rfl, ?_⟩
      iterate 11 refine Keeps.setCell ?_ (Or.inr (by simp)) _
      first | exact K3.out | exact K3.out.alloc _


set_option maxHeartbeats 1600000 in
theorem open_ok0 (w : World) (bd bs : Nat) (s : St) (hD : DRep w bd bs s) (hd : s.down = false) (h7 : 7 ≤ s.n) (hr : root s = 0) :
    Calls Try.prog 29 #[.pointer (some ⟨bd, 0, none⟩)] w fun e w' => e = .returned (.tuple #[.agg (layV s.n), .int .i64 0, .agg (headV (sec s 1)), .int .i64 0]) ∧ Keeps [] w w' := by
  have hn := hD.n
  have hmem := hD.len
  have HF := Lib.hid (fun w' k => failed_any w' bd bs s (hD.keep (w := w) (w' := w') (X := []) k (by simp) (by simp)))
  rw [hd] at HF
  have HS := Lib.hid (fun w' k => sectors_any w' bd bs s (hD.keep (w := w) (w' := w') (X := []) k (by simp) (by simp)))
  have HV := Lib.hid (fun w' => divide_ok w' s.n h7 hn)
  unfold layV at HV
  have HR := Lib.hid (fun w' k => read_ok w' bd bs s 0 (hD.keep (w := w) (w' := w') (X := []) k (by simp) (by simp)) (by unfold chk; rw [hd]; simp; omega) (by omega))
  have HR1 : Hid (∀ w' : World, Keeps [] w w' → Calls Try.prog 18 #[.pointer (some ⟨bd, 0, none⟩), .int .i64 1] w' _) := Lib.hid (fun w' k => read_ok w' bd bs s 1 (hD.keep (w := w) (w' := w') (X := []) k (by simp) (by simp)) (by unfold chk; rw [hd]; simp; omega) (by omega))
  have hg := sec_get hmem (i := 0) (by omega)
  have hrt : ((sec s 0).getD 0 0).toNat = 0 := hr
  have hHl : Hid ((sec s 1).length = 64) := Lib.hid (sec_len0 hmem (by omega))
  generalize hb0 : sec s 0 = b0 at *
  generalize hH : sec s 1 = H at *
  replace hg := Lib.hid hg
  replace hb0 := Lib.hid hb0
  replace hH := Lib.hid hH
  replace hrt := Lib.hid hrt
  clear hD hd hr
  generalize s.n = n at *
  go_enter Try.func29, Try.ntmps29
  go_wp2_with fail
  refine (HF.out _ (((Keeps.refl [] w).alloc _).alloc _)).mono ?_
  rintro e w1 ⟨rfl, rfl⟩
  clear HF
  go_wp2_with fail
  refine (HS.out _ (((Keeps.refl [] w).alloc _).alloc _)).mono ?_
  rintro e w1 ⟨rfl, rfl⟩
  clear HS
  go_wp2_with fail
  have B2 : Blk ((w.alloc (.cells lay0 24)).alloc (.cells head0 68)) w.heap.size 24 lay0 := (Blk.new w 24 lay0).alloc _
  have B4 : Blk ((w.alloc (.cells lay0 24)).alloc (.cells head0 68)) (w.heap.size + 1) 68 head0 := by
    have := Blk.new (w.alloc (.cells lay0 24)) 68 head0
    simpa using this
  have K0 : Keeps [] w ((w.alloc (.cells lay0 24)).alloc (.cells head0 68)) := ((Keeps.refl _ _).alloc _).alloc _
  refine (HV.out _).mono ?_
  rintro e w2 ⟨rfl, k2⟩
  have hb2 := Lib.hid (by have h := k2.size; simp at h; omega : w.heap.size + 1 < w2.heap.size)
  replace B2 := Lib.hid (B2.keep k2 (by simp))
  replace B4 := Lib.hid (B4.keep k2 (by simp))
  have K2 := Lib.hid (K0.trans k2)
  clear HV k2 K0
  go_wp2_with fail
  refine (HR.out _ (K2.out.alloc _)).mono ?_
  rintro e w3 ⟨rfl, hB, k3⟩
  have K3 := Lib.hid ((K2.out.alloc _).trans k3)
  replace B2 := Lib.hid ((B2.out.alloc _).keep k3 (by simp))
  replace B4 := Lib.hid ((B4.out.alloc _).keep k3 (by simp))
  have B6 := Lib.hid ((Blk.new w2 24 _).keep k3 (by simp))
  have q6 := B6.out.cell
  have c0 := bts_cell (bts_new hB) hg.out
  rw [hrt.out, Nat.zero_add, show (w2.alloc _).heap.size = w2.heap.size + 1 by simp] at c0
  have hlt2 : w2.heap.size < w3.heap.size := B6.out.lt
  clear HR hB k3
  go_wp2_with fail
  refine (HR1.out _ K3.out).mono ?_
  rintro e w4 ⟨rfl, hB, k4⟩
  have K4 := Lib.hid (K3.out.trans k4)
  have hlt34 := Lib.hid (Nat.lt_of_lt_of_le hlt2 k4.size)
  replace B2 := Lib.hid (B2.out.keep k4 (by simp))
  replace B4 := Lib.hid (B4.out.keep k4 (by simp))
  replace B6 := Lib.hid (B6.out.keep k4 (by simp))
  have hbt := bts_new hB
  have hb1 := hbt.take 4
  have hb2' := (bts_from (k := 4) hbt).take 4
  have hb3 := (bts_from (k := 8) hbt).take 8
  rw [Nat.zero_add] at hb2' hb3
  have L1 : (H.take 4).length = 4 := by rw [List.length_take, hHl.out]; rfl
  have L2 : ((H.drop 4).take 4).length = 4 := by rw [List.length_take, List.length_drop, hHl.out]; rfl
  have L3 : ((H.drop 8).take 8).length = 8 := by rw [List.length_take, List.length_drop, hHl.out]; rfl
  have G1 := Lib.hid (fun w' (k : Keeps [] w4 w') => get_any w' _ _ 4 64 (hb1.keep k (by simp)) L1 (by decide))
  have G2 := Lib.hid (fun w' (k : Keeps [] w4 w') => get_any w' _ _ 4 60 (hb2'.keep k (by simp)) L2 (by decide))
  have G3 := Lib.hid (fun w' (k : Keeps [] w4 w') => get_any w' _ _ 8 56 (hb3.keep k (by simp)) L3 (by decide))
  have hv1 : val (H.take 4) = hEp H := rfl
  have hv2 : val ((H.drop 4).take 4) = hLen H := rfl
  have hv3 : val ((H.drop 8).take 8) = hSum H := rfl
  rw [hv1] at G1
  rw [hv2] at G2
  rw [hv3] at G3
  have Ga1 := Lib.hid (G1.out _ (Keeps.refl [] w4).drew)
  have Ga2 := Lib.hid (G2.out _ (Keeps.refl [] w4).drew)
  have Ga3 := Lib.hid (G3.out _ (Keeps.refl [] w4).drew)
  have Gb1 := Lib.hid (G1.out _ (((Keeps.refl [] w4).alloc (.cells #[.int .u64 0, .int .u64 0, .int .u64 0] 68)).drew))
  have Gb2 := Lib.hid (G2.out _ (((Keeps.refl [] w4).alloc (.cells #[.int .u64 0, .int .u64 0, .int .u64 0] 68)).drew))
  have Gb3 := Lib.hid (G3.out _ (((Keeps.refl [] w4).alloc (.cells #[.int .u64 0, .int .u64 0, .int .u64 0] 68)).drew))
  clear HR1 hB k4 q6 c0 hbt hb1 hb2' hb3 L1 L2 L3 hv1 hv2 hv3 G1 G2 G3
  go_upto_region 15 with fail
  go_cut [11] from 61 to 70 (fun s11 wx => s11 = .pointer (some ⟨w4.heap.size, 0, none⟩) ∧ wx = (w4.alloc (.cells (headV H) 68)).drew)
  case first =>
    go_region_with (go_at_call 42; first
      | (with_reducible refine Ga1.out.mono ?_; rintro e w' ⟨rfl, rfl⟩)
      | (with_reducible refine Ga2.out.mono ?_; rintro e w' ⟨rfl, rfl⟩)
      | (with_reducible refine Ga3.out.mono ?_; rintro e w' ⟨rfl, rfl⟩)
      | (with_reducible refine Gb1.out.mono ?_; rintro e w' ⟨rfl, rfl⟩)
      | (with_reducible refine Gb2.out.mono ?_; rintro e w' ⟨rfl, rfl⟩)
      | (with_reducible refine Gb3.out.mono ?_; rintro e w' ⟨rfl, rfl⟩))
    all_goals
      go_wp2_with fail
      go_meet
      exact ⟨rfl, rfl⟩
  case rest =>
    obtain ⟨rfl, hwc⟩ := hcut
    clear Ga1 Ga2 Ga3 Gb1 Gb2 Gb3
    have K5 : Hid (Keeps [] w wc) := Lib.hid (by rw [hwc]; exact (K4.out.alloc (.cells (headV H) 68)).drew)
    replace B2 : Hid (Blk wc w.heap.size 24 lay0) := Lib.hid (by rw [hwc]; exact (B2.out.alloc (.cells (headV H) 68)).drew)
    replace B4 : Hid (Blk wc (w.heap.size + 1) 68 head0) := Lib.hid (by rw [hwc]; exact (B4.out.alloc (.cells (headV H) 68)).drew)
    replace B6 : Hid (Blk wc w2.heap.size 24 (layV n)) := Lib.hid (by rw [hwc]; exact (B6.out.alloc (.cells (headV H) 68)).drew)
    have B11 : Hid (Blk wc w4.heap.size 68 (headV H)) := Lib.hid (by rw [hwc]; exact (Blk.new w4 68 (headV H)).drew)
    clear hwc
    have n1 : Hid (w2.heap.size ≠ w.heap.size) := Lib.hid (by have := hb2.out; omega)
    have n2 : Hid (w4.heap.size ≠ w.heap.size) := Lib.hid (by have := hlt34.out; have := hb2.out; omega)
    have n3 : Hid (w2.heap.size ≠ w.heap.size + 1) := Lib.hid (by have := hb2.out; omega)
    have n4 : Hid (w4.heap.size ≠ w.heap.size + 1) := Lib.hid (by have := hlt34.out; have := hb2.out; omega)
    go_wp2_with fail
    refine wp_region_I (S := (fun w' => (∀ i, w'.cell? ⟨w2.heap.size, i, none⟩ = (layV n)[i]?) ∧ (∀ i, w'.cell? ⟨w4.heap.size, i, none⟩ = (headV H)[i]?))) (n := 7) (by kernel_rfl) ?_
    replace B2 := Lib.hid B2.out.drew
    replace B4 := Lib.hid B4.out.drew
    replace B6 := Lib.hid B6.out.drew
    replace B11 := Lib.hid B11.out.drew
    replace K5 := Lib.hid K5.out.drew
    have HS := And.intro B6.out.cell B11.out.cell
    unfold layV headV at HS
    unfold layV headV
    refine wpAnyI_takeN (i := 1) (v := ?_) (by kernel_rfl) rfl (by kernel_rfl) (by kernel_rfl) (by kernel_rfl) (fun _ _ _ h => h) HS (Or.inl ⟨by rfl, ?_⟩) ?_
    rotate_left
    · (intro w hSw; obtain ⟨z6, z11⟩ := hSw; go_simp; try with_reducible rfl)
    try simp only [Act.put, List.getElem_toArray, List.getElem_cons_succ, List.getElem_cons_zero, List.setIfInBounds_toArray, List.set_cons_zero, List.set_cons_succ]
    refine wpAnyI_takeN (i := 0) (v := ?_) (by kernel_rfl) rfl (by kernel_rfl) (by kernel_rfl) (by kernel_rfl) (fun _ _ _ h => h) HS (Or.inl ⟨by rfl, ?_⟩) ?_
    rotate_left
    · (intro w hSw; obtain ⟨z6, z11⟩ := hSw; go_simp; try with_reducible rfl)
    try simp only [Act.put, List.getElem_toArray, List.getElem_cons_succ, List.getElem_cons_zero, List.setIfInBounds_toArray, List.set_cons_zero, List.set_cons_succ]
    refine wpAnyI_two (i := 2) (j := 3) rfl rfl (by kernel_rfl) (fun K hK => ?_) (fun K hK => ?_)
    · dsimp only [List.getElem_toArray, List.getElem_cons_succ, List.getElem_cons_zero]
      go_simp
      refine hK _ _ (Or.inr HS) ?_
      clear hK K
      try simp only [Act.put, List.getElem_toArray, List.getElem_cons_succ, List.getElem_cons_zero, List.setIfInBounds_toArray, List.set_cons_zero, List.set_cons_succ]
      refine wpAnyI_one (i := 3) rfl (by kernel_rfl) (fun K hK => ?_)
      dsimp only [List.getElem_toArray, List.getElem_cons_succ, List.getElem_cons_zero]
      rw [if_pos (by rfl)]
      refine wp_store_all 24 (.tmp 2) (.tmp 71) (by rfl) w.heap.size (by rfl) 24 lay0.toList (layV n).toList (by rfl) B2.out (by kernel_rfl) (by rfl) (by intro v hv; simp [layV] at hv; rcases hv with rfl | rfl | rfl | rfl | rfl | rfl | rfl | rfl <;> rfl) ?_
      intro w6 C2 k6
      have B4 := Lib.hid (B4.out.keep k6 (by simp))
      have B6 := Lib.hid (B6.out.keep k6 (by simp; exact n1.out))
      have B11 := Lib.hid (B11.out.keep k6 (by simp; exact n2.out))
      have K5 := Lib.hid (K5.out.nil.trans k6)
      have HS := And.intro B6.out.cell B11.out.cell
      unfold layV headV at HS
      clear k6
      refine hK _ _ (Or.inr HS) ?_
      clear hK K
      try simp only [Act.put, List.getElem_toArray, List.getElem_cons_succ, List.getElem_cons_zero, List.setIfInBounds_toArray, List.set_cons_zero, List.set_cons_succ]
      refine wpAnyI_one (i := 4) rfl (by kernel_rfl) (fun K hK => ?_)
      dsimp only [List.getElem_toArray, List.getElem_cons_succ, List.getElem_cons_zero]
      go_simp
      refine hK _ _ (Or.inr HS) ?_
      clear hK K
      try simp only [Act.put, List.getElem_toArray, List.getElem_cons_succ, List.getElem_cons_zero, List.setIfInBounds_toArray, List.set_cons_zero, List.set_cons_succ]
      refine wpAnyI_one (i := 5) rfl (by kernel_rfl) (fun K hK => ?_)
      dsimp only [List.getElem_toArray, List.getElem_cons_succ, List.getElem_cons_zero]
      rw [if_pos (by rfl)]
      refine wp_store_all 68 (.tmp 4) (.tmp 73) (by rfl) (w.heap.size + 1) (by rfl) 68 head0.toList (headV H).toList (by rfl) B4.out (by kernel_rfl) (by rfl) (by intro v hv; simp [headV] at hv; rcases hv with rfl | rfl | rfl <;> rfl) ?_
      intro w7 C4 k7
      have C2 := Lib.hid (C2.out.keep k7 (by simp))
      have B6 := Lib.hid (B6.out.keep k7 (by simp; exact n3.out))
      have B11 := Lib.hid (B11.out.keep k7 (by simp; exact n4.out))
      have K7 := Lib.hid ((K5.out.mono (fun y hy => .inr (by simp at hy; omega)) : Keeps [] w _).nil.trans k7)
      have HS := And.intro B6.out.cell B11.out.cell
      clear k7
      refine hK _ _ (Or.inr HS) ?_
      clear hK K
      try simp only [Act.put, List.getElem_toArray, List.getElem_cons_succ, List.getElem_cons_zero, List.setIfInBounds_toArray, List.set_cons_zero, List.set_cons_succ]
      refine wpAnyI_one (i := 6) rfl (by kernel_rfl) (fun K hK => ?_)
      dsimp only [List.getElem_toArray, List.getElem_cons_succ, List.getElem_cons_zero]
      go_simp
      refine hK _ _ (Or.inr HS) ?_
      clear hK K
      try simp only [Act.put, List.getElem_toArray, List.getElem_cons_succ, List.getElem_cons_zero, List.setIfInBounds_toArray, List.set_cons_zero, List.set_cons_succ]
      refine wpAnyI_done (by kernel_rfl) ?_ _
      go_wp2_with fail
      have q2 := C2.out.cell
      have q4 := C4.out.cell
      have KF : Keeps [] w w7 := K7.out.mono (fun y hy => .inr (by simp at hy; omega))
      exact bodyPost_ret (v := .tuple #[.agg (layV n), .int .i64 0, .agg (headV H), .int .i64 0]) (by simp [results, Try.results29, go_sem, layV, headV, q2, q4]) rfl ⟨rfl, KF⟩
    · dsimp only [List.getElem_toArray, List.getElem_cons_succ, List.getElem_cons_zero]
      rw [if_pos (by rfl)]
      refine wp_store_all 24 (.tmp 2) (.tmp 71) (by rfl) w.heap.size (by rfl) 24 lay0.toList (layV n).toList (by rfl) B2.out (by kernel_rfl) (by rfl) (by intro v hv; simp [layV] at hv; rcases hv with rfl | rfl | rfl | rfl | rfl | rfl | rfl | rfl <;> rfl) ?_
      intro w6 C2 k6
      have B4 := Lib.hid (B4.out.keep k6 (by simp))
      have B6 := Lib.hid (B6.out.keep k6 (by simp; exact n1.out))
      have B11 := Lib.hid (B11.out.keep k6 (by simp; exact n2.out))
      have K5 := Lib.hid (K5.out.nil.trans k6)
      have HS := And.intro B6.out.cell B11.out.cell
      unfold layV headV at HS
      clear k6
      refine hK _ _ (Or.inr HS) ?_
      clear hK K
      try simp only [Act.put, List.getElem_toArray, List.getElem_cons_succ, List.getElem_cons_zero, List.setIfInBounds_toArray, List.set_cons_zero, List.set_cons_succ]
      refine wpAnyI_takeN (i := 4) (v := ?_) (by kernel_rfl) rfl (by kernel_rfl) (by kernel_rfl) (by kernel_rfl) (fun _ _ _ h => h) HS (Or.inl ⟨by rfl, ?_⟩) ?_
      rotate_left
      · (intro w hSw; obtain ⟨z6, z11⟩ := hSw; go_simp; try with_reducible rfl)
      try simp only [Act.put, List.getElem_toArray, List.getElem_cons_succ, List.getElem_cons_zero, List.setIfInBounds_toArray, List.set_cons_zero, List.set_cons_succ]
      refine wpAnyI_one (i := 2) rfl (by kernel_rfl) (fun K hK => ?_)
      dsimp only [List.getElem_toArray, List.getElem_cons_succ, List.getElem_cons_zero]
      go_simp
      refine hK _ _ (Or.inr HS) ?_
      clear hK K
      try simp only [Act.put, List.getElem_toArray, List.getElem_cons_succ, List.getElem_cons_zero, List.setIfInBounds_toArray, List.set_cons_zero, List.set_cons_succ]
      refine wpAnyI_one (i := 5) rfl (by kernel_rfl) (fun K hK => ?_)
      dsimp only [List.getElem_toArray, List.getElem_cons_succ, List.getElem_cons_zero]
      rw [if_pos (by rfl)]
      refine wp_store_all 68 (.tmp 4) (.tmp 73) (by rfl) (w.heap.size + 1) (by rfl) 68 head0.toList (headV H).toList (by rfl) B4.out (by kernel_rfl) (by rfl) (by intro v hv; simp [headV] at hv; rcases hv with rfl | rfl | rfl <;> rfl) ?_
      intro w7 C4 k7
      have C2 := Lib.hid (C2.out.keep k7 (by simp))
      have B6 := Lib.hid (B6.out.keep k7 (by simp; exact n3.out))
      have B11 := Lib.hid (B11.out.keep k7 (by simp; exact n4.out))
      have K7 := Lib.hid ((K5.out.mono (fun y hy => .inr (by simp at hy; omega)) : Keeps [] w _).nil.trans k7)
      have HS := And.intro B6.out.cell B11.out.cell
      clear k7
      refine hK _ _ (Or.inr HS) ?_
      clear hK K
      try simp only [Act.put, List.getElem_toArray, List.getElem_cons_succ, List.getElem_cons_zero, List.setIfInBounds_toArray, List.set_cons_zero, List.set_cons_succ]
      refine wpAnyI_one (i := 6) rfl (by kernel_rfl) (fun K hK => ?_)
      dsimp only [List.getElem_toArray, List.getElem_cons_succ, List.getElem_cons_zero]
      go_simp
      refine hK _ _ (Or.inr HS) ?_
      clear hK K
      try simp only [Act.put, List.getElem_toArray, List.getElem_cons_succ, List.getElem_cons_zero, List.setIfInBounds_toArray, List.set_cons_zero, List.set_cons_succ]
      refine wpAnyI_done (by kernel_rfl) ?_ _
      go_wp2_with fail
      have q2 := C2.out.cell
      have q4 := C4.out.cell
      have KF : Keeps [] w w7 := K7.out.mono (fun y hy => .inr (by simp at hy; omega))
      exact bodyPost_ret (v := .tuple #[.agg (layV n), .int .i64 0, .agg (headV H), .int .i64 0]) (by simp [results, Try.results29, go_sem, layV, headV, q2, q4]) rfl ⟨rfl, KF⟩

set_option maxHeartbeats 1600000 in
theorem open_ok1 (w : World) (bd bs : Nat) (s : St) (hD : DRep w bd bs s) (hd : s.down = false) (h7 : 7 ≤ s.n) (hr : root s = 1) :
    Calls Try.prog 29 #[.pointer (some ⟨bd, 0, none⟩)] w fun e w' => e = .returned (.tuple #[.agg (layV s.n), .int .i64 1, .agg (headV (sec s 2)), .int .i64 0]) ∧ Keeps [] w w' := by
  have hn := hD.n
  have hmem := hD.len
  have HF := Lib.hid (fun w' k => failed_any w' bd bs s (hD.keep (w := w) (w' := w') (X := []) k (by simp) (by simp)))
  rw [hd] at HF
  have HS := Lib.hid (fun w' k => sectors_any w' bd bs s (hD.keep (w := w) (w' := w') (X := []) k (by simp) (by simp)))
  have HV := Lib.hid (fun w' => divide_ok w' s.n h7 hn)
  unfold layV at HV
  have HR := Lib.hid (fun w' k => read_ok w' bd bs s 0 (hD.keep (w := w) (w' := w') (X := []) k (by simp) (by simp)) (by unfold chk; rw [hd]; simp; omega) (by omega))
  have HR1 : Hid (∀ w' : World, Keeps [] w w' → Calls Try.prog 18 #[.pointer (some ⟨bd, 0, none⟩), .int .i64 2] w' _) := Lib.hid (fun w' k => read_ok w' bd bs s 2 (hD.keep (w := w) (w' := w') (X := []) k (by simp) (by simp)) (by unfold chk; rw [hd]; simp; omega) (by omega))
  have hg := sec_get hmem (i := 0) (by omega)
  have hrt : ((sec s 0).getD 0 0).toNat = 1 := hr
  have hHl : Hid ((sec s 2).length = 64) := Lib.hid (sec_len0 hmem (by omega))
  generalize hb0 : sec s 0 = b0 at *
  generalize hH : sec s 2 = H at *
  replace hg := Lib.hid hg
  replace hb0 := Lib.hid hb0
  replace hH := Lib.hid hH
  replace hrt := Lib.hid hrt
  clear hD hd hr
  generalize s.n = n at *
  go_enter Try.func29, Try.ntmps29
  go_wp2_with fail
  refine (HF.out _ (((Keeps.refl [] w).alloc _).alloc _)).mono ?_
  rintro e w1 ⟨rfl, rfl⟩
  clear HF
  go_wp2_with fail
  refine (HS.out _ (((Keeps.refl [] w).alloc _).alloc _)).mono ?_
  rintro e w1 ⟨rfl, rfl⟩
  clear HS
  go_wp2_with fail
  have B2 : Blk ((w.alloc (.cells lay0 24)).alloc (.cells head0 68)) w.heap.size 24 lay0 := (Blk.new w 24 lay0).alloc _
  have B4 : Blk ((w.alloc (.cells lay0 24)).alloc (.cells head0 68)) (w.heap.size + 1) 68 head0 := by
    have := Blk.new (w.alloc (.cells lay0 24)) 68 head0
    simpa using this
  have K0 : Keeps [] w ((w.alloc (.cells lay0 24)).alloc (.cells head0 68)) := ((Keeps.refl _ _).alloc _).alloc _
  refine (HV.out _).mono ?_
  rintro e w2 ⟨rfl, k2⟩
  have hb2 := Lib.hid (by have h := k2.size; simp at h; omega : w.heap.size + 1 < w2.heap.size)
  replace B2 := Lib.hid (B2.keep k2 (by simp))
  replace B4 := Lib.hid (B4.keep k2 (by simp))
  have K2 := Lib.hid (K0.trans k2)
  clear HV k2 K0
  go_wp2_with fail
  refine (HR.out _ (K2.out.alloc _)).mono ?_
  rintro e w3 ⟨rfl, hB, k3⟩
  have K3 := Lib.hid ((K2.out.alloc _).trans k3)
  replace B2 := Lib.hid ((B2.out.alloc _).keep k3 (by simp))
  replace B4 := Lib.hid ((B4.out.alloc _).keep k3 (by simp))
  have B6 := Lib.hid ((Blk.new w2 24 _).keep k3 (by simp))
  have q6 := B6.out.cell
  have c0 := bts_cell (bts_new hB) hg.out
  rw [hrt.out, Nat.zero_add, show (w2.alloc _).heap.size = w2.heap.size + 1 by simp] at c0
  have hlt2 : w2.heap.size < w3.heap.size := B6.out.lt
  clear HR hB k3
  go_wp2_with fail
  refine (HR1.out _ K3.out).mono ?_
  rintro e w4 ⟨rfl, hB, k4⟩
  have K4 := Lib.hid (K3.out.trans k4)
  have hlt34 := Lib.hid (Nat.lt_of_lt_of_le hlt2 k4.size)
  replace B2 := Lib.hid (B2.out.keep k4 (by simp))
  replace B4 := Lib.hid (B4.out.keep k4 (by simp))
  replace B6 := Lib.hid (B6.out.keep k4 (by simp))
  have hbt := bts_new hB
  have hb1 := hbt.take 4
  have hb2' := (bts_from (k := 4) hbt).take 4
  have hb3 := (bts_from (k := 8) hbt).take 8
  rw [Nat.zero_add] at hb2' hb3
  have L1 : (H.take 4).length = 4 := by rw [List.length_take, hHl.out]; rfl
  have L2 : ((H.drop 4).take 4).length = 4 := by rw [List.length_take, List.length_drop, hHl.out]; rfl
  have L3 : ((H.drop 8).take 8).length = 8 := by rw [List.length_take, List.length_drop, hHl.out]; rfl
  have G1 := Lib.hid (fun w' (k : Keeps [] w4 w') => get_any w' _ _ 4 64 (hb1.keep k (by simp)) L1 (by decide))
  have G2 := Lib.hid (fun w' (k : Keeps [] w4 w') => get_any w' _ _ 4 60 (hb2'.keep k (by simp)) L2 (by decide))
  have G3 := Lib.hid (fun w' (k : Keeps [] w4 w') => get_any w' _ _ 8 56 (hb3.keep k (by simp)) L3 (by decide))
  have hv1 : val (H.take 4) = hEp H := rfl
  have hv2 : val ((H.drop 4).take 4) = hLen H := rfl
  have hv3 : val ((H.drop 8).take 8) = hSum H := rfl
  rw [hv1] at G1
  rw [hv2] at G2
  rw [hv3] at G3
  have Ga1 := Lib.hid (G1.out _ (Keeps.refl [] w4).drew)
  have Ga2 := Lib.hid (G2.out _ (Keeps.refl [] w4).drew)
  have Ga3 := Lib.hid (G3.out _ (Keeps.refl [] w4).drew)
  have Gb1 := Lib.hid (G1.out _ (((Keeps.refl [] w4).alloc (.cells #[.int .u64 0, .int .u64 0, .int .u64 0] 68)).drew))
  have Gb2 := Lib.hid (G2.out _ (((Keeps.refl [] w4).alloc (.cells #[.int .u64 0, .int .u64 0, .int .u64 0] 68)).drew))
  have Gb3 := Lib.hid (G3.out _ (((Keeps.refl [] w4).alloc (.cells #[.int .u64 0, .int .u64 0, .int .u64 0] 68)).drew))
  clear HR1 hB k4 q6 c0 hbt hb1 hb2' hb3 L1 L2 L3 hv1 hv2 hv3 G1 G2 G3
  go_upto_region 15 with fail
  go_cut [11] from 61 to 70 (fun s11 wx => s11 = .pointer (some ⟨w4.heap.size, 0, none⟩) ∧ wx = (w4.alloc (.cells (headV H) 68)).drew)
  case first =>
    go_region_with (go_at_call 42; first
      | (with_reducible refine Ga1.out.mono ?_; rintro e w' ⟨rfl, rfl⟩)
      | (with_reducible refine Ga2.out.mono ?_; rintro e w' ⟨rfl, rfl⟩)
      | (with_reducible refine Ga3.out.mono ?_; rintro e w' ⟨rfl, rfl⟩)
      | (with_reducible refine Gb1.out.mono ?_; rintro e w' ⟨rfl, rfl⟩)
      | (with_reducible refine Gb2.out.mono ?_; rintro e w' ⟨rfl, rfl⟩)
      | (with_reducible refine Gb3.out.mono ?_; rintro e w' ⟨rfl, rfl⟩))
    all_goals
      go_wp2_with fail
      go_meet
      exact ⟨rfl, rfl⟩
  case rest =>
    obtain ⟨rfl, hwc⟩ := hcut
    clear Ga1 Ga2 Ga3 Gb1 Gb2 Gb3
    have K5 : Hid (Keeps [] w wc) := Lib.hid (by rw [hwc]; exact (K4.out.alloc (.cells (headV H) 68)).drew)
    replace B2 : Hid (Blk wc w.heap.size 24 lay0) := Lib.hid (by rw [hwc]; exact (B2.out.alloc (.cells (headV H) 68)).drew)
    replace B4 : Hid (Blk wc (w.heap.size + 1) 68 head0) := Lib.hid (by rw [hwc]; exact (B4.out.alloc (.cells (headV H) 68)).drew)
    replace B6 : Hid (Blk wc w2.heap.size 24 (layV n)) := Lib.hid (by rw [hwc]; exact (B6.out.alloc (.cells (headV H) 68)).drew)
    have B11 : Hid (Blk wc w4.heap.size 68 (headV H)) := Lib.hid (by rw [hwc]; exact (Blk.new w4 68 (headV H)).drew)
    clear hwc
    have n1 : Hid (w2.heap.size ≠ w.heap.size) := Lib.hid (by have := hb2.out; omega)
    have n2 : Hid (w4.heap.size ≠ w.heap.size) := Lib.hid (by have := hlt34.out; have := hb2.out; omega)
    have n3 : Hid (w2.heap.size ≠ w.heap.size + 1) := Lib.hid (by have := hb2.out; omega)
    have n4 : Hid (w4.heap.size ≠ w.heap.size + 1) := Lib.hid (by have := hlt34.out; have := hb2.out; omega)
    go_wp2_with fail
    refine wp_region_I (S := (fun w' => (∀ i, w'.cell? ⟨w2.heap.size, i, none⟩ = (layV n)[i]?) ∧ (∀ i, w'.cell? ⟨w4.heap.size, i, none⟩ = (headV H)[i]?))) (n := 7) (by kernel_rfl) ?_
    replace B2 := Lib.hid B2.out.drew
    replace B4 := Lib.hid B4.out.drew
    replace B6 := Lib.hid B6.out.drew
    replace B11 := Lib.hid B11.out.drew
    replace K5 := Lib.hid K5.out.drew
    have HS := And.intro B6.out.cell B11.out.cell
    unfold layV headV at HS
    unfold layV headV
    refine wpAnyI_takeN (i := 1) (v := ?_) (by kernel_rfl) rfl (by kernel_rfl) (by kernel_rfl) (by kernel_rfl) (fun _ _ _ h => h) HS (Or.inl ⟨by rfl, ?_⟩) ?_
    rotate_left
    · (intro w hSw; obtain ⟨z6, z11⟩ := hSw; go_simp; try with_reducible rfl)
    try simp only [Act.put, List.getElem_toArray, List.getElem_cons_succ, List.getElem_cons_zero, List.setIfInBounds_toArray, List.set_cons_zero, List.set_cons_succ]
    refine wpAnyI_takeN (i := 0) (v := ?_) (by kernel_rfl) rfl (by kernel_rfl) (by kernel_rfl) (by kernel_rfl) (fun _ _ _ h => h) HS (Or.inl ⟨by rfl, ?_⟩) ?_
    rotate_left
    · (intro w hSw; obtain ⟨z6, z11⟩ := hSw; go_simp; try with_reducible rfl)
    try simp only [Act.put, List.getElem_toArray, List.getElem_cons_succ, List.getElem_cons_zero, List.setIfInBounds_toArray, List.set_cons_zero, List.set_cons_succ]
    refine wpAnyI_two (i := 2) (j := 3) rfl rfl (by kernel_rfl) (fun K hK => ?_) (fun K hK => ?_)
    · dsimp only [List.getElem_toArray, List.getElem_cons_succ, List.getElem_cons_zero]
      go_simp
      refine hK _ _ (Or.inr HS) ?_
      clear hK K
      try simp only [Act.put, List.getElem_toArray, List.getElem_cons_succ, List.getElem_cons_zero, List.setIfInBounds_toArray, List.set_cons_zero, List.set_cons_succ]
      refine wpAnyI_one (i := 3) rfl (by kernel_rfl) (fun K hK => ?_)
      dsimp only [List.getElem_toArray, List.getElem_cons_succ, List.getElem_cons_zero]
      rw [if_pos (by rfl)]
      refine wp_store_all 24 (.tmp 2) (.tmp 71) (by rfl) w.heap.size (by rfl) 24 lay0.toList (layV n).toList (by rfl) B2.out (by kernel_rfl) (by rfl) (by intro v hv; simp [layV] at hv; rcases hv with rfl | rfl | rfl | rfl | rfl | rfl | rfl | rfl <;> rfl) ?_
      intro w6 C2 k6
      have B4 := Lib.hid (B4.out.keep k6 (by simp))
      have B6 := Lib.hid (B6.out.keep k6 (by simp; exact n1.out))
      have B11 := Lib.hid (B11.out.keep k6 (by simp; exact n2.out))
      have K5 := Lib.hid (K5.out.nil.trans k6)
      have HS := And.intro B6.out.cell B11.out.cell
      unfold layV headV at HS
      clear k6
      refine hK _ _ (Or.inr HS) ?_
      clear hK K
      try simp only [Act.put, List.getElem_toArray, List.getElem_cons_succ, List.getElem_cons_zero, List.setIfInBounds_toArray, List.set_cons_zero, List.set_cons_succ]
      refine wpAnyI_one (i := 4) rfl (by kernel_rfl) (fun K hK => ?_)
      dsimp only [List.getElem_toArray, List.getElem_cons_succ, List.getElem_cons_zero]
      go_simp
      refine hK _ _ (Or.inr HS) ?_
      clear hK K
      try simp only [Act.put, List.getElem_toArray, List.getElem_cons_succ, List.getElem_cons_zero, List.setIfInBounds_toArray, List.set_cons_zero, List.set_cons_succ]
      refine wpAnyI_one (i := 5) rfl (by kernel_rfl) (fun K hK => ?_)
      dsimp only [List.getElem_toArray, List.getElem_cons_succ, List.getElem_cons_zero]
      rw [if_pos (by rfl)]
      refine wp_store_all 68 (.tmp 4) (.tmp 73) (by rfl) (w.heap.size + 1) (by rfl) 68 head0.toList (headV H).toList (by rfl) B4.out (by kernel_rfl) (by rfl) (by intro v hv; simp [headV] at hv; rcases hv with rfl | rfl | rfl <;> rfl) ?_
      intro w7 C4 k7
      have C2 := Lib.hid (C2.out.keep k7 (by simp))
      have B6 := Lib.hid (B6.out.keep k7 (by simp; exact n3.out))
      have B11 := Lib.hid (B11.out.keep k7 (by simp; exact n4.out))
      have K7 := Lib.hid ((K5.out.mono (fun y hy => .inr (by simp at hy; omega)) : Keeps [] w _).nil.trans k7)
      have HS := And.intro B6.out.cell B11.out.cell
      clear k7
      refine hK _ _ (Or.inr HS) ?_
      clear hK K
      try simp only [Act.put, List.getElem_toArray, List.getElem_cons_succ, List.getElem_cons_zero, List.setIfInBounds_toArray, List.set_cons_zero, List.set_cons_succ]
      refine wpAnyI_one (i := 6) rfl (by kernel_rfl) (fun K hK => ?_)
      dsimp only [List.getElem_toArray, List.getElem_cons_succ, List.getElem_cons_zero]
      go_simp
      refine hK _ _ (Or.inr HS) ?_
      clear hK K
      try simp only [Act.put, List.getElem_toArray, List.getElem_cons_succ, List.getElem_cons_zero, List.setIfInBounds_toArray, List.set_cons_zero, List.set_cons_succ]
      refine wpAnyI_done (by kernel_rfl) ?_ _
      go_wp2_with fail
      have q2 := C2.out.cell
      have q4 := C4.out.cell
      have KF : Keeps [] w w7 := K7.out.mono (fun y hy => .inr (by simp at hy; omega))
      exact bodyPost_ret (v := .tuple #[.agg (layV n), .int .i64 1, .agg (headV H), .int .i64 0]) (by simp [results, Try.results29, go_sem, layV, headV, q2, q4]) rfl ⟨rfl, KF⟩
    · dsimp only [List.getElem_toArray, List.getElem_cons_succ, List.getElem_cons_zero]
      rw [if_pos (by rfl)]
      refine wp_store_all 24 (.tmp 2) (.tmp 71) (by rfl) w.heap.size (by rfl) 24 lay0.toList (layV n).toList (by rfl) B2.out (by kernel_rfl) (by rfl) (by intro v hv; simp [layV] at hv; rcases hv with rfl | rfl | rfl | rfl | rfl | rfl | rfl | rfl <;> rfl) ?_
      intro w6 C2 k6
      have B4 := Lib.hid (B4.out.keep k6 (by simp))
      have B6 := Lib.hid (B6.out.keep k6 (by simp; exact n1.out))
      have B11 := Lib.hid (B11.out.keep k6 (by simp; exact n2.out))
      have K5 := Lib.hid (K5.out.nil.trans k6)
      have HS := And.intro B6.out.cell B11.out.cell
      unfold layV headV at HS
      clear k6
      refine hK _ _ (Or.inr HS) ?_
      clear hK K
      try simp only [Act.put, List.getElem_toArray, List.getElem_cons_succ, List.getElem_cons_zero, List.setIfInBounds_toArray, List.set_cons_zero, List.set_cons_succ]
      refine wpAnyI_takeN (i := 4) (v := ?_) (by kernel_rfl) rfl (by kernel_rfl) (by kernel_rfl) (by kernel_rfl) (fun _ _ _ h => h) HS (Or.inl ⟨by rfl, ?_⟩) ?_
      rotate_left
      · (intro w hSw; obtain ⟨z6, z11⟩ := hSw; go_simp; try with_reducible rfl)
      try simp only [Act.put, List.getElem_toArray, List.getElem_cons_succ, List.getElem_cons_zero, List.setIfInBounds_toArray, List.set_cons_zero, List.set_cons_succ]
      refine wpAnyI_one (i := 2) rfl (by kernel_rfl) (fun K hK => ?_)
      dsimp only [List.getElem_toArray, List.getElem_cons_succ, List.getElem_cons_zero]
      go_simp
      refine hK _ _ (Or.inr HS) ?_
      clear hK K
      try simp only [Act.put, List.getElem_toArray, List.getElem_cons_succ, List.getElem_cons_zero, List.setIfInBounds_toArray, List.set_cons_zero, List.set_cons_succ]
      refine wpAnyI_one (i := 5) rfl (by kernel_rfl) (fun K hK => ?_)
      dsimp only [List.getElem_toArray, List.getElem_cons_succ, List.getElem_cons_zero]
      rw [if_pos (by rfl)]
      refine wp_store_all 68 (.tmp 4) (.tmp 73) (by rfl) (w.heap.size + 1) (by rfl) 68 head0.toList (headV H).toList (by rfl) B4.out (by kernel_rfl) (by rfl) (by intro v hv; simp [headV] at hv; rcases hv with rfl | rfl | rfl <;> rfl) ?_
      intro w7 C4 k7
      have C2 := Lib.hid (C2.out.keep k7 (by simp))
      have B6 := Lib.hid (B6.out.keep k7 (by simp; exact n3.out))
      have B11 := Lib.hid (B11.out.keep k7 (by simp; exact n4.out))
      have K7 := Lib.hid ((K5.out.mono (fun y hy => .inr (by simp at hy; omega)) : Keeps [] w _).nil.trans k7)
      have HS := And.intro B6.out.cell B11.out.cell
      clear k7
      refine hK _ _ (Or.inr HS) ?_
      clear hK K
      try simp only [Act.put, List.getElem_toArray, List.getElem_cons_succ, List.getElem_cons_zero, List.setIfInBounds_toArray, List.set_cons_zero, List.set_cons_succ]
      refine wpAnyI_one (i := 6) rfl (by kernel_rfl) (fun K hK => ?_)
      dsimp only [List.getElem_toArray, List.getElem_cons_succ, List.getElem_cons_zero]
      go_simp
      refine hK _ _ (Or.inr HS) ?_
      clear hK K
      try simp only [Act.put, List.getElem_toArray, List.getElem_cons_succ, List.getElem_cons_zero, List.setIfInBounds_toArray, List.set_cons_zero, List.set_cons_succ]
      refine wpAnyI_done (by kernel_rfl) ?_ _
      go_wp2_with fail
      have q2 := C2.out.cell
      have q4 := C4.out.cell
      have KF : Keeps [] w w7 := K7.out.mono (fun y hy => .inr (by simp at hy; omega))
      exact bodyPost_ret (v := .tuple #[.agg (layV n), .int .i64 1, .agg (headV H), .int .i64 0]) (by simp [results, Try.results29, go_sem, layV, headV, q2, q4]) rfl ⟨rfl, KF⟩
end Go.Proofs.Ytoefbjeclghfhaa
