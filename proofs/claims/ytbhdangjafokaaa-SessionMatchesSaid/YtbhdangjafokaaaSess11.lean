/- The contract of agree. -/
import Derived.Test.YtbhdangjafokaaaSess10
namespace Go.Proofs.Ytbhdangjafokaaa
open Go.RowKit
set_option linter.unusedSimpArgs false
set_option linter.unusedVariables false

set_option maxHeartbeats 3200000 in
theorem agree_any (w : World) (b B : Nat) (A : Option Addr) (ks : List Int) (num : Int) (n c cur dn : Nat) (h : SRep w b num ks cur dn) (hn : ks.length = n) (hnc : n ≤ c) (hc : c ≤ maxLen) (hO : IntsAt w B A ks) (hB : B ≤ w.heap.size) :
    Calls Try.prog 22 #[.pointer (some ⟨b, 0, none⟩), .agg (rs num A n c cur dn)] w fun e w' => e = .returned (.bool true) ∧ Keeps [] w w' := by
  have h60 : n ≤ 1048576 := by have := h.len; omega
  have hdn : dn ≤ n := by have := h.dn; omega
  have hcu : cur ≤ 1048576 := by have := h.cur; have := split_len ks; omega
  have h0 := h.n0
  have h8 := h.n1
  unfold maxLen at hc
  have bk := Blk.new w 62 (rs num A n c cur dn)
  have kk : Keeps [] w (w.alloc (.cells (rs num A n c cur dn) 62)) := (Keeps.refl _ _).alloc _
  replace h := Lib.hid (h.keep kk)
  replace hO := Lib.hid (hO.keep kk (by simp))
  have hB' : B ≤ (w.alloc (.cells (rs num A n c cur dn) 62)).heap.size := Nat.le_trans hB kk.size
  replace kk := Lib.hid kk
  replace bk := Lib.hid bk
  have hn' := Lib.hid hn
  clear hn
  go_enter Try.func22, Try.ntmps22
  go_wp2_with fail
  refine (next_any _ b num ks cur dn h.out).mono ?_
  rintro e w1 ⟨rfl, k1⟩
  replace h := Lib.hid (h.out.keep k1)
  replace hO := Lib.hid (hO.out.keep k1 (by simp))
  replace bk := Lib.hid (bk.out.keep k1 (by simp))
  have hB1 : B ≤ w1.heap.size := Nat.le_trans hB' k1.size
  replace kk := Lib.hid (kk.out.trans k1)
  clear k1 hB'
  have c1 := bk.out.cell
  go_wp2_with fail
  refine (rnext_any w1 B A ks num n c cur dn hn'.out hnc hO.out hB1 h60 hdn).mono ?_
  rintro e w2 ⟨rfl, k1⟩
  replace h := Lib.hid (h.out.keep k1)
  replace hO := Lib.hid (hO.out.keep k1 (by simp))
  replace bk := Lib.hid (bk.out.keep k1 (by simp))
  have hB2 : B ≤ w2.heap.size := Nat.le_trans hB1 k1.size
  replace kk := Lib.hid (kk.out.trans k1)
  clear k1 hB1 c1
  go_wp2_with fail
  refine (statement_any w2 b num ks cur dn h.out).mono ?_
  rintro e w3 ⟨rfl, k1⟩
  replace h := Lib.hid (h.out.keep k1)
  replace hO := Lib.hid (hO.out.keep k1 (by simp))
  replace bk := Lib.hid (bk.out.keep k1 (by simp))
  have hB3 : B ≤ w3.heap.size := Nat.le_trans hB2 k1.size
  replace kk := Lib.hid (kk.out.trans k1)
  clear k1 hB2
  have hx := @nx_at ks cur dn
  unfold stN
  generalize hr : nx ks cur dn = r at *
  obtain ⟨i, ok⟩ := r
  cases ok
  · simp only [Bool.false_eq_true, if_false]
    have hr' := hr
    clear hx
    go_wp2_with (refine wpList_store_all rfl 57 (.tmp 9) (.tmp 24) rfl w3.heap.size rfl 57 (stm 0 0) (stm 0 0) rfl (Blk.new _ _ _) (by rw [stm_len]; kernel_rfl) rfl (stm_one _ _) ?_; intro w4 hm4 hk4)
    have k4 : Keeps [] w3 w4 := ((((Keeps.refl [] w3).alloc _).nil).trans hk4).mono (by intro x hx; simp at hx; subst hx; exact .inr (Nat.le_refl _))
    replace h := Lib.hid (h.out.keep k4)
    replace hO := Lib.hid (hO.out.keep k4 (by simp))
    replace bk := Lib.hid (bk.out.keep k4 (by simp))
    have hB4 : B ≤ w4.heap.size := Nat.le_trans hB3 k4.size
    replace kk := Lib.hid (kk.out.trans k4)
    clear k4 hk4 hB3
    have q0 : w4.cell? ⟨w3.heap.size, 0, none⟩ = some (.int .i64 0) := (hm4.out.cell 0).trans rfl
    have q20 : w4.cell? ⟨w3.heap.size, 20, none⟩ = some (.int .i64 0) := (hm4.out.cell 20).trans rfl
    have s1 := q0
    go_quiet (fail)
    go_wp2_with fail
    clear q0 q20 s1 
    have k5 : Keeps [] w4 (w4.drewN nq) := (Keeps.refl _ _).drewN _
    generalize w4.drewN nq = w5 at *
    replace h := Lib.hid (h.out.keep k5)
    replace hO := Lib.hid (hO.out.keep k5 (by simp))
    replace bk := Lib.hid (bk.out.keep k5 (by simp))
    have hB5 : B ≤ w5.heap.size := Nat.le_trans hB4 k5.size
    replace kk := Lib.hid (kk.out.trans k5)
    clear k5 hB4 hm4
    have HK : Hid (Keeps [] w5 w5.drew) := Lib.hid (Keeps.refl _ _).drew
    have s0 : w5.cell? ⟨w.heap.size, 0, none⟩ = some (.int .i64 num) := (bk.out.cell 0).trans rfl
    have s1 : w5.cell? ⟨w.heap.size, 1, none⟩ = some (.slice A n c) := (bk.out.cell 1).trans rfl
    have s2 : w5.cell? ⟨w.heap.size, 2, none⟩ = some (.int .i64 cur) := (bk.out.cell 2).trans rfl
    have s3 : w5.cell? ⟨w.heap.size, 3, none⟩ = some (.int .i64 dn) := (bk.out.cell 3).trans rfl
    go_region_held3 (fun w' => w'.cell? ⟨w.heap.size, 0, none⟩ = some (.int .i64 num) ∧ w'.cell? ⟨w.heap.size, 1, none⟩ = some (.slice A n c) ∧ w'.cell? ⟨w.heap.size, 2, none⟩ = some (.int .i64 cur) ∧ w'.cell? ⟨w.heap.size, 3, none⟩ = some (.int .i64 dn))
      ((refine (fun (kk : Keeps [] w5 _) => ⟨kk.cellEq s0 (by simp), kk.cellEq s1 (by simp), kk.cellEq s2 (by simp), kk.cellEq s3 (by simp)⟩) ?_; exact HK.out))
      (first
        | (go_at_call 20; refine (done_any _ b num ks cur dn (h.out.keep HK.out)).mono ?_; rintro e w6 ⟨rfl, k6⟩; replace HK := Lib.hid (HK.out.trans k6); clear k6)
        | (go_at_call 27; refine (rdone_any _ B A ks num n c cur dn hn'.out hnc (hO.out.keep HK.out (by simp)) (Nat.le_trans hB5 HK.out.size) h60).mono ?_; rintro e w7 ⟨rfl, k6⟩; replace HK := Lib.hid (HK.out.trans k6); clear k6)
        | (go_at_call 15; refine (trans_any _ b num ks cur dn (h.out.keep HK.out)).mono ?_; rintro e w6 ⟨rfl, k6⟩; replace HK := Lib.hid (HK.out.trans k6); clear k6)
        | (go_at_call 28; refine (rtrans_any _ A num n c cur dn h0 h8 hcu).mono ?_; rintro e w6 ⟨rfl, k6⟩; replace HK := Lib.hid (HK.out.trans k6); clear k6))
    all_goals
      go_wp2_with fail
      go_ret
      exact ⟨rfl, kk.out.trans HK.out⟩
  · obtain ⟨k, hk⟩ : ∃ k, ks[i]? = some k := ⟨_, List.getElem?_eq_getElem (hx rfl)⟩
    simp only [if_true]
    rw [getD_of hk]
    have hi := hx rfl
    clear hx
    go_wp2_with (refine wpList_store_all rfl 57 (.tmp 9) (.tmp 24) rfl w3.heap.size rfl 57 (stm 0 0) (stm k (i : Nat)) rfl (Blk.new _ _ _) (by rw [stm_len]; kernel_rfl) (by simp only [stm_len]) (stm_one _ _) ?_; intro w4 hm4 hk4)
    have k4 : Keeps [] w3 w4 := ((((Keeps.refl [] w3).alloc _).nil).trans hk4).mono (by intro x hx; simp at hx; subst hx; exact .inr (Nat.le_refl _))
    replace h := Lib.hid (h.out.keep k4)
    replace hO := Lib.hid (hO.out.keep k4 (by simp))
    replace bk := Lib.hid (bk.out.keep k4 (by simp))
    have hB4 : B ≤ w4.heap.size := Nat.le_trans hB3 k4.size
    replace kk := Lib.hid (kk.out.trans k4)
    clear k4 hk4 hB3
    obtain ⟨g, off, rfl, hg, ck⟩ := hO.out i k hk
    have q0 : w4.cell? ⟨w3.heap.size, 0, none⟩ = some (.int .i64 k) := (hm4.out.cell 0).trans rfl
    have q20 : w4.cell? ⟨w3.heap.size, 20, none⟩ = some (.int .i64 (i : Nat)) := (hm4.out.cell 20).trans rfl
    have s1 : w4.cell? ⟨w.heap.size, 1, none⟩ = some (.slice (some ⟨g, off, none⟩) n c) := (bk.out.cell 1).trans rfl
    have hi0 : (0 : Int) ≤ (i : Int) := by omega
    have hi1 : (i : Int) < (n : Int) := by have := hn'.out; omega
    go_quiet (fail)
    go_wp2_with fail
    clear q0 q20 s1 ck hi0 hi1
    have k5 : Keeps [] w4 (w4.drewN nq) := (Keeps.refl _ _).drewN _
    generalize w4.drewN nq = w5 at *
    replace h := Lib.hid (h.out.keep k5)
    replace hO := Lib.hid (hO.out.keep k5 (by simp))
    replace bk := Lib.hid (bk.out.keep k5 (by simp))
    have hB5 : B ≤ w5.heap.size := Nat.le_trans hB4 k5.size
    replace kk := Lib.hid (kk.out.trans k5)
    clear k5 hB4 hm4
    have HK : Hid (Keeps [] w5 w5.drew) := Lib.hid (Keeps.refl _ _).drew
    have s0 : w5.cell? ⟨w.heap.size, 0, none⟩ = some (.int .i64 num) := (bk.out.cell 0).trans rfl
    have s1 : w5.cell? ⟨w.heap.size, 1, none⟩ = some (.slice (some ⟨g, off, none⟩) n c) := (bk.out.cell 1).trans rfl
    have s2 : w5.cell? ⟨w.heap.size, 2, none⟩ = some (.int .i64 cur) := (bk.out.cell 2).trans rfl
    have s3 : w5.cell? ⟨w.heap.size, 3, none⟩ = some (.int .i64 dn) := (bk.out.cell 3).trans rfl
    go_region_held3 (fun w' => w'.cell? ⟨w.heap.size, 0, none⟩ = some (.int .i64 num) ∧ w'.cell? ⟨w.heap.size, 1, none⟩ = some (.slice (some ⟨g, off, none⟩) n c) ∧ w'.cell? ⟨w.heap.size, 2, none⟩ = some (.int .i64 cur) ∧ w'.cell? ⟨w.heap.size, 3, none⟩ = some (.int .i64 dn))
      ((refine (fun (kk : Keeps [] w5 _) => ⟨kk.cellEq s0 (by simp), kk.cellEq s1 (by simp), kk.cellEq s2 (by simp), kk.cellEq s3 (by simp)⟩) ?_; exact HK.out))
      (first
        | (go_at_call 20; refine (done_any _ b num ks cur dn (h.out.keep HK.out)).mono ?_; rintro e w6 ⟨rfl, k6⟩; replace HK := Lib.hid (HK.out.trans k6); clear k6)
        | (go_at_call 27; refine (rdone_any _ B (some ⟨g, off, none⟩) ks num n c cur dn hn'.out hnc (hO.out.keep HK.out (by simp)) (Nat.le_trans hB5 HK.out.size) h60).mono ?_; rintro e w7 ⟨rfl, k6⟩; replace HK := Lib.hid (HK.out.trans k6); clear k6)
        | (go_at_call 15; refine (trans_any _ b num ks cur dn (h.out.keep HK.out)).mono ?_; rintro e w6 ⟨rfl, k6⟩; replace HK := Lib.hid (HK.out.trans k6); clear k6)
        | (go_at_call 28; refine (rtrans_any _ (some ⟨g, off, none⟩) num n c cur dn h0 h8 hcu).mono ?_; rintro e w6 ⟨rfl, k6⟩; replace HK := Lib.hid (HK.out.trans k6); clear k6))
    all_goals
      go_wp2_with fail
      go_ret
      exact ⟨rfl, kk.out.trans HK.out⟩
end Go.Proofs.Ytbhdangjafokaaa
