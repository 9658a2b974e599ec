/- The operations of a statement, carried out on both logs. -/
import Derived.Test.YtmclfbhcddcebaaU39
namespace Go.Proofs.Ytmclfbhcddcebaa
open Go.RowKit Go.Shelf
set_option linter.unusedSimpArgs false
set_option linter.unusedVariables false

/-- What do leaves. -/
def DoP (b : Nat) (w : World) (X F1 F2 : List Nat) (g1 g2 : Nat) (L : List Chg) (S : List Pnt) (e : Ending) (w' : World) : Prop :=
  ∃ X' F1' F2', e = .returned (.bool true) ∧ Hid (Duo 64 82 31 99 b w' X' F1' F2' g1 g2 L L S S) ∧ Hid (Keeps (F1 ++ F2) w w') ∧ Hid (∀ x ∈ X', x ∈ X ∨ w.heap.size ≤ x)
theorem doP_of {b : Nat} {w w' : World} {X F1 F2 X' F1' F2' : List Nat} {g1 g2 : Nat} {L : List Chg} {S : List Pnt} (d : Duo 64 82 31 99 b w' X' F1' F2' g1 g2 L L S S) (hk : Keeps (F1 ++ F2) w w') (hX : ∀ x ∈ X', x ∈ X ∨ w.heap.size ≤ x) : DoP b w X F1 F2 g1 g2 L S (.returned (.bool true)) w' :=
  ⟨X', F1', F2', rfl, Lib.hid d, Lib.hid hk, Lib.hid hX⟩
theorem pair_back (b : Nat) {L : List Chg} {S : List Pnt} (hg : Good L S) (hL : L.length ≤ 1000) (hS : S.length ≤ 1000) (nm : ByteArray) : ∃ L' S' M er, (L' = if findI S nm < 0 then L else L.take (markAt S (findI S nm).toNat)) ∧ (S' = if findI S nm < 0 then S else S.take ((findI S nm).toNat + 1)) ∧
    (∀ w X F g, PLog b w X F g L S → Calls Try.prog 24 #[.pointer (some ⟨g, 0, none⟩), .string nm] w (CutL 64 82 b w X F g L' S' M er)) ∧ (∀ w X F g, RLog b w X F g L S → Calls Try.prog 46 #[.pointer (some ⟨g, 0, none⟩), .string nm] w (RCutL b w X F g L' S' M er)) ∧ (∀ c ∈ M, ∃ d ∈ L, c = inv d) ∧ M.length ≤ 1000 := by
  by_cases hf : findI S nm < 0
  · refine ⟨L, S, [], 4, by rw [if_pos hf], by rw [if_pos hf], fun w X F g h => ?_, fun w X F g h => ?_, by simp, by simp⟩
    · have := back_log b w X F g L S nm h hg.le (by omega) (by omega)
      unfold BackL at this
      simpa only [hf, if_true] using this
    · have := rback_log b w X F g L S nm h hg.le (by omega) (by omega)
      unfold RBackL at this
      simpa only [hf, if_true] using this
  · refine ⟨_, _, (L.drop (markAt S (findI S nm).toNat)).reverse.map inv, 0, by rw [if_neg hf], by rw [if_neg hf], fun w X F g h => ?_, fun w X F g h => ?_, fun c hc => ?_, by simp; omega⟩
    · have := back_log b w X F g L S nm h hg.le (by omega) (by omega)
      unfold BackL at this
      simpa only [hf, if_false] using this
    · have := rback_log b w X F g L S nm h hg.le (by omega) (by omega)
      unfold RBackL at this
      simpa only [hf, if_false] using this
    · obtain ⟨d, hd, rfl⟩ := List.mem_map.1 hc
      exact ⟨d, List.mem_of_mem_drop (List.mem_reverse.1 hd), rfl⟩
theorem pair_undo (b : Nat) {L : List Chg} {S : List Pnt} (hg : Good L S) (hL : L.length ≤ 1000) (hS : S.length ≤ 1000) (n : Int) : ∃ L' M er, (L' = if undoOk L S n then L.take (L.length - n.toNat) else L) ∧
    (∀ w X F g, PLog b w X F g L S → Calls Try.prog 21 #[.pointer (some ⟨g, 0, none⟩), .int .i64 n] w (CutL 64 82 b w X F g L' S M er)) ∧ (∀ w X F g, RLog b w X F g L S → Calls Try.prog 48 #[.pointer (some ⟨g, 0, none⟩), .int .i64 n] w (RCutL b w X F g L' S M er)) ∧ (∀ c ∈ M, ∃ d ∈ L, c = inv d) ∧ M.length ≤ 1000 := by
  cases hf : undoOk L S n
  · refine ⟨L, [], 1, by simp, fun w X F g h => ?_, fun w X F g h => ?_, by simp, by simp⟩
    · have := undo_log b w X F g L S n h hg.le (by omega) (by omega)
      unfold UndoL at this
      simpa only [hf, Bool.false_eq_true, if_false] using this
    · have := rundo_log b w X F g L S n h hg.le (by omega) (by omega)
      unfold RUndoL at this
      simpa only [hf, Bool.false_eq_true, if_false] using this
  · refine ⟨L.take (L.length - n.toNat), (L.drop (L.length - n.toNat)).reverse.map inv, 0, by simp, fun w X F g h => ?_, fun w X F g h => ?_, fun c hc => ?_, by simp; omega⟩
    · have := undo_log b w X F g L S n h hg.le (by omega) (by omega)
      unfold UndoL at this
      simpa only [hf, if_true] using this
    · have := rundo_log b w X F g L S n h hg.le (by omega) (by omega)
      unfold RUndoL at this
      simpa only [hf, if_true] using this
    · obtain ⟨d, hd, rfl⟩ := List.mem_map.1 hc
      exact ⟨d, List.mem_of_mem_drop (List.mem_reverse.1 hd), rfl⟩

set_option maxRecDepth 100000 in
set_option maxHeartbeats 32000000 in
theorem do_any (b : Nat) (w : World) (X F1 F2 : List Nat) (g1 g2 : Nat) (L : List Chg) (S : List Pnt) (o : Oo) (r : Raw) (h : Duo 64 82 31 99 b w X F1 F2 g1 g2 L L S S) (hg : Good L S) (hr : RawIs w X r o.c) (hs : Small o.c) (hwf : wfC o.c) (hL : L.length ≤ 1000) (hS : S.length ≤ 1000) :
    Calls Try.prog 25 #[.pointer (some ⟨g1, 0, none⟩), .pointer (some ⟨g2, 0, none⟩), .agg (oCells o r).toArray] w (DoP b w X F1 F2 g1 g2 (stL L S o) (stS L S o)) := by
  obtain ⟨ok, oc, os, on⟩ := o
  obtain ⟨t, id, Ao, no, co, An, nn, cn⟩ := r
  obtain ⟨go, hgo⟩ : ∃ g, g = w.heap.size := ⟨_, rfl⟩
  have ka : Keeps [] w (w.alloc (.cells #[.int .i64 ok, .int .i64 t, .int .i64 id, .slice Ao no co, .slice An nn cn, .string os, .int .i64 on] 37)) := (Keeps.refl [] w).alloc _
  have BO := Lib.hid (Blk.new w 37 #[.int .i64 ok, .int .i64 t, .int .i64 id, .slice Ao no co, .slice An nn cn, .string os, .int .i64 on])
  have hgo1 : Hid (go ∉ F1) := Lib.hid (fun hm => by have := (h.a.lob _ hm).2; omega)
  have hgo2 : Hid (go ∉ F2) := Lib.hid (fun hm => by have := (h.c.lob _ hm).2; omega)
  have hD := Lib.hid (h.keep ka)
  have hko := Lib.hid ka
  have hrr : Hid (∀ w' F, Keeps F w w' → (∀ y ∈ F, y ∈ X ∨ w.heap.size ≤ y) → RawIs w' X ⟨t, id, Ao, no, co, An, nn, cn⟩ oc) := Lib.hid (fun w' F k hF => hr.keep k hF)
  have hX0 := Lib.hid h
  have hrr2 : Hid (∀ {wc : World} wA FA, Turn F1 FA wc wA → Keeps [] w wc → RawIs wA (FA ++ X) ⟨t, id, Ao, no, co, An, nn, cn⟩ oc) := Lib.hid (fun wA FA tA hk => by
    have hY : ∀ y ∈ FA ++ X, y ∈ X ∨ w.heap.size ≤ y := fun y hy => by
      rcases List.mem_append.1 hy with hy | hy
      · rcases tA.nw y hy with h1 | h1
        · exact .inl (h.a.sub y h1)
        · exact .inr (Nat.le_trans hk.size h1)
      · exact .inl hy
    exact (hr.other hY).keep (hk.nil.trans tA.kp) (fun y hy => .inl (List.mem_append_right _ (h.a.sub y hy))))
  rw [← hgo] at BO
  replace hg := Lib.hid hg
  replace hs := Lib.hid hs
  replace hwf := Lib.hid hwf
  have z0 := BO.out.cell 0
  have z3 := BO.out.cell 6
  have z5 := BO.out.cell 5
  unfold oCells
  dsimp only
  replace hgo := Lib.hid hgo
  clear h ka hr
  have hw6 : IntKind.i64.wrap (ok.tmod 5) = ok.tmod 5 := IntWalk.i64_in _ (by have := Int.tmod_lt_of_pos ok (show (0 : Int) < 5 by omega); have := Int.lt_tmod_of_pos ok (show (0 : Int) < 5 by omega); omega)
  by_cases k1 : ok.tmod 5 = 1
  · have e1 : kd ⟨ok, oc, os, on⟩ = 1 := k1
    have est : stL L S ⟨ok, oc, os, on⟩ = L ∧ stS L S ⟨ok, oc, os, on⟩ = if os = ⟨#[]⟩ then S else saveS S os L.length := by unfold stL stS; rw [e1]; exact ⟨rfl, rfl⟩
    rw [est.1, est.2]
    obtain ⟨Sn, hSn⟩ : ∃ x, x = if os = ⟨#[]⟩ then S else saveS S os L.length := ⟨_, rfl⟩
    obtain ⟨ec, hec⟩ : ∃ x, x = if os = ⟨#[]⟩ then (1 : Int) else 0 := ⟨_, rfl⟩
    rw [← hSn]
    replace hSn := Lib.hid hSn
    replace hec := Lib.hid hec
    replace est := Lib.hid est
    replace e1 := Lib.hid e1
    have hS : Hid (∀ w', Blk w' go 37 #[.int .i64 ok, .int .i64 t, .int .i64 id, .slice Ao no co, .slice An nn cn, .string os, .int .i64 on] → w'.cell? ⟨go, 5, none⟩ = some (.string os)) := Lib.hid (fun w' hb => hb.cell 5)
    go_enter Try.func25, Try.ntmps25
    go_wp2_with fail
    rw [← hgo.out]
    obtain ⟨wo, hwo⟩ : ∃ x, x = w.alloc (.cells #[.int .i64 ok, .int .i64 t, .int .i64 id, .slice Ao no co, .slice An nn cn, .string os, .int .i64 on] 37) := ⟨_, rfl⟩
    rw [← hwo] at BO hD hko ⊢
    clear hwo z0 z3 z5
    refine wp_region_I (S := (fun w' : World => w'.cell? ⟨go, 5, none⟩ = some (.string os))) (n := 10) (by kernel_rfl) ?_
    have HS := hS.out _ BO.out.drew
    have BOd := Lib.hid BO.out.drew
    have hDd := Lib.hid (hD.out.keep (Keeps.refl [] _).drew)
    have hkd : Hid (Keeps [] w wo.drew) := Lib.hid hko.out.drew
    have HA := Lib.hid (save_log b _ X F1 g1 L S os hDd.out.a (by omega))
    generalize wo.drew = wc at *
    refine wpAnyI_takeN (i := 0) (v := ?_) (by kernel_rfl) rfl (by kernel_rfl) (by kernel_rfl) (by kernel_rfl) (fun _ _ _ h => h) HS (Or.inl ⟨by rfl, ?_⟩) ?_
    rotate_left
    · (intro w hSw; obtain y5 := hSw; go_simp; try with_reducible rfl)
    try simp only [Act.put, List.getElem_toArray, List.getElem_cons_succ, List.getElem_cons_zero, List.setIfInBounds_toArray, List.set_cons_zero, List.set_cons_succ]
    refine wpAnyI_takeN (i := 1) (v := ?_) (by kernel_rfl) rfl (by kernel_rfl) (by kernel_rfl) (by kernel_rfl) (fun _ _ _ h => h) HS (Or.inl ⟨by rfl, ?_⟩) ?_
    rotate_left
    · (intro w hSw; obtain y5 := hSw; go_simp; try with_reducible rfl)
    try simp only [Act.put, List.getElem_toArray, List.getElem_cons_succ, List.getElem_cons_zero, List.setIfInBounds_toArray, List.set_cons_zero, List.set_cons_succ]
    refine wpAnyI_takeN (i := 2) (v := ?_) (by kernel_rfl) rfl (by kernel_rfl) (by kernel_rfl) (by kernel_rfl) (fun _ _ _ h => h) HS (Or.inl ⟨by rfl, ?_⟩) ?_
    rotate_left
    · (intro w hSw; obtain y5 := hSw; go_simp; try with_reducible rfl)
    try simp only [Act.put, List.getElem_toArray, List.getElem_cons_succ, List.getElem_cons_zero, List.setIfInBounds_toArray, List.set_cons_zero, List.set_cons_succ]
    refine wpAnyI_takeN (i := 4) (v := ?_) (by kernel_rfl) rfl (by kernel_rfl) (by kernel_rfl) (by kernel_rfl) (fun _ _ _ h => h) HS (Or.inl ⟨by rfl, ?_⟩) ?_
    rotate_left
    · (intro w hSw; obtain y5 := hSw; go_simp; try with_reducible rfl)
    try simp only [Act.put, List.getElem_toArray, List.getElem_cons_succ, List.getElem_cons_zero, List.setIfInBounds_toArray, List.set_cons_zero, List.set_cons_succ]
    refine wpAnyI_takeN (i := 5) (v := ?_) (by kernel_rfl) rfl (by kernel_rfl) (by kernel_rfl) (by kernel_rfl) (fun _ _ _ h => h) HS (Or.inl ⟨by rfl, ?_⟩) ?_
    rotate_left
    · (intro w hSw; obtain y5 := hSw; go_simp; try with_reducible rfl)
    try simp only [Act.put, List.getElem_toArray, List.getElem_cons_succ, List.getElem_cons_zero, List.setIfInBounds_toArray, List.set_cons_zero, List.set_cons_succ]
    refine wpAnyI_takeN (i := 6) (v := ?_) (by kernel_rfl) rfl (by kernel_rfl) (by kernel_rfl) (by kernel_rfl) (fun _ _ _ h => h) HS (Or.inl ⟨by rfl, ?_⟩) ?_
    rotate_left
    · (intro w hSw; obtain y5 := hSw; go_simp; try with_reducible rfl)
    try simp only [Act.put, List.getElem_toArray, List.getElem_cons_succ, List.getElem_cons_zero, List.setIfInBounds_toArray, List.set_cons_zero, List.set_cons_succ]
    refine wpAnyI_one (i := 3) rfl (by kernel_rfl) (fun K hK => ?_)
    dsimp only [List.getElem_toArray, List.getElem_cons_succ, List.getElem_cons_zero]
    go_simp
    refine HA.out.mono ?_
    rintro e wA ⟨FA, rfl, pA, tA⟩
    rw [← hec.out]
    have D2 := Lib.hid (hDd.out.left pA.out tA.out)
    have kA := Lib.hid tA.out.kp
    have BOA := Lib.hid (BOd.out.keep kA.out hgo1.out)
    have HS := hS.out _ BOA.out
    have HB := Lib.hid (rsave_log b wA _ F2 g2 L S os D2.out.c (by omega))
    refine hK _ _ (Or.inr HS) ?_
    clear hK K HA
    try simp only [Act.put, List.getElem_toArray, List.getElem_cons_succ, List.getElem_cons_zero, List.setIfInBounds_toArray, List.set_cons_zero, List.set_cons_succ]
    refine wpAnyI_one (i := 7) rfl (by kernel_rfl) (fun K hK => ?_)
    dsimp only [List.getElem_toArray, List.getElem_cons_succ, List.getElem_cons_zero]
    go_simp
    refine HB.out.mono ?_
    rintro e wB ⟨FB, rfl, pB, tB⟩
    rw [← hec.out]
    have kB := Lib.hid tB.out.kp
    have BOB := Lib.hid (BOA.out.keep kB.out (hgo2.out))
    have HS := hS.out _ BOB.out
    have D3 : Hid (Duo 64 82 31 99 b wB (FB ++ (FA ++ X)) FA FB g1 g2 L L Sn Sn) := Lib.hid (by
      have := D2.out.right pB.out tB.out
      rw [← save_sans os hg.out.nd, ← hSn.out] at this
      exact this)
    have hnX : Hid (∀ x ∈ FB ++ (FA ++ X), x ∈ X ∨ w.heap.size ≤ x) := Lib.hid (fun x hx => by
      rcases List.mem_append.1 hx with hx | hx
      · rcases tB.out.nw x hx with h1 | h1
        · exact .inl (hX0.out.c.sub x h1)
        · exact .inr (Nat.le_trans (hkd.out.nil.trans kA.out).size h1)
      · rcases List.mem_append.1 hx with hx | hx
        · rcases tA.out.nw x hx with h1 | h1
          · exact .inl (hX0.out.a.sub x h1)
          · exact .inr (Nat.le_trans hkd.out.size h1)
        · exact .inl hx)
    have KF : Hid (Keeps (F1 ++ F2) w wB) := Lib.hid ((hkd.out.nil.trans (kA.out.mono (fun y hy => .inl (List.mem_append_left _ hy)))).trans (kB.out.mono (fun y hy => .inl (List.mem_append_right _ hy))))
    refine hK _ _ (Or.inr HS) ?_
    clear hK K HB
    try simp only [Act.put, List.getElem_toArray, List.getElem_cons_succ, List.getElem_cons_zero, List.setIfInBounds_toArray, List.set_cons_zero, List.set_cons_succ]
    refine wpAnyI_one (i := 8) rfl (by kernel_rfl) (fun K hK => ?_)
    dsimp only [List.getElem_toArray, List.getElem_cons_succ, List.getElem_cons_zero]
    go_simp
    refine hK _ _ (Or.inr HS) ?_
    clear hK K
    try simp only [Act.put, List.getElem_toArray, List.getElem_cons_succ, List.getElem_cons_zero, List.setIfInBounds_toArray, List.set_cons_zero, List.set_cons_succ]
    refine wpAnyI_one (i := 9) rfl (by kernel_rfl) (fun K hK => ?_)
    dsimp only [List.getElem_toArray, List.getElem_cons_succ, List.getElem_cons_zero]
    go_simp
    refine hK _ _ (Or.inr HS) ?_
    clear hK K
    try simp only [Act.put, List.getElem_toArray, List.getElem_cons_succ, List.getElem_cons_zero, List.setIfInBounds_toArray, List.set_cons_zero, List.set_cons_succ]
    refine wpAnyI_done (by kernel_rfl) ?_ _
    have hfin := Lib.hid (doP_of D3.out KF.out (fun x hx => hnX.out x hx))
    go_wp2_with fail
    go_ret
    exact hfin.out
  · have b1 : (ok.tmod 5 == 1) = false := by simpa using k1
    by_cases k2 : ok.tmod 5 = 2
    · have e1 : kd ⟨ok, oc, os, on⟩ = 2 := k2
      obtain ⟨L', S', M, er, hL', hS', HPA, HPB, hMs, hMl⟩ := pair_back b hg.out hL hS os
      have est : stL L S ⟨ok, oc, os, on⟩ = L' ∧ stS L S ⟨ok, oc, os, on⟩ = S' := by unfold stL stS; rw [e1, hL', hS']; exact ⟨rfl, rfl⟩
      rw [est.1, est.2]
      have hMsm : Hid (∀ c ∈ M, Small c) := Lib.hid (fun c hc => by obtain ⟨d, hd, rfl⟩ := hMs c hc; have := (hX0.out.a.sm d hd).1; exact ⟨this.2, this.1⟩)
      have HA := Lib.hid (HPA _ X F1 g1 hD.out.a)
      replace HPB := Lib.hid HPB
      obtain ⟨ml, hml⟩ : ∃ x, x = M.length := ⟨_, rfl⟩
      rw [← hml] at hMl
      replace hml := Lib.hid hml
      replace est := Lib.hid est
      replace e1 := Lib.hid e1
      replace hL' := Lib.hid hL'
      replace hS' := Lib.hid hS'
      replace hgo := hgo
      clear hMs HPA
      go_enter Try.func25, Try.ntmps25
      go_wp2_with fail
      rw [← hgo.out]
      obtain ⟨wo, hwo⟩ : ∃ x, x = w.alloc (.cells #[.int .i64 ok, .int .i64 t, .int .i64 id, .slice Ao no co, .slice An nn cn, .string os, .int .i64 on] 37) := ⟨_, rfl⟩
      rw [← hwo] at BO hD hko HA ⊢
      clear hwo z0 z3 z5
      refine HA.out.mono ?_
      rintro e wA ⟨Aa, ca, rfl, ra, pA, kA⟩
      rw [← hml.out]
      have D2 := Lib.hid (hD.out.left0 pA.out kA.out)
      have BOA := Lib.hid (BO.out.keep kA.out hgo1.out)
      have raF : Hid (ChsAt wA F2 Aa M) := Lib.hid (ra.out F2 (fun y hy => (hD.out.c.lob y hy).2))
      have HB := Lib.hid (HPB.out wA X F2 g2 D2.out.c)
      have z3 := BOA.out.cell 6
      have z5 := BOA.out.cell 5
      clear HA ra pA
      go_wp2_with fail
      refine HB.out.mono ?_
      rintro e wB ⟨Ab, cb, rfl, rb, pB, kB⟩
      rw [← hml.out]
      have D3 := Lib.hid (D2.out.right0 pB.out kB.out)
      replace raF := Lib.hid (raF.out.keep kB.out (fun y hy => .inl hy))
      have KF : Hid (Keeps (F1 ++ F2) w wB) := Lib.hid ((hko.out.nil.trans (kA.out.mono (fun y hy => .inl (List.mem_append_left _ hy)))).trans (kB.out.mono (fun y hy => .inl (List.mem_append_right _ hy))))
      have HSm : Hid (∀ w', Keeps [] wB w' → Calls Try.prog 16 #[.slice Aa ml ca, .slice Ab ml cb] w' fun e w'' => e = .returned (.bool true) ∧ Keeps [] w' w'') := Lib.hid (fun w' k => by
        refine (same_any w' F2 X Aa Ab M M ml ca ml cb hml.out.symm hml.out.symm (raF.out.keep k (by simp)) (rb.out.keep k (by simp)) hMsm.out (by omega)).mono ?_
        rintro e w'' ⟨rfl, k⟩
        exact ⟨by rw [decide_eq_true rfl], k⟩)
      clear HB rb pB z3 z5
      go_wp2_with fail
      refine (HSm.out _ (Keeps.refl [] wB)).mono ?_
      rintro e wC ⟨rfl, kC⟩
      have hfin := Lib.hid (doP_of (D3.out.keep kC) (KF.out.trans kC.nil) (fun x hx => .inl hx))
      clear HSm kC
      go_wp2_with fail
      go_ret
      exact hfin.out
    · have b2 : (ok.tmod 5 == 2) = false := by simpa using k2
      by_cases k3 : ok.tmod 5 = 3
      · have e1 : kd ⟨ok, oc, os, on⟩ = 3 := k3
        have est : stL L S ⟨ok, oc, os, on⟩ = L ∧ stS L S ⟨ok, oc, os, on⟩ = if findI S os < 0 then S else S.take (findI S os).toNat := by unfold stL stS; rw [e1]; exact ⟨rfl, rfl⟩
        rw [est.1, est.2]
        obtain ⟨Sn, hSn⟩ : ∃ x, x = if findI S os < 0 then S else S.take (findI S os).toNat := ⟨_, rfl⟩
        obtain ⟨ec, hec⟩ : ∃ x, x = if findI S os < 0 then (4 : Int) else 0 := ⟨_, rfl⟩
        rw [← hSn]
        replace hSn := Lib.hid hSn
        replace hec := Lib.hid hec
        replace est := Lib.hid est
        replace e1 := Lib.hid e1
        have hS : Hid (∀ w', Blk w' go 37 #[.int .i64 ok, .int .i64 t, .int .i64 id, .slice Ao no co, .slice An nn cn, .string os, .int .i64 on] → w'.cell? ⟨go, 5, none⟩ = some (.string os)) := Lib.hid (fun w' hb => hb.cell 5)
        go_enter Try.func25, Try.ntmps25
        go_wp2_with fail
        rw [← hgo.out]
        obtain ⟨wo, hwo⟩ : ∃ x, x = w.alloc (.cells #[.int .i64 ok, .int .i64 t, .int .i64 id, .slice Ao no co, .slice An nn cn, .string os, .int .i64 on] 37) := ⟨_, rfl⟩
        rw [← hwo] at BO hD hko ⊢
        clear hwo z0 z3 z5
        refine wp_region_I (S := (fun w' : World => w'.cell? ⟨go, 5, none⟩ = some (.string os))) (n := 10) (by kernel_rfl) ?_
        have HS := hS.out _ BO.out.drew
        have BOd := Lib.hid BO.out.drew
        have hDd := Lib.hid (hD.out.keep (Keeps.refl [] _).drew)
        have hkd : Hid (Keeps [] w wo.drew) := Lib.hid hko.out.drew
        have HA := Lib.hid (release_log b _ X F1 g1 L S os hDd.out.a (by omega))
        generalize wo.drew = wc at *
        refine wpAnyI_takeN (i := 0) (v := ?_) (by kernel_rfl) rfl (by kernel_rfl) (by kernel_rfl) (by kernel_rfl) (fun _ _ _ h => h) HS (Or.inl ⟨by rfl, ?_⟩) ?_
        rotate_left
        · (intro w hSw; obtain y5 := hSw; go_simp; try with_reducible rfl)
        try simp only [Act.put, List.getElem_toArray, List.getElem_cons_succ, List.getElem_cons_zero, List.setIfInBounds_toArray, List.set_cons_zero, List.set_cons_succ]
        refine wpAnyI_takeN (i := 1) (v := ?_) (by kernel_rfl) rfl (by kernel_rfl) (by kernel_rfl) (by kernel_rfl) (fun _ _ _ h => h) HS (Or.inl ⟨by rfl, ?_⟩) ?_
        rotate_left
        · (intro w hSw; obtain y5 := hSw; go_simp; try with_reducible rfl)
        try simp only [Act.put, List.getElem_toArray, List.getElem_cons_succ, List.getElem_cons_zero, List.setIfInBounds_toArray, List.set_cons_zero, List.set_cons_succ]
        refine wpAnyI_takeN (i := 2) (v := ?_) (by kernel_rfl) rfl (by kernel_rfl) (by kernel_rfl) (by kernel_rfl) (fun _ _ _ h => h) HS (Or.inl ⟨by rfl, ?_⟩) ?_
        rotate_left
        · (intro w hSw; obtain y5 := hSw; go_simp; try with_reducible rfl)
        try simp only [Act.put, List.getElem_toArray, List.getElem_cons_succ, List.getElem_cons_zero, List.setIfInBounds_toArray, List.set_cons_zero, List.set_cons_succ]
        refine wpAnyI_takeN (i := 4) (v := ?_) (by kernel_rfl) rfl (by kernel_rfl) (by kernel_rfl) (by kernel_rfl) (fun _ _ _ h => h) HS (Or.inl ⟨by rfl, ?_⟩) ?_
        rotate_left
        · (intro w hSw; obtain y5 := hSw; go_simp; try with_reducible rfl)
        try simp only [Act.put, List.getElem_toArray, List.getElem_cons_succ, List.getElem_cons_zero, List.setIfInBounds_toArray, List.set_cons_zero, List.set_cons_succ]
        refine wpAnyI_takeN (i := 5) (v := ?_) (by kernel_rfl) rfl (by kernel_rfl) (by kernel_rfl) (by kernel_rfl) (fun _ _ _ h => h) HS (Or.inl ⟨by rfl, ?_⟩) ?_
        rotate_left
        · (intro w hSw; obtain y5 := hSw; go_simp; try with_reducible rfl)
        try simp only [Act.put, List.getElem_toArray, List.getElem_cons_succ, List.getElem_cons_zero, List.setIfInBounds_toArray, List.set_cons_zero, List.set_cons_succ]
        refine wpAnyI_takeN (i := 6) (v := ?_) (by kernel_rfl) rfl (by kernel_rfl) (by kernel_rfl) (by kernel_rfl) (fun _ _ _ h => h) HS (Or.inl ⟨by rfl, ?_⟩) ?_
        rotate_left
        · (intro w hSw; obtain y5 := hSw; go_simp; try with_reducible rfl)
        try simp only [Act.put, List.getElem_toArray, List.getElem_cons_succ, List.getElem_cons_zero, List.setIfInBounds_toArray, List.set_cons_zero, List.set_cons_succ]
        refine wpAnyI_one (i := 3) rfl (by kernel_rfl) (fun K hK => ?_)
        dsimp only [List.getElem_toArray, List.getElem_cons_succ, List.getElem_cons_zero]
        go_simp
        refine HA.out.mono ?_
        rintro e wA ⟨rfl, pA, kA⟩
        rw [← hec.out]
        have D2 := Lib.hid (hDd.out.left0 pA.out kA.out)
        have BOA := Lib.hid (BOd.out.keep kA.out hgo1.out)
        have HS := hS.out _ BOA.out
        have HB := Lib.hid (rrelease_log b wA _ F2 g2 L S os D2.out.c (by omega))
        refine hK _ _ (Or.inr HS) ?_
        clear hK K HA
        try simp only [Act.put, List.getElem_toArray, List.getElem_cons_succ, List.getElem_cons_zero, List.setIfInBounds_toArray, List.set_cons_zero, List.set_cons_succ]
        refine wpAnyI_one (i := 7) rfl (by kernel_rfl) (fun K hK => ?_)
        dsimp only [List.getElem_toArray, List.getElem_cons_succ, List.getElem_cons_zero]
        go_simp
        refine HB.out.mono ?_
        rintro e wB ⟨rfl, pB, kB⟩
        rw [← hec.out]
        have D3 : Hid (Duo 64 82 31 99 b wB X F1 F2 g1 g2 L L Sn Sn) := Lib.hid (by
          have := D2.out.right0 pB.out kB.out
          rw [← hSn.out] at this
          exact this)
        have BOB := Lib.hid (BOA.out.keep kB.out (hgo2.out))
        have HS := hS.out _ BOB.out
        have KF : Hid (Keeps (F1 ++ F2) w wB) := Lib.hid ((hkd.out.nil.trans (kA.out.mono (fun y hy => .inl (List.mem_append_left _ hy)))).trans (kB.out.mono (fun y hy => .inl (List.mem_append_right _ hy))))
        refine hK _ _ (Or.inr HS) ?_
        clear hK K HB
        try simp only [Act.put, List.getElem_toArray, List.getElem_cons_succ, List.getElem_cons_zero, List.setIfInBounds_toArray, List.set_cons_zero, List.set_cons_succ]
        refine wpAnyI_one (i := 8) rfl (by kernel_rfl) (fun K hK => ?_)
        dsimp only [List.getElem_toArray, List.getElem_cons_succ, List.getElem_cons_zero]
        go_simp
        refine hK _ _ (Or.inr HS) ?_
        clear hK K
        try simp only [Act.put, List.getElem_toArray, List.getElem_cons_succ, List.getElem_cons_zero, List.setIfInBounds_toArray, List.set_cons_zero, List.set_cons_succ]
        refine wpAnyI_one (i := 9) rfl (by kernel_rfl) (fun K hK => ?_)
        dsimp only [List.getElem_toArray, List.getElem_cons_succ, List.getElem_cons_zero]
        go_simp
        refine hK _ _ (Or.inr HS) ?_
        clear hK K
        try simp only [Act.put, List.getElem_toArray, List.getElem_cons_succ, List.getElem_cons_zero, List.setIfInBounds_toArray, List.set_cons_zero, List.set_cons_succ]
        refine wpAnyI_done (by kernel_rfl) ?_ _
        have hfin := Lib.hid (doP_of D3.out KF.out (fun x hx => .inl hx))
        go_wp2_with fail
        go_ret
        exact hfin.out
      · have b3 : (ok.tmod 5 == 3) = false := by simpa using k3
        by_cases k4 : ok.tmod 5 = 4
        · have e1 : kd ⟨ok, oc, os, on⟩ = 4 := k4
          obtain ⟨L', M, er, hL', HPA, HPB, hMs, hMl⟩ := pair_undo b hg.out hL hS on
          obtain ⟨S', hS'⟩ : ∃ x, x = S := ⟨_, rfl⟩
          have est : stL L S ⟨ok, oc, os, on⟩ = L' ∧ stS L S ⟨ok, oc, os, on⟩ = S' := by unfold stL stS; rw [e1, hL', hS']; exact ⟨rfl, rfl⟩
          rw [est.1, est.2]
          have hMsm : Hid (∀ c ∈ M, Small c) := Lib.hid (fun c hc => by obtain ⟨d, hd, rfl⟩ := hMs c hc; have := (hX0.out.a.sm d hd).1; exact ⟨this.2, this.1⟩)
          have HA0 := HPA _ X F1 g1 hD.out.a
          have HPB0 : ∀ w X F g, RLog b w X F g L S → Calls Try.prog 48 #[.pointer (some ⟨g, 0, none⟩), .int .i64 on] w (RCutL b w X F g L' S' M er) := by rw [hS']; exact HPB
          rw [show CutL 64 82 b (w.alloc (.cells #[.int .i64 ok, .int .i64 t, .int .i64 id, .slice Ao no co, .slice An nn cn, .string os, .int .i64 on] 37)) X F1 g1 L' S M er = CutL 64 82 b (w.alloc (.cells #[.int .i64 ok, .int .i64 t, .int .i64 id, .slice Ao no co, .slice An nn cn, .string os, .int .i64 on] 37)) X F1 g1 L' S' M er by rw [hS']] at HA0
          have HA := Lib.hid HA0
          clear HPB
          have HPB := Lib.hid HPB0
          obtain ⟨ml, hml⟩ : ∃ x, x = M.length := ⟨_, rfl⟩
          rw [← hml] at hMl
          replace hml := Lib.hid hml
          replace est := Lib.hid est
          replace e1 := Lib.hid e1
          replace hL' := Lib.hid hL'
          replace hS' := Lib.hid hS'
          clear hMs HPA HA0 HPB0
          go_enter Try.func25, Try.ntmps25
          go_wp2_with fail
          rw [← hgo.out]
          obtain ⟨wo, hwo⟩ : ∃ x, x = w.alloc (.cells #[.int .i64 ok, .int .i64 t, .int .i64 id, .slice Ao no co, .slice An nn cn, .string os, .int .i64 on] 37) := ⟨_, rfl⟩
          rw [← hwo] at BO hD hko HA ⊢
          clear hwo z0 z3 z5
          refine HA.out.mono ?_
          rintro e wA ⟨Aa, ca, rfl, ra, pA, kA⟩
          rw [← hml.out]
          have D2 := Lib.hid (hD.out.left0 pA.out kA.out)
          have BOA := Lib.hid (BO.out.keep kA.out hgo1.out)
          have raF : Hid (ChsAt wA F2 Aa M) := Lib.hid (ra.out F2 (fun y hy => (hD.out.c.lob y hy).2))
          have HB := Lib.hid (HPB.out wA X F2 g2 D2.out.c)
          have z3 := BOA.out.cell 6
          have z5 := BOA.out.cell 5
          clear HA ra pA
          go_wp2_with fail
          refine HB.out.mono ?_
          rintro e wB ⟨Ab, cb, rfl, rb, pB, kB⟩
          rw [← hml.out]
          have D3 := Lib.hid (D2.out.right0 pB.out kB.out)
          replace raF := Lib.hid (raF.out.keep kB.out (fun y hy => .inl hy))
          have KF : Hid (Keeps (F1 ++ F2) w wB) := Lib.hid ((hko.out.nil.trans (kA.out.mono (fun y hy => .inl (List.mem_append_left _ hy)))).trans (kB.out.mono (fun y hy => .inl (List.mem_append_right _ hy))))
          have HSm : Hid (∀ w', Keeps [] wB w' → Calls Try.prog 16 #[.slice Aa ml ca, .slice Ab ml cb] w' fun e w'' => e = .returned (.bool true) ∧ Keeps [] w' w'') := Lib.hid (fun w' k => by
            refine (same_any w' F2 X Aa Ab M M ml ca ml cb hml.out.symm hml.out.symm (raF.out.keep k (by simp)) (rb.out.keep k (by simp)) hMsm.out (by omega)).mono ?_
            rintro e w'' ⟨rfl, k⟩
            exact ⟨by rw [decide_eq_true rfl], k⟩)
          clear HB rb pB z3 z5
          go_wp2_with fail
          refine (HSm.out _ (Keeps.refl [] wB)).mono ?_
          rintro e wC ⟨rfl, kC⟩
          have hfin := Lib.hid (doP_of (D3.out.keep kC) (KF.out.trans kC.nil) (fun x hx => .inl hx))
          clear HSm kC
          go_wp2_with fail
          go_ret
          exact hfin.out
        · have b4 : (ok.tmod 5 == 4) = false := by simpa using k4
          have est : stL L S ⟨ok, oc, os, on⟩ = (if addOk L oc then L ++ [oc] else L) ∧ stS L S ⟨ok, oc, os, on⟩ = S := by
            unfold stL stS kd
            exact ⟨by simp only [k1, k2, k3, k4, if_false], by simp only [k1, k2, k3, if_false]⟩
          rw [est.1, est.2]
          obtain ⟨Ln, hLn⟩ : ∃ x, x = if addOk L oc then L ++ [oc] else L := ⟨_, rfl⟩
          obtain ⟨ec, hec⟩ : ∃ x, x = if addOk L oc then (0 : Int) else 1 := ⟨_, rfl⟩
          rw [← hLn]
          replace hLn := Lib.hid hLn
          replace hec := Lib.hid hec
          replace est := Lib.hid est
          have hS : Hid (∀ w', Blk w' go 37 #[.int .i64 ok, .int .i64 t, .int .i64 id, .slice Ao no co, .slice An nn cn, .string os, .int .i64 on] → w'.cell? ⟨go, 1, none⟩ = some (.int .i64 t) ∧ w'.cell? ⟨go, 2, none⟩ = some (.int .i64 id) ∧ w'.cell? ⟨go, 3, none⟩ = some (.slice Ao no co) ∧ w'.cell? ⟨go, 4, none⟩ = some (.slice An nn cn)) := Lib.hid (fun w' hb => ⟨hb.cell 1, hb.cell 2, hb.cell 3, hb.cell 4⟩)
          go_enter Try.func25, Try.ntmps25
          go_wp2_with fail
          rw [← hgo.out]
          obtain ⟨wo, hwo⟩ : ∃ x, x = w.alloc (.cells #[.int .i64 ok, .int .i64 t, .int .i64 id, .slice Ao no co, .slice An nn cn, .string os, .int .i64 on] 37) := ⟨_, rfl⟩
          rw [← hwo] at BO hD hko ⊢
          clear hwo z0 z3 z5
          refine wp_region_I (S := (fun w' : World => w'.cell? ⟨go, 1, none⟩ = some (.int .i64 t) ∧ w'.cell? ⟨go, 2, none⟩ = some (.int .i64 id) ∧ w'.cell? ⟨go, 3, none⟩ = some (.slice Ao no co) ∧ w'.cell? ⟨go, 4, none⟩ = some (.slice An nn cn))) (n := 10) (by kernel_rfl) ?_
          have HS := hS.out _ BO.out.drew
          have BOd := Lib.hid BO.out.drew
          have hDd := Lib.hid (hD.out.keep (Keeps.refl [] _).drew)
          have hkd : Hid (Keeps [] w wo.drew) := Lib.hid hko.out.drew
          have HA := Lib.hid (add_log b _ X F1 g1 L S ⟨t, id, Ao, no, co, An, nn, cn⟩ oc hDd.out.a (hrr.out _ [] hkd.out (by simp)) hs.out hwf.out (by omega) hDd.out.a.bs)
          generalize wo.drew = wc at *
          refine wpAnyI_takeN (i := 0) (v := ?_) (by kernel_rfl) rfl (by kernel_rfl) (by kernel_rfl) (by kernel_rfl) (fun _ _ _ h => h) HS (Or.inl ⟨by rfl, ?_⟩) ?_
          rotate_left
          · (intro w hSw; obtain ⟨y1, y2, y3, y4⟩ := hSw; go_simp; try with_reducible rfl)
          try simp only [Act.put, List.getElem_toArray, List.getElem_cons_succ, List.getElem_cons_zero, List.setIfInBounds_toArray, List.set_cons_zero, List.set_cons_succ]
          refine wpAnyI_takeN (i := 1) (v := ?_) (by kernel_rfl) rfl (by kernel_rfl) (by kernel_rfl) (by kernel_rfl) (fun _ _ _ h => h) HS (Or.inl ⟨by rfl, ?_⟩) ?_
          rotate_left
          · (intro w hSw; obtain ⟨y1, y2, y3, y4⟩ := hSw; go_simp; try with_reducible rfl)
          try simp only [Act.put, List.getElem_toArray, List.getElem_cons_succ, List.getElem_cons_zero, List.setIfInBounds_toArray, List.set_cons_zero, List.set_cons_succ]
          refine wpAnyI_takeN (i := 2) (v := ?_) (by kernel_rfl) rfl (by kernel_rfl) (by kernel_rfl) (by kernel_rfl) (fun _ _ _ h => h) HS (Or.inl ⟨by rfl, ?_⟩) ?_
          rotate_left
          · (intro w hSw; obtain ⟨y1, y2, y3, y4⟩ := hSw; go_simp; try with_reducible rfl)
          try simp only [Act.put, List.getElem_toArray, List.getElem_cons_succ, List.getElem_cons_zero, List.setIfInBounds_toArray, List.set_cons_zero, List.set_cons_succ]
          refine wpAnyI_takeN (i := 4) (v := ?_) (by kernel_rfl) rfl (by kernel_rfl) (by kernel_rfl) (by kernel_rfl) (fun _ _ _ h => h) HS (Or.inl ⟨by rfl, ?_⟩) ?_
          rotate_left
          · (intro w hSw; obtain ⟨y1, y2, y3, y4⟩ := hSw; go_simp; try with_reducible rfl)
          try simp only [Act.put, List.getElem_toArray, List.getElem_cons_succ, List.getElem_cons_zero, List.setIfInBounds_toArray, List.set_cons_zero, List.set_cons_succ]
          refine wpAnyI_takeN (i := 5) (v := ?_) (by kernel_rfl) rfl (by kernel_rfl) (by kernel_rfl) (by kernel_rfl) (fun _ _ _ h => h) HS (Or.inl ⟨by rfl, ?_⟩) ?_
          rotate_left
          · (intro w hSw; obtain ⟨y1, y2, y3, y4⟩ := hSw; go_simp; try with_reducible rfl)
          try simp only [Act.put, List.getElem_toArray, List.getElem_cons_succ, List.getElem_cons_zero, List.setIfInBounds_toArray, List.set_cons_zero, List.set_cons_succ]
          refine wpAnyI_takeN (i := 6) (v := ?_) (by kernel_rfl) rfl (by kernel_rfl) (by kernel_rfl) (by kernel_rfl) (fun _ _ _ h => h) HS (Or.inl ⟨by rfl, ?_⟩) ?_
          rotate_left
          · (intro w hSw; obtain ⟨y1, y2, y3, y4⟩ := hSw; go_simp; try with_reducible rfl)
          try simp only [Act.put, List.getElem_toArray, List.getElem_cons_succ, List.getElem_cons_zero, List.setIfInBounds_toArray, List.set_cons_zero, List.set_cons_succ]
          refine wpAnyI_one (i := 3) rfl (by kernel_rfl) (fun K hK => ?_)
          dsimp only [List.getElem_toArray, List.getElem_cons_succ, List.getElem_cons_zero]
          go_simp
          refine HA.out.mono ?_
          rintro e wA ⟨FA, rfl, pA, tA⟩
          rw [← hec.out]
          have D2 := Lib.hid (hDd.out.left pA.out tA.out)
          have kA := Lib.hid tA.out.kp
          have hrA : Hid (RawIs wA (FA ++ X) ⟨t, id, Ao, no, co, An, nn, cn⟩ oc) := Lib.hid (hrr2.out wA FA tA.out hkd.out)
          have BOA := Lib.hid (BOd.out.keep kA.out hgo1.out)
          have HS := hS.out _ BOA.out
          have HB := Lib.hid (radd_log b wA _ F2 g2 L S ⟨t, id, Ao, no, co, An, nn, cn⟩ oc D2.out.c hrA.out hs.out hwf.out (by omega))
          refine hK _ _ (Or.inr HS) ?_
          clear hK K HA
          try simp only [Act.put, List.getElem_toArray, List.getElem_cons_succ, List.getElem_cons_zero, List.setIfInBounds_toArray, List.set_cons_zero, List.set_cons_succ]
          refine wpAnyI_one (i := 7) rfl (by kernel_rfl) (fun K hK => ?_)
          dsimp only [List.getElem_toArray, List.getElem_cons_succ, List.getElem_cons_zero]
          go_simp
          refine HB.out.mono ?_
          rintro e wB ⟨FB, rfl, pB, tB⟩
          rw [← hec.out]
          have kB := Lib.hid tB.out.kp
          have D3 : Hid (Duo 64 82 31 99 b wB (FB ++ (FA ++ X)) FA FB g1 g2 Ln Ln S S) := Lib.hid (by
            have := D2.out.right pB.out tB.out
            rw [← hLn.out] at this
            exact this)
          have hnX : Hid (∀ x ∈ FB ++ (FA ++ X), x ∈ X ∨ w.heap.size ≤ x) := Lib.hid (fun x hx => by
            rcases List.mem_append.1 hx with hx | hx
            · rcases tB.out.nw x hx with h1 | h1
              · exact .inl (hX0.out.c.sub x h1)
              · exact .inr (Nat.le_trans (hkd.out.nil.trans kA.out).size h1)
            · rcases List.mem_append.1 hx with hx | hx
              · rcases tA.out.nw x hx with h1 | h1
                · exact .inl (hX0.out.a.sub x h1)
                · exact .inr (Nat.le_trans hkd.out.size h1)
              · exact .inl hx)

          have BOB := Lib.hid (BOA.out.keep kB.out (hgo2.out))
          have HS := hS.out _ BOB.out
          have KF : Hid (Keeps (F1 ++ F2) w wB) := Lib.hid ((hkd.out.nil.trans (kA.out.mono (fun y hy => .inl (List.mem_append_left _ hy)))).trans (kB.out.mono (fun y hy => .inl (List.mem_append_right _ hy))))
          refine hK _ _ (Or.inr HS) ?_
          clear hK K HB
          try simp only [Act.put, List.getElem_toArray, List.getElem_cons_succ, List.getElem_cons_zero, List.setIfInBounds_toArray, List.set_cons_zero, List.set_cons_succ]
          refine wpAnyI_one (i := 8) rfl (by kernel_rfl) (fun K hK => ?_)
          dsimp only [List.getElem_toArray, List.getElem_cons_succ, List.getElem_cons_zero]
          go_simp
          refine hK _ _ (Or.inr HS) ?_
          clear hK K
          try simp only [Act.put, List.getElem_toArray, List.getElem_cons_succ, List.getElem_cons_zero, List.setIfInBounds_toArray, List.set_cons_zero, List.set_cons_succ]
          refine wpAnyI_one (i := 9) rfl (by kernel_rfl) (fun K hK => ?_)
          dsimp only [List.getElem_toArray, List.getElem_cons_succ, List.getElem_cons_zero]
          go_simp
          refine hK _ _ (Or.inr HS) ?_
          clear hK K
          try simp only [Act.put, List.getElem_toArray, List.getElem_cons_succ, List.getElem_cons_zero, List.setIfInBounds_toArray, List.set_cons_zero, List.set_cons_succ]
          refine wpAnyI_done (by kernel_rfl) ?_ _
          have hfin := Lib.hid (doP_of D3.out KF.out (fun x hx => hnX.out x hx))
          go_wp2_with fail
          go_ret
          exact hfin.out
end Go.Proofs.Ytmclfbhcddcebaa
