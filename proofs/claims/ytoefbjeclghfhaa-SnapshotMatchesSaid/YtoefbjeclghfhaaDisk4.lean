/- The contracts of the reference disk: a torn write; New. -/
import Derived.Test.YtoefbjeclghfhaaDisk3
import Derived.Test.YtoefbjeclghfhaaReg
namespace Go.Proofs.Ytoefbjeclghfhaa
open Go.RowKit
set_option linter.unusedSimpArgs false

theorem sec_splice_part (s : St) (i : Nat) (b : List UInt8) (hb : b.length ≤ 64) (h : i * 64 + 64 ≤ s.mem.length) :
    sec { s with mem := splice s.mem (64 * i) b } i = b ++ (sec s i).drop b.length := by
  simp only [sec, splice]
  rw [Nat.mul_comm 64 i, List.drop_append_of_le_length (by simp; omega), List.drop_take]
  simp only [Nat.sub_self, List.take_zero, List.nil_append]
  rw [List.take_append, List.take_of_length_le hb]
  congr 1
  rw [List.drop_take, List.drop_drop]

theorem sec_splice_off (s : St) (i j : Nat) (b : List UInt8) (hb : b.length ≤ 64) (h : i * 64 + 64 ≤ s.mem.length) (hij : i ≠ j) :
    sec { s with mem := splice s.mem (64 * i) b } j = sec s j := by
  simp only [sec, splice]
  apply List.ext_getElem?
  intro k
  simp only [List.getElem?_take, List.getElem?_drop]
  split
  · rename_i hk
    rcases Nat.lt_or_gt_of_ne hij with hlt | hlt
    · rw [List.getElem?_append_right (by simp; omega), List.getElem?_append_right (by simp; omega), List.getElem?_drop]
      congr 1
      simp
      omega
    · rw [List.getElem?_append_left (by simp; omega), List.getElem?_take, if_pos (by omega)]
  · rfl

set_option maxHeartbeats 800000 in
theorem rwrite_torn {Z : List Nat} (w : World) (bm bS : Nat) (s : St) (i : Nat) (A : Option Addr) (b : List UInt8) (c : Nat) (hM : MRep Z w bm bS s) (hx : chk s i = 0)
   (hB : Bts w A b) (hA : ∀ a, A = some a → a.block ≠ bm) (hb : b.length = 64) (hcap : b.length ≤ c) (hl : s.left = 1) (hZ : ∀ z ∈ Z, z < w.heap.size) :
    Calls Try.prog 38 #[.pointer (some ⟨bm, 0, none⟩), .int .i64 i, .slice A b.length c] w fun e w' => e = .returned (.int .i64 15) ∧ 
      MRep Z w' bm bS (fail { s with mem := splice s.mem (64 * i) (b.take s.bytes.toNat) }) ∧ Keeps [bm, bS] w w' := by
  obtain ⟨hd, hi0, hi1⟩ := chk_zero hx
  obtain ⟨cap, cells, a1, a2, a3, a4, a5⟩ := hM.ex
  have hn := hM.n
  rw [hd] at a1
  have hc := a1.cell
  have hb0 := hM.b0
  have hb1 := hM.b1
  have hbc : s.bytes ≤ (c : Int) := by omega
  obtain ⟨v, hv, hs⟩ := a5 i (by omega)
  obtain ⟨g, cg, rfl, hcg1, hcg2, hBg, hlen, hg, curg, hgb⟩ := hs.bts
  have hcS : w.cell? ⟨bS, i, none⟩ = some (.slice (some ⟨g, 0, none⟩) 64 cg) := by rw [a2.cell, hv]
  have hfS := a2.frozen i
  replace hZ := Lib.hid hZ
  have HM := Lib.hid hM
  have HB := Lib.hid hB
  have HA := Lib.hid hA
  have Hb := Lib.hid hb
  have H5 := Lib.hid a5
  have H1 := Lib.hid a1
  have H2 := Lib.hid a2
  have HBg := Lib.hid hBg
  have Hlen := Lib.hid hlen
  have hsz : i < cells.size := by omega
  have hne12 := a2.ne_ a1 (by decide)
  have hlt1 := a1.lt
  have hlt2 := a2.lt
  have hb2 : ((b.length : Int) != 64) = false := by rw [Hb.out]; rfl
  have hl2 : (s.left == 1) = true := by simpa using hl
  have hk0 : s.bytes ≤ 64 := hb1
  have hk1 : s.bytes ≤ (cg : Int) := by omega
  clear hx hb a5 hM hA hB hl a1 a2 hs hBg hlen hgb hv
  go_enter Try.func38, Try.ntmps38
  go_wp2_with fail
  have hc0 := hc 0
  have hc3 := hc 3
  simp at hc0 hc3
  have hn0 := World.new_ne w ⟨bm, 0, none⟩ hc0
  have hn3 := World.new_ne w ⟨bm, 3, none⟩ hc3
  have hnS := World.new_ne w ⟨bS, i, none⟩ hcS
  have hlt : (b.take s.bytes.toNat).length = s.bytes.toNat := by rw [List.length_take, Hb.out]; omega
  refine wp_region_I (S := (fun w' => w'.cell? ⟨bm, 0, none⟩ = some (.slice (some ⟨bS, 0, none⟩) s.n cap) ∧ w'.cell? ⟨bm, 3, none⟩ = some (.int .i64 s.bytes) ∧ w'.cell? ⟨bS, i, none⟩ = some (.slice (some ⟨g, 0, none⟩) 64 cg))) (n := 27) (by kernel_rfl) ?_
  have HS := (⟨hc0, hc3, hcS⟩ : w.drew.cell? _ = _ ∧ w.drew.cell? _ = _ ∧ w.drew.cell? _ = _)
  refine wpAnyI_take (i := 0) (v := ?_) (by kernel_rfl) rfl (by kernel_rfl) (by kernel_rfl) (by kernel_rfl) (fun _ _ _ h => h) HS (Or.inl ⟨by rfl, ?_⟩) ?_
  rotate_left
  · (intro w hSw; obtain ⟨q1, q2, q3⟩ := hSw; go_simp; try with_reducible rfl)
  try simp only [Act.put, List.getElem_toArray, List.getElem_cons_succ, List.getElem_cons_zero, List.setIfInBounds_toArray, List.set_cons_zero, List.set_cons_succ]
  refine wpAnyI_take (i := 1) (v := ?_) (by kernel_rfl) rfl (by kernel_rfl) (by kernel_rfl) (by kernel_rfl) (fun _ _ _ h => h) HS (Or.inl ⟨by rfl, ?_⟩) ?_
  rotate_left
  · (intro w hSw; obtain ⟨q1, q2, q3⟩ := hSw; go_simp; try with_reducible rfl)
  try simp only [Act.put, List.getElem_toArray, List.getElem_cons_succ, List.getElem_cons_zero, List.setIfInBounds_toArray, List.set_cons_zero, List.set_cons_succ]
  refine wpAnyI_take (i := 2) (v := ?_) (by kernel_rfl) rfl (by kernel_rfl) (by kernel_rfl) (by kernel_rfl) (fun _ _ _ h => h) HS (Or.inl ⟨by rfl, ?_⟩) ?_
  rotate_left
  · (intro w hSw; obtain ⟨q1, q2, q3⟩ := hSw; go_simp; try with_reducible rfl)
  try simp only [Act.put, List.getElem_toArray, List.getElem_cons_succ, List.getElem_cons_zero, List.setIfInBounds_toArray, List.set_cons_zero, List.set_cons_succ]
  refine wpAnyI_take (i := 3) (v := ?_) (by kernel_rfl) rfl (by kernel_rfl) (by kernel_rfl) (by kernel_rfl) (fun _ _ _ h => h) HS (Or.inl ⟨by rfl, ?_⟩) ?_
  rotate_left
  · (intro w hSw; obtain ⟨q1, q2, q3⟩ := hSw; go_simp; try with_reducible rfl)
  try simp only [Act.put, List.getElem_toArray, List.getElem_cons_succ, List.getElem_cons_zero, List.setIfInBounds_toArray, List.set_cons_zero, List.set_cons_succ]
  refine wpAnyI_take (i := 4) (v := ?_) (by kernel_rfl) rfl (by kernel_rfl) (by kernel_rfl) (by kernel_rfl) (fun _ _ _ h => h) HS (Or.inl ⟨by rfl, ?_⟩) ?_
  rotate_left
  · (intro w hSw; obtain ⟨q1, q2, q3⟩ := hSw; go_simp; try with_reducible rfl)
  try simp only [Act.put, List.getElem_toArray, List.getElem_cons_succ, List.getElem_cons_zero, List.setIfInBounds_toArray, List.set_cons_zero, List.set_cons_succ]
  refine wpAnyI_take (i := 6) (v := ?_) (by kernel_rfl) rfl (by kernel_rfl) (by kernel_rfl) (by kernel_rfl) (fun _ _ _ h => h) HS (Or.inl ⟨by rfl, ?_⟩) ?_
  rotate_left
  · (intro w hSw; obtain ⟨q1, q2, q3⟩ := hSw; go_simp; try with_reducible rfl)
  try simp only [Act.put, List.getElem_toArray, List.getElem_cons_succ, List.getElem_cons_zero, List.setIfInBounds_toArray, List.set_cons_zero, List.set_cons_succ]
  refine wpAnyI_take (i := 7) (v := ?_) (by kernel_rfl) rfl (by kernel_rfl) (by kernel_rfl) (by kernel_rfl) (fun _ _ _ h => h) HS (Or.inl ⟨by rfl, ?_⟩) ?_
  rotate_left
  · (intro w hSw; obtain ⟨q1, q2, q3⟩ := hSw; go_simp; try with_reducible rfl)
  try simp only [Act.put, List.getElem_toArray, List.getElem_cons_succ, List.getElem_cons_zero, List.setIfInBounds_toArray, List.set_cons_zero, List.set_cons_succ]
  refine wpAnyI_take (i := 8) (v := ?_) (by kernel_rfl) rfl (by kernel_rfl) (by kernel_rfl) (by kernel_rfl) (fun _ _ _ h => h) HS (Or.inl ⟨by rfl, ?_⟩) ?_
  rotate_left
  · (intro w hSw; obtain ⟨q1, q2, q3⟩ := hSw; go_simp; try with_reducible rfl)
  try simp only [Act.put, List.getElem_toArray, List.getElem_cons_succ, List.getElem_cons_zero, List.setIfInBounds_toArray, List.set_cons_zero, List.set_cons_succ]
  refine wpAnyI_take (i := 9) (v := ?_) (by kernel_rfl) rfl (by kernel_rfl) (by kernel_rfl) (by kernel_rfl) (fun _ _ _ h => h) HS (Or.inl ⟨by rfl, ?_⟩) ?_
  rotate_left
  · (intro w hSw; obtain ⟨q1, q2, q3⟩ := hSw; go_simp; try with_reducible rfl)
  try simp only [Act.put, List.getElem_toArray, List.getElem_cons_succ, List.getElem_cons_zero, List.setIfInBounds_toArray, List.set_cons_zero, List.set_cons_succ]
  refine wpAnyI_take (i := 10) (v := ?_) (by kernel_rfl) rfl (by kernel_rfl) (by kernel_rfl) (by kernel_rfl) (fun _ _ _ h => h) HS (Or.inl ⟨by rfl, ?_⟩) ?_
  rotate_left
  · (intro w hSw; obtain ⟨q1, q2, q3⟩ := hSw; go_simp; try with_reducible rfl)
  try simp only [Act.put, List.getElem_toArray, List.getElem_cons_succ, List.getElem_cons_zero, List.setIfInBounds_toArray, List.set_cons_zero, List.set_cons_succ]
  refine wpAnyI_take (i := 11) (v := ?_) (by kernel_rfl) rfl (by kernel_rfl) (by kernel_rfl) (by kernel_rfl) (fun _ _ _ h => h) HS (Or.inl ⟨by rfl, ?_⟩) ?_
  rotate_left
  · (intro w hSw; obtain ⟨q1, q2, q3⟩ := hSw; go_simp; try with_reducible rfl)
  try simp only [Act.put, List.getElem_toArray, List.getElem_cons_succ, List.getElem_cons_zero, List.setIfInBounds_toArray, List.set_cons_zero, List.set_cons_succ]
  refine wpAnyI_take (i := 13) (v := ?_) (by kernel_rfl) rfl (by kernel_rfl) (by kernel_rfl) (by kernel_rfl) (fun _ _ _ h => h) HS (Or.inl ⟨by rfl, ?_⟩) ?_
  rotate_left
  · (intro w hSw; obtain ⟨q1, q2, q3⟩ := hSw; go_simp; try with_reducible rfl)
  try simp only [Act.put, List.getElem_toArray, List.getElem_cons_succ, List.getElem_cons_zero, List.setIfInBounds_toArray, List.set_cons_zero, List.set_cons_succ]
  refine wpAnyI_take (i := 14) (v := ?_) (by kernel_rfl) rfl (by kernel_rfl) (by kernel_rfl) (by kernel_rfl) (fun _ _ _ h => h) HS (Or.inl ⟨by rfl, ?_⟩) ?_
  rotate_left
  · (intro w hSw; obtain ⟨q1, q2, q3⟩ := hSw; go_simp; try with_reducible rfl)
  try simp only [Act.put, List.getElem_toArray, List.getElem_cons_succ, List.getElem_cons_zero, List.setIfInBounds_toArray, List.set_cons_zero, List.set_cons_succ]
  refine wpAnyI_take (i := 15) (v := ?_) (by kernel_rfl) rfl (by kernel_rfl) (by kernel_rfl) (by kernel_rfl) (fun _ _ _ h => h) HS (Or.inl ⟨by rfl, ?_⟩) ?_
  rotate_left
  · (intro w hSw; obtain ⟨q1, q2, q3⟩ := hSw; go_simp; try with_reducible rfl)
  try simp only [Act.put, List.getElem_toArray, List.getElem_cons_succ, List.getElem_cons_zero, List.setIfInBounds_toArray, List.set_cons_zero, List.set_cons_succ]
  refine wpAnyI_take (i := 16) (v := ?_) (by kernel_rfl) rfl (by kernel_rfl) (by kernel_rfl) (by kernel_rfl) (fun _ _ _ h => h) HS (Or.inl ⟨by rfl, ?_⟩) ?_
  rotate_left
  · (intro w hSw; obtain ⟨q1, q2, q3⟩ := hSw; go_simp; try with_reducible rfl)
  try simp only [Act.put, List.getElem_toArray, List.getElem_cons_succ, List.getElem_cons_zero, List.setIfInBounds_toArray, List.set_cons_zero, List.set_cons_succ]
  refine wpAnyI_take (i := 17) (v := ?_) (by kernel_rfl) rfl (by kernel_rfl) (by kernel_rfl) (by kernel_rfl) (fun _ _ _ h => h) HS (Or.inl ⟨by rfl, ?_⟩) ?_
  rotate_left
  · (intro w hSw; obtain ⟨q1, q2, q3⟩ := hSw; go_simp; try with_reducible rfl)
  try simp only [Act.put, List.getElem_toArray, List.getElem_cons_succ, List.getElem_cons_zero, List.setIfInBounds_toArray, List.set_cons_zero, List.set_cons_succ]
  refine wpAnyI_take (i := 18) (v := ?_) (by kernel_rfl) rfl (by kernel_rfl) (by kernel_rfl) (by kernel_rfl) (fun _ _ _ h => h) HS (Or.inl ⟨by rfl, ?_⟩) ?_
  rotate_left
  · (intro w hSw; obtain ⟨q1, q2, q3⟩ := hSw; go_simp; try with_reducible rfl)
  try simp only [Act.put, List.getElem_toArray, List.getElem_cons_succ, List.getElem_cons_zero, List.setIfInBounds_toArray, List.set_cons_zero, List.set_cons_succ]
  refine wpAnyI_take (i := 19) (v := ?_) (by kernel_rfl) rfl (by kernel_rfl) (by kernel_rfl) (by kernel_rfl) (fun _ _ _ h => h) HS (Or.inl ⟨by rfl, ?_⟩) ?_
  rotate_left
  · (intro w hSw; obtain ⟨q1, q2, q3⟩ := hSw; go_simp; try with_reducible rfl)
  try simp only [Act.put, List.getElem_toArray, List.getElem_cons_succ, List.getElem_cons_zero, List.setIfInBounds_toArray, List.set_cons_zero, List.set_cons_succ]
  refine wpAnyI_take (i := 20) (v := ?_) (by kernel_rfl) rfl (by kernel_rfl) (by kernel_rfl) (by kernel_rfl) (fun _ _ _ h => h) HS (Or.inl ⟨by rfl, ?_⟩) ?_
  rotate_left
  · (intro w hSw; obtain ⟨q1, q2, q3⟩ := hSw; go_simp; try with_reducible rfl)
  try simp only [Act.put, List.getElem_toArray, List.getElem_cons_succ, List.getElem_cons_zero, List.setIfInBounds_toArray, List.set_cons_zero, List.set_cons_succ]
  refine wpAnyI_take (i := 21) (v := ?_) (by kernel_rfl) rfl (by kernel_rfl) (by kernel_rfl) (by kernel_rfl) (fun _ _ _ h => h) HS (Or.inl ⟨by rfl, ?_⟩) ?_
  rotate_left
  · (intro w hSw; obtain ⟨q1, q2, q3⟩ := hSw; go_simp; try with_reducible rfl)
  try simp only [Act.put, List.getElem_toArray, List.getElem_cons_succ, List.getElem_cons_zero, List.setIfInBounds_toArray, List.set_cons_zero, List.set_cons_succ]
  refine wpAnyI_take (i := 22) (v := ?_) (by kernel_rfl) rfl (by kernel_rfl) (by kernel_rfl) (by kernel_rfl) (fun _ _ _ h => h) HS (Or.inl ⟨by rfl, ?_⟩) ?_
  rotate_left
  · (intro w hSw; obtain ⟨q1, q2, q3⟩ := hSw; go_simp; try with_reducible rfl)
  try simp only [Act.put, List.getElem_toArray, List.getElem_cons_succ, List.getElem_cons_zero, List.setIfInBounds_toArray, List.set_cons_zero, List.set_cons_succ]
  refine wpAnyI_take (i := 23) (v := ?_) (by kernel_rfl) rfl (by kernel_rfl) (by kernel_rfl) (by kernel_rfl) (fun _ _ _ h => h) HS (Or.inl ⟨by rfl, ?_⟩) ?_
  rotate_left
  · (intro w hSw; obtain ⟨q1, q2, q3⟩ := hSw; go_simp; try with_reducible rfl)
  try simp only [Act.put, List.getElem_toArray, List.getElem_cons_succ, List.getElem_cons_zero, List.setIfInBounds_toArray, List.set_cons_zero, List.set_cons_succ]
  refine wpAnyI_take (i := 24) (v := ?_) (by kernel_rfl) rfl (by kernel_rfl) (by kernel_rfl) (by kernel_rfl) (fun _ _ _ h => h) HS (Or.inl ⟨by rfl, ?_⟩) ?_
  rotate_left
  · (intro w hSw; obtain ⟨q1, q2, q3⟩ := hSw; go_simp; try with_reducible rfl)
  try simp only [Act.put, List.getElem_toArray, List.getElem_cons_succ, List.getElem_cons_zero, List.setIfInBounds_toArray, List.set_cons_zero, List.set_cons_succ]
  refine wpAnyI_one (i := 5) rfl (by kernel_rfl) (fun K hK => ?_)
  dsimp only [List.getElem_toArray, List.getElem_cons_succ, List.getElem_cons_zero]
  go_simp
  have kk0 : Keeps [w.heap.size] w ((w.alloc (.cells #[] 5)).drew) := ((Keeps.refl _ _).alloc _).drew
  have HS := (⟨kk0.cellEq hc0 (by simp; omega), kk0.cellEq hc3 (by simp; omega), kk0.cellEq hcS (by simp; omega)⟩ : _ ∧ _ ∧ _)
  refine hK _ _ (Or.inr HS) ?_
  clear hK K
  try simp only [Act.put, List.getElem_toArray, List.getElem_cons_succ, List.getElem_cons_zero, List.setIfInBounds_toArray, List.set_cons_zero, List.set_cons_succ]
  refine wpAnyI_one (i := 12) rfl (by kernel_rfl) (fun K hK => ?_)
  dsimp only [List.getElem_toArray, List.getElem_cons_succ, List.getElem_cons_zero]
  rw [if_pos (by rfl)]
  refine wp_append_bts (.tmp 37) (.tmp 43) 35 (by rfl) w.heap.size 5 Try.underlying35 (by kernel_rfl) (.slice (some ⟨w.heap.size, 0, none⟩) 0 0) [] (b.take s.bytes.toNat) (by rfl) ((World.ownsRow_made w #[] 0 (Nat.le_refl _) (by simp [maxLen]) (by simp)).drew) A s.bytes.toNat c (by rfl) hlt ((HB.out.take _).keep (X := []) (((Keeps.refl _ _).alloc _).drew) (by simp)) (by rw [hlt]; simp; omega) (by simp) ?_
  intro A1 c1 w2 G1 G2 G3
  have kk1 : Keeps [w.heap.size] w w2 := kk0.trans (Keeps.grown G2.out (by simp [Value.ownBlock]))
  have HS := (⟨kk1.cellEq hc0 (by simp; omega), kk1.cellEq hc3 (by simp; omega), kk1.cellEq hcS (by simp; omega)⟩ : _ ∧ _ ∧ _)
  have own1 : w2.ownsRow w.heap.size 5 1 (.slice A1 s.bytes.toNat c1) (b.take s.bytes.toNat).length ((b.take s.bytes.toNat).map bv) := by
    have := G1.out
    simp only [List.length_nil, Nat.zero_add, List.nil_append] at this
    rw [hlt]; exact this
  replace own1 := Lib.hid own1
  refine hK _ _ (Or.inr HS) ?_
  clear hK K G1 G3
  simp only [List.length_nil, Nat.zero_add]
  try simp only [Act.put, List.getElem_toArray, List.getElem_cons_succ, List.getElem_cons_zero, List.setIfInBounds_toArray, List.set_cons_zero, List.set_cons_succ]
  refine wpAnyI_one (i := 25) rfl (by kernel_rfl) (fun K hK => ?_)
  dsimp only [List.getElem_toArray, List.getElem_cons_succ, List.getElem_cons_zero]
  rw [if_pos (by rfl)]
  refine wp_append_bts (.tmp 44) (.tmp 56) 35 (by rfl) w.heap.size 5 Try.underlying35 (by kernel_rfl) (.slice A1 s.bytes.toNat c1) (b.take s.bytes.toNat) ((sec s i).drop s.bytes.toNat) (by rfl) own1.out _ (64 - s.bytes.toNat) _ (by rfl) (by rw [List.length_drop, Hlen.out]) ((HBg.out.keep kk1 (by intro a ha; cases ha; simp; omega)).cut0 (by rw [Hlen.out]; omega)) (by rw [hlt, List.length_drop, Hlen.out]; omega) kk1.size ?_
  intro A2 c2 w3 G4 G5 G6
  have kk2 : Keeps [] w w3 := by
    have h1 := own1.out
    rw [hlt] at h1
    have h2 := (own_bts h1).2.2.2.2
    have k2 : Keeps (w.heap.size :: (A1.toList.map (·.block))) w2 w3 := Keeps.grown G5.out (by cases A1 <;> simp [Value.ownBlock])
    refine ((kk1.mono (by simp)).trans k2).mono ?_
    intro x hx
    right
    simp only [List.mem_cons, List.mem_map, Option.mem_toList] at hx
    rcases hx with rfl | ⟨a, ha, rfl⟩
    · exact Nat.le_refl _
    · exact (h2 a ha).1
  have HS := (⟨kk2.cellEq hc0 (by simp), kk2.cellEq hc3 (by simp), kk2.cellEq hcS (by simp)⟩ : _ ∧ _ ∧ _)
  have hfS3 := kk2.frozenEq hcS hfS (by simp)
  have own2 := G4.out
  rw [hlt, show s.bytes.toNat + (64 - s.bytes.toNat) = 64 by omega] at own2
  replace own2 := Lib.hid own2
  refine hK _ _ (Or.inr HS) ?_
  clear hK K G4 G5 G6 own1
  try simp only [Act.put, List.getElem_toArray, List.getElem_cons_succ, List.getElem_cons_zero, List.setIfInBounds_toArray, List.set_cons_zero, List.set_cons_succ]
  refine wpAnyI_take (i := 26) (v := ?_) (by kernel_rfl) rfl (by kernel_rfl) (by kernel_rfl) (by kernel_rfl) (fun _ _ _ h => h) HS (Or.inl ⟨by rfl, ?_⟩) ?_
  rotate_left
  · (intro w hSw; obtain ⟨q1, q2, q3⟩ := hSw; go_simp; try with_reducible rfl)
  try simp only [Act.put, List.getElem_toArray, List.getElem_cons_succ, List.getElem_cons_zero, List.setIfInBounds_toArray, List.set_cons_zero, List.set_cons_succ]
  refine wpAnyI_one (i := 27) rfl (by kernel_rfl) (fun K hK => ?_)
  dsimp only [List.getElem_toArray, List.getElem_cons_succ, List.getElem_cons_zero]
  go_simp
  refine hK _ _ (Or.inl rfl) ?_
  clear hK K
  try simp only [Act.put, List.getElem_toArray, List.getElem_cons_succ, List.getElem_cons_zero, List.setIfInBounds_toArray, List.set_cons_zero, List.set_cons_succ]
  refine wpAnyI_done (by kernel_rfl) ?_ _
  obtain ⟨w4, hw4⟩ : ∃ w4, w4 = w3.setCell ⟨bS, i, none⟩ (.slice A2 64 c2) := ⟨_, rfl⟩
  rw [← hw4]
  obtain ⟨gA, hA2, hgA1, hgA2, hslot⟩ := own_slot (Z := Z) own2.out (fun z hz => hZ.out z hz)
  have k4 : Keeps [bS] w w4 := by rw [hw4]; exact (kk2.mono (by simp)).setCell (by simp) _
  have k34 : Keeps [bS] w3 w4 := by rw [hw4]; exact (Keeps.refl _ _).setCell (by simp) _
  have b1 := H1.out.keep k4 (by simp; omega)
  have b2 : Blk w4 bS 35 (cells.setIfInBounds i (.slice A2 64 c2)) := by rw [hw4]; exact (H2.out.keep kk2 (by simp)).set_ i _
  have hs4 := hslot.keep k34 (fun g' cur hg' _ => by simpa using hg'.ne_ (H2.out.keep kk2 (by simp)) (by decide))
  have hmem : i * 64 + 64 ≤ s.mem.length := by have := HM.out.len; omega
  have hM4 : MRep Z w4 bm bS { s with mem := splice s.mem (64 * i) (b.take s.bytes.toNat) } := by
    refine ⟨⟨cap, _, ?_, b2, a3, by simpa using a4, fun j hj => ?_⟩, ?_, HM.out.n, HM.out.b0, HM.out.b1, HM.out.l0, HM.out.l1⟩
    · simp only [hd]; exact b1
    · rw [Array.getElem?_setIfInBounds]
      by_cases hij : i = j
      · subst hij
        rw [if_pos rfl, if_pos hsz]
        refine ⟨_, rfl, ?_⟩
        rw [sec_splice_part s i _ (by omega) hmem, hlt]
        exact hs4
      · rw [if_neg hij]
        obtain ⟨v, e, hs⟩ := H5.out j hj
        refine ⟨v, e, ?_⟩
        rw [sec_splice_off s i j _ (by omega) hmem hij]
        exact hs.keep k4 (fun g' cur hg' _ => by simpa using hg'.ne_ H2.out (by decide))
    · show (splice s.mem (64 * i) (b.take s.bytes.toNat)).length = _
      rw [length_splice _ _ _ (by rw [hlt]; omega)]
      exact HM.out.len
  have HF := Lib.hid (rfail_any w4 bm bS _ hM4)
  replace k4 := Lib.hid k4
  clear hw4 hslot k34 b1 b2 hs4 hM4 kk1 kk0 kk2 own2 hc0 hc3 hcS hfS3 hn0 hn3 hnS hc HS hlt hA2
  go_wp2_with (first 
      | (go_at_call 36; refine HF.out.mono ?_; rintro e w' ⟨rfl, hD', hk'⟩; replace hD' := Lib.hid hD'; replace hk' := Lib.hid hk'))
  all_goals
    go_ret
    exact ⟨rfl, hD'.out, (k4.out.mono (by simp)).trans (hk'.out.mono (by simp))⟩
end Go.Proofs.Ytoefbjeclghfhaa
