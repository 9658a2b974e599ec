/- The contract of the reference's New. -/
import Derived.Test.YtoefbjeclghfhaaDisk4
namespace Go.Proofs.Ytoefbjeclghfhaa
open Go.RowKit
set_option linter.unusedSimpArgs false

/-- What holds at the loop's head in New: k slots of zeros. -/
def NewInv (w wr : World) (bm k : Nat) : Prop :=
  ∃ SA cap vs, Blk wr bm 81 #[.slice SA k cap, .bool false, .int .i64 0, .int .i64 0, .int .i64 0] ∧ wr.ownsRow w.heap.size 35 1 (.slice SA k cap) k vs ∧ (∀ j, j < k → ∃ v, vs[j]? = some v ∧ Slot [] wr v (List.replicate 64 0)) ∧
    Keeps [] w wr ∧ w.heap.size ≤ bm

set_option maxHeartbeats 800000 in
theorem rnew_ok (w : World) (n : Nat) (h1 : 1 ≤ n) (h2 : n ≤ 65536) :
    Calls Try.prog 25 #[.int .i64 n] w fun e w' => ∃ bm bS, e = .returned (.tuple #[.pointer (some ⟨bm, 0, none⟩), .bool true]) ∧ MRep [] w' bm bS (st0 n) ∧ w.heap.size ≤ bm ∧ w.heap.size ≤ bS ∧ Keeps [] w w' := by
  go_enter Try.func25, Try.ntmps25
  go_wp2
  go_loopw [5] (fun i wr => ∃ k : Nat, k ≤ n ∧ i = .int .i64 k ∧ NewInv w wr w.heap.size k) (fun i _ => n - (intOf i).toNat)
  case atStart => exact ⟨0, Nat.zero_le _, rfl, none, 0, [], Blk.new _ _ _, World.ownsRow_nil _ _ _ _, fun j hj => absurd hj (Nat.not_lt_zero _), (Keeps.refl _ _).alloc _, Nat.le_refl _⟩
  case round =>
    obtain ⟨k, hk, rfl, hinv⟩ := hrel
    by_cases hlt : k < n
    · obtain ⟨SA, cap, vs, b1, o1, hs, kw, hb⟩ := hinv
      have hc0 := b1.cell 0
      simp at hc0
      have hf0 := b1.frozen 0
      obtain ⟨i0, hi, hz0, hz1, hz2⟩ := info_parts (P := Try.prog) (e := 35) (z := .slice none 0 0) (size := 1) (bytes := 24) (by kernel_rfl)
      replace b1 := Lib.hid b1
      replace hs := Lib.hid hs
      go_wp2
      refine wp_region_I (S := (fun w' => w'.cell? ⟨w.heap.size, 0, none⟩ = some (.slice SA k cap))) (n := 10) (by kernel_rfl) ?_
      have HS : wr.drew.cell? ⟨w.heap.size, 0, none⟩ = some (.slice SA k cap) := hc0
      refine wpAnyI_take (i := 0) (v := ?_) (by kernel_rfl) rfl (by kernel_rfl) (by kernel_rfl) (by kernel_rfl) (fun _ _ _ h => h) HS (Or.inl ⟨by rfl, ?_⟩) ?_
      rotate_left
      · (intro w hSw; obtain q1 := hSw; go_simp; try with_reducible rfl)
      try simp only [Act.put, List.getElem_toArray, List.getElem_cons_succ, List.getElem_cons_zero, List.setIfInBounds_toArray, List.set_cons_zero, List.set_cons_succ]
      refine wpAnyI_take (i := 1) (v := ?_) (by kernel_rfl) rfl (by kernel_rfl) (by kernel_rfl) (by kernel_rfl) (fun _ _ _ h => h) HS (Or.inl ⟨by rfl, ?_⟩) ?_
      rotate_left
      · (intro w hSw; obtain q1 := hSw; go_simp; try with_reducible rfl)
      try simp only [Act.put, List.getElem_toArray, List.getElem_cons_succ, List.getElem_cons_zero, List.setIfInBounds_toArray, List.set_cons_zero, List.set_cons_succ]
      refine wpAnyI_take (i := 2) (v := ?_) (by kernel_rfl) rfl (by kernel_rfl) (by kernel_rfl) (by kernel_rfl) (fun _ _ _ h => h) HS (Or.inl ⟨by rfl, ?_⟩) ?_
      rotate_left
      · (intro w hSw; obtain q1 := hSw; go_simp; try with_reducible rfl)
      try simp only [Act.put, List.getElem_toArray, List.getElem_cons_succ, List.getElem_cons_zero, List.setIfInBounds_toArray, List.set_cons_zero, List.set_cons_succ]
      refine wpAnyI_take (i := 3) (v := ?_) (by kernel_rfl) rfl (by kernel_rfl) (by kernel_rfl) (by kernel_rfl) (fun _ _ _ h => h) HS (Or.inl ⟨by rfl, ?_⟩) ?_
      rotate_left
      · (intro w hSw; obtain q1 := hSw; go_simp; try with_reducible rfl)
      try simp only [Act.put, List.getElem_toArray, List.getElem_cons_succ, List.getElem_cons_zero, List.setIfInBounds_toArray, List.set_cons_zero, List.set_cons_succ]
      refine wpAnyI_take (i := 4) (v := ?_) (by kernel_rfl) rfl (by kernel_rfl) (by kernel_rfl) (by kernel_rfl) (fun _ _ _ h => h) HS (Or.inl ⟨by rfl, ?_⟩) ?_
      rotate_left
      · (intro w hSw; obtain q1 := hSw; go_simp; try with_reducible rfl)
      try simp only [Act.put, List.getElem_toArray, List.getElem_cons_succ, List.getElem_cons_zero, List.setIfInBounds_toArray, List.set_cons_zero, List.set_cons_succ]
      refine wpAnyI_one (i := 5) rfl (by kernel_rfl) (fun K hK => ?_)
      dsimp only [List.getElem_toArray, List.getElem_cons_succ, List.getElem_cons_zero]
      rw [if_pos (by rfl)]
      refine wp_make 35 (.const (.int .i64 64)) (.const (.int .i64 64)) rfl 5 (.int .u8 0) 1 1 Try.underlying35 (by kernel_rfl) .i64 .i64 64 64 rfl rfl (by omega) (by omega) (by omega) ?_
      intro w1 m1 k1 s1
      have k1 : Keeps [] wr w1 := (Keeps.refl [] wr).drew.trans k1
      have HS := k1.cellEq hc0 (by simp)
      refine hK _ _ (Or.inr HS) ?_
      clear hK K
      try simp only [Act.put, List.getElem_toArray, List.getElem_cons_succ, List.getElem_cons_zero, List.setIfInBounds_toArray, List.set_cons_zero, List.set_cons_succ]
      refine wpAnyI_one (i := 6) rfl (by kernel_rfl) (fun K hK => ?_)
      dsimp only [List.getElem_toArray, List.getElem_cons_succ, List.getElem_cons_zero]
      go_simp
      have k2 : Keeps [] wr (w1.alloc (.cells #[.slice (some ⟨wr.heap.size, 0, none⟩) 64 64] 35)) := k1.alloc _
      have HS := k2.cellEq hc0 (by simp)
      refine hK _ _ (Or.inr HS) ?_
      clear hK K
      try simp only [Act.put, List.getElem_toArray, List.getElem_cons_succ, List.getElem_cons_zero, List.setIfInBounds_toArray, List.set_cons_zero, List.set_cons_succ]
      refine wpAnyI_one (i := 7) rfl (by kernel_rfl) (fun K hK => ?_)
      dsimp only [List.getElem_toArray, List.getElem_cons_succ, List.getElem_cons_zero]
      rw [if_pos (by rfl)]
      refine wp_append_lies _ (.tmp 23) (.tmp 25) 79 (by rfl) w.heap.size 35 i0 (.slice none 0 0) 1 24 Try.underlying79 hi hz0 hz1 hz2 rfl (by decide) (.slice SA k cap) k vs (by rfl) ((own_keep o1 k1 (by simp)).alloc _)
        ⟨w1.heap.size, 0, none⟩ 1 1 [.slice (some ⟨wr.heap.size, 0, none⟩) 64 64] (by rfl) (by rfl) (World.news_of_block (cs := #[.slice (some ⟨wr.heap.size, 0, none⟩) 64 64]) (t := 35) (fr := (0, 0)) (heap_alloc_new w1 _)) (by simp [Value.oneCell']) (by decide) (by unfold maxLen; omega) (by omega) (by simp; have := kw.size; have := k1.size; omega) _ rfl ?_
      intro g capg w2 G1 G2 G3 G4
      have hX : ∀ x ∈ (Value.slice SA k cap).ownBlock.toList, w.heap.size ≤ x ∧ ∃ cur, Blk wr x 35 cur := fun x hx => own_blk o1 (by simpa using hx)
      have k3' : Keeps (Value.slice SA k cap).ownBlock.toList (w1.alloc (.cells #[.slice (some ⟨wr.heap.size, 0, none⟩) 64 64] 35)) w2 := Keeps.grown G2 (by intro x hx; simpa using hx)
      have k3 : Keeps (Value.slice SA k cap).ownBlock.toList wr w2 := k2.nil.trans k3'
      have hbx : w.heap.size ∉ (Value.slice SA k cap).ownBlock.toList := fun hx => by
        obtain ⟨_, cur, hcur⟩ := hX _ hx
        exact hcur.ne_ b1.out (by decide) rfl
      have HS := k3.cellEq hc0 hbx
      have hf3 := k3.frozenEq hc0 hf0 hbx
      have hgb : g ≠ w.heap.size := by
        obtain ⟨_, cur, hcur⟩ := own_blk G1 (g := g) rfl
        exact hcur.ne_ (b1.out.keep k3 hbx) (by decide)
      have hz5 : madeCells #[.int .u8 0] 64 = (List.replicate 64 (bv 0)).toArray := madeCells_same 1 64 (bv 0) (by decide)
      have m3 : Blk w2 wr.heap.size 5 (List.replicate 64 (bv 0)).toArray := by
        have := (m1.out.alloc (.cells #[.slice (some ⟨wr.heap.size, 0, none⟩) 64 64] 35)).keep k3' (fun hx => by
          obtain ⟨_, cur, hcur⟩ := hX _ hx
          have := hcur.lt
          simp at this)
        rw [← hz5]; exact this
      replace k3 := Lib.hid k3
      replace m3 := Lib.hid m3
      replace hX := Lib.hid hX
      replace G1 := Lib.hid G1
      replace hgb := Lib.hid hgb
      replace hbx := Lib.hid hbx
      refine hK _ _ (Or.inr HS) ?_
      clear hK K G2 G3 G4 hz5 k3' m1
      try simp only [Act.put, List.getElem_toArray, List.getElem_cons_succ, List.getElem_cons_zero, List.setIfInBounds_toArray, List.set_cons_zero, List.set_cons_succ]
      refine wpAnyI_one (i := 8) rfl (by kernel_rfl) (fun K hK => ?_)
      dsimp only [List.getElem_toArray, List.getElem_cons_succ, List.getElem_cons_zero]
      go_simp
      refine hK _ _ (Or.inr HS) ?_
      clear hK K
      try simp only [Act.put, List.getElem_toArray, List.getElem_cons_succ, List.getElem_cons_zero, List.setIfInBounds_toArray, List.set_cons_zero, List.set_cons_succ]
      refine wpAnyI_take (i := 9) (v := ?_) (by kernel_rfl) rfl (by kernel_rfl) (by kernel_rfl) (by kernel_rfl) (fun _ _ _ h => h) HS (Or.inl ⟨by rfl, ?_⟩) ?_
      rotate_left
      · (intro w hSw; obtain q1 := hSw; go_simp; try with_reducible rfl)
      try simp only [Act.put, List.getElem_toArray, List.getElem_cons_succ, List.getElem_cons_zero, List.setIfInBounds_toArray, List.set_cons_zero, List.set_cons_succ]
      refine wpAnyI_one (i := 10) rfl (by kernel_rfl) (fun K hK => ?_)
      dsimp only [List.getElem_toArray, List.getElem_cons_succ, List.getElem_cons_zero]
      go_simp
      refine hK _ _ (Or.inl rfl) ?_
      clear hK K
      try simp only [Act.put, List.getElem_toArray, List.getElem_cons_succ, List.getElem_cons_zero, List.setIfInBounds_toArray, List.set_cons_zero, List.set_cons_succ]
      refine wpAnyI_done (by kernel_rfl) ?_ _
      go_wp2
      obtain ⟨w3, hw3⟩ : ∃ w3, w3 = w2.setCell ⟨w.heap.size, 0, none⟩ (.slice (some ⟨g, 0, none⟩) (k + 1) capg) := ⟨_, rfl⟩
      rw [← hw3]
      go_roundw
      case rel =>
        refine ⟨k + 1, by omega, by go_num, some ⟨g, 0, none⟩, capg, vs ++ [.slice (some ⟨wr.heap.size, 0, none⟩) 64 64], ?_, ?_, ?_, ?_, Nat.le_refl _⟩
        · rw [hw3]; exact (b1.out.keep k3.out hbx.out).set_ 0 _
        · refine own_keep (X := [w.heap.size]) G1.out (by rw [hw3]; exact (Keeps.refl _ _).setCell (by simp) _) (fun x hx => ?_)
          simp [Value.ownBlock] at hx
          subst hx
          simpa using hgb.out
        · have k23 : Keeps [w.heap.size] w2 w3 := by rw [hw3]; exact (Keeps.refl _ _).setCell (by simp) _
          have b2 := b1.out.keep k3.out hbx.out
          intro j hj
          have hvl : vs.length = k := by have := o1.1; simpa using this
          by_cases hjk : j < k
          · obtain ⟨v, hv, hs'⟩ := hs.out j hjk
            refine ⟨v, by rw [List.getElem?_append_left (by omega)]; exact hv, ?_⟩
            have := hs'.keep k3.out (fun g' cur hg' _ hx => by obtain ⟨_, cur2, hc2⟩ := hX.out _ hx; exact hg'.ne_ hc2 (by decide) rfl)
            exact this.keep k23 (fun g' cur hg' _ => by simpa using hg'.ne_ b2 (by decide))
          · obtain rfl : j = k := by omega
            refine ⟨_, by rw [List.getElem?_append_right (by omega), hvl, Nat.sub_self]; rfl, ?_⟩
            have hs3 : Slot [] w2 (.slice (some ⟨wr.heap.size, 0, none⟩) 64 64) (List.replicate 64 0) :=
              ⟨_, _, _, rfl, by omega, by simp [maxLen], m3.out, by simp, by simp, by simp⟩
            exact hs3.keep k23 (fun g' cur hg' _ => by simpa using hg'.ne_ b2 (by decide))
        · have h1 : Keeps (Value.slice SA k cap).ownBlock.toList w w2 := kw.nil.trans k3.out
          have h2 : Keeps [] w w2 := h1.mono (fun x hx => .inr (hX.out x hx).1)
          rw [hw3]
          exact ((h2.mono (Y := [w.heap.size]) (by simp)).setCell (by simp) _).mono (by simp)
      case measure => simp [intOf]; omega
    · obtain rfl : k = n := by omega
      obtain ⟨SA, cap, vs, b1, o1, hs, kw, hb⟩ := hinv
      replace b1 := Lib.hid b1
      replace hs := Lib.hid hs
      replace o1 := Lib.hid o1
      replace kw := Lib.hid kw
      go_wp2
      go_ret2
      have hvl : vs.length = k := by have := o1.out.1; simpa using this
      rcases o1.out.2 with ⟨_, h0⟩ | ⟨g, cap', cur, hv, hg1, hg2, hg3, hg4, hg5, hg6⟩
      · omega
      · injection hv with hA _ hcap
        subst hA hcap
        refine ⟨_, g, rfl, ⟨⟨cap, cur, b1.out, hg2, hg3, by rw [hg5]; show k ≤ cap * 1; omega, fun i hi => ?_⟩, by simp [st0], h2, by simp [st0], by simp [st0], by simp [st0], by simp [st0]⟩, Nat.le_refl _, hg1, kw.out⟩
        obtain ⟨v, hv, hs'⟩ := hs.out i hi
        refine ⟨v, ?_, ?_⟩
        · rw [← hg6, List.getElem?_take, if_pos (by show i < k * 1; have : i < k := hi; omega)] at hv
          simpa using hv
        · have e : sec (st0 k) i = List.replicate 64 0 := by
            have hi' : i < k := hi
            simp only [sec, st0, List.drop_replicate, List.take_replicate]
            congr 1
            omega
          rw [e]; exact hs'

end Go.Proofs.Ytoefbjeclghfhaa
