/- The contracts of the reference disk. -/
import Derived.Test.YtoefbjeclghfhaaDisk2
namespace Go.Proofs.Ytoefbjeclghfhaa
open Go.RowKit
set_option linter.unusedSimpArgs false

/-- A slot of the reference's list: 64 bytes in a block of their own. -/
def Slot (Z : List Nat) (w : World) (v : Value) (l : List UInt8) : Prop :=
  ∃ g c cur, v = .slice (some ⟨g, 0, none⟩) 64 c ∧ 64 ≤ c ∧ c ≤ maxLen ∧ Blk w g 5 cur ∧ cur.toList.take 64 = l.map bv ∧ l.length = 64 ∧ g ∉ Z

theorem Slot.keep {Z : List Nat} {w w' : World} {v : Value} {l : List UInt8} {X : List Nat} (h : Slot Z w v l) (hk : Keeps X w w') (hX : ∀ g cur, Blk w g 5 cur → g ∉ Z → g ∉ X) : Slot Z w' v l := by
  obtain ⟨g, c, cur, rfl, h1, h2, h3, h4, h5⟩ := h
  exact ⟨g, c, cur, rfl, h1, h2, h3.keep hk (hX g cur h3 h5.2), h4, h5⟩

/-- The reference at block bm, its list in block bS. -/
structure MRep (Z : List Nat) (w : World) (bm bS : Nat) (s : St) : Prop where
  ex : ∃ cap cells, Blk w bm 81 #[.slice (some ⟨bS, 0, none⟩) s.n cap, .bool s.down, .int .i64 s.left, .int .i64 s.bytes, .int .i64 s.writes] ∧ Blk w bS 35 cells ∧ s.n ≤ cap ∧ s.n ≤ cells.size ∧
    ∀ i, i < s.n → ∃ v, cells[i]? = some v ∧ Slot Z w v (sec s i)
  len : s.mem.length = 64 * s.n
  n : s.n ≤ 65536
  b0 : 0 ≤ s.bytes
  b1 : s.bytes ≤ 64
  l0 : 0 ≤ s.left
  l1 : s.left ≤ 9223372036854775807

theorem MRep.keep {Z : List Nat} {w w' : World} {bm bS : Nat} {s : St} {X : List Nat} (h : MRep Z w bm bS s) (hk : Keeps X w w') (h1 : bm ∉ X) (h2 : bS ∉ X) (hX : ∀ g cur, Blk w g 5 cur → g ∉ Z → g ∉ X) : MRep Z w' bm bS s := by
  obtain ⟨⟨cap, cells, a1, a2, a3, a4, a5⟩, r1, r2, r3, r4, r5, r6⟩ := h
  refine ⟨⟨cap, cells, a1.keep hk h1, a2.keep hk h2, a3, a4, fun i hi => ?_⟩, r1, r2, r3, r4, r5, r6⟩
  obtain ⟨v, e, hs⟩ := a5 i hi
  exact ⟨v, e, hs.keep hk hX⟩

set_option maxHeartbeats 400000 in
theorem rfail_any {Z : List Nat} (w : World) (bm bS : Nat) (s : St) (hM : MRep Z w bm bS s) :
    Calls Try.prog 36 #[.pointer (some ⟨bm, 0, none⟩)] w fun e w' => e = .returned (.tuple #[]) ∧ MRep Z w' bm bS (fail s) ∧ Keeps [bm] w w' := by
  obtain ⟨cap, cells, a1, a2, a3, a4, a5⟩ := hM.ex
  have hc := a1.cell
  have hf := a1.frozen
  have HK := fun (X : List Nat) w' => @Slot.keep Z w w' 
  replace a5 := Lib.hid a5
  go_enter Try.func36, Try.ntmps36
  go_wp2
  go_end0
  have hk : Keeps [bm] w ((w.setCell ⟨bm, 1, none⟩ (.bool true)).setCell ⟨bm, 2, none⟩ (.int .i64 0)) := ((Keeps.refl _ _).setCell (by simp) _).setCell (by simp) _
  refine ⟨rfl, ⟨⟨cap, cells, (a1.set_ 1 _).set_ 2 _, a2.keep hk (by simpa using a2.ne_ a1 (by decide)), a3, a4, fun i hi => ?_⟩, hM.len, hM.n, hM.b0, hM.b1, by simp [fail], by simp [fail]⟩, hk⟩
  obtain ⟨v, e, hs⟩ := a5.out i hi
  exact ⟨v, e, hs.keep hk (fun g cur hg _ => by simpa using hg.ne_ a1 (by decide))⟩

set_option maxHeartbeats 400000 in
theorem rrestart_any {Z : List Nat} (w : World) (bm bS : Nat) (s : St) (hM : MRep Z w bm bS s) :
    Calls Try.prog 37 #[.pointer (some ⟨bm, 0, none⟩)] w fun e w' => e = .returned (.tuple #[]) ∧ MRep Z w' bm bS (restart s) ∧ Keeps [bm] w w' := by
  obtain ⟨cap, cells, a1, a2, a3, a4, a5⟩ := hM.ex
  have hc := a1.cell
  have hf := a1.frozen
  replace a5 := Lib.hid a5
  go_enter Try.func37, Try.ntmps37
  go_wp2
  go_end0
  have hk : Keeps [bm] w (w.setCell ⟨bm, 1, none⟩ (.bool false)) := (Keeps.refl _ _).setCell (by simp) _
  refine ⟨rfl, ⟨⟨cap, cells, a1.set_ 1 _, a2.keep hk (by simpa using a2.ne_ a1 (by decide)), a3, a4, fun i hi => ?_⟩, hM.len, hM.n, hM.b0, hM.b1, hM.l0, hM.l1⟩, hk⟩
  obtain ⟨v, e, hs⟩ := a5.out i hi
  exact ⟨v, e, hs.keep hk (fun g cur hg _ => by simpa using hg.ne_ a1 (by decide))⟩

set_option maxHeartbeats 400000 in
theorem rarm_any {Z : List Nat} (w : World) (bm bS : Nat) (s : St) (k b : Int) (hM : MRep Z w bm bS s) (hk : k ≤ 9223372036854775807) :
    Calls Try.prog 35 #[.pointer (some ⟨bm, 0, none⟩), .int .i64 k, .int .i64 b] w fun e w' => e = .returned (.tuple #[]) ∧ MRep Z w' bm bS (arm s k b) ∧ Keeps [bm] w w' := by
  obtain ⟨cap, cells, a1, a2, a3, a4, a5⟩ := hM.ex
  obtain ⟨n, mem, down, left, bytes, writes⟩ := s
  have hc := a1.cell
  have hf := a1.frozen
  replace a5 := Lib.hid a5
  cases down
  · have hk : ∀ u v, Keeps [bm] w ((w.setCell ⟨bm, 2, none⟩ u).setCell ⟨bm, 3, none⟩ v) := fun u v => ((Keeps.refl _ _).setCell (by simp) _).setCell (by simp) _
    replace hk := Lib.hid hk
    by_cases h1 : 0 < k <;> by_cases h2 : 0 < b <;> by_cases h3 : 64 < b
    all_goals first | omega | skip
    all_goals
      go_enter Try.func35, Try.ntmps35
      go_wp2
      go_end0
      refine ⟨rfl, ⟨⟨cap, cells, ?_, a2.keep (hk.out _ _) (by simpa using a2.ne_ a1 (by decide)), ?_, ?_, fun i hi => ?_⟩, hM.len, hM.n, ?_, ?_, ?_, ?_⟩, hk.out _ _⟩
      · simp only [arm, Bool.false_eq_true, if_false]
        rw [show max k 0 = _ from by first | exact Int.max_eq_left (by omega) | exact Int.max_eq_right (by omega)]
        rw [show min (max b 0) 64 = _ from by first | exact Int.min_eq_right (by omega) | exact (Int.min_eq_left (by omega)).trans (by first | exact Int.max_eq_left (by omega) | exact Int.max_eq_right (by omega))]
        exact (a1.set_ 2 _).set_ 3 _
      · exact a3
      · exact a4
      · obtain ⟨v, e, hs⟩ := a5.out i hi
        exact ⟨v, e, hs.keep (hk.out _ _) (fun g cur hg _ => by simpa using hg.ne_ a1 (by decide))⟩
      all_goals (simp only [arm, Bool.false_eq_true, if_false]; omega)
  · go_enter Try.func35, Try.ntmps35
    go_wp2
    go_end0
    exact ⟨rfl, hM, Keeps.refl _ _⟩

def SliceErr (w : World) (l : List UInt8) (err : Int) (e : Ending) (w' : World) : Prop :=
  ∃ A c, e = .returned (.tuple #[.slice A l.length c, .int .i64 err]) ∧ Bts w' A l ∧ l.length ≤ c ∧ (∀ a, A = some a → w.heap.size ≤ a.block) ∧ Keeps [] w w'

theorem chk_zero {s : St} {i : Int} (h : chk s i = 0) : s.down = false ∧ 0 ≤ i ∧ i < s.n := by
  unfold chk at h
  cases hd : s.down <;> simp [hd] at h
  exact ⟨rfl, by omega, by omega⟩

theorem Slot.bts {Z : List Nat} {w : World} {v : Value} {l : List UInt8} (h : Slot Z w v l) : ∃ g c, v = .slice (some ⟨g, 0, none⟩) 64 c ∧ 64 ≤ c ∧ c ≤ maxLen ∧ Bts w (some ⟨g, 0, none⟩) l ∧ l.length = 64 ∧ g < w.heap.size ∧ ∃ cur, Blk w g 5 cur := by
  obtain ⟨g, c, cur, rfl, h1, h2, h3, h4, h5⟩ := h
  refine ⟨g, c, rfl, h1, h2, .inr ⟨g, 0, rfl, fun j v hj => ?_⟩, h5.1, h3.lt, cur, h3⟩
  rw [h3.cell]
  have hj' : j < 64 := by rw [← h5.1]; exact (List.getElem?_eq_some_iff.1 hj).1
  have : (cur.toList.take 64)[j]? = some (bv v) := by rw [h4]; simp [hj]
  rw [List.getElem?_take, if_pos hj'] at this
  simpa using this

set_option maxHeartbeats 400000 in
theorem rwrite_bad {Z : List Nat} (w : World) (bm bS : Nat) (s : St) (i : Int) (A : Option Addr) (b : List UInt8) (c : Nat) (hM : MRep Z w bm bS s) (hx : chk s i ≠ 0) :
    Calls Try.prog 38 #[.pointer (some ⟨bm, 0, none⟩), .int .i64 i, .slice A b.length c] w fun e w' => e = .returned (.int .i64 (chk s i)) ∧ w = w' := by
  obtain ⟨cap, cells, a1, a2, a3, a4, a5⟩ := hM.ex
  have hn := hM.n
  obtain ⟨n, mem, down, left, bytes, writes⟩ := s
  have hc := a1.cell
  clear a5
  cases down
  · by_cases h1 : i < 0
    · rw [show chk ⟨n, mem, false, left, bytes, writes⟩ i = 1 by simp [chk, h1]]
      go_enter Try.func38, Try.ntmps38
      go_wp2
      go_ret
      exact ⟨rfl, rfl⟩
    · by_cases h2 : (n : Int) ≤ i
      · rw [show chk ⟨n, mem, false, left, bytes, writes⟩ i = 1 by simp [chk, h1, h2]]
        go_enter Try.func38, Try.ntmps38
        go_wp2
        go_ret
        exact ⟨rfl, rfl⟩
      · exact absurd (by simp [chk, h1, h2]) hx
  · rw [show chk ⟨n, mem, true, left, bytes, writes⟩ i = 15 by simp [chk]]
    go_enter Try.func38, Try.ntmps38
    go_wp2
    go_ret
    exact ⟨rfl, rfl⟩

set_option maxHeartbeats 400000 in
theorem rwrite_len {Z : List Nat} (w : World) (bm bS : Nat) (s : St) (i : Nat) (A : Option Addr) (b : List UInt8) (c : Nat) (hM : MRep Z w bm bS s) (hx : chk s i = 0) (hb : b.length ≠ 64) :
    Calls Try.prog 38 #[.pointer (some ⟨bm, 0, none⟩), .int .i64 i, .slice A b.length c] w fun e w' => e = .returned (.int .i64 1) ∧ w = w' := by
  obtain ⟨hd, hi0, hi1⟩ := chk_zero hx
  obtain ⟨cap, cells, a1, a2, a3, a4, a5⟩ := hM.ex
  have hn := hM.n
  rw [hd] at a1
  have hc := a1.cell
  have hb2 : ((b.length : Int) != 64) = true := by rw [bne_iff_ne]; omega
  clear hx hb a5
  go_enter Try.func38, Try.ntmps38
  go_wp2
  go_ret
  exact ⟨rfl, rfl⟩

theorem own_slot {Z : List Nat} {w : World} {base : Nat} {A : Option Addr} {c : Nat} {l : List UInt8} (h : w.ownsRow base 5 1 (.slice A 64 c) 64 (l.map bv)) (hZ : ∀ z ∈ Z, z < base) :
    ∃ g, A = some ⟨g, 0, none⟩ ∧ base ≤ g ∧ g < w.heap.size ∧ Slot Z w (.slice A 64 c) l := by
  have hl : l.length = 64 := by have := h.1; simpa using this
  rcases h.2 with ⟨h1, h2⟩ | ⟨g, cap, cur, hv, hb, hg, hc, hm, hs, ht⟩
  · cases h2
  · injection hv with hA _ hcap
    subst hA hcap
    exact ⟨g, rfl, hb, Blk.lt (cs := cur) (t := 5) hg, g, c, cur, rfl, hc, hm, hg, by simpa using ht, hl, fun hz => by have := hZ g hz; omega⟩

theorem sec_splice_same (s : St) (i : Nat) (b : List UInt8) (d : Bool) (x y : Int) (hb : b.length = 64) (h : i * 64 + 64 ≤ s.mem.length) :
    sec { s with mem := splice s.mem (64 * i) b, down := d, left := x, writes := y } i = b := by
  simp only [sec, splice]
  rw [Nat.mul_comm 64 i, List.drop_append_of_le_length (by simp; omega), List.drop_take]
  simp only [Nat.sub_self, List.take_zero, List.nil_append]
  rw [List.take_append_of_le_length (by omega), List.take_of_length_le (by omega)]

theorem sec_splice_other (s : St) (i j : Nat) (b : List UInt8) (d : Bool) (x y : Int) (hb : b.length = 64) (h : i * 64 + 64 ≤ s.mem.length) (hij : i ≠ j) :
    sec { s with mem := splice s.mem (64 * i) b, down := d, left := x, writes := y } j = sec s j := by
  simp only [sec, splice]
  apply List.ext_getElem?
  intro k
  simp only [List.getElem?_take, List.getElem?_drop]
  split
  · rename_i hk
    rcases Nat.lt_or_gt_of_ne hij with hlt | hlt
    · rw [List.getElem?_append_right (by simp; omega), List.getElem?_append_right (by simp; omega), List.getElem?_drop]
      congr 1
      simp
      omega
    · rw [List.getElem?_append_left (by simp; omega), List.getElem?_take, if_pos (by omega)]
  · rfl

set_option maxHeartbeats 400000 in
theorem rwrite_ok {Z : List Nat} (w : World) (bm bS : Nat) (s : St) (i : Nat) (A : Option Addr) (b : List UInt8) (c : Nat) (hM : MRep Z w bm bS s) (hx : chk s i = 0)
   (hB : Bts w A b) (hA : ∀ a, A = some a → a.block ≠ bm) (hb : b.length = 64) (hl : s.left ≠ 1) (hw0 : 0 ≤ s.writes) (hw : s.writes ≤ 1000000) (hZ : ∀ z ∈ Z, z < w.heap.size) :
    Calls Try.prog 38 #[.pointer (some ⟨bm, 0, none⟩), .int .i64 i, .slice A b.length c] w fun e w' => e = .returned (.int .i64 0) ∧ 
      MRep Z w' bm bS { s with mem := splice s.mem (64 * i) b, left := if 1 < s.left then s.left - 1 else s.left, writes := s.writes + 1 } ∧ Keeps [bm, bS] w w' := by
  obtain ⟨hd, hi0, hi1⟩ := chk_zero hx
  obtain ⟨cap, cells, a1, a2, a3, a4, a5⟩ := hM.ex
  have hn := hM.n
  rw [hd] at a1
  have hc := a1.cell
  have hf := a1.frozen
  have hl0 := hM.l0
  have hl1 := hM.l1
  replace hZ := Lib.hid hZ
  have HM := Lib.hid hM
  have HB := Lib.hid hB
  have HA := Lib.hid hA
  have Hb := Lib.hid hb
  have H5 := Lib.hid a5
  have H1 := Lib.hid a1
  have H2 := Lib.hid a2
  have hb2 : ((b.length : Int) != 64) = false := by rw [Hb.out]; rfl
  have hl2 : (s.left == 1) = false := by simpa using hl
  clear hx hb a5 hM hA hB hl a1 a2
  by_cases h2 : 1 < s.left
  · have h3 : 0 < s.left - 1 := by omega
    go_enter Try.func38, Try.ntmps38
    go_wp2_with fail
    obtain ⟨w1, hw1⟩ : ∃ w1, w1 = w.setCell ⟨bm, 2, none⟩ (.int .i64 (s.left - 1)) := ⟨_, rfl⟩
    rw [← hw1]
    have K1 : Keeps [bm, bS] w w1 := by rw [hw1]; exact (Keeps.refl _ _).setCell (by simp) _
    have B1 : Blk w1 bm 81 #[.slice (some ⟨bS, 0, none⟩) s.n cap, .bool false, .int .i64 (s.left - 1), .int .i64 s.bytes, .int .i64 s.writes] := by rw [hw1]; exact H1.out.set_ 2 _
    have B2 : Blk w1 bS 35 cells := by rw [hw1]; exact H2.out.far (by simpa using H2.out.ne_ H1.out (by decide)) _
    have BB : Bts w1 A b := by rw [hw1]; exact HB.out.keep (X := [bm]) ((Keeps.refl _ _).setCell (by simp) _) (fun a ha => by simpa using HA.out a ha)
    clear hw1 hc hf
    have hne12 := B2.ne_ B1 (by decide)
    have hc := B1.cell 0
    simp at hc
    have hlt1 := B1.lt
    have hlt2 := B2.lt
    have hsz : i < cells.size := by omega
    have hcS := B2.cell i
    rw [Array.getElem?_eq_getElem hsz] at hcS
    have hfS := B2.frozen i
    replace B1 := Lib.hid B1
    replace B2 := Lib.hid B2
    replace BB := Lib.hid BB
    replace K1 := Lib.hid K1
    have hn1 := World.new_ne w1 ⟨bm, 0, none⟩ hc
    have hn2 := World.new_ne w1 ⟨bS, i, none⟩ hcS
    obtain ⟨v0, hv0⟩ : ∃ v0, v0 = cells[i] := ⟨_, rfl⟩
    rw [← hv0] at hcS
    clear hv0
    go_region_held3 (fun w' => w'.cell? ⟨bm, 0, none⟩ = some (.slice (some ⟨bS, 0, none⟩) s.n cap))
      ((refine (fun (kk : Keeps [w1.heap.size, bS] w1 _) => kk.cellEq hc (by simp; omega)) ?_; first | exact (Keeps.refl _ _).drew | exact ((Keeps.refl _ _).alloc _).drew | exact KK.out | exact KK.out.setCell (by simp) _))
      ((refine step_append_bts (by rfl) (.tmp 75) (.tmp 76) 35 (by rfl) w1.heap.size 5 Try.underlying35 (by kernel_rfl) (.slice (some ⟨w1.heap.size, 0, none⟩) 0 0) [] b (by rfl) ((World.ownsRow_made w1 #[] 0 (Nat.le_refl _) (by simp [maxLen]) (by simp)).drew) A b.length c (by rfl) rfl (BB.out.keep (X := []) (((Keeps.refl _ _).alloc _).drew) (by simp)) (by rw [Hb.out]; decide) (by simp) ?_; intro A' c' w2 G1 G2 G3; have kk : Keeps [w1.heap.size] w1 w2 := (((Keeps.refl _ _).alloc _).drew).trans (Keeps.grown G2.out (by simp [Value.ownBlock])); have q1 := kk.cellEq hcS (by simp; omega); have q2 := kk.frozenEq hcS hfS (by simp; omega); have KK := Lib.hid (kk.mono (Y := [w1.heap.size, bS]) (by simp)); replace kk := Lib.hid kk))
    obtain ⟨w3, hw3⟩ : ∃ w3, w3 = w2.setCell ⟨bS, i, none⟩ (.slice A' b.length c') := ⟨_, rfl⟩
    rw [← hw3]
    have g1 := G1.out
    simp only [List.length_nil, Nat.zero_add, List.nil_append, Hb.out] at g1
    rw [Hb.out] at hw3
    obtain ⟨g, rfl, hg1, hg2, hslot⟩ := own_slot (Z := Z) g1 (fun z hz => Nat.lt_of_lt_of_le (hZ.out z hz) K1.out.size)
    have k3 : Keeps [w1.heap.size, bS] w1 w3 := by rw [hw3]; exact KK.out.setCell (by simp) _
    have b1 := B1.out.keep k3 (by simp; omega)
    have b2 : Blk w3 bS 35 (cells.setIfInBounds i (.slice (some ⟨g, 0, none⟩) 64 c')) := by rw [hw3]; exact (B2.out.keep kk.out (by simp; omega)).set_ i _
    have k23 : Keeps [bS] w2 w3 := by rw [hw3]; exact (Keeps.refl _ _).setCell (by simp) _
    have hs3 : Slot Z w3 (.slice (some ⟨g, 0, none⟩) 64 c') b := hslot.keep k23 (fun g' cur hg' _ => by simpa using hg'.ne_ (B2.out.keep kk.out (by simp; omega)) (by decide))
    have hc3 := b1.cell 4
    have hf3 := b1.frozen 4
    simp at hc3
    replace b1 := Lib.hid b1
    replace b2 := Lib.hid b2
    replace hs3 := Lib.hid hs3
    replace k3 := Lib.hid k3
    clear hw3 hslot k23 g1 hc hcS hfS hn1 hn2 G1 G2 G3 q1 q2
    go_wp2
    go_ret
    have kf : Keeps [w1.heap.size, bS, bm] w1 (w3.setCell ⟨bm, 4, none⟩ (.int .i64 (s.writes + 1))) := (k3.out.mono (by simp)).setCell (by simp) _
    have kf3 : Keeps [bm] w3 (w3.setCell ⟨bm, 4, none⟩ (.int .i64 (s.writes + 1))) := (Keeps.refl _ _).setCell (by simp) _
    have hmem : i * 64 + 64 ≤ s.mem.length := by have := HM.out.len; omega
    have bf := b1.out.set_ 4 (.int .i64 (s.writes + 1))
    skip
    refine ⟨rfl, ⟨⟨cap, _, bf, b2.out.keep kf3 (by simpa using hne12), a3, by simpa using a4, fun j hj => ?_⟩, ?_, HM.out.n, HM.out.b0, HM.out.b1, ?_, ?_⟩, K1.out.trans (kf.mono (by intro x hx; simp at hx ⊢; have := K1.out.size; omega))⟩
    · rw [Array.getElem?_setIfInBounds]
      by_cases hij : i = j
      · subst hij
        rw [if_pos rfl, if_pos hsz]
        refine ⟨_, rfl, ?_⟩
        rw [sec_splice_same s i b _ _ _ Hb.out hmem]
        exact hs3.out.keep kf3 (fun g' cur hg' _ => by simpa using hg'.ne_ b1.out (by decide))
      · rw [if_neg hij]
        obtain ⟨v, e, hs⟩ := H5.out j hj
        refine ⟨v, e, ?_⟩
        rw [sec_splice_other s i j b _ _ _ Hb.out hmem hij]
        exact hs.keep (K1.out.trans (kf.mono (Y := [bm, bS]) (by intro x hx; simp at hx ⊢; have := K1.out.size; omega))) (fun g' cur hg' _ => by have := hg'.ne_ H1.out (by decide); have := hg'.ne_ H2.out (by decide); simp; omega)
    · show (splice s.mem (64 * i) b).length = _
      rw [length_splice _ _ _ (by rw [Hb.out]; omega)]
      exact HM.out.len
    · dsimp only; omega
    · dsimp only; omega
  · have h5 : s.left ≠ 1 := by simpa using hl2
    have h3 : s.left = 0 := by omega
    clear h5
    replace h3 := Lib.hid h3
    have h4 : s.left - 1 ≤ 0 := by omega
    go_enter Try.func38, Try.ntmps38
    go_wp2_with fail
    obtain ⟨w1, hw1⟩ : ∃ w1, w1 = w.setCell ⟨bm, 2, none⟩ (.int .i64 0) := ⟨_, rfl⟩
    rw [← hw1]
    have K1 : Keeps [bm, bS] w w1 := by rw [hw1]; exact (Keeps.refl _ _).setCell (by simp) _
    have B1 : Blk w1 bm 81 #[.slice (some ⟨bS, 0, none⟩) s.n cap, .bool false, .int .i64 0, .int .i64 s.bytes, .int .i64 s.writes] := by rw [hw1]; exact H1.out.set_ 2 _
    have B2 : Blk w1 bS 35 cells := by rw [hw1]; exact H2.out.far (by simpa using H2.out.ne_ H1.out (by decide)) _
    have BB : Bts w1 A b := by rw [hw1]; exact HB.out.keep (X := [bm]) ((Keeps.refl _ _).setCell (by simp) _) (fun a ha => by simpa using HA.out a ha)
    clear hw1 hc hf
    have hne12 := B2.ne_ B1 (by decide)
    have hc := B1.cell 0
    simp at hc
    have hlt1 := B1.lt
    have hlt2 := B2.lt
    have hsz : i < cells.size := by omega
    have hcS := B2.cell i
    rw [Array.getElem?_eq_getElem hsz] at hcS
    have hfS := B2.frozen i
    replace B1 := Lib.hid B1
    replace B2 := Lib.hid B2
    replace BB := Lib.hid BB
    replace K1 := Lib.hid K1
    have hn1 := World.new_ne w1 ⟨bm, 0, none⟩ hc
    have hn2 := World.new_ne w1 ⟨bS, i, none⟩ hcS
    obtain ⟨v0, hv0⟩ : ∃ v0, v0 = cells[i] := ⟨_, rfl⟩
    rw [← hv0] at hcS
    clear hv0
    go_region_held3 (fun w' => w'.cell? ⟨bm, 0, none⟩ = some (.slice (some ⟨bS, 0, none⟩) s.n cap))
      ((refine (fun (kk : Keeps [w1.heap.size, bS] w1 _) => kk.cellEq hc (by simp; omega)) ?_; first | exact (Keeps.refl _ _).drew | exact ((Keeps.refl _ _).alloc _).drew | exact KK.out | exact KK.out.setCell (by simp) _))
      ((refine step_append_bts (by rfl) (.tmp 75) (.tmp 76) 35 (by rfl) w1.heap.size 5 Try.underlying35 (by kernel_rfl) (.slice (some ⟨w1.heap.size, 0, none⟩) 0 0) [] b (by rfl) ((World.ownsRow_made w1 #[] 0 (Nat.le_refl _) (by simp [maxLen]) (by simp)).drew) A b.length c (by rfl) rfl (BB.out.keep (X := []) (((Keeps.refl _ _).alloc _).drew) (by simp)) (by rw [Hb.out]; decide) (by simp) ?_; intro A' c' w2 G1 G2 G3; have kk : Keeps [w1.heap.size] w1 w2 := (((Keeps.refl _ _).alloc _).drew).trans (Keeps.grown G2.out (by simp [Value.ownBlock])); have q1 := kk.cellEq hcS (by simp; omega); have q2 := kk.frozenEq hcS hfS (by simp; omega); have KK := Lib.hid (kk.mono (Y := [w1.heap.size, bS]) (by simp)); replace kk := Lib.hid kk))
    obtain ⟨w3, hw3⟩ : ∃ w3, w3 = w2.setCell ⟨bS, i, none⟩ (.slice A' b.length c') := ⟨_, rfl⟩
    rw [← hw3]
    have g1 := G1.out
    simp only [List.length_nil, Nat.zero_add, List.nil_append, Hb.out] at g1
    rw [Hb.out] at hw3
    obtain ⟨g, rfl, hg1, hg2, hslot⟩ := own_slot (Z := Z) g1 (fun z hz => Nat.lt_of_lt_of_le (hZ.out z hz) K1.out.size)
    have k3 : Keeps [w1.heap.size, bS] w1 w3 := by rw [hw3]; exact KK.out.setCell (by simp) _
    have b1 := B1.out.keep k3 (by simp; omega)
    have b2 : Blk w3 bS 35 (cells.setIfInBounds i (.slice (some ⟨g, 0, none⟩) 64 c')) := by rw [hw3]; exact (B2.out.keep kk.out (by simp; omega)).set_ i _
    have k23 : Keeps [bS] w2 w3 := by rw [hw3]; exact (Keeps.refl _ _).setCell (by simp) _
    have hs3 : Slot Z w3 (.slice (some ⟨g, 0, none⟩) 64 c') b := hslot.keep k23 (fun g' cur hg' _ => by simpa using hg'.ne_ (B2.out.keep kk.out (by simp; omega)) (by decide))
    have hc3 := b1.cell 4
    have hf3 := b1.frozen 4
    simp at hc3
    replace b1 := Lib.hid b1
    replace b2 := Lib.hid b2
    replace hs3 := Lib.hid hs3
    replace k3 := Lib.hid k3
    clear hw3 hslot k23 g1 hc hcS hfS hn1 hn2 G1 G2 G3 q1 q2
    go_wp2
    go_ret
    have kf : Keeps [w1.heap.size, bS, bm] w1 (w3.setCell ⟨bm, 4, none⟩ (.int .i64 (s.writes + 1))) := (k3.out.mono (by simp)).setCell (by simp) _
    have kf3 : Keeps [bm] w3 (w3.setCell ⟨bm, 4, none⟩ (.int .i64 (s.writes + 1))) := (Keeps.refl _ _).setCell (by simp) _
    have hmem : i * 64 + 64 ≤ s.mem.length := by have := HM.out.len; omega
    have bf := b1.out.set_ 4 (.int .i64 (s.writes + 1))
    rw [← h3.out] at bf
    refine ⟨rfl, ⟨⟨cap, _, bf, b2.out.keep kf3 (by simpa using hne12), a3, by simpa using a4, fun j hj => ?_⟩, ?_, HM.out.n, HM.out.b0, HM.out.b1, ?_, ?_⟩, K1.out.trans (kf.mono (by intro x hx; simp at hx ⊢; have := K1.out.size; omega))⟩
    · rw [Array.getElem?_setIfInBounds]
      by_cases hij : i = j
      · subst hij
        rw [if_pos rfl, if_pos hsz]
        refine ⟨_, rfl, ?_⟩
        rw [sec_splice_same s i b _ _ _ Hb.out hmem]
        exact hs3.out.keep kf3 (fun g' cur hg' _ => by simpa using hg'.ne_ b1.out (by decide))
      · rw [if_neg hij]
        obtain ⟨v, e, hs⟩ := H5.out j hj
        refine ⟨v, e, ?_⟩
        rw [sec_splice_other s i j b _ _ _ Hb.out hmem hij]
        exact hs.keep (K1.out.trans (kf.mono (Y := [bm, bS]) (by intro x hx; simp at hx ⊢; have := K1.out.size; omega))) (fun g' cur hg' _ => by have := hg'.ne_ H1.out (by decide); have := hg'.ne_ H2.out (by decide); simp; omega)
    · show (splice s.mem (64 * i) b).length = _
      rw [length_splice _ _ _ (by rw [Hb.out]; omega)]
      exact HM.out.len
    · dsimp only; omega
    · dsimp only; omega

theorem MRep.more {Z : List Nat} {w : World} {bm bS : Nat} {s : St} (h : MRep Z w bm bS s) {x : Nat} (hx : w.heap.size ≤ x) : MRep (x :: Z) w bm bS s := by
  obtain ⟨⟨cap, cells, a1, a2, a3, a4, a5⟩, r1, r2, r3, r4, r5, r6⟩ := h
  refine ⟨⟨cap, cells, a1, a2, a3, a4, fun i hi => ?_⟩, r1, r2, r3, r4, r5, r6⟩
  obtain ⟨v, e, g, c, cur, hv, h1, h2, h3, h4, h5, h6⟩ := a5 i hi
  exact ⟨v, e, g, c, cur, hv, h1, h2, h3, h4, h5, by have := h3.lt; simp; exact ⟨by omega, h6⟩⟩
theorem MRep.less {Z Y : List Nat} {w : World} {bm bS : Nat} {s : St} (h : MRep Z w bm bS s) (hs : ∀ y ∈ Y, y ∈ Z) : MRep Y w bm bS s := by
  obtain ⟨⟨cap, cells, a1, a2, a3, a4, a5⟩, r1, r2, r3, r4, r5, r6⟩ := h
  refine ⟨⟨cap, cells, a1, a2, a3, a4, fun i hi => ?_⟩, r1, r2, r3, r4, r5, r6⟩
  obtain ⟨v, e, g, c, cur, hv, h1, h2, h3, h4, h5, h6⟩ := a5 i hi
  exact ⟨v, e, g, c, cur, hv, h1, h2, h3, h4, h5, fun hy => h6 (hs g hy)⟩
end Go.Proofs.Ytoefbjeclghfhaa
