/- The contracts of the disk's Write, Read and New. -/
import Derived.Test.YtoefbjeclghfhaaDisk1
namespace Go.Proofs.Ytoefbjeclghfhaa
open Go.RowKit
set_option linter.unusedSimpArgs false

def wr (s : St) (i : Int) (b : List UInt8) : St × Int :=
  if chk s i ≠ 0 then (s, chk s i)
  else if b.length ≠ 64 then (s, 1)
  else if s.left = 1 then (fail { s with mem := splice s.mem (64 * i.toNat) (b.take s.bytes.toNat) }, 15)
  else ({ s with mem := splice s.mem (64 * i.toNat) b, left := if 1 < s.left then s.left - 1 else s.left, writes := s.writes + 1 }, 0)

set_option maxHeartbeats 400000 in
theorem write_bad (w : World) (bd bs : Nat) (s : St) (i : Int) (A : Option Addr) (b : List UInt8) (c : Nat) (hD : DRep w bd bs s) (hx : chk s i ≠ 0) :
    Calls Try.prog 19 #[.pointer (some ⟨bd, 0, none⟩), .int .i64 i, .slice A b.length c] w fun e w' => e = .returned (.int .i64 (chk s i)) ∧ w = w' := by
  have hne : (chk s i != 0) = true := by simpa using hx
  clear hx
  have H := check_any w bd bs s i hD
  clear hD
  have H := Lib.hid H
  go_enter Try.func19, Try.ntmps19
  go_wp2_with (go_at_call 33; refine H.out.mono ?_; rintro e w' ⟨rfl, rfl⟩)
  go_ret
  exact ⟨rfl, rfl⟩

set_option maxHeartbeats 400000 in
theorem write_ok (w : World) (bd bs : Nat) (s : St) (i : Nat) (A : Option Addr) (b : List UInt8) (c : Nat) (hD : DRep w bd bs s) (hx : chk s i = 0) (hi : i < s.n)
   (hB : Bts w A b) (hA : ∀ a, A = some a → a.block ≠ bd) (hb : b.length = 64) (hl : s.left ≠ 1) (hw0 : 0 ≤ s.writes) (hw : s.writes ≤ 1000000) :
    Calls Try.prog 19 #[.pointer (some ⟨bd, 0, none⟩), .int .i64 i, .slice A b.length c] w fun e w' => e = .returned (.int .i64 0) ∧ 
      DRep w' bd bs { s with mem := splice s.mem (64 * i) b, left := if 1 < s.left then s.left - 1 else s.left, writes := s.writes + 1 } ∧ Keeps [bd, bs] w w' := by
  have hne : (chk s i != 0) = false := by simpa using hx
  clear hx
  have HC := Lib.hid (check_any w bd bs s i hD)
  have hc := hD.d.cell
  have hf := hD.d.frozen
  have hl0 := hD.l0
  have hl1 := hD.l1
  have hn := hD.n
  have HD := Lib.hid hD
  have HB := Lib.hid hB
  have HA := Lib.hid hA
  have Hb := Lib.hid hb
  clear hD hB hA hb
  have hb2 : ((b.length : Int) != 64) = false := by rw [Hb.out]; rfl
  have hl2 : (s.left == 1) = false := by simpa using hl
  clear hl
  by_cases h2 : 1 < s.left
  · have hk0 : Keeps [bd] w (w.setCell ⟨bd, 2, none⟩ (.int .i64 (s.left - 1))) := (Keeps.refl _ _).setCell (by simp) _
    have hB0 := HB.out.keep hk0 (by intro a ha; simpa using HA.out a ha)
    have hm0 := HD.out.m.far (p := ⟨bd, 2, none⟩) (fun h => HD.out.ne h.symm) (.int .i64 (s.left - 1))
    have hd0 := HD.out.d.set_ 2 (.int .i64 (s.left - 1))
    replace hB0 := Lib.hid hB0
    replace hm0 := Lib.hid hm0
    replace hd0 := Lib.hid hd0
    replace hk0 := Lib.hid hk0
    go_enter Try.func19, Try.ntmps19
    go_wp2_with (first 
      | (go_at_call 33; refine HC.out.mono ?_; rintro e w' ⟨rfl, rfl⟩)
      | (refine wpList_copy_bts rfl (.tmp 56) (.tmp 57) 35 35 rfl 5 Try.underlying35 (by kernel_rfl) bs (i*64) 64 64 A b b.length c rfl rfl rfl hB0.out s.mem 75 hm0.out (by have := HD.out.len; omega) ?_; intro w1 hm1 hk1; have hd1 := hd0.out.keep hk1 (by simpa using HD.out.ne); have hc1 := hd1.cell; have hf1 := hd1.frozen; replace hd1 := Lib.hid hd1; replace hk1 := Lib.hid hk1))
    go_ret
    have hlen : (splice s.mem (i * 64) (b.take 64)).length = s.mem.length := length_splice _ _ _ (by have := HD.out.len; rw [List.length_take]; omega)
    have hb64 : b.take 64 = b := List.take_of_length_le (by rw [Hb.out]; omega)
    refine ⟨rfl, ⟨?_, ?_, HD.out.ne, ?_, HD.out.n, HD.out.b0, HD.out.b1, ?_, ?_⟩, ?_⟩
    · exact hd1.out.set_ 4 _
    · have := hm1.out.far (p := ⟨bd, 4, none⟩) (fun h => HD.out.ne h.symm) (.int .i64 (s.writes + 1))
      rw [hb64, Nat.mul_comm] at this
      exact this
    · rw [hb64] at hlen
      show (splice s.mem (64 * i) b).length = _
      rw [Nat.mul_comm 64 i, hlen]
      exact HD.out.len
    · show 0 ≤ s.left - 1; omega
    · show s.left - 1 ≤ _; omega
    · exact ((hk0.out.mono (by simp)).trans (hk1.out.mono (by simp))).setCell (by simp) _
  · have hB0 := HB.out
    have hm0 := HD.out.m
    have hd0 := HD.out.d
    replace hB0 := Lib.hid hB0
    replace hm0 := Lib.hid hm0
    replace hd0 := Lib.hid hd0
    go_enter Try.func19, Try.ntmps19
    go_wp2_with (first 
      | (go_at_call 33; refine HC.out.mono ?_; rintro e w' ⟨rfl, rfl⟩)
      | (refine wpList_copy_bts rfl (.tmp 56) (.tmp 57) 35 35 rfl 5 Try.underlying35 (by kernel_rfl) bs (i*64) 64 64 A b b.length c rfl rfl rfl hB0.out s.mem 75 hm0.out (by have := HD.out.len; omega) ?_; intro w1 hm1 hk1; have hd1 := hd0.out.keep hk1 (by simpa using HD.out.ne); have hc1 := hd1.cell; have hf1 := hd1.frozen; replace hd1 := Lib.hid hd1; replace hk1 := Lib.hid hk1))
    go_ret
    have hlen : (splice s.mem (i * 64) (b.take 64)).length = s.mem.length := length_splice _ _ _ (by have := HD.out.len; rw [List.length_take]; omega)
    have hb64 : b.take 64 = b := List.take_of_length_le (by rw [Hb.out]; omega)
    refine ⟨rfl, ⟨?_, ?_, HD.out.ne, ?_, HD.out.n, HD.out.b0, HD.out.b1, ?_, ?_⟩, ?_⟩
    · exact hd1.out.set_ 4 _
    · have := hm1.out.far (p := ⟨bd, 4, none⟩) (fun h => HD.out.ne h.symm) (.int .i64 (s.writes + 1))
      rw [hb64, Nat.mul_comm] at this
      exact this
    · rw [hb64] at hlen
      show (splice s.mem (64 * i) b).length = _
      rw [Nat.mul_comm 64 i, hlen]
      exact HD.out.len
    · exact HD.out.l0
    · exact HD.out.l1
    · exact (hk1.out.mono (by simp)).setCell (by simp) _

set_option maxHeartbeats 400000 in
theorem write_len (w : World) (bd bs : Nat) (s : St) (i : Int) (A : Option Addr) (b : List UInt8) (c : Nat) (hD : DRep w bd bs s) (hx : chk s i = 0) (hb : b.length ≠ 64) :
    Calls Try.prog 19 #[.pointer (some ⟨bd, 0, none⟩), .int .i64 i, .slice A b.length c] w fun e w' => e = .returned (.int .i64 1) ∧ w = w' := by
  have hne : (chk s i != 0) = false := by simpa using hx
  have hb2 : ((b.length : Int) != 64) = true := by rw [bne_iff_ne]; omega
  clear hx hb
  have H := check_any w bd bs s i hD
  clear hD
  have H := Lib.hid H
  go_enter Try.func19, Try.ntmps19
  go_wp2_with (go_at_call 33; refine H.out.mono ?_; rintro e w' ⟨rfl, rfl⟩)
  go_ret
  exact ⟨rfl, rfl⟩

set_option maxHeartbeats 400000 in
theorem write_torn (w : World) (bd bs : Nat) (s : St) (i : Nat) (A : Option Addr) (b : List UInt8) (c : Nat) (hD : DRep w bd bs s) (hx : chk s i = 0) (hi : i < s.n)
   (hB : Bts w A b) (hA : ∀ a, A = some a → a.block ≠ bd) (hb : b.length = 64) (hl : s.left = 1) (hcap : b.length ≤ c) :
    Calls Try.prog 19 #[.pointer (some ⟨bd, 0, none⟩), .int .i64 i, .slice A b.length c] w fun e w' => e = .returned (.int .i64 15) ∧ 
      DRep w' bd bs (fail { s with mem := splice s.mem (64 * i) (b.take s.bytes.toNat) }) ∧ Keeps [bd, bs] w w' := by
  have hne : (chk s i != 0) = false := by simpa using hx
  clear hx
  have HC := Lib.hid (check_any w bd bs s i hD)
  have hc := hD.d.cell
  have hf := hD.d.frozen
  have hb0 := hD.b0
  have hb1 := hD.b1
  have hn := hD.n
  have HD := Lib.hid hD
  have HB := Lib.hid hB
  have HA := Lib.hid hA
  have Hb := Lib.hid hb
  have hb2 : ((b.length : Int) != 64) = false := by rw [Hb.out]; rfl
  have hl2 : (s.left == 1) = true := by simpa using hl
  have hbc : s.bytes ≤ (c : Int) := by have := Hb.out; omega
  clear hD hB hA hb hl
  go_enter Try.func19, Try.ntmps19
  go_wp2_with (first 
      | (go_at_call 33; refine HC.out.mono ?_; rintro e w' ⟨rfl, rfl⟩))
  go_still_tail 13, (by kernel_rfl)
  change wpList _ _ _ _ _ w.drew
  have hlt : (b.take s.bytes.toNat).length = s.bytes.toNat := by rw [List.length_take]; have := Hb.out; omega
  refine wpList_copy_bts rfl (.tmp 28) (.tmp 34) 35 35 rfl 5 Try.underlying35 (by kernel_rfl) bs (i*64) 64 64 A (b.take s.bytes.toNat) s.bytes.toNat c rfl rfl hlt (HB.out.take _).drew_ s.mem 75 HD.out.m (by have := HD.out.len; omega) ?_
  intro w1 hm1 hk1
  have hl2' : (splice s.mem (i * 64) ((b.take s.bytes.toNat).take 64)).length = s.mem.length := length_splice _ _ _ (by have := HD.out.len; rw [List.length_take, hlt]; omega)
  have hb64 : (b.take s.bytes.toNat).take 64 = b.take s.bytes.toNat := List.take_of_length_le (by rw [hlt]; omega)
  rw [hb64] at hm1 hl2'
  have hD1 : DRep w1 bd bs { s with mem := splice s.mem (64 * i) (b.take s.bytes.toNat) } := 
    ⟨HD.out.d.drew.keep hk1 (by simpa using HD.out.ne), by rw [Nat.mul_comm]; exact hm1.out, HD.out.ne, by rw [Nat.mul_comm 64 i]; exact hl2'.trans HD.out.len, HD.out.n, HD.out.b0, HD.out.b1, HD.out.l0, HD.out.l1⟩
  have HF := Lib.hid (fail_any w1 bd bs _ hD1)
  have hk : Keeps [bd, bs] w w1 := ((Keeps.refl _ w).drew.trans (hk1.mono (by simp)))
  replace hk := Lib.hid hk
  clear hl2' hb64 hm1 hk1 hD1 hlt
  go_wp2_with (first 
      | (go_at_call 21; refine HF.out.mono ?_; rintro e w' ⟨rfl, hD', hk'⟩; replace hD' := Lib.hid hD'; replace hk' := Lib.hid hk'))
  go_ret
  exact ⟨rfl, hD'.out, hk.out.trans (hk'.out.mono (by simp))⟩

set_option maxHeartbeats 400000 in
theorem read_bad (w : World) (bd bs : Nat) (s : St) (i : Int) (hD : DRep w bd bs s) (hx : chk s i ≠ 0) :
    Calls Try.prog 18 #[.pointer (some ⟨bd, 0, none⟩), .int .i64 i] w fun e w' => e = .returned (.tuple #[.slice none 0 0, .int .i64 (chk s i)]) ∧ w = w' := by
  have hne : (chk s i != 0) = true := by simpa using hx
  clear hx
  have H := check_any w bd bs s i hD
  clear hD
  have H := Lib.hid H
  go_enter Try.func18, Try.ntmps18
  go_wp2_with (go_at_call 33; refine H.out.mono ?_; rintro e w' ⟨rfl, rfl⟩)
  go_ret2
  exact ⟨rfl, rfl⟩

def sec (s : St) (i : Nat) : List UInt8 := (s.mem.drop (i * 64)).take 64

set_option maxHeartbeats 400000 in
theorem read_ok (w : World) (bd bs : Nat) (s : St) (i : Nat) (hD : DRep w bd bs s) (hx : chk s i = 0) (hi : i < s.n) :
    Calls Try.prog 18 #[.pointer (some ⟨bd, 0, none⟩), .int .i64 i] w fun e w' => 
      e = .returned (.tuple #[.slice (some ⟨w.heap.size, 0, none⟩) 64 64, .int .i64 0]) ∧ Blk w' w.heap.size 75 ((sec s i).map bv).toArray ∧ Keeps [] w w' := by
  have hne : (chk s i != 0) = false := by simpa using hx
  clear hx
  have H := Lib.hid (check_any w bd bs s i hD)
  have hc := hD.d.cell
  have hn := hD.n
  have HD := Lib.hid hD
  have hls : (sec s i).length = 64 := by unfold sec; rw [List.length_take, List.length_drop, hD.len]; omega
  replace hls := Lib.hid hls
  have e1 := Lib.hid (show ((s.mem.map bv).drop (i * 64)).take 64 = (sec s i).map bv by simp [sec, List.map_drop, List.map_take])
  clear hD
  go_enter Try.func18, Try.ntmps18
  go_wp2_with (first
    | (go_at_call 33; refine H.out.mono ?_; rintro e w' ⟨rfl, rfl⟩)
    | (refine wpList_load_mid rfl 75 (.tmp 19) rfl bs (i * 64) 64 rfl 75 (s.mem.map bv) (.array 64 5) HD.out.m Try.underlying75 rfl (by kernel_rfl) (by rw [List.length_map]; have := HD.out.len; omega) ?_; rw [e1.out])
    | (refine wpList_store_mid rfl 75 (.tmp 7) (.tmp 20) rfl w.heap.size 0 rfl 75 _ ((sec s i).map bv) rfl (Blk.new _ _ _) (by rw [List.length_map, hls.out]; kernel_rfl) (by rw [List.length_map, hls.out]; decide) (by simp [bv_one]) ?_; intro w1 hm1 hk1; rw [splice_all _ _ (by rw [List.length_map, hls.out]; rfl)] at hm1; replace hk1 := Lib.hid hk1))
  go_ret2
  exact ⟨rfl, hm1.out, ((Keeps.refl [w.heap.size] w).alloc _ |>.trans hk1.out).mono (by simp)⟩

set_option maxHeartbeats 400000 in
theorem new_bad (w : World) (n : Int) (hn : n < 1 ∨ 65536 < n) :
    Calls Try.prog 24 #[.int .i64 n] w fun e w' => e = .returned (.tuple #[.pointer none, .int .i64 1]) ∧ w = w' := by
  by_cases h : n < 1
  · go_enter Try.func24, Try.ntmps24
    go_wp2
    go_ret2
    exact ⟨rfl, rfl⟩
  · have h2 : 65536 < n := by omega
    go_enter Try.func24, Try.ntmps24
    go_wp2
    go_ret2
    exact ⟨rfl, rfl⟩

def st0 (n : Nat) : St := ⟨n, List.replicate (64 * n) 0, false, 0, 0, 0⟩

set_option maxHeartbeats 400000 in
theorem new_ok (w : World) (n : Nat) (h1 : 1 ≤ n) (h2 : n ≤ 65536) :
    Calls Try.prog 24 #[.int .i64 n] w fun e w' => ∃ bd bs, e = .returned (.tuple #[.pointer (some ⟨bd, 0, none⟩), .int .i64 0]) ∧ DRep w' bd bs (st0 n) ∧ w.heap.size ≤ bd ∧ w.heap.size ≤ bs ∧ Keeps [] w w' := by
  go_enter Try.func24, Try.ntmps24
  go_wp2_with (first
    | (refine wpList_make rfl 76 (.tmp 10) (.tmp 10) rfl 75 (.agg (Array.replicate 64 (bv 0))) 64 64 Try.underlying76 (by kernel_rfl) .i64 .i64 n n rfl rfl (by omega) (by omega) (by omega) ?_; intro w1 hm1 hk1 hs1; replace hk1 := Lib.hid hk1))
  go_ret2
  refine ⟨_, _, rfl, ⟨Blk.new _ _ _, ?_, ?_, ?_, h2, ?_, ?_, ?_, ?_⟩, hk1.out.size, Nat.le_refl _, hk1.out.alloc _⟩
  · have := hm1.out.alloc (.cells #[.slice (some ⟨w.heap.size, 0, none⟩) n n, .bool false, .int .i64 0, .int .i64 0, .int .i64 0] 78)
    rw [show (Value.agg (Array.replicate 64 (bv 0))).cells = Array.replicate 64 (bv 0) from rfl, madeCells_same _ _ _ (by decide)] at this
    simpa [st0, Nat.mul_comm] using this
  · have := hs1.out; omega
  · simp [st0]
  all_goals simp [st0]
end Go.Proofs.Ytoefbjeclghfhaa
