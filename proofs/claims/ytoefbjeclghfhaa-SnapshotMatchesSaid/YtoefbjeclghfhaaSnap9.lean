/- The law's function awake. -/
import Derived.Test.YtoefbjeclghfhaaSnap8
import Derived.Lib.SlBytesConst
import Derived.ChangeKeysEq
namespace Go.Proofs.Ytoefbjeclghfhaa
open Go.RowKit
set_option linter.unusedSimpArgs false
set_option linter.unusedVariables false

def abc : List UInt8 := [97, 98, 99]
theorem ex_read0 : sread (st0 7) = ([], 0, 4) := by decide +kernel
theorem ex_write : (swrite (st0 7) 1 abc).2 = 0 := by decide +kernel
theorem ex_read1 : sread (swrite (st0 7) 1 abc).1 = ([97, 98, 99], 1, 0) := by decide +kernel

theorem lay7 : layV 7 = #[.int .i64 0, .int .i64 1, .int .i64 2, .int .i64 3, .int .i64 4, .int .i64 1, .int .i64 5, .int .i64 2] := by rfl
theorem lay16 : layV 16 = #[.int .i64 0, .int .i64 1, .int .i64 2, .int .i64 3, .int .i64 6, .int .i64 3, .int .i64 9, .int .i64 7] := by rfl

theorem div7 (w : World) : Calls Try.prog 10 #[.int .i64 7] w fun e w' => e = .returned (.tuple #[.agg #[.int .i64 0, .int .i64 1, .int .i64 2, .int .i64 3, .int .i64 4, .int .i64 1, .int .i64 5, .int .i64 2], .int .i64 0]) ∧ Keeps [] w w' := by
  have := divide_ok w 7 (by decide) (by decide)
  rw [lay7] at this
  exact this
theorem div16 (w : World) : Calls Try.prog 10 #[.int .i64 16] w fun e w' => e = .returned (.tuple #[.agg #[.int .i64 0, .int .i64 1, .int .i64 2, .int .i64 3, .int .i64 6, .int .i64 3, .int .i64 9, .int .i64 7], .int .i64 0]) ∧ Keeps [] w w' := by
  have := divide_ok w 16 (by decide) (by decide)
  rw [lay16] at this
  exact this
theorem div6 (w : World) : Calls Try.prog 10 #[.int .i64 6] w fun e w' => e = .returned (.tuple #[.agg #[.int .i64 0, .int .i64 0, .int .i64 0, .int .i64 0, .int .i64 0, .int .i64 0, .int .i64 0, .int .i64 0], .int .i64 1]) ∧ Keeps [] w w' := divide_bad w 6 (.inl (by decide))
theorem new7 (w : World) : Calls Try.prog 24 #[.int .i64 7] w fun e w' => ∃ bd bs, e = .returned (.tuple #[.pointer (some ⟨bd, 0, none⟩), .int .i64 0]) ∧ DRep w' bd bs (st0 7) ∧ w.heap.size ≤ bd ∧ w.heap.size ≤ bs ∧ Keeps [] w w' := new_ok w 7 (by decide) (by decide)
theorem cap7 (w : World) : Calls Try.prog 13 #[.int .i64 7] w fun e w' => e = .returned (.int .i64 64) ∧ Keeps [] w w' := cap_any w 7

theorem arr_eq (w : World) (a b c d : Int) : (Op.equalIn 9999 22 (.agg #[.int .i64 a, .int .i64 b]) (.agg #[.int .i64 c, .int .i64 d])).run Try.prog w = .ok (a == c && b == d) w := by
  cases hi : Try.prog.info? 3 with
  | none =>
    have : (Try.prog.info? 3).isSome = true := by kernel_rfl
    rw [hi] at this
    cases this
  | some i =>
    have hc : Try.prog.cellsOf 3 = 1 := by kernel_rfl
    rw [show (9999 : Nat) = 9998 + 1 from rfl, run_equalIn_array w 9998 _ _ Try.underlying22 hi, hc]
    simp [List.range, List.range.loop, Op.eqItems, part, isAgg, run_underlying Try.underlying3]
    have h : ∀ (x y : Int) (w' : World), (Op.equalIn 9998 3 (.int .i64 x) (.int .i64 y)).run Try.prog w' = .ok (x == y) w' := fun x y w' => by
      have := run_equalIn_int (P := Try.prog) (w := w') 9997 3 .i64 .i64 x y Try.underlying3
      simpa using this
    simp only [h, Result.andThen_ok]
    cases a == c <;> cases b == d <;> rfl

theorem bts_abc (w : World) : Bts (w.alloc (.cells #[.int .u8 97, .int .u8 98, .int .u8 99] 5 (3, 4))) (some ⟨w.heap.size, 0, none⟩) abc := .inr ⟨_, 0, rfl, fun j v hj => by
  rw [cell_of_row _ w.heap.size (0 + j) _ 5 (3, 4) (heap_alloc_new w _), Nat.zero_add]
  rcases j with _ | _ | _ | j
  · simp [abc] at hj; subst hj; rfl
  · simp [abc] at hj; subst hj; rfl
  · simp [abc] at hj; subst hj; rfl
  · simp [abc] at hj⟩

set_option maxHeartbeats 1600000 in
set_option maxRecDepth 100000 in
theorem awake_any (w : World) : Calls Try.prog 12 #[] w fun e w' => e = .returned (.bool true) ∧ Keeps [] w w' := by
  have hae := arr_eq
  go_enter Try.func12, Try.ntmps12
  go_wp2_with fail
  refine (div7 w).mono ?_
  rintro e w1 ⟨rfl, k1⟩
  have B1 := Lib.hid (Blk.new w1 24 #[.int .i64 0, .int .i64 1, .int .i64 2, .int .i64 3, .int .i64 4, .int .i64 1, .int .i64 5, .int .i64 2])
  have K1 := Lib.hid (k1.alloc (.cells #[.int .i64 0, .int .i64 1, .int .i64 2, .int .i64 3, .int .i64 4, .int .i64 1, .int .i64 5, .int .i64 2] 24))
  clear k1
  go_wp2_with fail
  generalize hw1 : w1.alloc (.cells #[.int .i64 0, .int .i64 1, .int .i64 2, .int .i64 3, .int .i64 4, .int .i64 1, .int .i64 5, .int .i64 2] 24) = w2 at *
  clear hw1
  refine (div16 w2).mono ?_
  rintro e w3 ⟨rfl, k3⟩
  have B3 := Lib.hid (Blk.new w3 24 #[.int .i64 0, .int .i64 1, .int .i64 2, .int .i64 3, .int .i64 6, .int .i64 3, .int .i64 9, .int .i64 7])
  have K3 := Lib.hid ((K1.out.trans k3).alloc (.cells #[.int .i64 0, .int .i64 1, .int .i64 2, .int .i64 3, .int .i64 6, .int .i64 3, .int .i64 9, .int .i64 7] 24))
  replace B1 := Lib.hid ((B1.out.keep k3 (by simp)).alloc (.cells #[.int .i64 0, .int .i64 1, .int .i64 2, .int .i64 3, .int .i64 6, .int .i64 3, .int .i64 9, .int .i64 7] 24))
  clear k3 K1
  go_wp2_with fail
  generalize hw3 : w3.alloc (.cells #[.int .i64 0, .int .i64 1, .int .i64 2, .int .i64 3, .int .i64 6, .int .i64 3, .int .i64 9, .int .i64 7] 24) = w4 at *
  clear hw3
  refine (div6 w4).mono ?_
  rintro e w5 ⟨rfl, k5⟩
  have K5 := Lib.hid ((K3.out.trans k5).alloc (.cells #[.int .i64 0, .int .i64 0, .int .i64 0, .int .i64 0, .int .i64 0, .int .i64 0, .int .i64 0, .int .i64 0] 24))
  replace B1 := Lib.hid ((B1.out.keep k5 (by simp)).alloc (.cells #[.int .i64 0, .int .i64 0, .int .i64 0, .int .i64 0, .int .i64 0, .int .i64 0, .int .i64 0, .int .i64 0] 24))
  replace B3 := Lib.hid ((B3.out.keep k5 (by simp)).alloc (.cells #[.int .i64 0, .int .i64 0, .int .i64 0, .int .i64 0, .int .i64 0, .int .i64 0, .int .i64 0, .int .i64 0] 24))
  clear k5 K3
  go_wp2_with fail
  generalize hw5 : w5.alloc (.cells #[.int .i64 0, .int .i64 0, .int .i64 0, .int .i64 0, .int .i64 0, .int .i64 0, .int .i64 0, .int .i64 0] 24) = w6 at *
  clear hw5
  refine (new7 w6).mono ?_
  rintro e w7 ⟨bd, bs, rfl, hD, hbd, hbs, k7⟩
  have K7 := Lib.hid (K5.out.trans k7)
  replace B1 := Lib.hid (B1.out.keep k7 (by simp))
  replace B3 := Lib.hid (B3.out.keep k7 (by simp))
  have hnb := Lib.hid (show w.heap.size ≤ bd ∧ w.heap.size ≤ bs from by have := K5.out.size; omega)
  have HR := sread_any w7 bd bs (st0 7) hD
  rw [ex_read0] at HR
  replace HR := Lib.hid HR
  replace hD := Lib.hid hD
  clear k7 K5 hbd hbs
  go_wp2_with fail
  refine HR.out.mono ?_
  rintro e w8 ⟨A0, c0, rfl, o0, k8⟩
  have K8 := Lib.hid (K7.out.trans k8)
  replace B1 := Lib.hid (B1.out.keep k8 (by simp))
  replace B3 := Lib.hid (B3.out.keep k8 (by simp))
  have hD8 := hD.out.keep k8 (by simp) (by simp)
  have HW : Hid (Calls Try.prog 16 #[.pointer (some ⟨bd, 0, none⟩), .int .u32 1, .slice (some ⟨w8.heap.size, 0, none⟩) 3 3] (w8.alloc (.cells #[.int .u8 97, .int .u8 98, .int .u8 99] 5 (3, 4))) (WPost (w8.alloc (.cells #[.int .u8 97, .int .u8 98, .int .u8 99] 5 (3, 4))) bd bs (swrite (st0 7) 1 abc))) := Lib.hid
    (swrite_any (w8.alloc (.cells #[.int .u8 97, .int .u8 98, .int .u8 99] 5 (3, 4))) bd bs (st0 7) 1 (some ⟨w8.heap.size, 0, none⟩) abc 3 3 (hD8.keep ((Keeps.refl [] w8).alloc _) (by simp) (by simp)) (bts_abc w8) rfl (by decide) (by unfold maxLen; decide) (by decide)
      (fun a ha => by cases ha; have := hD8.d.lt; have := hD8.m.lt; constructor <;> (simp; omega)) (by decide) (by decide))
  have hD9 := Lib.hid (hD8.keep ((Keeps.refl [] w8).alloc (.cells #[.int .u8 97, .int .u8 98, .int .u8 99] 5 (3, 4))) (by simp) (by simp))
  have K9 := Lib.hid (K8.out.alloc (.cells #[.int .u8 97, .int .u8 98, .int .u8 99] 5 (3, 4)))
  replace B1 := Lib.hid (B1.out.alloc (.cells #[.int .u8 97, .int .u8 98, .int .u8 99] 5 (3, 4)))
  replace B3 := Lib.hid (B3.out.alloc (.cells #[.int .u8 97, .int .u8 98, .int .u8 99] 5 (3, 4)))
  clear HR o0 k8 K7 hD hD8 K8
  have kc := fun (C : Array Value) (n c : Nat) => Lib.run_convert_bytes_const (P := Try.prog) w8 35 5 C n c Try.underlying35 Try.underlying5
  go_wp2_with fail
  refine HW.out.mono ?_
  rintro e w9 ⟨rfl, hD9b, k9⟩
  have hn1 : Hid (w1.heap.size ∉ [bd, bs]) := Lib.hid (by simp; exact ⟨B1.out.ne_ hD9.out.d (by decide), B1.out.ne_ hD9.out.m (by decide)⟩)
  have hn3 : Hid (w3.heap.size ∉ [bd, bs]) := Lib.hid (by simp; exact ⟨B3.out.ne_ hD9.out.d (by decide), B3.out.ne_ hD9.out.m (by decide)⟩)
  have K10 := Lib.hid ((K9.out.nil.trans k9).mono (fun x hx => .inr (by have := hnb.out; simp at hx; omega)) : Keeps [] w w9)
  replace B1 := Lib.hid (B1.out.keep k9 hn1.out)
  replace B3 := Lib.hid (B3.out.keep k9 hn3.out)
  rw [ex_write]
  have HR2 := sread_any w9 bd bs _ hD9b
  rw [ex_read1] at HR2
  replace HR2 := Lib.hid HR2
  clear HW hD9 K9 k9 hD9b
  go_wp2_with fail
  refine HR2.out.mono ?_
  rintro e wa ⟨A1, c1, rfl, o1, ka⟩
  have Ka := Lib.hid (K10.out.trans ka)
  have q1 := (B1.out.keep ka (by simp)).cell
  have q3 := (B3.out.keep ka (by simp)).cell
  have hb1 := Lib.hid (own_bts o1).1
  have HC := Lib.hid (cap7 wa)
  clear HR2 B1 B3 K10 ka o1
  go_wp2_with ((refine HC.out.mono ?_; rintro e wb ⟨rfl, kb⟩; have cv := run_convert_bts (P := Try.prog) (w := wb) 35 9 5 Try.underlying35 Try.underlying5 Try.underlying9 A1 [97, 98, 99] 3 c1 rfl (hb1.out.keep kb (fun _ _ => List.not_mem_nil)); have Kb := Lib.hid (Ka.out.trans kb); clear kb))
  go_ret
  exact ⟨rfl, Kb.out⟩
end Go.Proofs.Ytoefbjeclghfhaa
