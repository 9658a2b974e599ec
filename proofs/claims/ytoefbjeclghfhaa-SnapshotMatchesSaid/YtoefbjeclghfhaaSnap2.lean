/- The contracts of Divide and Capacity, of the numbers in bytes, of the program and of the reference. -/
import Derived.Test.YtoefbjeclghfhaaSnap1
namespace Go.Proofs.Ytoefbjeclghfhaa
open Go.RowKit
set_option linter.unusedSimpArgs false
set_option linter.unusedVariables false

/-- A layout, as a value. -/
def layV (n : Nat) : Array Value := #[.int .i64 0, .int .i64 1, .int .i64 2, .int .i64 3, .int .i64 (3 + (area n : Nat)), .int .i64 (area n : Nat), .int .i64 (3 + 2 * (area n : Nat)), .int .i64 ((n : Int) - (3 + 2 * (area n : Nat)))]
def lay0 : Array Value := #[.int .i64 0, .int .i64 0, .int .i64 0, .int .i64 0, .int .i64 0, .int .i64 0, .int .i64 0, .int .i64 0]

theorem area_le (n : Nat) : 2 * area n + 3 ≤ n ∨ n < 3 := by unfold area; omega

set_option maxHeartbeats 1600000 in
theorem divide_ok (w : World) (n : Nat) (h7 : 7 ≤ n) (hm : n ≤ 65536) :
    Calls Try.prog 10 #[.int .i64 n] w fun e w' => e = .returned (.tuple #[.agg (layV n), .int .i64 0]) ∧ Keeps [] w w' := by
  have e1 : IntKind.i64.wrap ((n : Int) - 3) = (n : Int) - 3 := IntWalk.i64_in _ (by omega)
  have ha : ((n : Int) - 3) / 4 = (area n : Int) := by unfold area; omega
  have hal : area n ≤ 65536 := by unfold area; omega
  go_enter Try.func10, Try.ntmps10
  go_wp2_with fail
  refine bodyPost_ret (v := .tuple #[.agg (layV n), .int .i64 0]) (by simp [results, Try.results10, go_sem, layV]) rfl ⟨rfl, ((Keeps.refl _ _).alloc _).alloc _⟩
set_option maxHeartbeats 1600000 in
theorem divide_bad (w : World) (n : Int) (h : n < 7 ∨ 65536 < n) :
    Calls Try.prog 10 #[.int .i64 n] w fun e w' => e = .returned (.tuple #[.agg lay0, .int .i64 1]) ∧ Keeps [] w w' := by
  by_cases h7 : n < 7
  · clear h
    go_enter Try.func10, Try.ntmps10
    go_wp2_with fail
    exact bodyPost_ret (v := .tuple #[.agg lay0, .int .i64 1]) (by simp [results, Try.results10, go_sem, lay0]) rfl ⟨rfl, (Keeps.refl _ _).alloc _⟩
  · have h6 : 65536 < n := by omega
    clear h
    go_enter Try.func10, Try.ntmps10
    go_wp2_with fail
    exact bodyPost_ret (v := .tuple #[.agg lay0, .int .i64 1]) (by simp [results, Try.results10, go_sem, lay0]) rfl ⟨rfl, (Keeps.refl _ _).alloc _⟩
set_option maxHeartbeats 1600000 in
theorem rdivide_ok (w : World) (n : Nat) (h7 : 7 ≤ n) (hm : n ≤ 65536) :
    Calls Try.prog 11 #[.int .i64 n] w fun e w' => e = .returned (.tuple #[.agg (layV n), .int .i64 0]) ∧ Keeps [] w w' := by
  have e1 : IntKind.i64.wrap ((n : Int) - 3) = (n : Int) - 3 := IntWalk.i64_in _ (by omega)
  have ha : ((n : Int) - 3) / 4 = (area n : Int) := by unfold area; omega
  have hal : area n ≤ 65536 := by unfold area; omega
  go_enter Try.func11, Try.ntmps11
  go_wp2_with fail
  have hd : (n : Int) - (3 + 2 * (area n : Int)) = (n : Int) - 3 - 2 * (area n : Int) := by omega
  exact bodyPost_ret (v := .tuple #[.agg (layV n), .int .i64 0]) (by simp [results, Try.results11, go_sem, layV, hd]) rfl ⟨rfl, (Keeps.refl _ _).alloc _⟩
set_option maxHeartbeats 1600000 in
theorem rdivide_bad (w : World) (n : Int) (h : n < 7 ∨ 65536 < n) :
    Calls Try.prog 11 #[.int .i64 n] w fun e w' => e = .returned (.tuple #[.agg lay0, .int .i64 1]) ∧ Keeps [] w w' := by
  by_cases h7 : n < 7
  · clear h
    go_enter Try.func11, Try.ntmps11
    go_wp2_with fail
    exact bodyPost_ret (v := .tuple #[.agg lay0, .int .i64 1]) (by simp [results, Try.results11, go_sem, lay0]) rfl ⟨rfl, (Keeps.refl _ _).alloc _⟩
  · have h6 : 65536 < n := by omega
    clear h
    go_enter Try.func11, Try.ntmps11
    go_wp2_with fail
    exact bodyPost_ret (v := .tuple #[.agg lay0, .int .i64 1]) (by simp [results, Try.results11, go_sem, lay0]) rfl ⟨rfl, (Keeps.refl _ _).alloc _⟩

/-- The capacity of a number of sectors. -/
def capOf (n : Int) : Nat := if n < 7 ∨ 65536 < n then 0 else 64 * area n.toNat
set_option maxHeartbeats 1600000 in
theorem cap_any (w : World) (n : Int) : Calls Try.prog 13 #[.int .i64 n] w fun e w' => e = .returned (.int .i64 (capOf n : Nat)) ∧ Keeps [] w w' := by
  by_cases h : n < 7 ∨ 65536 < n
  · have H := Lib.hid (divide_bad w n h)
    have hc : capOf n = 0 := by unfold capOf; rw [if_pos h]
    rw [hc]
    clear h hc
    unfold lay0 at H
    go_enter Try.func13, Try.ntmps13
    go_wp2_with fail
    refine H.out.mono ?_
    rintro e w1 ⟨rfl, k1⟩
    clear H
    go_wp2_with fail
    go_ret
    exact ⟨rfl, k1.alloc _⟩
  · obtain ⟨m, rfl⟩ : ∃ m : Nat, n = m := ⟨n.toNat, by omega⟩
    have hc : capOf (m : Int) = 64 * area m := by unfold capOf; rw [if_neg h]; simp
    rw [hc]
    have H := Lib.hid (divide_ok w m (by omega) (by omega))
    have hal : area m ≤ 65536 := by unfold area; omega
    have e1 : IntKind.i64.wrap ((area m : Int) * 64) = (area m : Int) * 64 := IntWalk.i64_in _ (by omega)
    clear h hc
    unfold layV at H
    go_enter Try.func13, Try.ntmps13
    go_wp2_with fail
    refine H.out.mono ?_
    rintro e w1 ⟨rfl, k1⟩
    clear H
    go_wp2_with fail
    go_ret
    exact ⟨congrArg (fun z => Ending.returned (Value.int .i64 z)) (by omega), k1.alloc _⟩
set_option maxHeartbeats 1600000 in
theorem rcap_any (w : World) (n : Int) : Calls Try.prog 14 #[.int .i64 n] w fun e w' => e = .returned (.int .i64 (capOf n : Nat)) ∧ Keeps [] w w' := by
  by_cases h : n < 7 ∨ 65536 < n
  · have H := Lib.hid (rdivide_bad w n h)
    have hc : capOf n = 0 := by unfold capOf; rw [if_pos h]
    rw [hc]
    clear h hc
    unfold lay0 at H
    go_enter Try.func14, Try.ntmps14
    go_wp2_with fail
    refine H.out.mono ?_
    rintro e w1 ⟨rfl, k1⟩
    clear H
    go_wp2_with fail
    go_ret
    exact ⟨rfl, k1.alloc _⟩
  · obtain ⟨m, rfl⟩ : ∃ m : Nat, n = m := ⟨n.toNat, by omega⟩
    have hc : capOf (m : Int) = 64 * area m := by unfold capOf; rw [if_neg h]; simp
    rw [hc]
    have H := Lib.hid (rdivide_ok w m (by omega) (by omega))
    have hal : area m ≤ 65536 := by unfold area; omega
    have e1 : IntKind.i64.wrap (64 * (area m : Int)) = 64 * (area m : Int) := IntWalk.i64_in _ (by omega)
    clear h hc
    unfold layV at H
    go_enter Try.func14, Try.ntmps14
    go_wp2_with fail
    refine H.out.mono ?_
    rintro e w1 ⟨rfl, k1⟩
    clear H
    go_wp2_with fail
    go_ret
    exact ⟨congrArg (fun z => Ending.returned (Value.int .i64 z)) (by omega), k1.alloc _⟩

theorem val_take {l : List UInt8} {i : Nat} {v : UInt8} (h : l[i]? = some v) : val (l.take (i + 1)) = 256 * val (l.take i) + v.toNat := by
  have hi : i < l.length := (List.getElem?_eq_some_iff.1 h).1
  have hv : l[i] = v := (List.getElem?_eq_some_iff.1 h).2
  rw [List.take_succ_eq_append_getElem hi, val_snoc, hv]
theorem pow_256 {i : Nat} (h : i ≤ 7) : (256 : Nat) ^ i ≤ 72057594037927936 := Nat.le_trans (Nat.pow_le_pow_right (by decide) h) (by decide)

set_option maxHeartbeats 1600000 in
theorem get_any (w : World) (A : Option Addr) (l : List UInt8) (n c : Nat) (hB : Bts w A l) (hl : l.length = n) (hn : n ≤ 8) :
    Calls Try.prog 42 #[.slice A n c] w fun e w' => e = .returned (.int .u64 (val l : Nat)) ∧ w = w' := by
  replace hB := Lib.hid hB
  replace hl := Lib.hid hl
  go_enter Try.func42, Try.ntmps42
  go_wp2_with fail
  go_loopw [3, 8] (fun rv iv wr => ∃ i : Nat, i ≤ n ∧ iv = .int .i64 i ∧ rv = .int .u64 (val (l.take i) : Nat) ∧ w = wr) (fun _ iv _ => n - (intOf iv).toNat)
  case atStart => exact ⟨0, Nat.zero_le _, rfl, rfl, rfl⟩
  case round =>
    obtain ⟨i, hi, rfl, rfl, rfl⟩ := hrel
    by_cases hlt : i < n
    · obtain ⟨v, hv⟩ : ∃ v, l[i]? = some v := ⟨l[i]'(by rw [hl.out]; exact hlt), List.getElem?_eq_getElem _⟩
      obtain ⟨g, o, rfl⟩ : ∃ g o, A = some ⟨g, o, none⟩ := by
        rcases hB.out with h | ⟨g, o, h, _⟩
        · rw [h] at hv; simp at hv
        · exact ⟨g, o, h⟩
      have hc := bts_cell hB.out hv
      have hstep := val_take hv
      have hr := val_lt i (l.take i) (by rw [List.length_take, hl.out]; omega)
      have hp := pow_256 (i := i) (by omega)
      have hv8 := v.toNat_lt
      obtain ⟨R, hR⟩ : ∃ R, val (l.take i) = R := ⟨_, rfl⟩
      rw [hR] at hstep hr ⊢
      obtain ⟨V, hV⟩ : ∃ V, v.toNat = V := ⟨_, rfl⟩
      rw [hV] at hc hv8 hstep
      have hR2 : R < 72057594037927936 := by omega
      have hii : (i : Int) < (n : Int) := by omega
      have hi0 : (0 : Int) ≤ (i : Int) := by omega
      have hw : IntKind.u64.wrap (V : Int) = V := IntWalk.u64_in _ (by omega)
      have hwm : (V : Int) % 18446744073709551616 = V := by omega
      have hor : bits .or .u64 ((R : Int) * 256) (V : Int) = ((val (l.take (i + 1)) : Nat) : Int) := by
        rw [hstep, show (R : Int) * 256 = ((R * 256 : Nat) : Int) by omega, u64_or_nat _ _ (by omega) (by omega), nat_join 8 _ _ (by omega) (by omega)]
        congr 1
        omega
      replace hstep := Lib.hid hstep
      clear hv hR hV hp hr
      go_wp2_with fail
      go_roundw
      case rel => exact ⟨i + 1, by omega, by go_num, rfl, trivial⟩
      case measure => simp [intOf]; omega
    · obtain rfl : i = n := by omega
      have hii : ¬ (i : Int) < (i : Int) := by omega
      go_wp2_with fail
      go_ret
      refine ⟨?_, rfl⟩
      rw [List.take_of_length_le (by rw [hl.out]; omega)]
      rfl
end Go.Proofs.Ytoefbjeclghfhaa
