/- The contracts of the checksum, of the program and of the reference. -/
import Derived.Test.YtoefbjeclghfhaaSnapW
import Derived.Laws.BitsAllLaws
import Derived.IntWalk
namespace Go.Proofs.Ytoefbjeclghfhaa
open Go.RowKit
set_option linter.unusedSimpArgs false
set_option linter.unusedVariables false

theorem crcReg_take {l : List UInt8} {i x : Nat} {v : UInt8} (h : l[i]? = some v) : crcReg x (l.take (i + 1)) = crcByte (crcReg x (l.take i)) v := by
  have hi : i < l.length := (List.getElem?_eq_some_iff.1 h).1
  have hv : l[i] = v := (List.getElem?_eq_some_iff.1 h).2
  rw [List.take_succ_eq_append_getElem hi, crcReg_append, hv]
  rfl
theorem bts_cell {w : World} {g o : Nat} {l : List UInt8} (h : Bts w (some ⟨g, o, none⟩) l) {i : Nat} {v : UInt8} (hi : l[i]? = some v) : w.cell? ⟨g, o + i, none⟩ = some (.int .u8 (v.toNat : Nat)) := by
  rcases h with rfl | ⟨g', o', e, h⟩
  · simp at hi
  · injection e with e
    injection e with e1 e2
    subst e1 e2
    exact h i v hi

theorem flip_nat {r : Nat} (h : r < 2 ^ 64) : (18446744073709551615 : Nat) ^^^ r = 18446744073709551615 - r := by
  have e : 18446744073709551615 - r = 2 ^ 64 - (r + 1) := by omega
  rw [e, show (18446744073709551615 : Nat) = 2 ^ 64 - 1 from rfl]
  apply Nat.eq_of_testBit_eq
  intro i
  rw [Nat.testBit_xor, Nat.testBit_two_pow_sub_one, Nat.testBit_two_pow_sub_succ h]
  by_cases hi : i < 64
  · simp [hi]
  · have : r.testBit i = false := Nat.testBit_lt_two_pow (Nat.lt_of_lt_of_le h (Nat.pow_le_pow_right (by decide) (by omega)))
    simp [hi, this]
theorem flip_u64 (r : Nat) (h : r < 2 ^ 64) : bits .xor .u64 IntKind.u64.max (r : Int) = ((18446744073709551615 - r : Nat) : Int) := by
  have h2 : IntKind.u64.max = ((18446744073709551615 : Nat) : Int) := by decide
  rw [h2, u64_xor_nat _ _ (by omega) (by omega), flip_nat h]
theorem flip_zero' : bits .xor .u64 IntKind.u64.max 0 = 18446744073709551615 := flip_u64 0 (by decide)
theorem flip_zero : bits .xor .u64 IntKind.u64.max 0 = ((18446744073709551615 : Nat) : Int) := flip_u64 0 (by decide)

set_option maxHeartbeats 1600000 in
theorem update_any (w : World) (A : Option Addr) (l : List UInt8) (n c : Nat) (hB : Bts w A l) (hl : l.length = n) (hn : n ≤ 1000000000) :
    Calls Try.prog 43 #[.int .u64 0, .slice A n c] w fun e w' => e = .returned (.int .u64 (crc l : Nat)) ∧ w = w' := by
  replace hB := Lib.hid hB
  replace hl := Lib.hid hl
  have hz := Lib.hid flip_zero
  go_enter Try.func43, Try.ntmps43
  go_wp2_with fail
  rw [hz.out]
  go_loopw [5, 13] (fun rv iv wr => ∃ i : Nat, i ≤ n ∧ iv = .int .i64 i ∧ rv = .int .u64 (crcReg 18446744073709551615 (l.take i) : Nat) ∧ w = wr) (fun _ iv _ => n - (intOf iv).toNat)
  case atStart => exact ⟨0, Nat.zero_le _, rfl, rfl, rfl⟩
  case round =>
    obtain ⟨i, hi, rfl, rfl, rfl⟩ := hrel
    by_cases hlt : i < n
    · obtain ⟨v, hv⟩ : ∃ v, l[i]? = some v := ⟨l[i]'(by rw [hl.out]; exact hlt), List.getElem?_eq_getElem _⟩
      obtain ⟨g, o, rfl⟩ : ∃ g o, A = some ⟨g, o, none⟩ := by
        rcases hB.out with h | ⟨g, o, h, _⟩
        · rw [h] at hv; simp at hv
        · exact ⟨g, o, h⟩
      have hc := bts_cell hB.out hv
      have hstep := crcReg_take (x := 18446744073709551615) hv
      have hr := crcReg_lt (l.take i) (x := 18446744073709551615) (by decide)
      have hv8 := v.toNat_lt
      obtain ⟨R, hR⟩ : ∃ R, crcReg 18446744073709551615 (l.take i) = R := ⟨_, rfl⟩
      rw [hR] at hstep hr ⊢
      obtain ⟨V, hV⟩ : ∃ V, v.toNat = V := ⟨_, rfl⟩
      rw [hV] at hc hv8
      have hx : bits .xor .u64 (R : Int) (V : Int) = ((R ^^^ V : Nat) : Int) := u64_xor_nat R V (by omega) (by omega)
      have hx2 : R ^^^ V < 2 ^ 64 := Nat.xor_lt_two_pow hr (by omega)
      have hii : (i : Int) < (n : Int) := by omega
      have hi0 : (0 : Int) ≤ (i : Int) := by omega
      have hw : IntKind.u64.wrap (V : Int) = V := IntWalk.u64_in _ (by omega)
      have hwm : (V : Int) % 18446744073709551616 = V := by omega
      have hstep' : Hid (crc8 8 (R ^^^ V) = crcReg 18446744073709551615 (l.take (i + 1))) := Lib.hid (by rw [hstep]; unfold crcByte; rw [hV])
      clear hstep hv hR hV
      go_wp2_with fail
      go_loopw [5, 21] (fun rv jv wr => ∃ (j x : Nat), j ≤ 8 ∧ jv = .int .i64 j ∧ rv = .int .u64 (x : Nat) ∧ x < 2 ^ 64 ∧ Hid (crc8 (8 - j) x = crc8 8 (R ^^^ V)) ∧ w = wr) (fun _ jv _ => 8 - (intOf jv).toNat)
      case atStart => exact ⟨0, R ^^^ V, Nat.zero_le _, rfl, rfl, hx2, Lib.hid rfl, rfl⟩
      case round =>
        obtain ⟨j, x, hj, rfl, rfl, hx64, hcr, rfl⟩ := hrel
        by_cases hj8 : j < 8
        · have hji : (j : Int) < 8 := by omega
          have hand : bits .and .u64 (x : Int) 1 = ((x % 2 : Nat) : Int) := by
            have := u64_and_nat x 1 (by omega) (by omega)
            rw [Nat.and_one_is_mod] at this
            exact this
          have hnext : Hid (crc8 (8 - (j + 1)) (crcBit x) = crc8 8 (R ^^^ V)) := Lib.hid (by
            rw [← hcr.out, show 8 - j = (8 - (j + 1)) + 1 by omega]; rfl)
          have hlt2 := crcBit_lt hx64
          by_cases hodd : x % 2 = 1
          · rw [hodd] at hand
            have hbit : crcBit x = (x / 2) ^^^ 14514072000185962306 := by unfold crcBit; rw [if_pos hodd]
            have hxr : bits .xor .u64 ((x : Int) / 2) 14514072000185962306 = ((crcBit x : Nat) : Int) := by
              rw [hbit]
              exact u64_xor_nat (x / 2) 14514072000185962306 (by omega) (by omega)
            replace hbit := Lib.hid hbit
            replace hodd := Lib.hid hodd
            go_wp2_with fail
            go_roundw
            case rel => exact ⟨j + 1, crcBit x, by omega, by go_num, rfl, hlt2, hnext, trivial⟩
            case measure => simp [intOf]; omega
          · have hev : x % 2 = 0 := by omega
            rw [hev] at hand
            have hbit : crcBit x = x / 2 := by unfold crcBit; rw [if_neg hodd]
            replace hbit := Lib.hid hbit
            replace hev := Lib.hid hev
            clear hodd
            go_wp2_with fail
            go_roundw
            case rel => exact ⟨j + 1, x / 2, by omega, by go_num, congrArg (Value.int .u64) (by omega), by omega, Lib.hid (by rw [← hbit.out]; exact hnext.out), trivial⟩
            case measure => simp [intOf]; omega
        · obtain rfl : j = 8 := by omega
          have h8 := hcr.out
          have hx3 : x = crcReg 18446744073709551615 (l.take (i + 1)) := by rw [← hstep'.out, ← h8]; rfl
          subst hx3
          clear h8 hcr
          go_wp2_with fail
          go_roundw
          case rel => exact ⟨i + 1, by omega, by go_num, rfl, trivial⟩
          case measure => simp [intOf]; omega
    · obtain rfl : i = n := by omega
      have hii : ¬ (i : Int) < (i : Int) := by omega
      have hfl := flip_u64 (crcReg 18446744073709551615 (l.take i)) (crcReg_lt _ (by decide))
      go_wp2_with fail
      go_ret
      refine ⟨?_, rfl⟩
      rw [List.take_of_length_le (by rw [hl.out]; omega)]
      rfl

theorem sum_any (w : World) (A : Option Addr) (l : List UInt8) (n c : Nat) (hB : Bts w A l) (hl : l.length = n) (hn : n ≤ 1000000000) :
    Calls Try.prog 32 #[.slice A n c] w fun e w' => e = .returned (.int .u64 (crc l : Nat)) ∧ w = w' := by
  have H := Lib.hid (update_any w A l n c hB hl hn)
  clear hB hl
  go_enter Try.func32, Try.ntmps32
  go_wp2_with fail
  refine H.out.mono ?_
  rintro e w1 ⟨rfl, rfl⟩
  clear H
  go_wp2_with fail
  go_ret
  exact ⟨rfl, rfl⟩

set_option maxHeartbeats 1600000 in
theorem turn_any (w : World) (R V : Nat) (hR : R < 2 ^ 64) (hV : V < 256) :
    Calls Try.prog 51 #[.int .u64 R, .int .u8 V] w fun e w' => e = .returned (.int .u64 (crc8 8 (R ^^^ V) : Nat)) ∧ w = w' := by
  have hx : bits .xor .u64 (R : Int) (V : Int) = ((R ^^^ V : Nat) : Int) := u64_xor_nat R V (by omega) (by omega)
  have hx2 : R ^^^ V < 2 ^ 64 := Nat.xor_lt_two_pow hR (by omega)
  have hw : IntKind.u64.wrap (V : Int) = V := IntWalk.u64_in _ (by omega)
  have hwm : (V : Int) % 18446744073709551616 = V := by omega
  go_enter Try.func51, Try.ntmps51
  go_wp2_with fail
  go_loopw [0, 5] (fun rv jv wr => ∃ (j x : Nat), j ≤ 8 ∧ jv = .int .i64 j ∧ rv = .int .u64 (x : Nat) ∧ x < 2 ^ 64 ∧ Hid (crc8 (8 - j) x = crc8 8 (R ^^^ V)) ∧ w = wr) (fun _ jv _ => 8 - (intOf jv).toNat)
  case atStart => exact ⟨0, R ^^^ V, Nat.zero_le _, rfl, rfl, hx2, Lib.hid rfl, rfl⟩
  case round =>
    obtain ⟨j, x, hj, rfl, rfl, hx64, hcr, rfl⟩ := hrel
    by_cases hj8 : j < 8
    · have hji : (j : Int) < 8 := by omega
      have hnext : Hid (crc8 (8 - (j + 1)) (crcBit x) = crc8 8 (R ^^^ V)) := Lib.hid (by
        rw [← hcr.out, show 8 - j = (8 - (j + 1)) + 1 by omega]; rfl)
      have hlt2 := crcBit_lt hx64
      by_cases hodd : x % 2 = 1
      · have hbit : crcBit x = (x / 2) ^^^ 14514072000185962306 := by unfold crcBit; rw [if_pos hodd]
        have hxr : bits .xor .u64 ((x : Int) / 2) 14514072000185962306 = ((crcBit x : Nat) : Int) := by
          rw [hbit]
          exact u64_xor_nat (x / 2) 14514072000185962306 (by omega) (by omega)
        have ho1 : (x : Int) % 2 = 1 := by omega
        replace hbit := Lib.hid hbit
        clear hodd
        go_wp2_with fail
        go_roundw
        case rel => exact ⟨j + 1, crcBit x, by omega, by go_num, rfl, hlt2, hnext, trivial⟩
        case measure => simp [intOf]; omega
      · have hbit : crcBit x = x / 2 := by unfold crcBit; rw [if_neg hodd]
        have ho1 : (x : Int) % 2 = 0 := by omega
        replace hbit := Lib.hid hbit
        clear hodd
        go_wp2_with fail
        go_roundw
        case rel => exact ⟨j + 1, x / 2, by omega, by go_num, congrArg (Value.int .u64) (by omega), by omega, Lib.hid (by rw [← hbit.out]; exact hnext.out), trivial⟩
        case measure => simp [intOf]; omega
    · obtain rfl : j = 8 := by omega
      have h8 : x = crc8 8 (R ^^^ V) := by rw [← hcr.out]; rfl
      subst h8
      clear hcr
      go_wp2_with fail
      go_ret
      exact ⟨rfl, rfl⟩

set_option maxHeartbeats 1600000 in
theorem rupdate_any (w : World) (A : Option Addr) (l : List UInt8) (n c : Nat) (hB : Bts w A l) (hl : l.length = n) (hn : n ≤ 1000000000) :
    Calls Try.prog 50 #[.int .u64 0, .slice A n c] w fun e w' => e = .returned (.int .u64 (crc l : Nat)) ∧ w = w' := by
  replace hB := Lib.hid hB
  replace hl := Lib.hid hl
  have hz := Lib.hid flip_zero'
  go_enter Try.func50, Try.ntmps50
  go_wp2_with fail
  rw [hz.out]
  go_loopw [5, 6] (fun rv iv wr => ∃ i : Nat, i ≤ n ∧ iv = .int .i64 i ∧ rv = .int .u64 (crcReg 18446744073709551615 (l.take i) : Nat) ∧ w = wr) (fun _ iv _ => n - (intOf iv).toNat)
  case atStart => exact ⟨0, Nat.zero_le _, rfl, rfl, rfl⟩
  case round =>
    obtain ⟨i, hi, rfl, rfl, rfl⟩ := hrel
    by_cases hlt : i < n
    · obtain ⟨v, hv⟩ : ∃ v, l[i]? = some v := ⟨l[i]'(by rw [hl.out]; exact hlt), List.getElem?_eq_getElem _⟩
      obtain ⟨g, o, rfl⟩ : ∃ g o, A = some ⟨g, o, none⟩ := by
        rcases hB.out with h | ⟨g, o, h, _⟩
        · rw [h] at hv; simp at hv
        · exact ⟨g, o, h⟩
      have hc := bts_cell hB.out hv
      have hstep := crcReg_take (x := 18446744073709551615) hv
      have hr := crcReg_lt (l.take i) (x := 18446744073709551615) (by decide)
      have hv8 := v.toNat_lt
      obtain ⟨R, hR⟩ : ∃ R, crcReg 18446744073709551615 (l.take i) = R := ⟨_, rfl⟩
      rw [hR] at hstep hr ⊢
      obtain ⟨V, hV⟩ : ∃ V, v.toNat = V := ⟨_, rfl⟩
      rw [hV] at hc hv8
      have hii : (i : Int) < (n : Int) := by omega
      have hi0 : (0 : Int) ≤ (i : Int) := by omega
      have HT := turn_any w R V hr hv8
      have hstep' : crc8 8 (R ^^^ V) = crcReg 18446744073709551615 (l.take (i + 1)) := by rw [hstep]; unfold crcByte; rw [hV]
      rw [hstep'] at HT
      replace HT := Lib.hid HT
      clear hstep hv hR hV hstep'
      go_wp2_with fail
      refine HT.out.mono ?_
      rintro e w1 ⟨rfl, rfl⟩
      clear HT
      go_wp2_with fail
      go_roundw
      case rel => exact ⟨i + 1, by omega, by go_num, rfl, trivial⟩
      case measure => simp [intOf]; omega
    · obtain rfl : i = n := by omega
      have hii : ¬ (i : Int) < (i : Int) := by omega
      have hfl := flip_u64 (crcReg 18446744073709551615 (l.take i)) (crcReg_lt _ (by decide))
      go_wp2_with fail
      go_ret
      refine ⟨?_, rfl⟩
      rw [List.take_of_length_le (by rw [hl.out]; omega)]
      rfl
theorem rsum_any (w : World) (A : Option Addr) (l : List UInt8) (n c : Nat) (hB : Bts w A l) (hl : l.length = n) (hn : n ≤ 1000000000) :
    Calls Try.prog 48 #[.slice A n c] w fun e w' => e = .returned (.int .u64 (crc l : Nat)) ∧ w = w' := by
  have H := Lib.hid (rupdate_any w A l n c hB hl hn)
  clear hB hl
  go_enter Try.func48, Try.ntmps48
  go_wp2_with fail
  refine H.out.mono ?_
  rintro e w1 ⟨rfl, rfl⟩
  clear H
  go_wp2_with fail
  go_ret
  exact ⟨rfl, rfl⟩
end Go.Proofs.Ytoefbjeclghfhaa
