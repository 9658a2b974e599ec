/- The walk of the law DiskNew: it returns true, and of what was there nothing has turned. -/
import Derived.Test.YtpjmkjcgpbpfdaaDisk8
namespace Go.Proofs.Ytpjmkjcgpbpfdaa
open Go.RowKit
set_option linter.unusedSimpArgs false

theorem chk_true {s : St} {i : Int} (hd : s.down = false) (h0 : 0 ≤ i) (h1 : i < s.n) : chk s i = 0 := by
  unfold chk; rw [hd]; simp; omega

set_option maxHeartbeats 1600000 in
theorem new_law (n : Int) (w : World) (hlo : -9223372036854775808 ≤ n) (hhi : n ≤ 9223372036854775807) :
    Calls Try.prog 7 #[.int .i64 n] w fun e w' => e = .returned (.bool true) ∧ Keeps [] w w' := by
  by_cases h1 : 70000 < n
  · go_enter Try.func7, Try.ntmps7
    go_wp2_with fail
    refine (awake_any w).mono ?_
    rintro e w1 ⟨rfl, k1⟩
    replace k1 := Lib.hid k1
    go_wp2_with fail
    refine (awake_any w1).mono ?_
    rintro e w2 ⟨rfl, k2⟩
    replace k2 := Lib.hid k2
    go_wp2_with fail
    go_ret
    exact ⟨rfl, k1.out.trans k2.out⟩
  · by_cases h2 : n < 1 ∨ 65536 < n
    · have h2' := Lib.hid h2
      rcases h2 with h3 | h3
      all_goals
        go_enter Try.func7, Try.ntmps7
        go_wp2_with fail
        refine (awake_any w).mono ?_
        rintro e w1 ⟨rfl, k1⟩
        replace k1 := Lib.hid k1
        go_wp2_with (go_at_call 20; refine (new_bad w1 n h2'.out).mono ?_; rintro e w2 ⟨rfl, rfl⟩)
        go_ret
        exact ⟨rfl, k1.out⟩
    · have h3 : 1 ≤ n := by omega
      have h4 : n ≤ 65536 := by omega
      clear h2 h1 hlo hhi
      obtain ⟨m, rfl⟩ := Int.eq_ofNat_of_zero_le (show 0 ≤ n by omega)
      have e1 : chk (st0 m) ((m : Int) - 1) = 0 := chk_true rfl (by omega) (by show (m : Int) - 1 < (m : Int); omega)
      have e2 : chk (st0 m) (m : Int) = 1 := by simp [chk, st0]
      have e3 : rd (st0 m) ((m : Int) - 1) = (List.replicate 64 0, 0) := by
        have em : ((m : Int) - 1).toNat = m - 1 := by omega
        have e5 : sec (st0 m) (m - 1) = List.replicate 64 0 := by
          simp only [sec, st0, List.drop_replicate, List.take_replicate]
          congr 1
          omega
        simp only [rd, e1, em, e5]
        rfl
      have e4 : rd (st0 m) (m : Int) = ([], 1) := by simp [rd, e2]
      replace e1 := Lib.hid e1
      replace e2 := Lib.hid e2
      replace e3 := Lib.hid e3
      replace e4 := Lib.hid e4
      go_enter Try.func7, Try.ntmps7
      go_wp2_with fail
      refine (awake_any w).mono ?_
      rintro e w1 ⟨rfl, k1⟩
      replace k1 := Lib.hid k1
      go_wp2_with fail
      refine (new_ok w1 m (by omega) (by omega)).mono ?_
      rintro e w2 ⟨bd, bs, rfl, D2, l1, l2, k2⟩
      replace k2 := Lib.hid (k1.out.trans k2)
      replace D2 := Lib.hid D2
      go_wp2_with (first
        | (go_at_call 24; refine (sectors_any w2 bd bs _ D2.out).mono ?_; rintro e w3 ⟨rfl, rfl⟩)
        | (go_at_call 19; refine (failed_any w2 bd bs _ D2.out).mono ?_; rintro e w3 ⟨rfl, rfl⟩)
        | (go_at_call 25; refine (writes_any w2 bd bs _ D2.out).mono ?_; rintro e w3 ⟨rfl, rfl⟩))
      refine (read_any w2 bd bs _ _ D2.out).mono ?_
      rintro e w3 ⟨A, c, rfl, hB, hc, hA, k3⟩
      rw [e3.out] at hB hc ⊢
      have D3 := Lib.hid (D2.out.keep k3 (by simp) (by simp))
      replace k3 := Lib.hid (k2.out.trans k3)
      replace hB := Lib.hid hB
      clear hc hA k2 D2 k1
      go_wp2_with fail
      refine (read_any w3 bd bs _ _ D3.out).mono ?_
      rintro e w4 ⟨A4, c4, rfl, hB4, hc4, hA4, k4⟩
      rw [e4.out]
      have hB5 := Lib.hid (hB.out.keep k4 (by simp))
      replace k4 := Lib.hid (k3.out.trans k4)
      clear hc4 hA4 hB4 k3 D3 hB
      go_wp2_with (first
        | (refine wpList_make rfl 23 (.const (.int .i64 64)) (.const (.int .i64 64)) rfl 5 (.int .u8 0) 1 1 Try.underlying23 (by kernel_rfl) .i64 .i64 64 64 rfl rfl (by omega) (by omega) (by omega) ?_; intro w5 m5 k5 s5; rw [show (Value.int IntKind.u8 0).cells = Array.replicate 1 (bv 0) from rfl, madeCells_same _ _ _ (by decide)] at m5; replace k5 := Lib.hid k5)
        | (go_at_call 17; refine (same_any w5 A (some ⟨w4.heap.size, 0, none⟩) (List.replicate 64 0) (List.replicate 64 0) _ _ _ _ (by simp) (by simp) (hB5.out.keep k5.out (by simp)) (blk_bts (t := 5) (by simpa using m5.out))).mono ?_; rintro e w6 ⟨rfl, rfl⟩))
      go_ret
      exact ⟨rfl, k4.out.trans k5.out⟩
end Go.Proofs.Ytpjmkjcgpbpfdaa
