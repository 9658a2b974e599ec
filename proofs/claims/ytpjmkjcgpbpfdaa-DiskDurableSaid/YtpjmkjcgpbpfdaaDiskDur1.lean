/- The law's function torn. -/
import Derived.Test.YtpjmkjcgpbpfdaaDiskArmed
namespace Go.Proofs.Ytpjmkjcgpbpfdaa
open Go.RowKit
set_option linter.unusedSimpArgs false

theorem same_is (w : World) (A B : Option Addr) (a b : List UInt8) (r : Bool) (ca cb na nb : Nat) (hr : decide (a = b) = r) (hna : a.length = na) (hnb : b.length = nb) (hA : Bts w A a) (hB : Bts w B b) :
    Calls Try.prog 17 #[.slice A na ca, .slice B nb cb] w fun e w' => e = .returned (.bool r) ∧ w = w' := by
  subst hr
  exact same_any w A B a b ca cb na nb hna hnb hA hB

theorem bts_cutN {w : World} {g c : Nat} {l : List UInt8} {k : Nat} (h : Bts w (some ⟨g, 0, none⟩) l) (hl : l.length ≤ c) :
    Bts w (if c = k then some ⟨g, 0, none⟩ else some ⟨g, k, none⟩) (l.drop k) := h.cut0 hl

set_option maxHeartbeats 1600000 in
theorem torn_any (w : World) (ga gb gc : Nat) (a b c : List UInt8) (ca : Nat) (k0 : Nat) (ha : a.length = 64) (hb : b.length = 64) (hc : c.length = 64) (hca : 64 ≤ ca)
    (hA : Bts w (some ⟨ga, 0, none⟩) a) (hB : Bts w (some ⟨gb, 0, none⟩) b) (hC : Bts w (some ⟨gc, 0, none⟩) c) (hk0 : k0 ≤ 64) (h : c = b.take k0 ++ a.drop k0) :
    Calls Try.prog 22 #[.slice (some ⟨ga, 0, none⟩) 64 ca, .slice (some ⟨gb, 0, none⟩) 64 64, .slice (some ⟨gc, 0, none⟩) 64 64] w fun e w' => e = .returned (.bool true) ∧ Keeps [] w w' := by
  have hlt : (b.take k0).length = k0 := by rw [List.length_take]; omega
  have hc1 : ∀ k, k ≤ k0 → c.take k = b.take k := by
    intro k hk
    rw [h, List.take_append_of_le_length (by omega), List.take_take, Nat.min_eq_left hk]
  have hc2 : c.drop k0 = a.drop k0 := by rw [h, List.drop_left' hlt]
  have Ha := Lib.hid ha
  have Hb := Lib.hid hb
  have Hc := Lib.hid hc
  have HA := Lib.hid hA
  have HB := Lib.hid hB
  have HC := Lib.hid hC
  have Hc1 := Lib.hid hc1
  have Hc2 := Lib.hid hc2
  clear ha hb hc hA hB hC hc1 hc2 h hlt
  go_enter Try.func22, Try.ntmps22
  go_wp2_with fail
  go_loopw [7] (fun i wr => ∃ k : Nat, k ≤ k0 ∧ i = .int .i64 k ∧ Keeps [] w wr) (fun i _ => 65 - (intOf i).toNat)
  case atStart => exact ⟨0, by omega, rfl, Keeps.refl _ _⟩
  case round =>
    obtain ⟨k, hk, rfl, hkw⟩ := hrel
    have Q := fun n : Nat => hkw.trans ((Keeps.refl [] wr).drewN n)
    replace hkw := Lib.hid hkw
    replace Q := Lib.hid Q
    have e1 : decide (c.take k = b.take k) = true := decide_eq_true (Hc1.out k hk)
    replace e1 := Lib.hid e1
    have hk64 : k ≤ 64 := by omega
    cases e2 : decide (c.drop k = a.drop k)
    · have hlt : k < k0 := by
        rcases Nat.lt_or_ge k k0 with h | h
        · exact h
        · obtain rfl : k = k0 := by omega
          rw [decide_eq_true Hc2.out] at e2
          cases e2
      replace e2 := Lib.hid e2
      have C1 : ∀ n, Calls Try.prog 17 #[.slice (some ⟨gc, 0, none⟩) k 64, .slice (some ⟨gb, 0, none⟩) k 64] (wr.drewN n) (fun e w' => e = .returned (.bool true) ∧ wr.drewN n = w') := fun n =>
        same_is (wr.drewN n) (some ⟨gc, 0, none⟩) (some ⟨gb, 0, none⟩) (c.take k) (b.take k) true _ _ _ _ e1.out (by rw [List.length_take, Hc.out]; omega) (by rw [List.length_take, Hb.out]; omega) ((HC.out.keep (Q.out n) (by simp)).take _) ((HB.out.keep (Q.out n) (by simp)).take _)
      have C2 : ∀ n, Calls Try.prog 17 #[.slice (if 64 = k then some ⟨gc, 0, none⟩ else some ⟨gc, k, none⟩) (64 - k) (64 - k), .slice (if ca = k then some ⟨ga, 0, none⟩ else some ⟨ga, k, none⟩) (64 - k) (ca - k)] (wr.drewN n) (fun e w' => e = .returned (.bool false) ∧ wr.drewN n = w') := fun n =>
        same_is (wr.drewN n) _ _ (c.drop k) (a.drop k) false _ _ _ _ e2.out (by rw [List.length_drop, Hc.out]) (by rw [List.length_drop, Ha.out]) (bts_cutN (HC.out.keep (Q.out n) (by simp)) (by rw [Hc.out]; omega)) (bts_cutN (HA.out.keep (Q.out n) (by simp)) (by rw [Ha.out]; omega))
      replace C1 := Lib.hid C1
      replace C2 := Lib.hid C2
      go_wp2_with fail
      go_quiet (first
        | (go_at_call 17; with_reducible exact quiet_left (C1.out _))
        | (go_at_call 17; with_reducible exact quiet_left (C2.out _)))
      all_goals
        go_wp2_with fail
      all_goals
        go_roundw
      case rel => exact ⟨k + 1, by omega, by go_num, Q.out _⟩
      case measure => simp [intOf]; omega
    · replace e2 := Lib.hid e2
      have C1 : ∀ n, Calls Try.prog 17 #[.slice (some ⟨gc, 0, none⟩) k 64, .slice (some ⟨gb, 0, none⟩) k 64] (wr.drewN n) (fun e w' => e = .returned (.bool true) ∧ wr.drewN n = w') := fun n =>
        same_is (wr.drewN n) (some ⟨gc, 0, none⟩) (some ⟨gb, 0, none⟩) (c.take k) (b.take k) true _ _ _ _ e1.out (by rw [List.length_take, Hc.out]; omega) (by rw [List.length_take, Hb.out]; omega) ((HC.out.keep (Q.out n) (by simp)).take _) ((HB.out.keep (Q.out n) (by simp)).take _)
      have C2 : ∀ n, Calls Try.prog 17 #[.slice (if 64 = k then some ⟨gc, 0, none⟩ else some ⟨gc, k, none⟩) (64 - k) (64 - k), .slice (if ca = k then some ⟨ga, 0, none⟩ else some ⟨ga, k, none⟩) (64 - k) (ca - k)] (wr.drewN n) (fun e w' => e = .returned (.bool true) ∧ wr.drewN n = w') := fun n =>
        same_is (wr.drewN n) _ _ (c.drop k) (a.drop k) true _ _ _ _ e2.out (by rw [List.length_drop, Hc.out]) (by rw [List.length_drop, Ha.out]) (bts_cutN (HC.out.keep (Q.out n) (by simp)) (by rw [Hc.out]; omega)) (bts_cutN (HA.out.keep (Q.out n) (by simp)) (by rw [Ha.out]; omega))
      replace C1 := Lib.hid C1
      replace C2 := Lib.hid C2
      go_wp2_with fail
      go_quiet (first
        | (go_at_call 17; with_reducible exact quiet_left (C1.out _))
        | (go_at_call 17; with_reducible exact quiet_left (C2.out _)))
      all_goals
        go_wp2_with fail
      all_goals
        go_ret
        exact ⟨rfl, Q.out _⟩
end Go.Proofs.Ytpjmkjcgpbpfdaa
