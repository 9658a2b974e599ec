/- The contract of New; awake. -/
import Derived.Test.YtbhdangjafokaaaSess5
namespace Go.Proofs.Ytbhdangjafokaaa
open Go.RowKit
set_option linter.unusedSimpArgs false
set_option linter.unusedVariables false

set_option maxHeartbeats 800000 in
theorem new_bad (w : World) (num : Int) (A : Option Addr) (n c : Nat) (hb : num < 0 ∨ 8 ≤ num) :
    Calls Try.prog 14 #[.int .i64 num, .slice A n c] w fun e w' => e = .returned (.pointer none) ∧ w = w' := by
  by_cases h0 : num < 0
  · go_enter Try.func14, Try.ntmps14
    go_wp2_with fail
    go_ret
    exact ⟨rfl, rfl⟩
  · have h1 : 8 ≤ num := by omega
    clear hb
    go_enter Try.func14, Try.ntmps14
    go_wp2_with fail
    go_ret
    exact ⟨rfl, rfl⟩

theorem own_zero {w : World} {base : Nat} {e : TypeId} {size n : Nat} {v : Value} {xs : List Value} (h : w.ownsRow base e size v n xs) : w.ownsRow 0 e size v n xs := by
  refine ⟨h.1, ?_⟩
  rcases h.2 with h | ⟨g, cap, cur, hv, hb, hr⟩
  · exact .inl h
  · exact .inr ⟨g, cap, cur, hv, Nat.zero_le _, hr⟩

def NewPost (num : Int) (ks : List Int) (w : World) (e : Ending) (w' : World) : Prop :=
  ∃ b, e = .returned (.pointer (some ⟨b, 0, none⟩)) ∧ SRep w' b num ks 0 0 ∧ w.heap.size ≤ b ∧ Keeps [] w w'

set_option maxHeartbeats 1600000 in
theorem new_ok (w : World) (num : Int) (sv : Value) (base : Nat) (ks : List Int) (n : Nat) (hn : ks.length = n) (hO : w.ownsRow base 57 22 sv n (stms ks)) (hnil : sv = .slice none 0 0 ↔ n = 0) (h60 : n ≤ 1048576) (h0 : 0 ≤ num) (h8 : num < 8) :
    Calls Try.prog 14 #[.int .i64 num, sv] w (NewPost num ks w) := by
  have hsl := split_len ks
  obtain ⟨A, c, rfl, hc, hm⟩ := own_slice hO
  replace hO := Lib.hid hO
  replace hnil := Lib.hid hnil
  replace hn := Lib.hid hn
  replace hsl := Lib.hid hsl
  go_enter Try.func14, Try.ntmps14
  go_wp2_with fail
  refine (clone_any w (.slice A n c) base ks n hn.out hO.out hnil.out h60).mono ?_
  rintro e w1 ⟨v1, rfl, o1, n1, k1⟩
  have ka := KindsAt.of_own (own_keep0 hO.out k1) hn.out
  replace o1 := Lib.hid o1
  replace n1 := Lib.hid n1
  replace k1 := Lib.hid k1
  replace ka := Lib.hid ka
  clear hO hnil
  go_wp2_with fail
  refine (split_any w1 A ks n c hn.out ka.out h60).mono ?_
  rintro e w2 ⟨v2, rfl, o2, n2, k2⟩
  have o1' := own_zero (own_keep0 o1.out k2)
  obtain ⟨A1, c1, rfl, hc1, hm1⟩ := own_slice o1'
  obtain ⟨A2, c2, rfl, hc2, hm2⟩ := own_slice o2
  replace o1 := Lib.hid o1'
  replace o2 := Lib.hid o2
  replace n2 := Lib.hid n2
  replace k2 := Lib.hid (k1.out.trans k2)
  clear o1' k1
  go_wp2_with fail
  go_ret
  refine ⟨w2.heap.size, rfl, ⟨⟨_, _, Blk.new _ _ _, ?_, ?_⟩, h0, h8, by rw [hn.out]; exact h60, Nat.zero_le _, Nat.zero_le _⟩, k2.out.size, k2.out.alloc _⟩
  · rw [hn.out]; exact own_keep0 o1.out ((Keeps.refl _ _).alloc _)
  · exact own_keep0 (own_zero o2.out) ((Keeps.refl _ _).alloc _)
end Go.Proofs.Ytbhdangjafokaaa
