/- The walk of the statement SessionSplit. -/
import Derived.Test.YtbhdangjafokaaaSess7
namespace Go.Proofs.Ytbhdangjafokaaa
open Go.RowKit
set_option linter.unusedSimpArgs false
set_option linter.unusedVariables false

set_option maxHeartbeats 1600000 in
theorem law_split (w : World) (A : Option Addr) (ks : List Int) (n c : Nat) (hn : ks.length = n) (hnc : n ≤ c) (hO : IntsAt w w.heap.size A ks) :
    Calls Try.prog 3 #[.slice A n c] w fun e w' => e = .returned (.bool true) ∧ Keeps [] w w' := by
  replace hO := Lib.hid hO
  replace hn := Lib.hid hn
  by_cases h60 : 60 < n
  · go_enter Try.func3, Try.ntmps3
    go_wp2_with fail
    refine (awake_any w).mono ?_
    rintro e w1 ⟨rfl, k1⟩
    replace k1 := Lib.hid k1
    go_wp2_with fail
    go_ret
    exact ⟨rfl, k1.out⟩
  · go_enter Try.func3, Try.ntmps3
    go_wp2_with fail
    refine (awake_any w).mono ?_
    rintro e w1 ⟨rfl, k1⟩
    have i1 := Lib.hid (hO.out.keep k1 (by simp))
    replace k1 := Lib.hid k1
    go_wp2_with fail
    refine (script_any w1 w.heap.size A ks n c hn.out hnc k1.out.size i1.out (by omega)).mono ?_
    rintro e w2 ⟨v, rfl, o2, n2, k2⟩
    obtain ⟨A2, c2, rfl, _, _⟩ := own_slice o2
    have ka := KindsAt.of_own o2 hn.out
    replace ka := Lib.hid ka
    have i2 := Lib.hid (i1.out.keep k2 (by simp))
    replace k2 := Lib.hid (k1.out.trans k2)
    clear n2 k1 i1 o2
    go_wp2_with fail
    refine (split_any w2 A2 ks n c2 hn.out ka.out (by omega)).mono ?_
    rintro e w3 ⟨v, rfl, o3, n3, k3⟩
    obtain ⟨A3, c3, rfl, _, _⟩ := own_slice o3
    have pa := PairsAt.of_own o3 rfl
    replace pa := Lib.hid pa
    have i3 := Lib.hid (i2.out.keep k3 (by simp))
    replace k3 := Lib.hid (k2.out.trans k3)
    clear n3 k2 i2 ka o3
    go_wp2_with fail
    refine (rsplit_any w3 w.heap.size A ks n c hn.out hnc i3.out k3.out.size (by omega)).mono ?_
    rintro e w4 ⟨v, rfl, o4, k4⟩
    obtain ⟨A4, c4, rfl, _, _⟩ := own_slice o4
    have pb := PairsAt.of_own o4 rfl
    replace pb := Lib.hid pb
    have pa' := Lib.hid (pa.out.keep k4)
    replace k4 := Lib.hid (k3.out.trans k4)
    have hsl := Lib.hid (split_len ks)
    clear k3 i3 pa o4
    go_wp2_with fail
    refine (same_yes w4 A3 A4 (split ks) (split ks).length c3 c4 rfl pa'.out pb.out (by have := hsl.out; have := hn.out; omega)).mono ?_
    rintro e w5 ⟨rfl, k5⟩
    replace k5 := Lib.hid (k4.out.trans k5)
    go_wp2_with fail
    go_ret
    exact ⟨rfl, k5.out⟩
end Go.Proofs.Ytbhdangjafokaaa
