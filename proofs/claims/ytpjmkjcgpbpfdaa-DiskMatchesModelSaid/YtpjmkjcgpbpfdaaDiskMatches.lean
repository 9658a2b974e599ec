/- The walk of the law DiskMatchesModel. -/
import Derived.Test.YtpjmkjcgpbpfdaaDisk11
namespace Go.Proofs.Ytpjmkjcgpbpfdaa
open Go.RowKit
set_option linter.unusedSimpArgs false

theorem Both.keepNil {w w' : World} {B bd bs bm bS : Nat} {s : St} (h : Both w B bd bs bm bS s) (hk : Keeps [] w w') : Both w' B bd bs bm bS s := h.keep hk

set_option maxHeartbeats 1600000 in
theorem matches_law (w : World) (A : Option Addr) (ops : List OpD) (n c : Nat) (hn : ops.length = n) (hnc : n ≤ c) (hc : c ≤ 9223372036854775807) (hO : OpsAt w w.heap.size A ops) :
    Calls Try.prog 6 #[.slice A n c] w fun e w' => e = .returned (.bool true) ∧ Keeps [] w w' := by
  have HO := Lib.hid hO
  have Hn := Lib.hid hn
  clear hO hn
  cases hfew : few ops
  · replace hfew := Lib.hid hfew
    go_enter Try.func6, Try.ntmps6
    go_wp2_with fail
    refine (awake_any w).mono ?_
    rintro e w1 ⟨rfl, k1⟩
    replace k1 := Lib.hid k1
    go_wp2_with fail
    refine (few_any w1 A ops n c _ Hn.out hnc hc (HO.out.keep k1.out (by simp))).mono ?_
    rintro e w2 ⟨rfl, k2⟩
    rw [hfew.out]
    replace k2 := Lib.hid k2
    go_wp2_with fail
    refine (awake_any w2).mono ?_
    rintro e w3 ⟨rfl, k3⟩
    replace k3 := Lib.hid k3
    go_wp2_with fail
    go_ret
    exact ⟨rfl, (k1.out.trans k2.out).trans k3.out⟩
  · replace hfew := Lib.hid hfew
    go_enter Try.func6, Try.ntmps6
    go_wp2_with fail
    refine (awake_any w).mono ?_
    rintro e w1 ⟨rfl, k1⟩
    replace k1 := Lib.hid k1
    go_wp2_with fail
    refine (few_any w1 A ops n c _ Hn.out hnc hc (HO.out.keep k1.out (by simp))).mono ?_
    rintro e w2 ⟨rfl, k2⟩
    rw [hfew.out]
    replace k2 := Lib.hid (k1.out.trans k2)
    clear k1
    go_wp2_with fail
    refine (run_any w2 A ops n c w.heap.size Hn.out hnc hc (HO.out.keep k2.out (by simp)) k2.out.size hfew.out).mono ?_
    rintro e w3 ⟨bd, bs, bm, bS, rfl, hb, l1, l2, l3, l4, k3⟩
    replace k3 := Lib.hid (k2.out.trans k3)
    replace hb := Lib.hid hb
    go_wp2_with fail
    refine (agree_any w3 _ bd bs bm bS _ hb.out).mono ?_
    rintro e w4 ⟨rfl, hb4, k4⟩
    replace k4 := Lib.hid k4
    go_wp2_with fail
    go_ret
    refine ⟨rfl, ((k3.out.nil (X := [bd, bs, bm, bS])).trans k4.out).mono ?_⟩
    intro x hx
    right
    have := k2.out.size
    simp at hx
    omega
end Go.Proofs.Ytpjmkjcgpbpfdaa
