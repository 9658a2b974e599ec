/- The walk of the statement IntervalUnionMeet. -/
import Derived.Test.YthmnolpamllabaaIvSets
namespace Go.Proofs.Ythmnolpamllabaa
open Go.RowKit Go.Lib
set_option linter.unusedSimpArgs false
set_option linter.unusedVariables false

set_option maxHeartbeats 6400000 in
set_option maxRecDepth 100000 in
theorem law_unionMeet (w : World) (A B : Option Addr) (ca cb : Nat) (a b : List Iv) (hA : IvAt w w.heap.size A a) (hB : IvAt w w.heap.size B b) (h64a : All64 a) (h64b : All64 b) :
    Calls Try.prog 9 #[.slice A a.length ca, .slice B b.length cb] w fun e w' => e = .returned (.bool true) ∧ Keeps [] w w' := by
  replace hA := Lib.hid hA
  replace hB := Lib.hid hB
  replace h64a := Lib.hid h64a
  replace h64b := Lib.hid h64b
  by_cases hn : a.length ≤ 30
  · have hd : decide (a.length ≤ 30) = true := decide_eq_true hn
    by_cases hm : b.length ≤ 30
    · have he : decide (b.length ≤ 30) = true := decide_eq_true hm
      go_enter Try.func9, Try.ntmps9
      go_wp2_with fail
      refine (awake_any w).mono ?_
      rintro e w1 ⟨rfl, K1⟩
      replace K1 := Lib.hid K1
      go_wp2_with fail
      refine (few_any w1 A a.length ca).mono ?_
      rintro e w2 ⟨rfl, rfl⟩
      rw [hd]
      go_wp2_with fail
      refine (few_any w1 B b.length cb).mono ?_
      rintro e w2 ⟨rfl, rfl⟩
      rw [he]
      go_wp2_with fail
      refine (rof_got w1 w.heap.size A ca a K1.out.size (hA.out.keep K1.out (by simp)) h64a.out (by omega)).mono ?_
      rintro e w2 ⟨X, hiX, AX, cX, rfl, oX, nX, kk2⟩
      have K2 := Lib.hid (K1.out.trans kk2.out)
      clear kk2 K1
      go_wp2_with fail
      have sX := Lib.hid (SetIs.first hiX.out h64a.out hn)
      refine (rof_got w2 w.heap.size B cb b K2.out.size (hB.out.keep K2.out (by simp)) h64b.out (by omega)).mono ?_
      rintro e w3 ⟨Y, hiY, AY, cY, rfl, oY, nY, kk3⟩
      replace oX := Lib.hid (own_keep0 oX.out kk3.out)
      have K3 := Lib.hid (K2.out.trans kk3.out)
      clear kk3 K2
      have sY := Lib.hid (SetIs.first hiY.out h64b.out hm)
      clear nX nY hiX hiY
      have srcA := Lib.hid (src_iv ((hA.out.keep K3.out (by simp)).keep ((Keeps.refl [] w3).alloc (.cells #[] 38)) (by simp)))
      have hv := Lib.hid (own_void w3 38)
      obtain ⟨i0, hi, hz0, hz1, hz2⟩ := info_parts info38
      replace hi := Lib.hid hi
      replace hz0 := Lib.hid hz0
      replace hz1 := Lib.hid hz1
      replace hz2 := Lib.hid hz2
      go_wp2_with (at_builtin; first | (refine wpList_append_row (by rfl) (.tmp 22) (.tmp 23) 23 rfl w3.heap.size 38 i0 (.agg #[.int .i64 0, .int .i64 0]) 2 16 Try.underlying23 hi.out hz0.out hz1.out hz2.out rfl (by decide) _ 0 [] rfl hv.out A a.length ca (flat a) rfl (flat_len a) srcA.out (flat_one a) (by unfold maxLen; omega) (by omega) (Keeps.alloc (Keeps.refl [] w3) _).size ?_; intro v1 wa q1 q2 q3 q4; have Ka := Lib.hid (keeps_append ((Keeps.refl [] w3).alloc _) (Keeps.refl [] _) hv.out q2.out); have srcB := Lib.hid (src_iv ((hB.out.keep K3.out (by simp)).keep Ka.out (by simp)))) | (refine wpList_append_row (by rfl) (.tmp 24) (.tmp 25) 23 rfl w3.heap.size 38 i0 (.agg #[.int .i64 0, .int .i64 0]) 2 16 Try.underlying23 hi.out hz0.out hz1.out hz2.out rfl (by decide) v1 (0 + a.length) ([] ++ flat a) rfl q1.out B b.length cb (flat b) rfl (flat_len b) srcB.out (flat_one b) (by unfold maxLen; omega) (by omega) Ka.out.size ?_; intro v2 wb r1 r2 r3 r4))
      have Kb := Lib.hid (keeps_append Ka.out (Keeps.refl [] _) q1.out r2.out)
      have oN : Hid (wb.ownsRow w3.heap.size 38 2 v2 (a ++ b).length (flat (a ++ b))) := Lib.hid (by have := r1.out; rw [List.nil_append, Nat.zero_add, ← flat_append, ← List.length_append] at this; exact this)
      have hab : Hid ((a ++ b).length ≤ 60 ∧ All64 (a ++ b) ∧ ∀ n, inn (a ++ b) n ↔ inn a n ∨ inn b n) := Lib.hid ⟨by rw [List.length_append]; omega, all64_append h64a.out h64b.out, fun n => inn_append⟩
      generalize a ++ b = N at *
      obtain ⟨AN, cN, rfl, _⟩ := own_slice oN.out
      replace oX := Lib.hid (own_keep0 oX.out Kb.out)
      replace oY := Lib.hid (own_keep0 oY.out Kb.out)
      replace K3 := Lib.hid (K3.out.trans Kb.out)
      clear r1 r2 r3 r4 q1 q2 q3 q4 Ka Kb srcA srcB hv
      go_wp2_with fail
      refine (to_own wb _ AX cX X oX.out (Nat.le_trans sX.out.len (by omega))).mono ?_
      rintro e w4 ⟨AP, cP, rfl, oP, nP, kk4⟩
      replace oX := Lib.hid (own_keep0 oX.out kk4.out)
      replace oY := Lib.hid (own_keep0 oY.out kk4.out)
      replace oN := Lib.hid (own_keep0 oN.out kk4.out)
      have K4 := Lib.hid (K3.out.trans kk4.out)
      clear kk4 K3
      go_wp2_with fail
      clear nP
      refine (to_own w4 _ AY cY Y oY.out (Nat.le_trans sY.out.len (by omega))).mono ?_
      rintro e w5 ⟨AQ, cQ, rfl, oQ, nQ, kk5⟩
      replace oX := Lib.hid (own_keep0 oX.out kk5.out)
      replace oY := Lib.hid (own_keep0 oY.out kk5.out)
      replace oN := Lib.hid (own_keep0 oN.out kk5.out)
      replace oP := Lib.hid (own_keep0 oP.out kk5.out)
      have K5 := Lib.hid (K4.out.trans kk5.out)
      clear kk5 K4
      go_wp2_with fail
      clear nQ
      refine (union_own w5 _ _ AP AQ cP cQ X Y oP.out oQ.out (Nat.le_trans sX.out.len (by omega)) (Nat.le_trans sY.out.len (by omega)) sX.out.all sY.out.all).mono ?_
      rintro e w6 ⟨U, hiU, AU, cU, rfl, oU, nU, kk6⟩
      replace oX := Lib.hid (own_keep0 oX.out kk6.out)
      replace oY := Lib.hid (own_keep0 oY.out kk6.out)
      replace oN := Lib.hid (own_keep0 oN.out kk6.out)
      replace oP := Lib.hid (own_keep0 oP.out kk6.out)
      replace oQ := Lib.hid (own_keep0 oQ.out kk6.out)
      have K6 := Lib.hid (K5.out.trans kk6.out)
      clear kk6 K5
      go_wp2_with fail
      have sU := Lib.hid (SetIs.union sX.out sY.out hiU.out)
      clear oP oQ
      refine (of_got w6 _ AU cU U oU.out (Nat.le_trans sU.out.len (by omega))).mono ?_
      rintro e w7 ⟨AV, cV, rfl, oV, nV, kk7⟩
      replace oX := Lib.hid (own_keep0 oX.out kk7.out)
      replace oY := Lib.hid (own_keep0 oY.out kk7.out)
      replace oN := Lib.hid (own_keep0 oN.out kk7.out)
      replace oU := Lib.hid (own_keep0 oU.out kk7.out)
      have K7 := Lib.hid (K6.out.trans kk7.out)
      clear kk7 K6
      go_wp2_with fail
      clear oU
      refine (rof_own w7 _ AN cN N oN.out hab.out.2.1 (Nat.le_trans hab.out.1 (by omega))).mono ?_
      rintro e w8 ⟨R, hiR, AR, cR, rfl, oR, nR, kk8⟩
      replace oX := Lib.hid (own_keep0 oX.out kk8.out)
      replace oY := Lib.hid (own_keep0 oY.out kk8.out)
      replace oN := Lib.hid (own_keep0 oN.out kk8.out)
      replace oV := Lib.hid (own_keep0 oV.out kk8.out)
      have K8 := Lib.hid (K7.out.trans kk8.out)
      clear kk8 K7
      go_wp2_with fail
      have sR := Lib.hid (SetIs.first hiR.out hab.out.2.1 hab.out.1)
      have eq1 : R = U := sR.out.eq sU.out (fun n => hab.out.2.2 n)
      subst eq1
      refine (same_got w8 _ _ _ _ AV AR cV cR R R oV.out oR.out (Nat.le_trans sR.out.len (by omega))).mono ?_
      rintro e w9 ⟨rfl, kk9⟩
      replace oX := Lib.hid (own_keep0 oX.out kk9.out)
      replace oY := Lib.hid (own_keep0 oY.out kk9.out)
      replace oN := Lib.hid (own_keep0 oN.out kk9.out)
      replace oV := Lib.hid (own_keep0 oV.out kk9.out)
      replace oR := Lib.hid (own_keep0 oR.out kk9.out)
      have K9 := Lib.hid (K8.out.trans kk9.out)
      clear kk9 K8
      rw [decide_eq_true (rfl : R = R)]
      clear oV oR oN
      clear hiU hiR nU nV nR
      go_wp2_with fail
      refine (to_own w9 _ AX cX X oX.out (Nat.le_trans sX.out.len (by omega))).mono ?_
      rintro e w10 ⟨AP, cP, rfl, oP, nP, kk10⟩
      replace oX := Lib.hid (own_keep0 oX.out kk10.out)
      replace oY := Lib.hid (own_keep0 oY.out kk10.out)
      have K10 := Lib.hid (K9.out.trans kk10.out)
      clear kk10 K9
      go_wp2_with fail
      clear nP
      refine (to_own w10 _ AY cY Y oY.out (Nat.le_trans sY.out.len (by omega))).mono ?_
      rintro e w11 ⟨AQ, cQ, rfl, oQ, nQ, kk11⟩
      replace oX := Lib.hid (own_keep0 oX.out kk11.out)
      replace oY := Lib.hid (own_keep0 oY.out kk11.out)
      replace oP := Lib.hid (own_keep0 oP.out kk11.out)
      have K11 := Lib.hid (K10.out.trans kk11.out)
      clear kk11 K10
      go_wp2_with fail
      clear nQ
      refine (meet_own w11 _ _ AP AQ cP cQ X Y oP.out oQ.out (Nat.le_trans sX.out.len (by omega)) (Nat.le_trans sY.out.len (by omega))).mono ?_
      rintro e w12 ⟨AM, cM, rfl, oM, nM, kk12⟩
      replace oX := Lib.hid (own_keep0 oX.out kk12.out)
      replace oY := Lib.hid (own_keep0 oY.out kk12.out)
      replace oP := Lib.hid (own_keep0 oP.out kk12.out)
      replace oQ := Lib.hid (own_keep0 oQ.out kk12.out)
      have K12 := Lib.hid (K11.out.trans kk12.out)
      clear kk12 K11
      go_wp2_with fail
      have sM := Lib.hid (SetIs.meet sX.out sY.out)
      clear nM
      generalize meetL X Y = M at *
      clear oP oQ
      refine (of_got w12 _ AM cM M oM.out (Nat.le_trans sM.out.len (by omega))).mono ?_
      rintro e w13 ⟨AV, cV, rfl, oV, nV, kk13⟩
      replace oX := Lib.hid (own_keep0 oX.out kk13.out)
      replace oY := Lib.hid (own_keep0 oY.out kk13.out)
      replace oM := Lib.hid (own_keep0 oM.out kk13.out)
      have K13 := Lib.hid (K12.out.trans kk13.out)
      clear kk13 K12
      go_wp2_with fail
      clear oM
      refine (rmeet_own w13 _ _ AX AY cX cY X Y oX.out oY.out (Nat.le_trans sX.out.len (by omega)) (Nat.le_trans sY.out.len (by omega)) sX.out.all sY.out.all).mono ?_
      rintro e w14 ⟨S, hiS, AS, cS, rfl, oS, nS, kk14⟩
      replace oX := Lib.hid (own_keep0 oX.out kk14.out)
      replace oY := Lib.hid (own_keep0 oY.out kk14.out)
      replace oV := Lib.hid (own_keep0 oV.out kk14.out)
      have K14 := Lib.hid (K13.out.trans kk14.out)
      clear kk14 K13
      go_wp2_with fail
      have sS := Lib.hid (SetIs.cuts sX.out sY.out hiS.out)
      have eq2 : S = M := sS.out.eq sM.out (fun n => Iff.rfl)
      subst eq2
      refine (same_got w14 _ _ _ _ AV AS cV cS S S oV.out oS.out (Nat.le_trans sS.out.len (by omega))).mono ?_
      rintro e w15 ⟨rfl, kk15⟩
      replace oX := Lib.hid (own_keep0 oX.out kk15.out)
      replace oY := Lib.hid (own_keep0 oY.out kk15.out)
      replace oV := Lib.hid (own_keep0 oV.out kk15.out)
      replace oS := Lib.hid (own_keep0 oS.out kk15.out)
      have K15 := Lib.hid (K14.out.trans kk15.out)
      clear kk15 K14
      rw [decide_eq_true (rfl : S = S)]
      go_wp2_with fail
      go_ret
      exact ⟨rfl, K15.out⟩
    · have he : decide (b.length ≤ 30) = false := decide_eq_false hm
      go_enter Try.func9, Try.ntmps9
      go_wp2_with fail
      refine (awake_any w).mono ?_
      rintro e w1 ⟨rfl, K1⟩
      replace K1 := Lib.hid K1
      go_wp2_with fail
      refine (few_any w1 A a.length ca).mono ?_
      rintro e w2 ⟨rfl, rfl⟩
      rw [hd]
      go_wp2_with fail
      refine (few_any w1 B b.length cb).mono ?_
      rintro e w2 ⟨rfl, rfl⟩
      rw [he]
      go_wp2_with fail
      go_ret
      exact ⟨rfl, K1.out⟩
  · have hd : decide (a.length ≤ 30) = false := decide_eq_false hn
    go_enter Try.func9, Try.ntmps9
    go_wp2_with fail
    refine (awake_any w).mono ?_
    rintro e w1 ⟨rfl, K1⟩
    replace K1 := Lib.hid K1
    go_wp2_with fail
    refine (few_any w1 A a.length ca).mono ?_
    rintro e w2 ⟨rfl, rfl⟩
    rw [hd]
    go_wp2_with fail
    go_ret
    exact ⟨rfl, K1.out⟩
end Go.Proofs.Ythmnolpamllabaa
