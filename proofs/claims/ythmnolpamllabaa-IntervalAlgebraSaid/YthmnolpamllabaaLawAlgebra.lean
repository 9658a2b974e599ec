/- The walk of the statement IntervalAlgebra. -/
import Derived.Test.YthmnolpamllabaaIvSets
namespace Go.Proofs.Ythmnolpamllabaa
open Go.RowKit Go.Lib
set_option linter.unusedSimpArgs false
set_option linter.unusedVariables false


set_option maxHeartbeats 12800000 in
set_option maxRecDepth 100000 in
theorem law_algebra (w : World) (A B C : Option Addr) (ca cb cc : Nat) (a b c : List Iv) (hA : IvAt w w.heap.size A a) (hB : IvAt w w.heap.size B b) (hC : IvAt w w.heap.size C c) (h64a : All64 a) (h64b : All64 b) (h64c : All64 c) :
    Calls Try.prog 10 #[.slice A a.length ca, .slice B b.length cb, .slice C c.length cc] w fun e w' => e = .returned (.bool true) ∧ Keeps [] w w' := by
  replace hA := Lib.hid hA
  replace hB := Lib.hid hB
  replace hC := Lib.hid hC
  replace h64a := Lib.hid h64a
  replace h64b := Lib.hid h64b
  replace h64c := Lib.hid h64c
  by_cases hn : a.length ≤ 30 ∧ b.length ≤ 30 ∧ c.length ≤ 30
  · obtain ⟨hna, hnb, hnc⟩ := hn
    go_enter Try.func10, Try.ntmps10
    go_wp2_with fail
    refine (awake_any w).mono ?_
    rintro e w1 ⟨rfl, K1⟩
    replace K1 := Lib.hid K1
    go_wp2_with fail
    refine (few_any w1 A a.length ca).mono ?_
    rintro e w2 ⟨rfl, rfl⟩
    rw [decide_eq_true hna]
    go_wp2_with fail
    refine (few_any w1 B b.length cb).mono ?_
    rintro e w2 ⟨rfl, rfl⟩
    rw [decide_eq_true hnb]
    go_wp2_with fail
    refine (few_any w1 C c.length cc).mono ?_
    rintro e w2 ⟨rfl, rfl⟩
    rw [decide_eq_true hnc]
    go_wp2_with fail
    refine (rof_got w1 w.heap.size A ca a K1.out.size (hA.out.keep K1.out (by simp)) h64a.out (by omega)).mono ?_
    rintro e w2 ⟨X, hiX, AX, cX, rfl, oX, nX, kk2⟩
    have K2 := Lib.hid (K1.out.trans kk2.out)
    clear kk2 K1
    go_wp2_with fail
    have sX := Lib.hid (SetIs.first hiX.out h64a.out hna)
    refine (to_own w2 _ AX cX X oX.out (Nat.le_trans sX.out.len (by omega))).mono ?_
    rintro e w3 ⟨AX1, cX1, rfl, oX1, nX1, kk3⟩
    replace oX := Lib.hid (own_keep0 oX.out kk3.out)
    have K3 := Lib.hid (K2.out.trans kk3.out)
    clear kk3 K2
    go_wp2_with fail
    clear oX
    clear nX nX1 hiX
    refine (rof_got w3 w.heap.size B cb b K3.out.size (hB.out.keep K3.out (by simp)) h64b.out (by omega)).mono ?_
    rintro e w4 ⟨Y, hiY, AY, cY, rfl, oY, nY, kk4⟩
    replace oX1 := Lib.hid (own_keep0 oX1.out kk4.out)
    have K4 := Lib.hid (K3.out.trans kk4.out)
    clear kk4 K3
    go_wp2_with fail
    have sY := Lib.hid (SetIs.first hiY.out h64b.out hnb)
    refine (to_own w4 _ AY cY Y oY.out (Nat.le_trans sY.out.len (by omega))).mono ?_
    rintro e w5 ⟨AY1, cY1, rfl, oY1, nY1, kk5⟩
    replace oX1 := Lib.hid (own_keep0 oX1.out kk5.out)
    replace oY := Lib.hid (own_keep0 oY.out kk5.out)
    have K5 := Lib.hid (K4.out.trans kk5.out)
    clear kk5 K4
    go_wp2_with fail
    clear oY
    clear nY nY1 hiY
    refine (rof_got w5 w.heap.size C cc c K5.out.size (hC.out.keep K5.out (by simp)) h64c.out (by omega)).mono ?_
    rintro e w6 ⟨Z, hiZ, AZ, cZ, rfl, oZ, nZ, kk6⟩
    replace oX1 := Lib.hid (own_keep0 oX1.out kk6.out)
    replace oY1 := Lib.hid (own_keep0 oY1.out kk6.out)
    have K6 := Lib.hid (K5.out.trans kk6.out)
    clear kk6 K5
    go_wp2_with fail
    have sZ := Lib.hid (SetIs.first hiZ.out h64c.out hnc)
    refine (to_own w6 _ AZ cZ Z oZ.out (Nat.le_trans sZ.out.len (by omega))).mono ?_
    rintro e w7 ⟨AZ1, cZ1, rfl, oZ1, nZ1, kk7⟩
    replace oX1 := Lib.hid (own_keep0 oX1.out kk7.out)
    replace oY1 := Lib.hid (own_keep0 oY1.out kk7.out)
    replace oZ := Lib.hid (own_keep0 oZ.out kk7.out)
    have K7 := Lib.hid (K6.out.trans kk7.out)
    clear kk7 K6
    go_wp2_with fail
    clear oZ
    clear nZ nZ1 hiZ
    refine (union_own w7 _ _ AX1 AY1 cX1 cY1 X Y oX1.out oY1.out (Nat.le_trans sX.out.len (by omega)) (Nat.le_trans sY.out.len (by omega)) sX.out.all sY.out.all).mono ?_
    rintro e w8 ⟨U1, hiU1, AU1, cU1, rfl, oU1, nU1, kk8⟩
    replace oX1 := Lib.hid (own_keep0 oX1.out kk8.out)
    replace oY1 := Lib.hid (own_keep0 oY1.out kk8.out)
    replace oZ1 := Lib.hid (own_keep0 oZ1.out kk8.out)
    have K8 := Lib.hid (K7.out.trans kk8.out)
    clear kk8 K7
    go_wp2_with fail
    have sU1 := Lib.hid (SetIs.union sX.out sY.out hiU1.out)
    clear hiU1 nU1
    refine (of_got w8 _ AU1 cU1 U1 oU1.out (Nat.le_trans sU1.out.len (by omega))).mono ?_
    rintro e w9 ⟨AV1, cV1, rfl, oV1, nV1, kk9⟩
    replace oX1 := Lib.hid (own_keep0 oX1.out kk9.out)
    replace oY1 := Lib.hid (own_keep0 oY1.out kk9.out)
    replace oZ1 := Lib.hid (own_keep0 oZ1.out kk9.out)
    replace oU1 := Lib.hid (own_keep0 oU1.out kk9.out)
    have K9 := Lib.hid (K8.out.trans kk9.out)
    clear kk9 K8
    go_wp2_with fail
    clear nV1
    refine (union_own w9 _ _ AY1 AX1 cY1 cX1 Y X oY1.out oX1.out (Nat.le_trans sY.out.len (by omega)) (Nat.le_trans sX.out.len (by omega)) sY.out.all sX.out.all).mono ?_
    rintro e w10 ⟨U2, hiU2, AU2, cU2, rfl, oU2, nU2, kk10⟩
    replace oX1 := Lib.hid (own_keep0 oX1.out kk10.out)
    replace oY1 := Lib.hid (own_keep0 oY1.out kk10.out)
    replace oZ1 := Lib.hid (own_keep0 oZ1.out kk10.out)
    replace oU1 := Lib.hid (own_keep0 oU1.out kk10.out)
    replace oV1 := Lib.hid (own_keep0 oV1.out kk10.out)
    have K10 := Lib.hid (K9.out.trans kk10.out)
    clear kk10 K9
    go_wp2_with fail
    have sU2 := Lib.hid (SetIs.union sY.out sX.out hiU2.out)
    clear hiU2 nU2
    refine (of_got w10 _ AU2 cU2 U2 oU2.out (Nat.le_trans sU2.out.len (by omega))).mono ?_
    rintro e w11 ⟨AV2, cV2, rfl, oV2, nV2, kk11⟩
    replace oX1 := Lib.hid (own_keep0 oX1.out kk11.out)
    replace oY1 := Lib.hid (own_keep0 oY1.out kk11.out)
    replace oZ1 := Lib.hid (own_keep0 oZ1.out kk11.out)
    replace oU1 := Lib.hid (own_keep0 oU1.out kk11.out)
    replace oV1 := Lib.hid (own_keep0 oV1.out kk11.out)
    replace oU2 := Lib.hid (own_keep0 oU2.out kk11.out)
    have K11 := Lib.hid (K10.out.trans kk11.out)
    clear kk11 K10
    go_wp2_with fail
    clear nV2
    have eq1 : U1 = U2 := sU1.out.eq sU2.out (fun n => by by_cases hx : inn a n <;> by_cases hy : inn b n <;> by_cases hz : inn c n <;> simp [hx, hy, hz])
    refine (same_got w11 _ _ _ _ AV1 AV2 cV1 cV2 U1 U2 oV1.out oV2.out (Nat.le_trans sU1.out.len (by omega))).mono ?_
    rintro e w12 ⟨rfl, kk12⟩
    replace oX1 := Lib.hid (own_keep0 oX1.out kk12.out)
    replace oY1 := Lib.hid (own_keep0 oY1.out kk12.out)
    replace oZ1 := Lib.hid (own_keep0 oZ1.out kk12.out)
    replace oU1 := Lib.hid (own_keep0 oU1.out kk12.out)
    replace oV1 := Lib.hid (own_keep0 oV1.out kk12.out)
    replace oU2 := Lib.hid (own_keep0 oU2.out kk12.out)
    replace oV2 := Lib.hid (own_keep0 oV2.out kk12.out)
    have K12 := Lib.hid (K11.out.trans kk12.out)
    clear kk12 K11
    rw [decide_eq_true eq1]
    clear eq1
    clear oV1 oV2
    go_wp2_with fail
    clear oU1 oU2
    refine (meet_own w12 _ _ AX1 AY1 cX1 cY1 X Y oX1.out oY1.out (Nat.le_trans sX.out.len (by omega)) (Nat.le_trans sY.out.len (by omega))).mono ?_
    rintro e w13 ⟨AM1, cM1, rfl, oM1, nM1, kk13⟩
    replace oX1 := Lib.hid (own_keep0 oX1.out kk13.out)
    replace oY1 := Lib.hid (own_keep0 oY1.out kk13.out)
    replace oZ1 := Lib.hid (own_keep0 oZ1.out kk13.out)
    have K13 := Lib.hid (K12.out.trans kk13.out)
    clear kk13 K12
    go_wp2_with fail
    have sM1 := Lib.hid (SetIs.meet sX.out sY.out)
    clear nM1
    generalize meetL X Y = M1 at *
    refine (of_got w13 _ AM1 cM1 M1 oM1.out (Nat.le_trans sM1.out.len (by omega))).mono ?_
    rintro e w14 ⟨AV3, cV3, rfl, oV3, nV3, kk14⟩
    replace oX1 := Lib.hid (own_keep0 oX1.out kk14.out)
    replace oY1 := Lib.hid (own_keep0 oY1.out kk14.out)
    replace oZ1 := Lib.hid (own_keep0 oZ1.out kk14.out)
    replace oM1 := Lib.hid (own_keep0 oM1.out kk14.out)
    have K14 := Lib.hid (K13.out.trans kk14.out)
    clear kk14 K13
    go_wp2_with fail
    clear nV3
    refine (meet_own w14 _ _ AY1 AX1 cY1 cX1 Y X oY1.out oX1.out (Nat.le_trans sY.out.len (by omega)) (Nat.le_trans sX.out.len (by omega))).mono ?_
    rintro e w15 ⟨AM2, cM2, rfl, oM2, nM2, kk15⟩
    replace oX1 := Lib.hid (own_keep0 oX1.out kk15.out)
    replace oY1 := Lib.hid (own_keep0 oY1.out kk15.out)
    replace oZ1 := Lib.hid (own_keep0 oZ1.out kk15.out)
    replace oM1 := Lib.hid (own_keep0 oM1.out kk15.out)
    replace oV3 := Lib.hid (own_keep0 oV3.out kk15.out)
    have K15 := Lib.hid (K14.out.trans kk15.out)
    clear kk15 K14
    go_wp2_with fail
    have sM2 := Lib.hid (SetIs.meet sY.out sX.out)
    clear nM2
    generalize meetL Y X = M2 at *
    refine (of_got w15 _ AM2 cM2 M2 oM2.out (Nat.le_trans sM2.out.len (by omega))).mono ?_
    rintro e w16 ⟨AV4, cV4, rfl, oV4, nV4, kk16⟩
    replace oX1 := Lib.hid (own_keep0 oX1.out kk16.out)
    replace oY1 := Lib.hid (own_keep0 oY1.out kk16.out)
    replace oZ1 := Lib.hid (own_keep0 oZ1.out kk16.out)
    replace oM1 := Lib.hid (own_keep0 oM1.out kk16.out)
    replace oV3 := Lib.hid (own_keep0 oV3.out kk16.out)
    replace oM2 := Lib.hid (own_keep0 oM2.out kk16.out)
    have K16 := Lib.hid (K15.out.trans kk16.out)
    clear kk16 K15
    go_wp2_with fail
    clear nV4
    have eq1 : M1 = M2 := sM1.out.eq sM2.out (fun n => by by_cases hx : inn a n <;> by_cases hy : inn b n <;> by_cases hz : inn c n <;> simp [hx, hy, hz])
    refine (same_got w16 _ _ _ _ AV3 AV4 cV3 cV4 M1 M2 oV3.out oV4.out (Nat.le_trans sM1.out.len (by omega))).mono ?_
    rintro e w17 ⟨rfl, kk17⟩
    replace oX1 := Lib.hid (own_keep0 oX1.out kk17.out)
    replace oY1 := Lib.hid (own_keep0 oY1.out kk17.out)
    replace oZ1 := Lib.hid (own_keep0 oZ1.out kk17.out)
    replace oM1 := Lib.hid (own_keep0 oM1.out kk17.out)
    replace oV3 := Lib.hid (own_keep0 oV3.out kk17.out)
    replace oM2 := Lib.hid (own_keep0 oM2.out kk17.out)
    replace oV4 := Lib.hid (own_keep0 oV4.out kk17.out)
    have K17 := Lib.hid (K16.out.trans kk17.out)
    clear kk17 K16
    rw [decide_eq_true eq1]
    clear eq1
    clear oV3 oV4
    go_wp2_with fail
    clear oM1 oM2
    refine (union_own w17 _ _ AY1 AZ1 cY1 cZ1 Y Z oY1.out oZ1.out (Nat.le_trans sY.out.len (by omega)) (Nat.le_trans sZ.out.len (by omega)) sY.out.all sZ.out.all).mono ?_
    rintro e w18 ⟨U3, hiU3, AU3, cU3, rfl, oU3, nU3, kk18⟩
    replace oX1 := Lib.hid (own_keep0 oX1.out kk18.out)
    replace oY1 := Lib.hid (own_keep0 oY1.out kk18.out)
    replace oZ1 := Lib.hid (own_keep0 oZ1.out kk18.out)
    have K18 := Lib.hid (K17.out.trans kk18.out)
    clear kk18 K17
    go_wp2_with fail
    have sU3 := Lib.hid (SetIs.union sY.out sZ.out hiU3.out)
    clear hiU3 nU3
    refine (meet_own w18 _ _ AX1 AU3 cX1 cU3 X U3 oX1.out oU3.out (Nat.le_trans sX.out.len (by omega)) (Nat.le_trans sU3.out.len (by omega))).mono ?_
    rintro e w19 ⟨AM3, cM3, rfl, oM3, nM3, kk19⟩
    replace oX1 := Lib.hid (own_keep0 oX1.out kk19.out)
    replace oY1 := Lib.hid (own_keep0 oY1.out kk19.out)
    replace oZ1 := Lib.hid (own_keep0 oZ1.out kk19.out)
    replace oU3 := Lib.hid (own_keep0 oU3.out kk19.out)
    have K19 := Lib.hid (K18.out.trans kk19.out)
    clear kk19 K18
    go_wp2_with fail
    have sM3 := Lib.hid (SetIs.meet sX.out sU3.out)
    clear nM3
    generalize meetL X U3 = M3 at *
    refine (meet_own w19 _ _ AX1 AY1 cX1 cY1 X Y oX1.out oY1.out (Nat.le_trans sX.out.len (by omega)) (Nat.le_trans sY.out.len (by omega))).mono ?_
    rintro e w20 ⟨AM4, cM4, rfl, oM4, nM4, kk20⟩
    replace oX1 := Lib.hid (own_keep0 oX1.out kk20.out)
    replace oY1 := Lib.hid (own_keep0 oY1.out kk20.out)
    replace oZ1 := Lib.hid (own_keep0 oZ1.out kk20.out)
    replace oU3 := Lib.hid (own_keep0 oU3.out kk20.out)
    replace oM3 := Lib.hid (own_keep0 oM3.out kk20.out)
    have K20 := Lib.hid (K19.out.trans kk20.out)
    clear kk20 K19
    go_wp2_with fail
    have sM4 := Lib.hid (SetIs.meet sX.out sY.out)
    clear nM4
    generalize meetL X Y = M4 at *
    refine (meet_own w20 _ _ AX1 AZ1 cX1 cZ1 X Z oX1.out oZ1.out (Nat.le_trans sX.out.len (by omega)) (Nat.le_trans sZ.out.len (by omega))).mono ?_
    rintro e w21 ⟨AM5, cM5, rfl, oM5, nM5, kk21⟩
    replace oX1 := Lib.hid (own_keep0 oX1.out kk21.out)
    replace oY1 := Lib.hid (own_keep0 oY1.out kk21.out)
    replace oZ1 := Lib.hid (own_keep0 oZ1.out kk21.out)
    replace oU3 := Lib.hid (own_keep0 oU3.out kk21.out)
    replace oM3 := Lib.hid (own_keep0 oM3.out kk21.out)
    replace oM4 := Lib.hid (own_keep0 oM4.out kk21.out)
    have K21 := Lib.hid (K20.out.trans kk21.out)
    clear kk21 K20
    go_wp2_with fail
    have sM5 := Lib.hid (SetIs.meet sX.out sZ.out)
    clear nM5
    generalize meetL X Z = M5 at *
    refine (union_own w21 _ _ AM4 AM5 cM4 cM5 M4 M5 oM4.out oM5.out (Nat.le_trans sM4.out.len (by omega)) (Nat.le_trans sM5.out.len (by omega)) sM4.out.all sM5.out.all).mono ?_
    rintro e w22 ⟨U4, hiU4, AU4, cU4, rfl, oU4, nU4, kk22⟩
    replace oX1 := Lib.hid (own_keep0 oX1.out kk22.out)
    replace oY1 := Lib.hid (own_keep0 oY1.out kk22.out)
    replace oZ1 := Lib.hid (own_keep0 oZ1.out kk22.out)
    replace oU3 := Lib.hid (own_keep0 oU3.out kk22.out)
    replace oM3 := Lib.hid (own_keep0 oM3.out kk22.out)
    replace oM4 := Lib.hid (own_keep0 oM4.out kk22.out)
    replace oM5 := Lib.hid (own_keep0 oM5.out kk22.out)
    have K22 := Lib.hid (K21.out.trans kk22.out)
    clear kk22 K21
    go_wp2_with fail
    have sU4 := Lib.hid (SetIs.union sM4.out sM5.out hiU4.out)
    clear hiU4 nU4
    refine (of_got w22 _ AM3 cM3 M3 oM3.out (Nat.le_trans sM3.out.len (by omega))).mono ?_
    rintro e w23 ⟨AV5, cV5, rfl, oV5, nV5, kk23⟩
    replace oX1 := Lib.hid (own_keep0 oX1.out kk23.out)
    replace oY1 := Lib.hid (own_keep0 oY1.out kk23.out)
    replace oZ1 := Lib.hid (own_keep0 oZ1.out kk23.out)
    replace oU3 := Lib.hid (own_keep0 oU3.out kk23.out)
    replace oM3 := Lib.hid (own_keep0 oM3.out kk23.out)
    replace oM4 := Lib.hid (own_keep0 oM4.out kk23.out)
    replace oM5 := Lib.hid (own_keep0 oM5.out kk23.out)
    replace oU4 := Lib.hid (own_keep0 oU4.out kk23.out)
    have K23 := Lib.hid (K22.out.trans kk23.out)
    clear kk23 K22
    go_wp2_with fail
    clear nV5
    refine (of_got w23 _ AU4 cU4 U4 oU4.out (Nat.le_trans sU4.out.len (by omega))).mono ?_
    rintro e w24 ⟨AV6, cV6, rfl, oV6, nV6, kk24⟩
    replace oX1 := Lib.hid (own_keep0 oX1.out kk24.out)
    replace oY1 := Lib.hid (own_keep0 oY1.out kk24.out)
    replace oZ1 := Lib.hid (own_keep0 oZ1.out kk24.out)
    replace oU3 := Lib.hid (own_keep0 oU3.out kk24.out)
    replace oM3 := Lib.hid (own_keep0 oM3.out kk24.out)
    replace oM4 := Lib.hid (own_keep0 oM4.out kk24.out)
    replace oM5 := Lib.hid (own_keep0 oM5.out kk24.out)
    replace oU4 := Lib.hid (own_keep0 oU4.out kk24.out)
    replace oV5 := Lib.hid (own_keep0 oV5.out kk24.out)
    have K24 := Lib.hid (K23.out.trans kk24.out)
    clear kk24 K23
    go_wp2_with fail
    clear nV6
    have eq1 : M3 = U4 := sM3.out.eq sU4.out (fun n => by by_cases hx : inn a n <;> by_cases hy : inn b n <;> by_cases hz : inn c n <;> simp [hx, hy, hz])
    refine (same_got w24 _ _ _ _ AV5 AV6 cV5 cV6 M3 U4 oV5.out oV6.out (Nat.le_trans sM3.out.len (by omega))).mono ?_
    rintro e w25 ⟨rfl, kk25⟩
    replace oX1 := Lib.hid (own_keep0 oX1.out kk25.out)
    replace oY1 := Lib.hid (own_keep0 oY1.out kk25.out)
    replace oZ1 := Lib.hid (own_keep0 oZ1.out kk25.out)
    replace oU3 := Lib.hid (own_keep0 oU3.out kk25.out)
    replace oM3 := Lib.hid (own_keep0 oM3.out kk25.out)
    replace oM4 := Lib.hid (own_keep0 oM4.out kk25.out)
    replace oM5 := Lib.hid (own_keep0 oM5.out kk25.out)
    replace oU4 := Lib.hid (own_keep0 oU4.out kk25.out)
    replace oV5 := Lib.hid (own_keep0 oV5.out kk25.out)
    replace oV6 := Lib.hid (own_keep0 oV6.out kk25.out)
    have K25 := Lib.hid (K24.out.trans kk25.out)
    clear kk25 K24
    rw [decide_eq_true eq1]
    clear eq1
    clear oV5 oV6
    go_wp2_with fail
    clear oU3 oM3 oM4 oM5 oU4
    refine (meet_own w25 _ _ AY1 AZ1 cY1 cZ1 Y Z oY1.out oZ1.out (Nat.le_trans sY.out.len (by omega)) (Nat.le_trans sZ.out.len (by omega))).mono ?_
    rintro e w26 ⟨AM6, cM6, rfl, oM6, nM6, kk26⟩
    replace oX1 := Lib.hid (own_keep0 oX1.out kk26.out)
    replace oY1 := Lib.hid (own_keep0 oY1.out kk26.out)
    replace oZ1 := Lib.hid (own_keep0 oZ1.out kk26.out)
    have K26 := Lib.hid (K25.out.trans kk26.out)
    clear kk26 K25
    go_wp2_with fail
    have sM6 := Lib.hid (SetIs.meet sY.out sZ.out)
    clear nM6
    generalize meetL Y Z = M6 at *
    refine (union_own w26 _ _ AX1 AM6 cX1 cM6 X M6 oX1.out oM6.out (Nat.le_trans sX.out.len (by omega)) (Nat.le_trans sM6.out.len (by omega)) sX.out.all sM6.out.all).mono ?_
    rintro e w27 ⟨U5, hiU5, AU5, cU5, rfl, oU5, nU5, kk27⟩
    replace oX1 := Lib.hid (own_keep0 oX1.out kk27.out)
    replace oY1 := Lib.hid (own_keep0 oY1.out kk27.out)
    replace oZ1 := Lib.hid (own_keep0 oZ1.out kk27.out)
    replace oM6 := Lib.hid (own_keep0 oM6.out kk27.out)
    have K27 := Lib.hid (K26.out.trans kk27.out)
    clear kk27 K26
    go_wp2_with fail
    have sU5 := Lib.hid (SetIs.union sX.out sM6.out hiU5.out)
    clear hiU5 nU5
    refine (union_own w27 _ _ AX1 AY1 cX1 cY1 X Y oX1.out oY1.out (Nat.le_trans sX.out.len (by omega)) (Nat.le_trans sY.out.len (by omega)) sX.out.all sY.out.all).mono ?_
    rintro e w28 ⟨U6, hiU6, AU6, cU6, rfl, oU6, nU6, kk28⟩
    replace oX1 := Lib.hid (own_keep0 oX1.out kk28.out)
    replace oY1 := Lib.hid (own_keep0 oY1.out kk28.out)
    replace oZ1 := Lib.hid (own_keep0 oZ1.out kk28.out)
    replace oM6 := Lib.hid (own_keep0 oM6.out kk28.out)
    replace oU5 := Lib.hid (own_keep0 oU5.out kk28.out)
    have K28 := Lib.hid (K27.out.trans kk28.out)
    clear kk28 K27
    go_wp2_with fail
    have sU6 := Lib.hid (SetIs.union sX.out sY.out hiU6.out)
    clear hiU6 nU6
    refine (union_own w28 _ _ AX1 AZ1 cX1 cZ1 X Z oX1.out oZ1.out (Nat.le_trans sX.out.len (by omega)) (Nat.le_trans sZ.out.len (by omega)) sX.out.all sZ.out.all).mono ?_
    rintro e w29 ⟨U7, hiU7, AU7, cU7, rfl, oU7, nU7, kk29⟩
    replace oX1 := Lib.hid (own_keep0 oX1.out kk29.out)
    replace oY1 := Lib.hid (own_keep0 oY1.out kk29.out)
    replace oZ1 := Lib.hid (own_keep0 oZ1.out kk29.out)
    replace oM6 := Lib.hid (own_keep0 oM6.out kk29.out)
    replace oU5 := Lib.hid (own_keep0 oU5.out kk29.out)
    replace oU6 := Lib.hid (own_keep0 oU6.out kk29.out)
    have K29 := Lib.hid (K28.out.trans kk29.out)
    clear kk29 K28
    go_wp2_with fail
    have sU7 := Lib.hid (SetIs.union sX.out sZ.out hiU7.out)
    clear hiU7 nU7
    refine (meet_own w29 _ _ AU6 AU7 cU6 cU7 U6 U7 oU6.out oU7.out (Nat.le_trans sU6.out.len (by omega)) (Nat.le_trans sU7.out.len (by omega))).mono ?_
    rintro e w30 ⟨AM7, cM7, rfl, oM7, nM7, kk30⟩
    replace oX1 := Lib.hid (own_keep0 oX1.out kk30.out)
    replace oY1 := Lib.hid (own_keep0 oY1.out kk30.out)
    replace oZ1 := Lib.hid (own_keep0 oZ1.out kk30.out)
    replace oM6 := Lib.hid (own_keep0 oM6.out kk30.out)
    replace oU5 := Lib.hid (own_keep0 oU5.out kk30.out)
    replace oU6 := Lib.hid (own_keep0 oU6.out kk30.out)
    replace oU7 := Lib.hid (own_keep0 oU7.out kk30.out)
    have K30 := Lib.hid (K29.out.trans kk30.out)
    clear kk30 K29
    go_wp2_with fail
    have sM7 := Lib.hid (SetIs.meet sU6.out sU7.out)
    clear nM7
    generalize meetL U6 U7 = M7 at *
    refine (of_got w30 _ AU5 cU5 U5 oU5.out (Nat.le_trans sU5.out.len (by omega))).mono ?_
    rintro e w31 ⟨AV7, cV7, rfl, oV7, nV7, kk31⟩
    replace oX1 := Lib.hid (own_keep0 oX1.out kk31.out)
    replace oY1 := Lib.hid (own_keep0 oY1.out kk31.out)
    replace oZ1 := Lib.hid (own_keep0 oZ1.out kk31.out)
    replace oM6 := Lib.hid (own_keep0 oM6.out kk31.out)
    replace oU5 := Lib.hid (own_keep0 oU5.out kk31.out)
    replace oU6 := Lib.hid (own_keep0 oU6.out kk31.out)
    replace oU7 := Lib.hid (own_keep0 oU7.out kk31.out)
    replace oM7 := Lib.hid (own_keep0 oM7.out kk31.out)
    have K31 := Lib.hid (K30.out.trans kk31.out)
    clear kk31 K30
    go_wp2_with fail
    clear nV7
    refine (of_got w31 _ AM7 cM7 M7 oM7.out (Nat.le_trans sM7.out.len (by omega))).mono ?_
    rintro e w32 ⟨AV8, cV8, rfl, oV8, nV8, kk32⟩
    replace oX1 := Lib.hid (own_keep0 oX1.out kk32.out)
    replace oY1 := Lib.hid (own_keep0 oY1.out kk32.out)
    replace oZ1 := Lib.hid (own_keep0 oZ1.out kk32.out)
    replace oM6 := Lib.hid (own_keep0 oM6.out kk32.out)
    replace oU5 := Lib.hid (own_keep0 oU5.out kk32.out)
    replace oU6 := Lib.hid (own_keep0 oU6.out kk32.out)
    replace oU7 := Lib.hid (own_keep0 oU7.out kk32.out)
    replace oM7 := Lib.hid (own_keep0 oM7.out kk32.out)
    replace oV7 := Lib.hid (own_keep0 oV7.out kk32.out)
    have K32 := Lib.hid (K31.out.trans kk32.out)
    clear kk32 K31
    go_wp2_with fail
    clear nV8
    have eq1 : U5 = M7 := sU5.out.eq sM7.out (fun n => by by_cases hx : inn a n <;> by_cases hy : inn b n <;> by_cases hz : inn c n <;> simp [hx, hy, hz])
    refine (same_got w32 _ _ _ _ AV7 AV8 cV7 cV8 U5 M7 oV7.out oV8.out (Nat.le_trans sU5.out.len (by omega))).mono ?_
    rintro e w33 ⟨rfl, kk33⟩
    replace oX1 := Lib.hid (own_keep0 oX1.out kk33.out)
    replace oY1 := Lib.hid (own_keep0 oY1.out kk33.out)
    replace oZ1 := Lib.hid (own_keep0 oZ1.out kk33.out)
    replace oM6 := Lib.hid (own_keep0 oM6.out kk33.out)
    replace oU5 := Lib.hid (own_keep0 oU5.out kk33.out)
    replace oU6 := Lib.hid (own_keep0 oU6.out kk33.out)
    replace oU7 := Lib.hid (own_keep0 oU7.out kk33.out)
    replace oM7 := Lib.hid (own_keep0 oM7.out kk33.out)
    replace oV7 := Lib.hid (own_keep0 oV7.out kk33.out)
    replace oV8 := Lib.hid (own_keep0 oV8.out kk33.out)
    have K33 := Lib.hid (K32.out.trans kk33.out)
    clear kk33 K32
    rw [decide_eq_true eq1]
    clear eq1
    clear oV7 oV8
    go_wp2_with fail
    go_ret
    exact ⟨rfl, K33.out⟩
  · go_enter Try.func10, Try.ntmps10
    go_wp2_with fail
    refine (awake_any w).mono ?_
    rintro e w1 ⟨rfl, K1⟩
    replace K1 := Lib.hid K1
    go_wp2_with fail
    refine (few_any w1 A a.length ca).mono ?_
    rintro e w2 ⟨rfl, rfl⟩
    by_cases ha : a.length ≤ 30
    · rw [decide_eq_true ha]
      go_wp2_with fail
      refine (few_any w1 B b.length cb).mono ?_
      rintro e w2 ⟨rfl, rfl⟩
      by_cases hb : b.length ≤ 30
      · have hc : ¬ c.length ≤ 30 := fun h => hn ⟨ha, hb, h⟩
        rw [decide_eq_true hb]
        go_wp2_with fail
        refine (few_any w1 C c.length cc).mono ?_
        rintro e w2 ⟨rfl, rfl⟩
        rw [decide_eq_false hc]
        go_wp2_with fail
        go_ret
        exact ⟨rfl, K1.out⟩
      · rw [decide_eq_false hb]
        go_wp2_with fail
        go_ret
        exact ⟨rfl, K1.out⟩
    · rw [decide_eq_false ha]
      go_wp2_with fail
      go_ret
      exact ⟨rfl, K1.out⟩
end Go.Proofs.Ythmnolpamllabaa
