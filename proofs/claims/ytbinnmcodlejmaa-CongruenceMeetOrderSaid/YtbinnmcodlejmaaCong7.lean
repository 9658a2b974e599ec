/- The contract of awake: the examples of the chapter hold. -/
import Derived.Test.YtbinnmcodlejmaaCong5
import Derived.Test.YtbinnmcodlejmaaCong6
namespace Go.Proofs.Ytbinnmcodlejmaa
open Go.RowKit
set_option linter.unusedSimpArgs false
set_option linter.unusedVariables false

theorem of_keeps (r m : Int) (w : World) : Calls Try.prog 15 #[.agg #[.int .i64 r, .int .i64 m]] w (Gives (.agg #[.int .i64 r, .int .i64 m]) w) :=
  (of_any r m w).mono fun e w' ⟨he, hw⟩ => ⟨he, by subst hw; exact ((Keeps.refl _ _).alloc _).alloc _⟩
theorem to_keeps (r m : Int) (w : World) : Calls Try.prog 17 #[.agg #[.int .i64 r, .int .i64 m]] w (Gives (.agg #[.int .i64 r, .int .i64 m]) w) :=
  (to_any r m w).mono fun e w' ⟨he, hw⟩ => ⟨he, by subst hw; exact ((Keeps.refl _ _).alloc _).alloc _⟩

theorem new_a : newV 2 3 = .tuple #[.agg #[.int .i64 2, .int .i64 3], .int .i64 0] := if_pos (by omega)
theorem new_b : newV (-2) 5 = .tuple #[.agg #[.int .i64 3, .int .i64 5], .int .i64 0] := if_pos (by omega)
theorem meet_c {cR cM er : Int} {ok : Bool} (h : MeetRes 2 3 3 5 cR cM ok er) : cR = 8 ∧ cM = 15 ∧ ok = true ∧ er = 0 := by
  have hg : (Int.gcd 3 5 : Int) = 1 := by decide
  rcases h with ⟨h, _⟩ | ⟨_, _, h⟩
  · exact absurd ⟨⟨by omega, by omega, by omega, by omega⟩, ⟨by omega, by omega, by omega, by omega⟩⟩ h
  · rw [hg] at h
    rcases h with ⟨h, _⟩ | ⟨_, h, _⟩ | ⟨_, h1, ⟨_, _, h2, h3⟩, h4, h5, h6, h7⟩
    · omega
    · omega
    · exact ⟨by omega, by omega, h6, h7⟩
theorem solve_s {cR cM er : Int} {ok : Bool} (h : SolveRes 6 4 10 cR cM ok er) : cR = 4 ∧ cM = 5 ∧ ok = true ∧ er = 0 := by
  have hg : (Int.gcd (6 % 10) 10 : Int) = 2 := by decide
  rcases h with ⟨h, _⟩ | ⟨_, h⟩
  · omega
  · rw [hg] at h
    rcases h with ⟨h, _⟩ | ⟨_, h1, h2, h3, h4, h6, h7⟩
    · omega
    · exact ⟨by omega, by omega, h6, h7⟩
theorem solve_n {cR cM er : Int} {ok : Bool} (h : SolveRes 6 3 10 cR cM ok er) : cR = 0 ∧ cM = 0 ∧ ok = false ∧ er = 0 := by
  have hg : (Int.gcd (6 % 10) 10 : Int) = 2 := by decide
  rcases h with ⟨h, _⟩ | ⟨_, h⟩
  · omega
  · rw [hg] at h
    rcases h with ⟨_, h⟩ | ⟨h, _⟩
    · exact h
    · omega
theorem next_n : nextV 8 15 9 = .tuple #[.int .i64 23, .bool true] := next_yes (r := 8) (m := 15) (n := 9) ⟨by omega, by omega, by omega, by omega⟩ (by unfold gap; omega)
theorem count_n : cnt 8 15 (-7) 23 = 3 := by
  unfold cnt gap
  rw [if_pos ⟨⟨by omega, by omega, by omega, by omega⟩, by omega, by omega⟩]
  omega

set_option maxHeartbeats 1600000 in
theorem awake_any (w : World) : Calls Try.prog 12 #[] w (Gives (.bool true) w) := by
  have N1 := new_any 2 3
  rw [new_a] at N1
  have N2 := new_any (-2) 5
  rw [new_b] at N2
  have N3 := next_any 8 15 9
  rw [next_n] at N3
  have N4 := count_any 8 15 (-7) 23
  rw [count_n] at N4
  replace N1 := Lib.hid N1
  replace N2 := Lib.hid N2
  replace N3 := Lib.hid N3
  replace N4 := Lib.hid N4
  go_enter Try.func12, Try.ntmps12
  go_wp2_with fail
  refine (N1.out _ (by omega) (by omega)).mono ?_
  rintro e w1 ⟨rfl, k1⟩
  replace k1 := Lib.hid k1
  go_wp2_with fail
  refine (N2.out _ (by omega) (by omega)).mono ?_
  rintro e w2 ⟨rfl, k2⟩
  have A := (Blk.new w1 24 #[.int .i64 2, .int .i64 3]).keep k2 (by simp)
  have cA := A.cell
  have lA := A.lt
  replace k2 := Lib.hid (k1.out.trans (((Keeps.refl [] w1).alloc _).trans k2))
  have A := Lib.hid A
  clear k1
  go_wp2_with fail
  refine (meet_any 2 3 3 5 _).mono ?_
  rintro e w3 ⟨cR, cM, ok, er, rfl, hM, k3⟩
  obtain ⟨rfl, rfl, rfl, rfl⟩ := meet_c hM
  unfold trip
  have B := Lib.hid ((Blk.new w2 24 #[.int .i64 3, .int .i64 5]).keep k3 (by simp))
  replace k3 := Lib.hid (k2.out.trans (((Keeps.refl [] w2).alloc _).trans k3))
  clear A cA lA hM k2
  have lB := B.out.lt
  go_wp2_with fail
  refine (solve_any 6 4 10 _ (by omega) (by omega) (by omega) (by omega)).mono ?_
  rintro e w4 ⟨cR, cM, ok, er, rfl, hM, k4⟩
  obtain ⟨rfl, rfl, rfl, rfl⟩ := solve_s hM
  unfold trip
  replace B := Lib.hid ((B.out.alloc _).keep k4 (by simp))
  have C := Lib.hid ((Blk.new w3 24 #[.int .i64 8, .int .i64 15]).keep k4 (by simp))
  replace k4 := Lib.hid (k3.out.trans (((Keeps.refl [] w3).alloc _).trans k4))
  clear hM k3 lB
  go_wp2_with fail
  refine (solve_any 6 3 10 _ (by omega) (by omega) (by omega) (by omega)).mono ?_
  rintro e w5 ⟨cR, cM, ok, er, rfl, hM, k5⟩
  obtain ⟨rfl, rfl, rfl, rfl⟩ := solve_n hM
  unfold trip
  replace B := Lib.hid ((B.out.alloc _).keep k5 (by simp))
  replace C := Lib.hid ((C.out.alloc _).keep k5 (by simp))
  have S := Lib.hid ((Blk.new w4 24 #[.int .i64 4, .int .i64 5]).keep k5 (by simp))
  replace k5 := Lib.hid (k4.out.trans (((Keeps.refl [] w4).alloc _).trans k5))
  clear hM k4
  have cC := C.out.cell
  have lC := C.out.lt
  go_wp2_with fail
  refine (N3.out _ (by omega) (by omega)).mono ?_
  rintro e w6 ⟨rfl, k6⟩
  replace B := Lib.hid ((B.out.alloc _).keep k6 (by simp))
  replace C := Lib.hid ((C.out.alloc _).keep k6 (by simp))
  replace S := Lib.hid ((S.out.alloc _).keep k6 (by simp))
  replace k6 := Lib.hid (k5.out.trans (((Keeps.refl [] w5).alloc _).trans k6))
  clear k5 cC lC
  have cB := B.out.cell
  have cC := C.out.cell
  have cS := S.out.cell
  have lB := B.out.lt
  have lC := C.out.lt
  have lS := S.out.lt
  go_wp2_with fail
  refine (N4.out _ (by omega) (by omega) (by omega) (by omega)).mono ?_
  rintro e w7 ⟨rfl, k7⟩
  replace k7 := Lib.hid (k6.out.trans k7)
  clear cB cC cS lB lC lS k6
  go_wp2_with fail
  go_ret
  exact ⟨rfl, k7.out⟩
end Go.Proofs.Ytbinnmcodlejmaa
