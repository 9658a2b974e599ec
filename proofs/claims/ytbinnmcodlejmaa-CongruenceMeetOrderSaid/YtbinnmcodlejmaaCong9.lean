/- Contracts of the reference's own functions: Met, Solvable, Solves. -/
import Derived.Test.YtbinnmcodlejmaaCong8
import Derived.Deep.RegionHeld3
namespace Go.Proofs.Ytbinnmcodlejmaa
open Go.RowKit
set_option linter.unusedSimpArgs false
set_option linter.unusedVariables false

/-- The call hands back v; nothing that was there has turned. -/
def metB (aR aM bR bM : Int) : Bool := aR % (Int.gcd aM bM : Int) == bR % (Int.gcd aM bM : Int)

set_option maxHeartbeats 800000 in
theorem met_any (aR aM bR bM : Int) (w : World) (ha : Val aR aM) (hb : Val bR bM) :
    Calls Try.prog 19 #[.agg #[.int .i64 aR, .int .i64 aM], .agg #[.int .i64 bR, .int .i64 bM]] w (Gives (.bool (metB aR aM bR bM)) w) := by
  obtain ⟨ha1, ha2, ha3, ha4⟩ := ha
  obtain ⟨hb1, hb2, hb3, hb4⟩ := hb
  have G := fun w => rgcd_any aM bM w (by omega) (by omega) (by omega) (by omega)
  rw [ab_nn (by omega), ab_nn (by omega)] at G
  have hg := gcd_pos_l (b := bM) ha1
  have e1 := mul_div_gcd_l aM bM
  have hV : metB aR aM bR bM = (aR % (Int.gcd aM bM : Int) == bR % (Int.gcd aM bM : Int)) := rfl
  rw [hV]
  clear hV
  generalize (Int.gcd aM bM : Int) = g at *
  have hga : g ≤ aM := Int.le_of_dvd (by omega) ⟨_, (by rw [Int.mul_comm]; exact e1.symm)⟩
  have C1 := Lib.hid (fun w => rmod_any aR g w (by omega) (by omega) (by omega) (by omega))
  have C2 := Lib.hid (fun w => rmod_any bR g w (by omega) (by omega) (by omega) (by omega))
  replace e1 := Lib.hid e1
  replace G := Lib.hid G
  go_enter Try.func19, Try.ntmps19
  go_wp2_with fail
  refine (G.out _).mono ?_
  rintro e w' ⟨rfl, nn, rfl⟩
  go_wp2_with fail
  have B1 : Blk (((w.alloc (.cells #[.int .i64 aR, .int .i64 aM] 28)).alloc (.cells #[.int .i64 bR, .int .i64 bM] 28)).drewN nn) w.heap.size 28 #[.int .i64 aR, .int .i64 aM] := (Blk.new _ _ _).alloc _
  have B2 : Blk (((w.alloc (.cells #[.int .i64 aR, .int .i64 aM] 28)).alloc (.cells #[.int .i64 bR, .int .i64 bM] 28)).drewN nn) (w.heap.size + 1) 28 #[.int .i64 bR, .int .i64 bM] := by
    have := Blk.new (w.alloc (.cells #[.int .i64 aR, .int .i64 aM] 28)) 28 #[.int .i64 bR, .int .i64 bM]
    rw [World.size_alloc] at this
    exact this
  have K0 : Keeps [] w (((w.alloc (.cells #[.int .i64 aR, .int .i64 aM] 28)).alloc (.cells #[.int .i64 bR, .int .i64 bM] 28)).drewN nn) := (((Keeps.refl _ _).alloc _).alloc _).drewN _
  generalize ((w.alloc (.cells #[.int .i64 aR, .int .i64 aM] 28)).alloc (.cells #[.int .i64 bR, .int .i64 bM] 28)).drewN nn = w1 at *
  have c1 := B1.cell
  have c2 := B2.cell
  replace K0 := Lib.hid K0
  clear B1 B2
  go_quiet (first | (go_at_call 29; with_reducible exact quiet_left (C1.out _)) | (go_at_call 29; with_reducible exact quiet_left (C2.out _)))
  go_wp2_with fail
  go_ret
  exact ⟨rfl, K0.out.drewN _⟩

def solvableB (a b m : Int) : Bool := b % (Int.gcd (a % m) m : Int) == 0

set_option maxHeartbeats 800000 in
theorem solvable_any (a b m : Int) (w : World) (h0 : -9223372036854775808 ≤ a) (h1 : a ≤ 9223372036854775807) (h2 : -9223372036854775808 ≤ b) (h3 : b ≤ 9223372036854775807) (hm0 : 1 ≤ m) (hm : m ≤ 4611686018427387904) :
    Calls Try.prog 27 #[.int .i64 a, .int .i64 b, .int .i64 m] w (Gives (.bool (solvableB a b m)) w) := by
  have M1 := fun w => rmod_any a m w (by omega) (by omega) (by omega) (by omega)
  have ra := emod_bd a m (by omega)
  have hV : solvableB a b m = (b % (Int.gcd (a % m) m : Int) == 0) := rfl
  rw [hV]
  clear hV
  generalize a % m = A at *
  have G := fun w => rgcd_any A m w (by omega) (by omega) (by omega) (by omega)
  rw [ab_nn (by omega), ab_nn (by omega)] at G
  have hg := gcd_pos_r (a := A) hm0
  have e1 := mul_div_gcd_r A m
  generalize (Int.gcd A m : Int) = g at *
  have hgb : g ≤ m := Int.le_of_dvd (by omega) ⟨_, (by rw [Int.mul_comm]; exact e1.symm)⟩
  have C1 := Lib.hid (fun w => rmod_any b g w (by omega) (by omega) (by omega) (by omega))
  replace e1 := Lib.hid e1
  replace G := Lib.hid G
  replace M1 := Lib.hid M1
  go_enter Try.func27, Try.ntmps27
  go_wp2_with fail
  refine (M1.out _).mono ?_
  rintro e w' ⟨rfl, rfl⟩
  go_wp2_with fail
  refine (G.out _).mono ?_
  rintro e w' ⟨rfl, nn, rfl⟩
  go_wp2_with fail
  refine (C1.out _).mono ?_
  rintro e w' ⟨rfl, rfl⟩
  go_wp2_with fail
  go_ret
  exact ⟨rfl, (Keeps.refl _ _).drewN _⟩

def solvesB (a b m x : Int) : Bool := a * x % m == b % m

set_option maxHeartbeats 800000 in
theorem solves_any (a b m x : Int) (w : World) (h0 : -9223372036854775808 ≤ a) (h1 : a ≤ 9223372036854775807) (h2 : -9223372036854775808 ≤ b) (h3 : b ≤ 9223372036854775807) (hm0 : 1 ≤ m) (hm : m ≤ 4611686018427387904) (hx : 0 ≤ x) (hx' : x ≤ 4611686018427387904) :
    Calls Try.prog 30 #[.int .i64 a, .int .i64 b, .int .i64 m, .int .i64 x] w (Gives (.bool (solvesB a b m x)) w) := by
  have C1 := Lib.hid (fun w => mul_any a x m w h0 h1 (by omega) (by omega) hm0 hm)
  have C2 := Lib.hid (fun w => rmod_any b m w (by omega) (by omega) (by omega) (by omega))
  go_enter Try.func30, Try.ntmps30
  go_wp2_with fail
  refine (C1.out _).mono ?_
  rintro e w' ⟨rfl, nn, rfl⟩
  go_wp2_with fail
  refine (C2.out _).mono ?_
  rintro e w' ⟨rfl, rfl⟩
  go_wp2_with fail
  go_ret
  exact ⟨rfl, (Keeps.refl _ _).drewN _⟩
end Go.Proofs.Ytbinnmcodlejmaa
