/- Small words shared by the laws of Meet: the contracts met with a frame, three classes in memory. -/
import Derived.Test.YtbinnmcodlejmaaCong4
import Derived.Test.YtbinnmcodlejmaaCong7
import Derived.Test.YtbinnmcodlejmaaCong9
import Derived.Deep.DeepCutAuto
namespace Go.Proofs.Ytbinnmcodlejmaa
open Go.RowKit
set_option linter.unusedSimpArgs false
set_option linter.unusedVariables false

theorem rvalid_yes' (r m : Int) (w : World) (h : Val r m) : Calls Try.prog 18 #[.agg #[.int .i64 r, .int .i64 m]] w (Gives (.bool true) w) :=
  (rvalid_yes r m w h).mono fun e w' ⟨he, n, hw⟩ => ⟨he, by rw [hw]; exact ((Keeps.refl _ _).alloc _).drewN _⟩
theorem rvalid_no' (r m : Int) (w : World) (h : ¬ Val r m) : Calls Try.prog 18 #[.agg #[.int .i64 r, .int .i64 m]] w (Gives (.bool false) w) :=
  (rvalid_no r m w h).mono fun e w' ⟨he, n, hw⟩ => ⟨he, by rw [hw]; exact ((Keeps.refl _ _).alloc _).drewN _⟩

theorem met_iff {aR aM bR bM : Int} (ha : 1 ≤ aM) : metB aR aM bR bM = decide ((bR - aR) % (Int.gcd aM bM : Int) = 0) := by
  unfold metB
  have hg := gcd_pos_l (b := bM) ha
  generalize (Int.gcd aM bM : Int) = g at *
  rw [Bool.eq_iff_iff]
  simp
  constructor
  · intro h
    exact Int.emod_eq_emod_iff_emod_sub_eq_zero.1 h.symm
  · intro h
    exact (Int.emod_eq_emod_iff_emod_sub_eq_zero.2 h).symm

theorem bcell {W w1 : World} (hb : Below W.heap.size W w1) : (∀ b o, b < W.heap.size → w1.cell? ⟨b, o, none⟩ = W.cell? ⟨b, o, none⟩) ∧ (∀ b o, b < W.heap.size → w1.frozen? ⟨b, o, none⟩ = W.frozen? ⟨b, o, none⟩) :=
  ⟨fun b o h => hb.cell (p := ⟨b, o, none⟩) h, fun b o h => hb.frozen (p := ⟨b, o, none⟩) h⟩

theorem two_set {W : World} {g : Nat} {u0 u1 x y : Value} (h0 : W.cell? ⟨g, 0, none⟩ = some u0) (h1 : W.cell? ⟨g, 1, none⟩ = some u1) :
    ((W.setCell ⟨g, 0, none⟩ x).setCell ⟨g, 1, none⟩ y).cell? ⟨g, 0, none⟩ = some x ∧ ((W.setCell ⟨g, 0, none⟩ x).setCell ⟨g, 1, none⟩ y).cell? ⟨g, 1, none⟩ = some y := by
  have e1 : (W.setCell ⟨g, 0, none⟩ x).cell? ⟨g, 1, none⟩ = some u1 := (World.cell?_setCell_other _ _ _ _ (by simp)).trans h1
  exact ⟨(World.cell?_setCell_other _ _ _ _ (by simp)).trans (World.cell?_setCell_same _ _ _ h0), World.cell?_setCell_same _ _ _ e1⟩
/-- A block of two zeros, seen through calls that leave it alone. -/
theorem new_zero (W : World) (j : Nat) (hj : j = 0 ∨ j = 1) : (W.alloc (.cells #[.int .i64 0, .int .i64 0] 24)).cell? ⟨W.heap.size, j, none⟩ = some (.int .i64 0) := by
  rw [World.cell?_alloc_new]
  rcases hj with rfl | rfl <;> rfl

theorem new_zero' (W : World) (j : Nat) (hj : j = 0 ∨ j = 1) : (W.alloc (.cells #[.int .i64 0, .int .i64 0] 24)).drew.cell? ⟨W.heap.size, j, none⟩ = some (.int .i64 0) := new_zero W j hj

/-- Three classes that lie in memory. -/
structure Six (w : World) (ga gb g : Nat) (aR aM bR bM cR cM : Int) : Prop where
  a0 : w.cell? ⟨ga, 0, none⟩ = some (.int .i64 aR)
  a1 : w.cell? ⟨ga, 1, none⟩ = some (.int .i64 aM)
  b0 : w.cell? ⟨gb, 0, none⟩ = some (.int .i64 bR)
  b1 : w.cell? ⟨gb, 1, none⟩ = some (.int .i64 bM)
  g0 : w.cell? ⟨g, 0, none⟩ = some (.int .i64 cR)
  g1 : w.cell? ⟨g, 1, none⟩ = some (.int .i64 cM)
theorem Six.keep {w w' : World} {ga gb g : Nat} {aR aM bR bM cR cM : Int} (h : Six w ga gb g aR aM bR bM cR cM) (k : Keeps [] w w') : Six w' ga gb g aR aM bR bM cR cM :=
  ⟨k.cellEq h.a0 (by simp), k.cellEq h.a1 (by simp), k.cellEq h.b0 (by simp), k.cellEq h.b1 (by simp), k.cellEq h.g0 (by simp), k.cellEq h.g1 (by simp)⟩

def MeetPost2 (aR aM bR bM : Int) (w : World) (e : Ending) (w' : World) : Prop :=
  ∃ cR cM ok er, e = .returned (.tuple #[.agg #[.int .i64 cR, .int .i64 cM], .bool ok, .int .i64 er]) ∧ MeetRes aR aM bR bM cR cM ok er ∧ Keeps [] w w'
theorem meet2 (aR aM bR bM : Int) (w : World) : Calls Try.prog 16 #[.agg #[.int .i64 aR, .int .i64 aM], .agg #[.int .i64 bR, .int .i64 bM]] w (MeetPost2 aR aM bR bM w) := meet_any aR aM bR bM w

end Go.Proofs.Ytbinnmcodlejmaa
