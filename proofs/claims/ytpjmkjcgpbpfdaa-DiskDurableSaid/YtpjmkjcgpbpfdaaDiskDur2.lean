/- The array of the last writes, beside the disk. -/
import Derived.Test.YtpjmkjcgpbpfdaaDiskDur1
namespace Go.Proofs.Ytpjmkjcgpbpfdaa
open Go.RowKit
set_option linter.unusedSimpArgs false

/-- A slice of 64 bytes in a block that is none of X. -/
def LSlot (w : World) (X : List Nat) (v : Value) (l : List UInt8) : Prop :=
  ∃ g c, v = .slice (some ⟨g, 0, none⟩) 64 c ∧ 64 ≤ c ∧ c ≤ maxLen ∧ Bts w (some ⟨g, 0, none⟩) l ∧ l.length = 64 ∧ g ∉ X

theorem LSlot.keep {w w' : World} {X : List Nat} {v : Value} {l : List UInt8} (h : LSlot w X v l) (hk : Keeps X w w') : LSlot w' X v l := by
  obtain ⟨g, c, rfl, h1, h2, h3, h4, h5⟩ := h
  exact ⟨g, c, rfl, h1, h2, h3.keep hk (by intro a ha; cases ha; exact h5), h4, h5⟩

/-- The array at block bl holds a slice for each of the first k sectors. -/
def Last (w : World) (t : TypeId) (X : List Nat) (bl k : Nat) (f : Nat → List UInt8) : Prop :=
  ∃ cells, Blk w bl t cells ∧ cells.size = 4 ∧ ∀ j, j < k → ∃ v, cells[j]? = some v ∧ LSlot w X v (f j)

theorem LSlot.keepN {w w' : World} {X : List Nat} {v : Value} {l : List UInt8} (h : LSlot w X v l) (hk : Keeps [] w w') : LSlot w' X v l := h.keep hk.nil
theorem Last.keepN {w w' : World} {t : TypeId} {X : List Nat} {bl k : Nat} {f : Nat → List UInt8} (h : Last w t X bl k f) (hk : Keeps [] w w') : Last w' t X bl k f := by
  obtain ⟨cells, hB, hs, hc⟩ := h
  refine ⟨cells, hB.keep hk (by simp), hs, fun j hj => ?_⟩
  obtain ⟨v, hv, hl⟩ := hc j hj
  exact ⟨v, hv, hl.keepN hk⟩
theorem Last.keep {w w' : World} {t : TypeId} {X Y : List Nat} {bl k : Nat} {f : Nat → List UInt8} (h : Last w t X bl k f) (hk : Keeps Y w w') (hY : ∀ y ∈ Y, y ∈ X) (hbl : bl ∉ Y) : Last w' t X bl k f := by
  obtain ⟨cells, hB, hs, hc⟩ := h
  refine ⟨cells, hB.keep hk hbl, hs, fun j hj => ?_⟩
  obtain ⟨v, hv, hl⟩ := hc j hj
  exact ⟨v, hv, hl.keep (hk.mono fun y hy => .inl (hY y hy))⟩

/-- A store into the array. -/
theorem Last.put {w : World} {t : TypeId} {X : List Nat} {bl k : Nat} {f f' : Nat → List UInt8} {v : Value} {i : Nat} (h : Last w t X bl k f) (hbl : bl ∈ X) (hi : i < 4)
    (hv : LSlot w X v (f' i)) (hf : ∀ j, j < k → j ≠ i → f' j = f j) : Last (w.setCell ⟨bl, i, none⟩ v) t X bl k f' := by
  obtain ⟨cells, hB, hs, hc⟩ := h
  have hk : Keeps X w (w.setCell ⟨bl, i, none⟩ v) := (Keeps.refl _ _).setCell (.inl hbl) _
  refine ⟨_, hB.set_ i v, by simpa using hs, fun j hj => ?_⟩
  by_cases hji : j = i
  · subst hji
    exact ⟨v, by simp [Array.getElem?_setIfInBounds, hs, hi], hv.keep hk⟩
  · obtain ⟨u, hu, hl⟩ := hc j hj
    refine ⟨u, ?_, ?_⟩
    · rw [Array.getElem?_setIfInBounds, if_neg (by omega)]; exact hu
    · rw [hf j hj hji]; exact hl.keep hk

/-- The first store into cell k. -/
theorem Last.grow {w : World} {t : TypeId} {X : List Nat} {bl k : Nat} {f : Nat → List UInt8} {v : Value} (h : Last w t X bl k f) (hbl : bl ∈ X) (hi : k < 4)
    (hv : LSlot w X v (f k)) : Last (w.setCell ⟨bl, k, none⟩ v) t X bl (k + 1) f := by
  obtain ⟨cells, hB, hs, hc⟩ := h
  have hk : Keeps X w (w.setCell ⟨bl, k, none⟩ v) := (Keeps.refl _ _).setCell (.inl hbl) _
  refine ⟨_, hB.set_ k v, by simpa using hs, fun j hj => ?_⟩
  by_cases hji : j = k
  · subst hji
    exact ⟨v, by simp [Array.getElem?_setIfInBounds, hs, hi], hv.keep hk⟩
  · obtain ⟨u, hu, hl⟩ := hc j (by omega)
    exact ⟨u, by rw [Array.getElem?_setIfInBounds, if_neg (by omega)]; exact hu, hl.keep hk⟩

theorem made_zero {w : World} {g : Nat} (h : Blk w g 5 (madeCells (Value.int .u8 0).cells (64 * 1))) : Blk w g 5 ((List.replicate 64 (0 : UInt8)).map bv).toArray := by
  rw [show (Value.int IntKind.u8 0).cells = Array.replicate 1 (bv 0) from rfl, madeCells_same _ _ _ (by decide)] at h
  simpa using h

theorem Last.congr {w : World} {t : TypeId} {X : List Nat} {bl k : Nat} {f f' : Nat → List UInt8} (h : Last w t X bl k f) (hf : ∀ j, j < k → f' j = f j) : Last w t X bl k f' := by
  obtain ⟨cells, hB, hs, hc⟩ := h
  exact ⟨cells, hB, hs, fun j hj => by rw [hf j hj]; exact hc j hj⟩
theorem arm_n (s : St) (a b : Int) : (arm s a b).n = s.n := by unfold arm; split <;> rfl
theorem arm_w (s : St) (a b : Int) : (arm s a b).writes = s.writes := by unfold arm; split <;> rfl
theorem arm_sec (s : St) (a b : Int) (j : Nat) : sec (arm s a b) j = sec s j := by unfold arm; split <;> rfl
theorem sec_st0 : ∀ j, j < 4 → sec (st0 4) j = List.replicate 64 0 := by decide +kernel
end Go.Proofs.Ytpjmkjcgpbpfdaa
