/- The contract of awake. -/
import Derived.Test.YthmnolpamllabaaIv11
namespace Go.Proofs.Ythmnolpamllabaa
open Go.RowKit
set_option linter.unusedSimpArgs false
set_option linter.unusedVariables false

/-- A row of intervals whose cells are known. -/
theorem iv_blk {w : World} {g t B : Nat} {l : List Iv} (h : Blk w g t (flat l).toArray) (hg : g < B) : IvAt w B (some ⟨g, 0, none⟩) l := by
  intro i x hi
  obtain ⟨f0, f1⟩ := flat_get l i x hi
  refine ⟨g, 0, rfl, hg, ?_, ?_⟩
  · rw [Nat.zero_add, h.cell]; simpa using f0
  · rw [Nat.zero_add, h.cell]; simpa using f1
theorem iv_new (w : World) (t : TypeId) (l : List Iv) : IvAt (w.alloc (.cells (flat l).toArray t)) (w.heap.size + 1) (some ⟨w.heap.size, 0, none⟩) l := iv_blk (Blk.new w t _) (by omega)

def exC : List Con := [⟨1, [(0, 1), (1, -1)], false⟩, ⟨-5, [(1, 1)], false⟩]
theorem ex_prop : propP exC [(0, 9), (0, 9)] = some [(0, 4), (1, 5)] := by decide
theorem ex_rng : rngM [(0, 3), (1, 4)] [(0, 2), (1, -1)] 1 = ((-3, 6), true) := by decide

abbrev ex2 (w : World) : World := w.alloc (.cells #[.int .i64 0, .int .i64 1] 50)
abbrev ex3 (w : World) : World := (ex2 w).alloc (.cells #[.int .i64 1, .int .i64 (-1)] 50)
abbrev ex4 (w : World) : World := (ex3 w).alloc (.cells #[.int .i64 0, .int .i64 1, .int .i64 1, .int .i64 (-1)] 50)
abbrev ex5 (w : World) : World := (ex4 w).alloc (.cells #[.int .i64 1, .int .i64 1] 50)
abbrev ex6 (w : World) : World := (ex5 w).alloc (.cells #[.int .i64 1, .slice (some ⟨w.heap.size + 1 + 1, 0, none⟩) 2 2, .bool false, .int .i64 (-5), .slice (some ⟨w.heap.size + 1 + 1 + 1, 0, none⟩) 1 1, .bool false] 46)
abbrev ex7 (w : World) : World := (ex6 w).alloc (.cells #[.int .i64 0, .int .i64 9, .int .i64 0, .int .i64 9] 39)
theorem ex_prop_any (w : World) : Calls Try.prog 13 #[.slice (some ⟨w.heap.size + 1 + 1 + 1 + 1, 0, none⟩) 2 2, .slice (some ⟨w.heap.size + 1 + 1 + 1 + 1 + 1, 0, none⟩) 2 2] (ex7 w) fun e w' =>
    ∃ A c, e = .returned (.tuple #[.slice A 2 c, .bool true]) ∧ Hid (w'.ownsRow (ex7 w).heap.size 39 2 (.slice A 2 c) 2 (flat [(0, 4), (1, 5)])) ∧ Hid (Keeps [] w w') ∧ Hid (Blk w' (w.heap.size + 1) 50 #[.int .i64 1, .int .i64 (-1)]) := by
  have k7 : Keeps [] w (ex7 w) := ((((((Keeps.refl [] w).alloc _).alloc _).alloc _).alloc _).alloc _).alloc _
  have b3 : Blk (ex7 w) (w.heap.size + 1) 50 #[.int .i64 1, .int .i64 (-1)] := by
    have := ((((Blk.new (ex2 w) 50 #[.int .i64 1, .int .i64 (-1)]).alloc (.cells #[.int .i64 0, .int .i64 1, .int .i64 1, .int .i64 (-1)] 50)).alloc (.cells #[.int .i64 1, .int .i64 1] 50)).alloc (.cells #[.int .i64 1, .slice (some ⟨w.heap.size + 1 + 1, 0, none⟩) 2 2, .bool false, .int .i64 (-5), .slice (some ⟨w.heap.size + 1 + 1 + 1, 0, none⟩) 1 1, .bool false] 46)).alloc (.cells #[.int .i64 0, .int .i64 9, .int .i64 0, .int .i64 9] 39)
    simpa using this
  have b4 : Blk (ex7 w) (w.heap.size + 1 + 1) 50 #[.int .i64 0, .int .i64 1, .int .i64 1, .int .i64 (-1)] := by
    have := (((Blk.new (ex3 w) 50 #[.int .i64 0, .int .i64 1, .int .i64 1, .int .i64 (-1)]).alloc (.cells #[.int .i64 1, .int .i64 1] 50)).alloc (.cells #[.int .i64 1, .slice (some ⟨w.heap.size + 1 + 1, 0, none⟩) 2 2, .bool false, .int .i64 (-5), .slice (some ⟨w.heap.size + 1 + 1 + 1, 0, none⟩) 1 1, .bool false] 46)).alloc (.cells #[.int .i64 0, .int .i64 9, .int .i64 0, .int .i64 9] 39)
    simpa using this
  have b5 : Blk (ex7 w) (w.heap.size + 1 + 1 + 1) 50 #[.int .i64 1, .int .i64 1] := by
    have := ((Blk.new (ex4 w) 50 #[.int .i64 1, .int .i64 1]).alloc (.cells #[.int .i64 1, .slice (some ⟨w.heap.size + 1 + 1, 0, none⟩) 2 2, .bool false, .int .i64 (-5), .slice (some ⟨w.heap.size + 1 + 1 + 1, 0, none⟩) 1 1, .bool false] 46)).alloc (.cells #[.int .i64 0, .int .i64 9, .int .i64 0, .int .i64 9] 39)
    simpa using this
  have b6 : Blk (ex7 w) (w.heap.size + 1 + 1 + 1 + 1) 46 #[.int .i64 1, .slice (some ⟨w.heap.size + 1 + 1, 0, none⟩) 2 2, .bool false, .int .i64 (-5), .slice (some ⟨w.heap.size + 1 + 1 + 1, 0, none⟩) 1 1, .bool false] := by
    have := (Blk.new (ex5 w) 46 #[.int .i64 1, .slice (some ⟨w.heap.size + 1 + 1, 0, none⟩) 2 2, .bool false, .int .i64 (-5), .slice (some ⟨w.heap.size + 1 + 1 + 1, 0, none⟩) 1 1, .bool false]).alloc (.cells #[.int .i64 0, .int .i64 9, .int .i64 0, .int .i64 9] 39)
    simpa using this
  have b7 : Blk (ex7 w) (w.heap.size + 1 + 1 + 1 + 1 + 1) 39 #[.int .i64 0, .int .i64 9, .int .i64 0, .int .i64 9] := by
    have := Blk.new (ex6 w) 39 #[.int .i64 0, .int .i64 9, .int .i64 0, .int .i64 9]
    simpa using this
  have hz : (ex7 w).heap.size = w.heap.size + 6 := by simp
  have hL : ConsAt (ex7 w) (w.heap.size + 6) (some ⟨w.heap.size + 1 + 1 + 1 + 1, 0, none⟩) exC := by
    intro i f hf
    match i, hf with
    | 0, hf =>
      obtain rfl : (⟨1, [(0, 1), (1, -1)], false⟩ : Con) = f := by simpa [exC] using hf
      exact ⟨_, 0, _, 2, rfl, by omega, b6.cell 0, b6.cell 1, b6.cell 2, iv_blk (l := [(0, 1), (1, -1)]) b4 (by omega)⟩
    | 1, hf =>
      obtain rfl : (⟨-5, [(1, 1)], false⟩ : Con) = f := by simpa [exC] using hf
      exact ⟨_, 0, _, 1, rfl, by omega, b6.cell 3, b6.cell 4, b6.cell 5, iv_blk (l := [(1, 1)]) b5 (by omega)⟩
    | i + 2, hf => simp [exC] at hf
  have h := prop_any (ex7 w) (w.heap.size + 6) (some ⟨w.heap.size + 1 + 1 + 1 + 1, 0, none⟩) (some ⟨w.heap.size + 1 + 1 + 1 + 1 + 1, 0, none⟩) exC [(0, 9), (0, 9)] 2 2 2 2 rfl rfl hL (iv_blk (l := [(0, 9), (0, 9)]) b7 (by omega)) (.inr ⟨_, _, rfl⟩) (by omega) (by
    intro f hf
    simp only [exC, List.mem_cons, List.not_mem_nil, or_false] at hf
    rcases hf with rfl | rfl
    · exact ⟨by simp, by simp, by simp, by simp, by simp⟩
    · exact ⟨by simp, by simp, by simp, by simp, by simp⟩) (by omega) (by omega)
  rw [ex_prop] at h
  refine h.mono ?_
  rintro e w' (⟨hr, _⟩ | ⟨D', v, hD, _, rfl, o, k⟩)
  · cases hr
  · cases hD
    obtain ⟨A, c, rfl, _⟩ := own_slice o
    exact ⟨A, c, rfl, Lib.hid o, Lib.hid (k7.trans k), Lib.hid (b3.keep k (by simp))⟩
abbrev ey2 (w : World) : World := w.alloc (.cells #[.int .i64 0, .int .i64 2, .int .i64 1, .int .i64 (-1)] 50)
abbrev ey3 (w : World) : World := (ey2 w).alloc (.cells #[.int .i64 0, .int .i64 3, .int .i64 1, .int .i64 4] 39)
theorem ex_rng_any (w : World) : Calls Try.prog 19 #[.agg #[.int .i64 1, .slice (some ⟨w.heap.size, 0, none⟩) 2 2], .slice (some ⟨w.heap.size + 1, 0, none⟩) 2 2] (ey3 w) fun e w' =>
    e = .returned (.tuple #[.agg #[.int .i64 (-3), .int .i64 6], .bool true]) ∧ Hid (Keeps [] w w') := by
  have k3 : Keeps [] w (ey3 w) := ((Keeps.refl [] w).alloc _).alloc _
  have b2 : Blk (ey3 w) w.heap.size 50 #[.int .i64 0, .int .i64 2, .int .i64 1, .int .i64 (-1)] := (Blk.new w 50 _).alloc _
  have b3 : Blk (ey3 w) (w.heap.size + 1) 39 #[.int .i64 0, .int .i64 3, .int .i64 1, .int .i64 4] := by
    have := Blk.new (ey2 w) 39 #[.int .i64 0, .int .i64 3, .int .i64 1, .int .i64 4]
    simpa using this
  have hz : (ey3 w).heap.size = w.heap.size + 2 := by simp
  have h := range_any (ey3 w) (w.heap.size + 2) (some ⟨w.heap.size, 0, none⟩) (some ⟨w.heap.size + 1, 0, none⟩) [(0, 3), (1, 4)] [(0, 2), (1, -1)] 1 2 2 2 2 rfl rfl (iv_blk (l := [(0, 2), (1, -1)]) b2 (by omega)) (iv_blk (l := [(0, 3), (1, 4)]) b3 (by omega)) (by omega) ⟨by simp, by simp, by simp, by simp, by simp⟩ (by omega)
  rw [ex_rng] at h
  refine h.mono ?_
  rintro e w' ⟨rfl, k⟩
  exact ⟨rfl, Lib.hid (k3.trans k)⟩

/-- 'of' of a row that the call owns, and then 'Same' with a row that is built. -/
theorem ex_of (w : World) (base : Nat) (A : Option Addr) (c : Nat) (l : List Iv) (h : w.ownsRow base 39 2 (.slice A l.length c) l.length (flat l)) (hl : l.length ≤ 1000) :
    Calls Try.prog 17 #[.slice A l.length c] w fun e w' => ∃ A' c', e = .returned (.slice A' l.length c') ∧ Hid (w'.ownsRow w.heap.size 38 2 (.slice A' l.length c') l.length (flat l)) ∧ Hid (Keeps [] w w') := by
  refine (of_any w w.heap.size A l l.length c rfl (Nat.le_refl _) (IvAt.of_own h rfl) (by omega)).mono ?_
  rintro e w' ⟨A', c', rfl, o, _, k⟩
  exact ⟨A', c', rfl, Lib.hid o, Lib.hid k⟩
theorem ex_same (w : World) (base : Nat) (A : Option Addr) (c : Nat) (l : List Iv) (h : w.ownsRow base 38 2 (.slice A l.length c) l.length (flat l)) (hl : l.length ≤ 1000) :
    Calls Try.prog 16 #[.slice A l.length c, .slice (some ⟨w.heap.size, 0, none⟩) l.length l.length] (w.alloc (.cells (flat l).toArray 38)) fun e w' => e = .returned (.bool true) ∧ Hid (Keeps [] w w') := by
  have ka : Keeps [] w (w.alloc (.cells (flat l).toArray 38)) := (Keeps.refl [] w).alloc _
  refine (same_any (w.alloc (.cells (flat l).toArray 38)) w.heap.size (w.heap.size + 1) A (some ⟨w.heap.size, 0, none⟩) l l l.length c l.length l.length rfl rfl ((IvAt.of_own h rfl).keep ka (by simp)) (iv_new w 38 l) (by omega)).mono ?_
  rintro e w' ⟨rfl, k⟩
  exact ⟨by simp, Lib.hid (ka.trans k)⟩
set_option maxHeartbeats 3200000 in
set_option maxRecDepth 100000 in
theorem awake_any (w : World) : Calls Try.prog 11 #[] w fun e w' => e = .returned (.bool true) ∧ Keeps [] w w' := by
  go_enter Try.func11, Try.ntmps11
  go_wp2_with fail
  refine (of2_any (w.alloc (.cells (flat [(7, 9), (1, 3), (4, 4)]).toArray 39)) (w.heap.size + 1) (some ⟨w.heap.size, 0, none⟩) [(7, 9), (1, 3), (4, 4)] 3 3 rfl (by simp) (iv_new w 39 _) (.inr ⟨_, _, rfl⟩) (by unfold All64 In64; simp) (by omega)).mono ?_
  rintro e w1 ⟨out, hi, A1, c1, he, o1, _, k1⟩
  obtain rfl : out = [(1, 4), (7, 9)] := canon_unique hi.can (by simp [Canon]) (fun n => by rw [hi.same]; simp [inn]; omega)
  subst he
  replace o1 : Hid (w1.ownsRow (w.heap.size + 1) 39 2 (.slice A1 2 c1) 2 (flat [(1, 4), (7, 9)])) := Lib.hid (by simpa using o1)
  replace k1 := Lib.hid (((Keeps.refl [] w).alloc _).trans k1)
  clear hi
  go_wp2_with fail
  refine (ex_prop_any w1).mono ?_
  rintro e w2 ⟨A2, c2, rfl, o2, k2, b2⟩
  replace o1 := Lib.hid (own_keep0 o1.out k2.out)
  replace k2 := Lib.hid (k1.out.trans k2.out)
  have z2 := b2.out.cell
  clear k1
  go_wp2_with fail
  refine (ex_rng_any w2).mono ?_
  rintro e w3 ⟨rfl, k3⟩
  replace o1 := Lib.hid (own_keep0 o1.out k3.out)
  replace o2 := Lib.hid (own_keep0 o2.out k3.out)
  replace k3 := Lib.hid (k2.out.trans k3.out)
  clear b2 z2 k2
  go_wp2_with fail
  have b7 := Lib.hid (Blk.new w3 39 #[.int .i64 (-3), .int .i64 6])
  replace o1 := Lib.hid (own_keep0 o1.out ((Keeps.refl [] w3).alloc (.cells #[.int .i64 (-3), .int .i64 6] 39)))
  replace o2 := Lib.hid (own_keep0 o2.out ((Keeps.refl [] w3).alloc (.cells #[.int .i64 (-3), .int .i64 6] 39)))
  replace k3 := Lib.hid (k3.out.alloc (.cells #[.int .i64 (-3), .int .i64 6] 39))
  generalize w3.alloc (.cells #[.int .i64 (-3), .int .i64 6] 39) = w4 at *
  generalize w3.heap.size = g7 at *
  refine (ex_of w4 _ A1 c1 [(1, 4), (7, 9)] o1.out (by decide)).mono ?_
  rintro e w5 ⟨A3, c3, rfl, o3, k5⟩
  replace o2 := Lib.hid (own_keep0 o2.out k5.out)
  replace b7 := Lib.hid (b7.out.keep k5.out (by simp))
  replace k5 := Lib.hid (k3.out.trans k5.out)
  clear o1 k3
  go_wp2_with fail
  refine (ex_same w5 _ A3 c3 [(1, 4), (7, 9)] o3.out (by decide)).mono ?_
  rintro e w6 ⟨rfl, k6⟩
  replace o2 := Lib.hid (own_keep0 o2.out k6.out)
  replace b7 := Lib.hid (b7.out.keep k6.out (by simp))
  replace k6 := Lib.hid (k5.out.trans k6.out)
  clear o3 k5
  go_wp2_with fail
  refine (ex_of w6 _ A2 c2 [(0, 4), (1, 5)] o2.out (by decide)).mono ?_
  rintro e w7 ⟨A4, c4, rfl, o4, k7⟩
  replace b7 := Lib.hid (b7.out.keep k7.out (by simp))
  replace k7 := Lib.hid (k6.out.trans k7.out)
  clear o2 k6
  go_wp2_with fail
  refine (ex_same w7 _ A4 c4 [(0, 4), (1, 5)] o4.out (by decide)).mono ?_
  rintro e w8 ⟨rfl, k8⟩
  have z7 := (b7.out.keep k8.out (by simp)).cell
  replace k8 := Lib.hid (k7.out.trans k8.out)
  clear o4 k7 b7
  go_wp2_with fail
  go_ret
  exact ⟨rfl, k8.out⟩
end Go.Proofs.Ythmnolpamllabaa
