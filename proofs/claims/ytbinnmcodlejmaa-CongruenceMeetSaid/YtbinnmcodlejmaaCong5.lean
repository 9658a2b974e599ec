/- Contracts: the next element; the count. -/
import Derived.Test.YtbinnmcodlejmaaCong3
namespace Go.Proofs.Ytbinnmcodlejmaa
open Go.RowKit
set_option linter.unusedSimpArgs false
set_option linter.unusedVariables false

instance (r m : Int) : Decidable (Val r m) := by unfold Val; infer_instance

/-- The distance to the next element. -/
def gap (r m n : Int) : Int := (r - n % m) % m
/-- Next's results. -/
def nextV (r m n : Int) : Value := if Val r m ∧ n ≤ 9223372036854775807 - gap r m n then .tuple #[.int .i64 (n + gap r m n), .bool true] else .tuple #[.int .i64 0, .bool false]

set_option maxHeartbeats 800000 in
theorem next_any (r m n : Int) (w : World) (h0 : -9223372036854775808 ≤ n) (h1 : n ≤ 9223372036854775807) :
    Calls Try.prog 22 #[.agg #[.int .i64 r, .int .i64 m], .int .i64 n] w (Gives (nextV r m n) w) := by
  by_cases hv : Val r m
  · obtain ⟨v1, v2, v3, v4⟩ := id hv
    have hg : 0 ≤ gap r m n ∧ gap r m n < m := emod_bd _ m (by omega)
    have hn := emod_bd n m (by omega)
    by_cases hx : n ≤ 9223372036854775807 - gap r m n
    all_goals
      obtain ⟨V, hV⟩ : ∃ V, V = nextV r m n := ⟨_, rfl⟩
      rw [← hV]
      have hV := Lib.hid hV
      unfold nextV at hV
      have hv := Lib.hid hv
      have C1 := Lib.hid (fun w => mod_any n m w (by omega) (by omega) (by omega) (by omega))
      have C2 := Lib.hid (fun w => mod_any (r - n % m) m w (by omega) (by omega) (by omega) (by omega))
      rw [show (r - n % m) % m = gap r m n from rfl] at C2
      generalize gap r m n = g at *
      go_enter Try.func22, Try.ntmps22
      go_wp2_with fail
      refine (valid_yes _ _ _ hv.out).mono ?_
      rintro e w' ⟨rfl, rfl⟩
      go_wp2_with fail
      go_quiet (first | (go_at_call 35; with_reducible exact quiet_left (C1.out _)) | (go_at_call 35; with_reducible exact quiet_left (C2.out _)))
      go_wp2_with fail
      go_ret2
      refine ⟨?_, ?_⟩
      · rw [hV.out]
        first
          | (rw [if_pos ⟨hv.out, by omega⟩]; rfl)
          | (rw [if_neg (fun h => by have := h.2; omega)]; rfl)
      · repeat first | exact Keeps.refl _ _ | apply Keeps.drewN | apply Keeps.drew | apply Keeps.alloc
  · have hV : nextV r m n = _ := if_neg (fun h => hv h.1)
    rw [hV]
    clear hV
    have hv := Lib.hid hv
    go_enter Try.func22, Try.ntmps22
    go_wp2_with fail
    refine (valid_no _ _ _ hv.out).mono ?_
    rintro e w' ⟨rfl, rfl⟩
    go_wp2_with fail
    go_ret2
    refine ⟨rfl, ?_⟩
    repeat first | exact Keeps.refl _ _ | apply Keeps.drewN | apply Keeps.drew | apply Keeps.alloc

set_option maxHeartbeats 800000 in
theorem rnext_any (r m n : Int) (w : World) (h0 : -9223372036854775808 ≤ n) (h1 : n ≤ 9223372036854775807) :
    Calls Try.prog 23 #[.agg #[.int .i64 r, .int .i64 m], .int .i64 n] w (Gives (nextV r m n) w) := by
  by_cases hv : Val r m
  · obtain ⟨v1, v2, v3, v4⟩ := id hv
    have hg : 0 ≤ gap r m n ∧ gap r m n < m := emod_bd _ m (by omega)
    have hn := emod_bd n m (by omega)
    by_cases hx : n ≤ 9223372036854775807 - gap r m n
    all_goals
      obtain ⟨V, hV⟩ : ∃ V, V = nextV r m n := ⟨_, rfl⟩
      rw [← hV]
      have hV := Lib.hid hV
      unfold nextV at hV
      have hv := Lib.hid hv
      have C1 := Lib.hid (fun w => rmod_any n m w (by omega) (by omega) (by omega) (by omega))
      have C2 := Lib.hid (fun w => rmod_any (r - n % m) m w (by omega) (by omega) (by omega) (by omega))
      rw [show (r - n % m) % m = gap r m n from rfl] at C2
      generalize gap r m n = g at *
      go_enter Try.func23, Try.ntmps23
      go_wp2_with fail
      refine (rvalid_yes _ _ _ hv.out).mono ?_
      rintro e w' ⟨rfl, nn, rfl⟩
      have hB : Blk (((w.alloc (.cells #[.int .i64 r, .int .i64 m] 28)).alloc (.cells #[.int .i64 r, .int .i64 m] 28)).drewN nn) w.heap.size 28 #[.int .i64 r, .int .i64 m] :=
        Blk.alloc (Blk.new w 28 #[.int .i64 r, .int .i64 m]) _
      have hk : Keeps [] w (((w.alloc (.cells #[.int .i64 r, .int .i64 m] 28)).alloc (.cells #[.int .i64 r, .int .i64 m] 28)).drewN nn) := (((Keeps.refl _ _).alloc _).alloc _).drewN _
      generalize (((w.alloc (.cells #[.int .i64 r, .int .i64 m] 28)).alloc (.cells #[.int .i64 r, .int .i64 m] 28)).drewN nn) = w1 at *
      have hc := hB.cell
      replace hk := Lib.hid hk
      clear hB
      go_wp2_with fail
      go_quiet (first | (go_at_call 29; with_reducible exact quiet_left (C1.out _)) | (go_at_call 29; with_reducible exact quiet_left (C2.out _)))
      go_wp2_with fail
      go_ret2
      refine ⟨?_, ?_⟩
      · rw [hV.out]
        first
          | (rw [if_pos ⟨hv.out, by omega⟩]; rfl)
          | (rw [if_neg (fun h => by have := h.2; omega)]; rfl)
      · repeat first | exact hk.out | exact Keeps.refl _ _ | apply Keeps.drewN | apply Keeps.drew | apply Keeps.alloc
  · have hV : nextV r m n = _ := if_neg (fun h => hv h.1)
    rw [hV]
    clear hV
    have hv := Lib.hid hv
    go_enter Try.func23, Try.ntmps23
    go_wp2_with fail
    refine (rvalid_no _ _ _ hv.out).mono ?_
    rintro e w' ⟨rfl, nn, rfl⟩
    go_wp2_with fail
    go_ret2
    refine ⟨rfl, ?_⟩
    repeat first | exact Keeps.refl _ _ | apply Keeps.drewN | apply Keeps.drew | apply Keeps.alloc

/-- Count's result. -/
def cnt (r m lo hi : Int) : Int :=
  if Val r m ∧ lo ≤ 9223372036854775807 - gap r m lo ∧ lo + gap r m lo ≤ hi then min 9223372036854775807 ((hi - (lo + gap r m lo)) / m + 1) else 0

theorem next_yes {r m n : Int} (hv : Val r m) (h : n ≤ 9223372036854775807 - gap r m n) : nextV r m n = .tuple #[.int .i64 (n + gap r m n), .bool true] := if_pos ⟨hv, h⟩
theorem next_not {r m n : Int} (h : ¬ (Val r m ∧ n ≤ 9223372036854775807 - gap r m n)) : nextV r m n = .tuple #[.int .i64 0, .bool false] := if_neg h

theorem u64_sub (a b : Int) (ha : -9223372036854775808 ≤ a) (ha' : a ≤ 9223372036854775807) (hb : -9223372036854775808 ≤ b) (hb' : b ≤ a) :
    IntKind.u64.wrap (IntKind.u64.wrap a - IntKind.u64.wrap b) = a - b := by
  rw [IntKind.wrap_u64, IntKind.wrap_u64, IntKind.wrap_u64]; omega

set_option maxHeartbeats 800000 in
theorem count_any (r m lo hi : Int) (w : World) (h0 : -9223372036854775808 ≤ lo) (h1 : lo ≤ 9223372036854775807) (h2 : -9223372036854775808 ≤ hi) (h3 : hi ≤ 9223372036854775807) :
    Calls Try.prog 24 #[.agg #[.int .i64 r, .int .i64 m], .int .i64 lo, .int .i64 hi] w (Gives (.int .i64 (cnt r m lo hi)) w) := by
  by_cases hc : Val r m ∧ lo ≤ 9223372036854775807 - gap r m lo
  · obtain ⟨hv, hn⟩ := hc
    have hN := next_any r m lo
    rw [next_yes hv hn] at hN
    have hg : 0 ≤ gap r m lo ∧ gap r m lo < m := emod_bd _ m (by have := hv.1; omega)
    have hm1 := hv.1
    have hm2 := hv.2.1
    have hcn : cnt r m lo hi = if lo + gap r m lo ≤ hi then min 9223372036854775807 ((hi - (lo + gap r m lo)) / m + 1) else 0 := by
      unfold cnt
      by_cases h : lo + gap r m lo ≤ hi
      · rw [if_pos ⟨hv, hn, h⟩, if_pos h]
      · rw [if_neg (fun x => h x.2.2), if_neg h]
    rw [hcn]
    clear hcn
    have hN := Lib.hid hN
    generalize gap r m lo = g at *
    generalize hf : lo + g = f at *
    have hf0 : lo ≤ f ∧ f ≤ 9223372036854775807 := by omega
    clear hf hv
    by_cases hh : f ≤ hi
    · rw [if_pos hh]
      have hu := u64_sub hi f h2 h3 (by omega) hh
      have hq0 : 0 ≤ (hi - f) / m := Int.ediv_nonneg (by omega) (by omega)
      have hq1 : (hi - f) / m ≤ 18446744073709551615 := by
        have := Int.ediv_le_self m (show 0 ≤ hi - f by omega)
        omega
      have hm3 : (0 : Int) < m := by omega
      by_cases hq : 9223372036854775807 ≤ (hi - f) / m
      all_goals
        obtain ⟨V, hV⟩ : ∃ V, V = min 9223372036854775807 ((hi - f) / m + 1) := ⟨_, rfl⟩
        rw [← hV]
        replace hV := Lib.hid hV
        go_enter Try.func24, Try.ntmps24
        go_wp2_with fail
        refine (hN.out _ h0 h1).mono ?_
        rintro e w' ⟨rfl, k⟩
        have hB := (Blk.new w 24 #[.int .i64 r, .int .i64 m]).keep k (by simp)
        have hc := hB.cell
        replace k := Lib.hid (((Keeps.refl [] w).alloc _).trans k)
        clear hB
        go_wp2_with fail
        go_ret
        exact ⟨ret_int (by rw [hV.out]; omega), k.out⟩
    · rw [if_neg hh]
      go_enter Try.func24, Try.ntmps24
      go_wp2_with fail
      refine (hN.out _ h0 h1).mono ?_
      rintro e w' ⟨rfl, k⟩
      replace k := Lib.hid (((Keeps.refl [] w).alloc _).trans k)
      go_wp2_with fail
      go_ret
      exact ⟨rfl, k.out⟩
  · have hN := next_any r m lo
    rw [next_not hc] at hN
    have hN := Lib.hid hN
    have hcn : cnt r m lo hi = 0 := if_neg (fun h => hc ⟨h.1, h.2.1⟩)
    rw [hcn]
    clear hcn hc
    go_enter Try.func24, Try.ntmps24
    go_wp2_with fail
    refine (hN.out _ h0 h1).mono ?_
    rintro e w' ⟨rfl, k⟩
    replace k := Lib.hid (((Keeps.refl [] w).alloc _).trans k)
    go_wp2_with fail
    go_ret
    exact ⟨rfl, k.out⟩

set_option maxHeartbeats 800000 in
theorem rcount_any (r m lo hi : Int) (w : World) (h0 : -9223372036854775808 ≤ lo) (h1 : lo ≤ 9223372036854775807) (h2 : -9223372036854775808 ≤ hi) (h3 : hi ≤ 9223372036854775807) :
    Calls Try.prog 25 #[.agg #[.int .i64 r, .int .i64 m], .int .i64 lo, .int .i64 hi] w (Gives (.int .i64 (cnt r m lo hi)) w) := by
  by_cases hc : Val r m ∧ lo ≤ 9223372036854775807 - gap r m lo
  · obtain ⟨hv, hn⟩ := hc
    have hN := rnext_any r m lo
    rw [next_yes hv hn] at hN
    have hg : 0 ≤ gap r m lo ∧ gap r m lo < m := emod_bd _ m (by have := hv.1; omega)
    have hm1 := hv.1
    have hm2 := hv.2.1
    have hcn : cnt r m lo hi = if lo + gap r m lo ≤ hi then min 9223372036854775807 ((hi - (lo + gap r m lo)) / m + 1) else 0 := by
      unfold cnt
      by_cases h : lo + gap r m lo ≤ hi
      · rw [if_pos ⟨hv, hn, h⟩, if_pos h]
      · rw [if_neg (fun x => h x.2.2), if_neg h]
    rw [hcn]
    clear hcn
    have hN := Lib.hid hN
    generalize gap r m lo = g at *
    generalize hf : lo + g = f at *
    have hf0 : lo ≤ f ∧ f ≤ 9223372036854775807 := by omega
    clear hf hv
    by_cases hh : f ≤ hi
    · rw [if_pos hh]
      have hu := u64_sub hi f h2 h3 (by omega) hh
      have hq0 : 0 ≤ (hi - f) / m := Int.ediv_nonneg (by omega) (by omega)
      have hq1 : (hi - f) / m ≤ 18446744073709551615 := by
        have := Int.ediv_le_self m (show 0 ≤ hi - f by omega)
        omega
      have hm3 : (0 : Int) < m := by omega
      by_cases hq : 9223372036854775807 ≤ (hi - f) / m
      all_goals
        obtain ⟨V, hV⟩ : ∃ V, V = min 9223372036854775807 ((hi - f) / m + 1) := ⟨_, rfl⟩
        rw [← hV]
        replace hV := Lib.hid hV
        go_enter Try.func25, Try.ntmps25
        go_wp2_with fail
        refine (hN.out _ h0 h1).mono ?_
        rintro e w' ⟨rfl, k⟩
        have hB := (Blk.new w 28 #[.int .i64 r, .int .i64 m]).keep k (by simp)
        have hc := hB.cell
        replace k := Lib.hid (((Keeps.refl [] w).alloc _).trans k)
        clear hB
        go_wp2_with fail
        go_ret
        exact ⟨ret_int (by rw [hV.out]; omega), k.out⟩
    · rw [if_neg hh]
      go_enter Try.func25, Try.ntmps25
      go_wp2_with fail
      refine (hN.out _ h0 h1).mono ?_
      rintro e w' ⟨rfl, k⟩
      replace k := Lib.hid (((Keeps.refl [] w).alloc _).trans k)
      go_wp2_with fail
      go_ret
      exact ⟨rfl, k.out⟩
  · have hN := rnext_any r m lo
    rw [next_not hc] at hN
    have hN := Lib.hid hN
    have hcn : cnt r m lo hi = 0 := if_neg (fun h => hc ⟨h.1, h.2.1⟩)
    rw [hcn]
    clear hcn hc
    go_enter Try.func25, Try.ntmps25
    go_wp2_with fail
    refine (hN.out _ h0 h1).mono ?_
    rintro e w' ⟨rfl, k⟩
    replace k := Lib.hid (((Keeps.refl [] w).alloc _).trans k)
    go_wp2_with fail
    go_ret
    exact ⟨rfl, k.out⟩
end Go.Proofs.Ytbinnmcodlejmaa
