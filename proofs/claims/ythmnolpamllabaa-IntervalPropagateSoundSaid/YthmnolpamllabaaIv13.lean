/- The contracts of Valid, Contains, Hull. -/
import Derived.Test.YthmnolpamllabaaIv12
import Derived.Test.YthmnolpamllabaaReg3
namespace Go.Proofs.Ythmnolpamllabaa
open Go.RowKit
set_option linter.unusedSimpArgs false
set_option linter.unusedVariables false

theorem canon_gap : ∀ {l : List Iv} {i j : Nat} {x y : Iv}, Canon l → l[i]? = some x → l[j]? = some y → i < j → x.2 + 1 < y.1
  | z :: r, 0, j + 1, x, y, h, hx, hy, _ => by
    simp at hx hy
    rw [← hx]
    exact h.2.1 y (List.mem_of_getElem? hy)
  | z :: r, i + 1, j + 1, x, y, h, hx, hy, hij => canon_gap h.2.2 (by simpa using hx) (by simpa using hy) (by omega)
theorem canon_take {l : List Iv} {k : Nat} (h : Canon l) : Canon (l.take k) := by
  induction l generalizing k with
  | nil => simpa using h
  | cons z r ih =>
    cases k with
    | zero => trivial
    | succ k => exact ⟨h.1, fun y hy => h.2.1 y (List.mem_of_mem_take hy), ih h.2.2⟩
theorem canon_first {l : List Iv} {x : Iv} (hx : l[0]? = some x) (h : x.1 ≤ x.2) : Canon (l.take 1) := by
  cases l with
  | nil => simp at hx
  | cons y r =>
    simp at hx
    subst hx
    exact ⟨h, by simp, trivial⟩
theorem canon_next {l : List Iv} {q : Nat} {x z : Iv} (h : Canon (l.take (q + 1))) (hz : l[q]? = some z) (hx : l[q + 1]? = some x) (h1 : x.1 ≤ x.2) (h2 : z.2 + 1 < x.1) : Canon (l.take (q + 1 + 1)) := by
  rw [List.take_add_one, hx]
  refine canon_snoc.2 ⟨h, h1, fun y hy => ?_⟩
  obtain ⟨i, hi⟩ := List.getElem?_of_mem hy
  have hzt : (l.take (q + 1))[q]? = some z := by rw [List.getElem?_take, if_pos (by omega)]; exact hz
  have hil : i < q + 1 := by
    have := (List.getElem?_eq_some_iff.1 hi).1
    rw [List.length_take] at this
    omega
  rcases Nat.lt_or_ge i q with h3 | h3
  · have := canon_gap h hi hzt h3
    have := canon_mem h (List.mem_of_getElem? hzt)
    omega
  · obtain rfl : i = q := by omega
    rw [hzt] at hi
    cases hi
    exact h2

set_option maxHeartbeats 3200000 in
set_option maxRecDepth 100000 in
theorem valid_any (w : World) (B : Nat) (A : Option Addr) (l : List Iv) (n c : Nat) (hl : l.length = n) (hB : B ≤ w.heap.size) (hO : IvAt w B A l) (h64 : All64 l) (hn : n ≤ 1000000) :
    Calls Try.prog 27 #[.slice A n c] w fun e w' => ∃ b, e = .returned (.bool b) ∧ (b = true ↔ Canon l) ∧ Keeps [] w w' := by
  replace hO := Lib.hid hO
  replace hl := Lib.hid hl
  replace h64 := Lib.hid h64
  go_enter Try.func27, Try.ntmps27
  go_wp2_with fail
  go_loopw [7] (fun i wr => ∃ k : Nat, k ≤ n ∧ i = .int .i64 k ∧ Hid (Canon (l.take k)) ∧ Hid (Keeps [] w wr)) (fun i _ => n - (intOf i).toNat)
  case atStart => exact ⟨0, Nat.zero_le _, rfl, Lib.hid trivial, Lib.hid (Keeps.refl [] w)⟩
  case round =>
    obtain ⟨k, hk, rfl, hcan, hkw⟩ := hrel
    by_cases hlt : k < n
    · obtain ⟨⟨x1, x2⟩, hx⟩ : ∃ x, l[k]? = some x := ⟨l[k]'(by rw [hl.out]; exact hlt), List.getElem?_eq_getElem _⟩
      have hOr := hO.out.keep hkw.out (by simp)
      obtain ⟨ga, oa, rfl, hgB, c0, c1⟩ := hOr k _ hx
      dsimp only at c0 c1
      have hx6 : In64 x1 := (h64.out (x1, x2) (List.mem_of_getElem? hx)).1
      have hki : (k : Int) < (n : Int) := by omega
      have hxb := Lib.hid (Blk.new wr 39 #[.int .i64 x1, .int .i64 x2])
      have hka := Lib.hid (hkw.out.alloc (.cells #[.int .i64 x1, .int .i64 x2] 39))
      by_cases he : x2 < x1
      · have hd : decide (x2 < x1) = true := decide_eq_true he
        have hbad : Hid (¬ Canon l) := Lib.hid (fun h => by have := canon_mem h (List.mem_of_getElem? hx); dsimp only at this; omega)
        replace hx := Lib.hid hx
        replace hx6 := Lib.hid hx6
        clear hOr
        go_wp2_with fail
        generalize wr.alloc (.cells #[.int .i64 x1, .int .i64 x2] 39) = wy at *
        generalize wr.heap.size = gx at *
        have h0 := And.intro (hxb.out.drew.cell 0) (hxb.out.drew.cell 1)
        simp only [List.getElem?_toArray, List.getElem?_cons_succ, List.getElem?_cons_zero] at h0
        have Kd := Lib.hid (hka.out.drew)
        clear hka hxb c0 c1
        refine wp_region_I (S := (fun w' : World => w'.cell? ⟨gx, 0, none⟩ = some (.int .i64 x1) ∧ w'.cell? ⟨gx, 1, none⟩ = some (.int .i64 x2))) (n := 15) (by kernel_rfl) ?_
        generalize wy.drew = wb at *
        have HS := h0
        clear h0
        refine wpAnyI_takeN (i := 0) (v := ?_) (by kernel_rfl) rfl (by kernel_rfl) (by kernel_rfl) (by kernel_rfl) (fun _ _ _ h => h) HS (Or.inl ⟨by rfl, ?_⟩) ?_
        rotate_left
        · (intro w hSw; obtain ⟨y1, y2⟩ := hSw; go_simp; try with_reducible rfl)
        try simp only [Act.put, List.getElem_toArray, List.getElem_cons_succ, List.getElem_cons_zero, List.setIfInBounds_toArray, List.set_cons_zero, List.set_cons_succ]
        refine wpAnyI_one (i := 1) rfl (by kernel_rfl) (fun K hK => ?_)
        dsimp only [List.getElem_toArray, List.getElem_cons_succ, List.getElem_cons_zero]
        go_simp
        refine (empty_any _ x1 x2).mono ?_
        rintro e w4 ⟨rfl, k4⟩
        have HS := And.intro (k4.cellEq HS.1 (by simp)) (k4.cellEq HS.2 (by simp))
        replace k4 := Lib.hid k4
        refine hK _ _ (Or.inr HS) ?_
        clear hK K
        try simp only [Act.put, List.getElem_toArray, List.getElem_cons_succ, List.getElem_cons_zero, List.setIfInBounds_toArray, List.set_cons_zero, List.set_cons_succ]
        refine wpAnyI_takeN (i := 2) (v := .bool true) (by kernel_rfl) rfl (by kernel_rfl) (by kernel_rfl) (by kernel_rfl) (fun _ _ _ h => h) HS (Or.inl ⟨by rfl, ?_⟩) ?_
        · (intro w hSw; obtain ⟨y1, y2⟩ := hSw; go_simp; all_goals simp [hd])
        try simp only [Act.put, List.getElem_toArray, List.getElem_cons_succ, List.getElem_cons_zero, List.setIfInBounds_toArray, List.set_cons_zero, List.set_cons_succ]
        refine wpAnyI_takeN (i := 3) (v := undef) (by kernel_rfl) rfl (by kernel_rfl) (by kernel_rfl) (by kernel_rfl) (fun _ _ _ h => h) HS (Or.inr ⟨by rfl, rfl⟩) ?_
        try simp only [Act.put, List.getElem_toArray, List.getElem_cons_succ, List.getElem_cons_zero, List.setIfInBounds_toArray, List.set_cons_zero, List.set_cons_succ]
        refine wpAnyI_takeN (i := 4) (v := undef) (by kernel_rfl) rfl (by kernel_rfl) (by kernel_rfl) (by kernel_rfl) (fun _ _ _ h => h) HS (Or.inr ⟨by rfl, rfl⟩) ?_
        try simp only [Act.put, List.getElem_toArray, List.getElem_cons_succ, List.getElem_cons_zero, List.setIfInBounds_toArray, List.set_cons_zero, List.set_cons_succ]
        refine wpAnyI_takeN (i := 5) (v := undef) (by kernel_rfl) rfl (by kernel_rfl) (by kernel_rfl) (by kernel_rfl) (fun _ _ _ h => h) HS (Or.inr ⟨by rfl, rfl⟩) ?_
        try simp only [Act.put, List.getElem_toArray, List.getElem_cons_succ, List.getElem_cons_zero, List.setIfInBounds_toArray, List.set_cons_zero, List.set_cons_succ]
        refine wpAnyI_takeN (i := 6) (v := undef) (by kernel_rfl) rfl (by kernel_rfl) (by kernel_rfl) (by kernel_rfl) (fun _ _ _ h => h) HS (Or.inr ⟨by rfl, rfl⟩) ?_
        try simp only [Act.put, List.getElem_toArray, List.getElem_cons_succ, List.getElem_cons_zero, List.setIfInBounds_toArray, List.set_cons_zero, List.set_cons_succ]
        refine wpAnyI_takeN (i := 7) (v := undef) (by kernel_rfl) rfl (by kernel_rfl) (by kernel_rfl) (by kernel_rfl) (fun _ _ _ h => h) HS (Or.inr ⟨by rfl, rfl⟩) ?_
        try simp only [Act.put, List.getElem_toArray, List.getElem_cons_succ, List.getElem_cons_zero, List.setIfInBounds_toArray, List.set_cons_zero, List.set_cons_succ]
        refine wpAnyI_takeN (i := 8) (v := undef) (by kernel_rfl) rfl (by kernel_rfl) (by kernel_rfl) (by kernel_rfl) (fun _ _ _ h => h) HS (Or.inr ⟨by rfl, rfl⟩) ?_
        try simp only [Act.put, List.getElem_toArray, List.getElem_cons_succ, List.getElem_cons_zero, List.setIfInBounds_toArray, List.set_cons_zero, List.set_cons_succ]
        refine wpAnyI_takeN (i := 9) (v := undef) (by kernel_rfl) rfl (by kernel_rfl) (by kernel_rfl) (by kernel_rfl) (fun _ _ _ h => h) HS (Or.inr ⟨by rfl, rfl⟩) ?_
        try simp only [Act.put, List.getElem_toArray, List.getElem_cons_succ, List.getElem_cons_zero, List.setIfInBounds_toArray, List.set_cons_zero, List.set_cons_succ]
        refine wpAnyI_takeN (i := 10) (v := undef) (by kernel_rfl) rfl (by kernel_rfl) (by kernel_rfl) (by kernel_rfl) (fun _ _ _ h => h) HS (Or.inr ⟨by rfl, rfl⟩) ?_
        try simp only [Act.put, List.getElem_toArray, List.getElem_cons_succ, List.getElem_cons_zero, List.setIfInBounds_toArray, List.set_cons_zero, List.set_cons_succ]
        refine wpAnyI_takeN (i := 11) (v := undef) (by kernel_rfl) rfl (by kernel_rfl) (by kernel_rfl) (by kernel_rfl) (fun _ _ _ h => h) HS (Or.inr ⟨by rfl, rfl⟩) ?_
        try simp only [Act.put, List.getElem_toArray, List.getElem_cons_succ, List.getElem_cons_zero, List.setIfInBounds_toArray, List.set_cons_zero, List.set_cons_succ]
        refine wpAnyI_takeN (i := 12) (v := undef) (by kernel_rfl) rfl (by kernel_rfl) (by kernel_rfl) (by kernel_rfl) (fun _ _ _ h => h) HS (Or.inr ⟨by rfl, rfl⟩) ?_
        try simp only [Act.put, List.getElem_toArray, List.getElem_cons_succ, List.getElem_cons_zero, List.setIfInBounds_toArray, List.set_cons_zero, List.set_cons_succ]
        refine wpAnyI_takeN (i := 13) (v := undef) (by kernel_rfl) rfl (by kernel_rfl) (by kernel_rfl) (by kernel_rfl) (fun _ _ _ h => h) HS (Or.inr ⟨by rfl, rfl⟩) ?_
        try simp only [Act.put, List.getElem_toArray, List.getElem_cons_succ, List.getElem_cons_zero, List.setIfInBounds_toArray, List.set_cons_zero, List.set_cons_succ]
        refine wpAnyI_takeN (i := 14) (v := ?_) (by kernel_rfl) rfl (by kernel_rfl) (by kernel_rfl) (by kernel_rfl) (fun _ _ _ h => h) HS (Or.inl ⟨by rfl, ?_⟩) ?_
        rotate_left
        · (intro w hSw; obtain ⟨y1, y2⟩ := hSw; go_simp; try with_reducible rfl)
        try simp only [Act.put, List.getElem_toArray, List.getElem_cons_succ, List.getElem_cons_zero, List.setIfInBounds_toArray, List.set_cons_zero, List.set_cons_succ]
        refine wpAnyI_done (by kernel_rfl) ?_ _
        go_wp2_with fail
        go_ret
        exact ⟨false, rfl, ⟨fun h => by simp at h, fun h => absurd h hbad.out⟩, Kd.out.trans k4.out⟩
      · have hd : decide (x2 < x1) = false := decide_eq_false he
        rcases k with _ | q
        · rw [Nat.zero_mul, Nat.add_zero] at c0 c1
          have hcan2 := Lib.hid (canon_first hx (by dsimp only; omega))
          replace hx := Lib.hid hx
          replace hx6 := Lib.hid hx6
          clear hOr
          go_wp2_with fail
          generalize wr.alloc (.cells #[.int .i64 x1, .int .i64 x2] 39) = wy at *
          generalize wr.heap.size = gx at *
          have h0 := And.intro (hxb.out.drew.cell 0) (hxb.out.drew.cell 1)
          simp only [List.getElem?_toArray, List.getElem?_cons_succ, List.getElem?_cons_zero] at h0
          have Kd := Lib.hid (hka.out.drew)
          clear hka hxb c0 c1
          refine wp_region_I (S := (fun w' : World => w'.cell? ⟨gx, 0, none⟩ = some (.int .i64 x1) ∧ w'.cell? ⟨gx, 1, none⟩ = some (.int .i64 x2))) (n := 15) (by kernel_rfl) ?_
          generalize wy.drew = wb at *
          have HS := h0
          clear h0
          refine wpAnyI_takeN (i := 0) (v := ?_) (by kernel_rfl) rfl (by kernel_rfl) (by kernel_rfl) (by kernel_rfl) (fun _ _ _ h => h) HS (Or.inl ⟨by rfl, ?_⟩) ?_
          rotate_left
          · (intro w hSw; obtain ⟨y1, y2⟩ := hSw; go_simp; try with_reducible rfl)
          try simp only [Act.put, List.getElem_toArray, List.getElem_cons_succ, List.getElem_cons_zero, List.setIfInBounds_toArray, List.set_cons_zero, List.set_cons_succ]
          refine wpAnyI_one (i := 1) rfl (by kernel_rfl) (fun K hK => ?_)
          dsimp only [List.getElem_toArray, List.getElem_cons_succ, List.getElem_cons_zero]
          go_simp
          refine (empty_any _ x1 x2).mono ?_
          rintro e w4 ⟨rfl, k4⟩
          have HS := And.intro (k4.cellEq HS.1 (by simp)) (k4.cellEq HS.2 (by simp))
          replace k4 := Lib.hid k4
          refine hK _ _ (Or.inr HS) ?_
          clear hK K
          try simp only [Act.put, List.getElem_toArray, List.getElem_cons_succ, List.getElem_cons_zero, List.setIfInBounds_toArray, List.set_cons_zero, List.set_cons_succ]
          refine wpAnyI_takeN (i := 2) (v := .bool false) (by kernel_rfl) rfl (by kernel_rfl) (by kernel_rfl) (by kernel_rfl) (fun _ _ _ h => h) HS (Or.inl ⟨by rfl, ?_⟩) ?_
          · (intro w hSw; obtain ⟨y1, y2⟩ := hSw; go_simp; all_goals simp [hd])
          try simp only [Act.put, List.getElem_toArray, List.getElem_cons_succ, List.getElem_cons_zero, List.setIfInBounds_toArray, List.set_cons_zero, List.set_cons_succ]
          refine wpAnyI_takeN (i := 3) (v := ?_) (by kernel_rfl) rfl (by kernel_rfl) (by kernel_rfl) (by kernel_rfl) (fun _ _ _ h => h) HS (Or.inl ⟨by rfl, ?_⟩) ?_
          rotate_left
          · (intro w hSw; obtain ⟨y1, y2⟩ := hSw; go_simp; try with_reducible rfl)
          try simp only [Act.put, List.getElem_toArray, List.getElem_cons_succ, List.getElem_cons_zero, List.setIfInBounds_toArray, List.set_cons_zero, List.set_cons_succ]
          refine wpAnyI_takeN (i := 4) (v := ?_) (by kernel_rfl) rfl (by kernel_rfl) (by kernel_rfl) (by kernel_rfl) (fun _ _ _ h => h) HS (Or.inl ⟨by rfl, ?_⟩) ?_
          rotate_left
          · (intro w hSw; obtain ⟨y1, y2⟩ := hSw; go_simp; try with_reducible rfl)
          try simp only [Act.put, List.getElem_toArray, List.getElem_cons_succ, List.getElem_cons_zero, List.setIfInBounds_toArray, List.set_cons_zero, List.set_cons_succ]
          refine wpAnyI_takeN (i := 5) (v := ?_) (by kernel_rfl) rfl (by kernel_rfl) (by kernel_rfl) (by kernel_rfl) (fun _ _ _ h => h) HS (Or.inl ⟨by rfl, ?_⟩) ?_
          rotate_left
          · (intro w hSw; obtain ⟨y1, y2⟩ := hSw; go_simp; try with_reducible rfl)
          try simp only [Act.put, List.getElem_toArray, List.getElem_cons_succ, List.getElem_cons_zero, List.setIfInBounds_toArray, List.set_cons_zero, List.set_cons_succ]
          refine wpAnyI_takeN (i := 6) (v := undef) (by kernel_rfl) rfl (by kernel_rfl) (by kernel_rfl) (by kernel_rfl) (fun _ _ _ h => h) HS (Or.inr ⟨by rfl, rfl⟩) ?_
          try simp only [Act.put, List.getElem_toArray, List.getElem_cons_succ, List.getElem_cons_zero, List.setIfInBounds_toArray, List.set_cons_zero, List.set_cons_succ]
          refine wpAnyI_takeN (i := 7) (v := undef) (by kernel_rfl) rfl (by kernel_rfl) (by kernel_rfl) (by kernel_rfl) (fun _ _ _ h => h) HS (Or.inr ⟨by rfl, rfl⟩) ?_
          try simp only [Act.put, List.getElem_toArray, List.getElem_cons_succ, List.getElem_cons_zero, List.setIfInBounds_toArray, List.set_cons_zero, List.set_cons_succ]
          refine wpAnyI_takeN (i := 8) (v := undef) (by kernel_rfl) rfl (by kernel_rfl) (by kernel_rfl) (by kernel_rfl) (fun _ _ _ h => h) HS (Or.inr ⟨by rfl, rfl⟩) ?_
          try simp only [Act.put, List.getElem_toArray, List.getElem_cons_succ, List.getElem_cons_zero, List.setIfInBounds_toArray, List.set_cons_zero, List.set_cons_succ]
          refine wpAnyI_takeN (i := 9) (v := undef) (by kernel_rfl) rfl (by kernel_rfl) (by kernel_rfl) (by kernel_rfl) (fun _ _ _ h => h) HS (Or.inr ⟨by rfl, rfl⟩) ?_
          try simp only [Act.put, List.getElem_toArray, List.getElem_cons_succ, List.getElem_cons_zero, List.setIfInBounds_toArray, List.set_cons_zero, List.set_cons_succ]
          refine wpAnyI_takeN (i := 10) (v := undef) (by kernel_rfl) rfl (by kernel_rfl) (by kernel_rfl) (by kernel_rfl) (fun _ _ _ h => h) HS (Or.inr ⟨by rfl, rfl⟩) ?_
          try simp only [Act.put, List.getElem_toArray, List.getElem_cons_succ, List.getElem_cons_zero, List.setIfInBounds_toArray, List.set_cons_zero, List.set_cons_succ]
          refine wpAnyI_takeN (i := 11) (v := undef) (by kernel_rfl) rfl (by kernel_rfl) (by kernel_rfl) (by kernel_rfl) (fun _ _ _ h => h) HS (Or.inr ⟨by rfl, rfl⟩) ?_
          try simp only [Act.put, List.getElem_toArray, List.getElem_cons_succ, List.getElem_cons_zero, List.setIfInBounds_toArray, List.set_cons_zero, List.set_cons_succ]
          refine wpAnyI_takeN (i := 12) (v := undef) (by kernel_rfl) rfl (by kernel_rfl) (by kernel_rfl) (by kernel_rfl) (fun _ _ _ h => h) HS (Or.inr ⟨by rfl, rfl⟩) ?_
          try simp only [Act.put, List.getElem_toArray, List.getElem_cons_succ, List.getElem_cons_zero, List.setIfInBounds_toArray, List.set_cons_zero, List.set_cons_succ]
          refine wpAnyI_takeN (i := 13) (v := ?_) (by kernel_rfl) rfl (by kernel_rfl) (by kernel_rfl) (by kernel_rfl) (fun _ _ _ h => h) HS (Or.inl ⟨by rfl, ?_⟩) ?_
          rotate_left
          · (intro w hSw; obtain ⟨y1, y2⟩ := hSw; go_simp; try with_reducible rfl)
          try simp only [Act.put, List.getElem_toArray, List.getElem_cons_succ, List.getElem_cons_zero, List.setIfInBounds_toArray, List.set_cons_zero, List.set_cons_succ]
          refine wpAnyI_takeN (i := 14) (v := ?_) (by kernel_rfl) rfl (by kernel_rfl) (by kernel_rfl) (by kernel_rfl) (fun _ _ _ h => h) HS (Or.inl ⟨by rfl, ?_⟩) ?_
          rotate_left
          · (intro w hSw; obtain ⟨y1, y2⟩ := hSw; go_simp; try with_reducible rfl)
          try simp only [Act.put, List.getElem_toArray, List.getElem_cons_succ, List.getElem_cons_zero, List.setIfInBounds_toArray, List.set_cons_zero, List.set_cons_succ]
          refine wpAnyI_done (by kernel_rfl) ?_ _
          go_wp2_with fail
          go_roundw
          case rel => exact ⟨1, by omega, by go_num, hcan2, Lib.hid (Kd.out.trans k4.out)⟩
          case measure => simp [intOf]; omega
        · obtain ⟨⟨z1, z2⟩, hz⟩ : ∃ x, l[q]? = some x := ⟨l[q]'(by rw [hl.out]; omega), List.getElem?_eq_getElem _⟩
          obtain ⟨ga', oa', hga, _, cz0, cz1⟩ := hOr q _ hz
          simp only [Option.some.injEq, Addr.mk.injEq] at hga
          obtain ⟨rfl, rfl, _⟩ := hga
          dsimp only at cz0 cz1
          have hz6 : In64 z2 := (h64.out (z1, z2) (List.mem_of_getElem? hz)).2
          have hq1 : Hid (IntKind.i64.wrap ((q : Int) + 1 - 1) = (q : Int)) := Lib.hid (by rw [IntWalk.i64_in _ (by omega)]; omega)
          have hq0 : Hid (IntKind.i64.wrap (q : Int) = (q : Int)) := Lib.hid (IntWalk.i64_in _ (by omega))
          have hqn : (q : Int) < (n : Int) := by omega
          have hq0n : (0 : Int) ≤ (q : Int) := by omega
          have ka : Keeps [] wr (wr.alloc (.cells #[.int .i64 x1, .int .i64 x2] 39)) := (Keeps.refl [] wr).alloc _
          replace cz0 := ka.cellEq cz0 (by simp)
          replace cz1 := ka.cellEq cz1 (by simp)
          clear hOr ka
          by_cases ht : x1 ≤ z2 + 1
          · have hb : decide (x1 ≤ z2 + 1) = true := decide_eq_true ht
            have hbad : Hid (¬ Canon l) := Lib.hid (fun h => by have := canon_gap h hz hx (by omega); dsimp only at this; omega)
            replace hx := Lib.hid hx
            replace hz := Lib.hid hz
            go_wp2_with fail
            generalize wr.alloc (.cells #[.int .i64 x1, .int .i64 x2] 39) = wy at *
            generalize wr.heap.size = gx at *
            have h0 := And.intro (And.intro (hxb.out.drew.cell 0) (hxb.out.drew.cell 1)) (And.intro cz0 cz1 : wy.drew.cell? ⟨ga, oa + q * 2, none⟩ = some (.int .i64 z1) ∧ wy.drew.cell? ⟨ga, oa + q * 2 + 1, none⟩ = some (.int .i64 z2))
            simp only [List.getElem?_toArray, List.getElem?_cons_succ, List.getElem?_cons_zero] at h0
            have Kd := Lib.hid (hka.out.drew)
            clear hka hxb c0 c1 cz0 cz1
            refine wp_region_I (S := (fun w' : World => (w'.cell? ⟨gx, 0, none⟩ = some (.int .i64 x1) ∧ w'.cell? ⟨gx, 1, none⟩ = some (.int .i64 x2)) ∧ (w'.cell? ⟨ga, oa + q * 2, none⟩ = some (.int .i64 z1) ∧ w'.cell? ⟨ga, oa + q * 2 + 1, none⟩ = some (.int .i64 z2)))) (n := 15) (by kernel_rfl) ?_
            generalize wy.drew = wb at *
            have HS := h0
            clear h0
            refine wpAnyI_takeN (i := 0) (v := ?_) (by kernel_rfl) rfl (by kernel_rfl) (by kernel_rfl) (by kernel_rfl) (fun _ _ _ h => h) HS (Or.inl ⟨by rfl, ?_⟩) ?_
            rotate_left
            · (intro w hSw; obtain ⟨⟨y1, y2⟩, ⟨y3, y4⟩⟩ := hSw; go_simp; try with_reducible rfl)
            try simp only [Act.put, List.getElem_toArray, List.getElem_cons_succ, List.getElem_cons_zero, List.setIfInBounds_toArray, List.set_cons_zero, List.set_cons_succ]
            refine wpAnyI_one (i := 1) rfl (by kernel_rfl) (fun K hK => ?_)
            dsimp only [List.getElem_toArray, List.getElem_cons_succ, List.getElem_cons_zero]
            go_simp
            refine (empty_any _ x1 x2).mono ?_
            rintro e w4 ⟨rfl, k4⟩
            have HS := And.intro (And.intro (k4.cellEq HS.1.1 (by simp)) (k4.cellEq HS.1.2 (by simp))) (And.intro (k4.cellEq HS.2.1 (by simp)) (k4.cellEq HS.2.2 (by simp)))
            replace k4 := Lib.hid k4
            refine hK _ _ (Or.inr HS) ?_
            clear hK K
            try simp only [Act.put, List.getElem_toArray, List.getElem_cons_succ, List.getElem_cons_zero, List.setIfInBounds_toArray, List.set_cons_zero, List.set_cons_succ]
            refine wpAnyI_takeN (i := 2) (v := .bool false) (by kernel_rfl) rfl (by kernel_rfl) (by kernel_rfl) (by kernel_rfl) (fun _ _ _ h => h) HS (Or.inl ⟨by rfl, ?_⟩) ?_
            · (intro w hSw; obtain ⟨⟨y1, y2⟩, ⟨y3, y4⟩⟩ := hSw; go_simp; all_goals simp [hd])
            try simp only [Act.put, List.getElem_toArray, List.getElem_cons_succ, List.getElem_cons_zero, List.setIfInBounds_toArray, List.set_cons_zero, List.set_cons_succ]
            refine wpAnyI_takeN (i := 3) (v := ?_) (by kernel_rfl) rfl (by kernel_rfl) (by kernel_rfl) (by kernel_rfl) (fun _ _ _ h => h) HS (Or.inl ⟨by rfl, ?_⟩) ?_
            rotate_left
            · (intro w hSw; obtain ⟨⟨y1, y2⟩, ⟨y3, y4⟩⟩ := hSw; go_simp; try with_reducible rfl)
            try simp only [Act.put, List.getElem_toArray, List.getElem_cons_succ, List.getElem_cons_zero, List.setIfInBounds_toArray, List.set_cons_zero, List.set_cons_succ]
            refine wpAnyI_takeN (i := 4) (v := ?_) (by kernel_rfl) rfl (by kernel_rfl) (by kernel_rfl) (by kernel_rfl) (fun _ _ _ h => h) HS (Or.inl ⟨by rfl, ?_⟩) ?_
            rotate_left
            · (intro w hSw; obtain ⟨⟨y1, y2⟩, ⟨y3, y4⟩⟩ := hSw; go_simp; try with_reducible rfl)
            try simp only [Act.put, List.getElem_toArray, List.getElem_cons_succ, List.getElem_cons_zero, List.setIfInBounds_toArray, List.set_cons_zero, List.set_cons_succ]
            refine wpAnyI_takeN (i := 5) (v := .bool true) (by kernel_rfl) rfl (by kernel_rfl) (by kernel_rfl) (by kernel_rfl) (fun _ _ _ h => h) HS (Or.inl ⟨by rfl, ?_⟩) ?_
            · (intro w hSw; obtain ⟨⟨y1, y2⟩, ⟨y3, y4⟩⟩ := hSw; go_simp; all_goals omega)
            try simp only [Act.put, List.getElem_toArray, List.getElem_cons_succ, List.getElem_cons_zero, List.setIfInBounds_toArray, List.set_cons_zero, List.set_cons_succ]
            refine wpAnyI_takeN (i := 6) (v := ?_) (by kernel_rfl) rfl (by kernel_rfl) (by kernel_rfl) (by kernel_rfl) (fun _ _ _ h => h) HS (Or.inl ⟨by rfl, ?_⟩) ?_
            rotate_left
            · (intro w hSw; obtain ⟨⟨y1, y2⟩, ⟨y3, y4⟩⟩ := hSw; go_simp; try with_reducible rfl)
            try simp only [Act.put, List.getElem_toArray, List.getElem_cons_succ, List.getElem_cons_zero, List.setIfInBounds_toArray, List.set_cons_zero, List.set_cons_succ]
            refine wpAnyI_takeN (i := 7) (v := ?_) (by kernel_rfl) rfl (by kernel_rfl) (by kernel_rfl) (by kernel_rfl) (fun _ _ _ h => h) HS (Or.inl ⟨by rfl, ?_⟩) ?_
            rotate_left
            · (intro w hSw; obtain ⟨⟨y1, y2⟩, ⟨y3, y4⟩⟩ := hSw; go_simp; try with_reducible rfl)
            try simp only [Act.put, List.getElem_toArray, List.getElem_cons_succ, List.getElem_cons_zero, List.setIfInBounds_toArray, List.set_cons_zero, List.set_cons_succ]
            refine wpAnyI_takeN (i := 8) (v := .int .i64 (q : Nat)) (by kernel_rfl) rfl (by kernel_rfl) (by kernel_rfl) (by kernel_rfl) (fun _ _ _ h => h) HS (Or.inl ⟨by rfl, ?_⟩) ?_
            · (intro w hSw; obtain ⟨⟨y1, y2⟩, ⟨y3, y4⟩⟩ := hSw; go_simp; first | rw [hq1.out] | rw [hq0.out])
            try simp only [Act.put, List.getElem_toArray, List.getElem_cons_succ, List.getElem_cons_zero, List.setIfInBounds_toArray, List.set_cons_zero, List.set_cons_succ]
            refine wpAnyI_takeN (i := 9) (v := .pointer (some ⟨ga, oa + q * 2, none⟩)) (by kernel_rfl) rfl (by kernel_rfl) (by kernel_rfl) (by kernel_rfl) (fun _ _ _ h => h) HS (Or.inl ⟨by rfl, ?_⟩) ?_
            · (intro w hSw; obtain ⟨⟨y1, y2⟩, ⟨y3, y4⟩⟩ := hSw; go_simp; all_goals (first | (intro hh; exfalso; omega) | omega))
            try simp only [Act.put, List.getElem_toArray, List.getElem_cons_succ, List.getElem_cons_zero, List.setIfInBounds_toArray, List.set_cons_zero, List.set_cons_succ]
            refine wpAnyI_takeN (i := 10) (v := ?_) (by kernel_rfl) rfl (by kernel_rfl) (by kernel_rfl) (by kernel_rfl) (fun _ _ _ h => h) HS (Or.inl ⟨by rfl, ?_⟩) ?_
            rotate_left
            · (intro w hSw; obtain ⟨⟨y1, y2⟩, ⟨y3, y4⟩⟩ := hSw; go_simp; try with_reducible rfl)
            try simp only [Act.put, List.getElem_toArray, List.getElem_cons_succ, List.getElem_cons_zero, List.setIfInBounds_toArray, List.set_cons_zero, List.set_cons_succ]
            refine wpAnyI_takeN (i := 11) (v := ?_) (by kernel_rfl) rfl (by kernel_rfl) (by kernel_rfl) (by kernel_rfl) (fun _ _ _ h => h) HS (Or.inl ⟨by rfl, ?_⟩) ?_
            rotate_left
            · (intro w hSw; obtain ⟨⟨y1, y2⟩, ⟨y3, y4⟩⟩ := hSw; go_simp; try with_reducible rfl)
            try simp only [Act.put, List.getElem_toArray, List.getElem_cons_succ, List.getElem_cons_zero, List.setIfInBounds_toArray, List.set_cons_zero, List.set_cons_succ]
            refine wpAnyI_one (i := 12) rfl (by kernel_rfl) (fun K hK => ?_)
            dsimp only [List.getElem_toArray, List.getElem_cons_succ, List.getElem_cons_zero]
            go_simp
            refine (touches_any _ z1 z2 x1 x2 hz6 hx6).mono ?_
            rintro e w5 ⟨rfl, k5⟩
            have HS := And.intro (And.intro (k5.cellEq HS.1.1 (by simp)) (k5.cellEq HS.1.2 (by simp))) (And.intro (k5.cellEq HS.2.1 (by simp)) (k5.cellEq HS.2.2 (by simp)))
            replace k4 := Lib.hid (k4.out.trans k5)
            clear k5
            refine hK _ _ (Or.inr HS) ?_
            clear hK K
            try simp only [Act.put, List.getElem_toArray, List.getElem_cons_succ, List.getElem_cons_zero, List.setIfInBounds_toArray, List.set_cons_zero, List.set_cons_succ]
            refine wpAnyI_takeN (i := 13) (v := .bool true) (by kernel_rfl) rfl (by kernel_rfl) (by kernel_rfl) (by kernel_rfl) (fun _ _ _ h => h) HS (Or.inl ⟨by rfl, ?_⟩) ?_
            · (intro w hSw; obtain ⟨⟨y1, y2⟩, ⟨y3, y4⟩⟩ := hSw; go_simp; all_goals simp [hb])
            try simp only [Act.put, List.getElem_toArray, List.getElem_cons_succ, List.getElem_cons_zero, List.setIfInBounds_toArray, List.set_cons_zero, List.set_cons_succ]
            refine wpAnyI_takeN (i := 14) (v := ?_) (by kernel_rfl) rfl (by kernel_rfl) (by kernel_rfl) (by kernel_rfl) (fun _ _ _ h => h) HS (Or.inl ⟨by rfl, ?_⟩) ?_
            rotate_left
            · (intro w hSw; obtain ⟨⟨y1, y2⟩, ⟨y3, y4⟩⟩ := hSw; go_simp; try with_reducible rfl)
            try simp only [Act.put, List.getElem_toArray, List.getElem_cons_succ, List.getElem_cons_zero, List.setIfInBounds_toArray, List.set_cons_zero, List.set_cons_succ]
            refine wpAnyI_done (by kernel_rfl) ?_ _
            go_wp2_with fail
            go_ret
            exact ⟨false, rfl, ⟨fun h => by simp at h, fun h => absurd h hbad.out⟩, Kd.out.trans k4.out⟩
          · have hb : decide (x1 ≤ z2 + 1) = false := decide_eq_false ht
            have hcan2 := Lib.hid (canon_next hcan.out hz hx (by dsimp only; omega) (by dsimp only; omega))
            replace hx := Lib.hid hx
            replace hz := Lib.hid hz
            go_wp2_with fail
            generalize wr.alloc (.cells #[.int .i64 x1, .int .i64 x2] 39) = wy at *
            generalize wr.heap.size = gx at *
            have h0 := And.intro (And.intro (hxb.out.drew.cell 0) (hxb.out.drew.cell 1)) (And.intro cz0 cz1 : wy.drew.cell? ⟨ga, oa + q * 2, none⟩ = some (.int .i64 z1) ∧ wy.drew.cell? ⟨ga, oa + q * 2 + 1, none⟩ = some (.int .i64 z2))
            simp only [List.getElem?_toArray, List.getElem?_cons_succ, List.getElem?_cons_zero] at h0
            have Kd := Lib.hid (hka.out.drew)
            clear hka hxb c0 c1 cz0 cz1
            refine wp_region_I (S := (fun w' : World => (w'.cell? ⟨gx, 0, none⟩ = some (.int .i64 x1) ∧ w'.cell? ⟨gx, 1, none⟩ = some (.int .i64 x2)) ∧ (w'.cell? ⟨ga, oa + q * 2, none⟩ = some (.int .i64 z1) ∧ w'.cell? ⟨ga, oa + q * 2 + 1, none⟩ = some (.int .i64 z2)))) (n := 15) (by kernel_rfl) ?_
            generalize wy.drew = wb at *
            have HS := h0
            clear h0
            refine wpAnyI_takeN (i := 0) (v := ?_) (by kernel_rfl) rfl (by kernel_rfl) (by kernel_rfl) (by kernel_rfl) (fun _ _ _ h => h) HS (Or.inl ⟨by rfl, ?_⟩) ?_
            rotate_left
            · (intro w hSw; obtain ⟨⟨y1, y2⟩, ⟨y3, y4⟩⟩ := hSw; go_simp; try with_reducible rfl)
            try simp only [Act.put, List.getElem_toArray, List.getElem_cons_succ, List.getElem_cons_zero, List.setIfInBounds_toArray, List.set_cons_zero, List.set_cons_succ]
            refine wpAnyI_one (i := 1) rfl (by kernel_rfl) (fun K hK => ?_)
            dsimp only [List.getElem_toArray, List.getElem_cons_succ, List.getElem_cons_zero]
            go_simp
            refine (empty_any _ x1 x2).mono ?_
            rintro e w4 ⟨rfl, k4⟩
            have HS := And.intro (And.intro (k4.cellEq HS.1.1 (by simp)) (k4.cellEq HS.1.2 (by simp))) (And.intro (k4.cellEq HS.2.1 (by simp)) (k4.cellEq HS.2.2 (by simp)))
            replace k4 := Lib.hid k4
            refine hK _ _ (Or.inr HS) ?_
            clear hK K
            try simp only [Act.put, List.getElem_toArray, List.getElem_cons_succ, List.getElem_cons_zero, List.setIfInBounds_toArray, List.set_cons_zero, List.set_cons_succ]
            refine wpAnyI_takeN (i := 2) (v := .bool false) (by kernel_rfl) rfl (by kernel_rfl) (by kernel_rfl) (by kernel_rfl) (fun _ _ _ h => h) HS (Or.inl ⟨by rfl, ?_⟩) ?_
            · (intro w hSw; obtain ⟨⟨y1, y2⟩, ⟨y3, y4⟩⟩ := hSw; go_simp; all_goals simp [hd])
            try simp only [Act.put, List.getElem_toArray, List.getElem_cons_succ, List.getElem_cons_zero, List.setIfInBounds_toArray, List.set_cons_zero, List.set_cons_succ]
            refine wpAnyI_takeN (i := 3) (v := ?_) (by kernel_rfl) rfl (by kernel_rfl) (by kernel_rfl) (by kernel_rfl) (fun _ _ _ h => h) HS (Or.inl ⟨by rfl, ?_⟩) ?_
            rotate_left
            · (intro w hSw; obtain ⟨⟨y1, y2⟩, ⟨y3, y4⟩⟩ := hSw; go_simp; try with_reducible rfl)
            try simp only [Act.put, List.getElem_toArray, List.getElem_cons_succ, List.getElem_cons_zero, List.setIfInBounds_toArray, List.set_cons_zero, List.set_cons_succ]
            refine wpAnyI_takeN (i := 4) (v := ?_) (by kernel_rfl) rfl (by kernel_rfl) (by kernel_rfl) (by kernel_rfl) (fun _ _ _ h => h) HS (Or.inl ⟨by rfl, ?_⟩) ?_
            rotate_left
            · (intro w hSw; obtain ⟨⟨y1, y2⟩, ⟨y3, y4⟩⟩ := hSw; go_simp; try with_reducible rfl)
            try simp only [Act.put, List.getElem_toArray, List.getElem_cons_succ, List.getElem_cons_zero, List.setIfInBounds_toArray, List.set_cons_zero, List.set_cons_succ]
            refine wpAnyI_takeN (i := 5) (v := .bool true) (by kernel_rfl) rfl (by kernel_rfl) (by kernel_rfl) (by kernel_rfl) (fun _ _ _ h => h) HS (Or.inl ⟨by rfl, ?_⟩) ?_
            · (intro w hSw; obtain ⟨⟨y1, y2⟩, ⟨y3, y4⟩⟩ := hSw; go_simp; all_goals omega)
            try simp only [Act.put, List.getElem_toArray, List.getElem_cons_succ, List.getElem_cons_zero, List.setIfInBounds_toArray, List.set_cons_zero, List.set_cons_succ]
            refine wpAnyI_takeN (i := 6) (v := ?_) (by kernel_rfl) rfl (by kernel_rfl) (by kernel_rfl) (by kernel_rfl) (fun _ _ _ h => h) HS (Or.inl ⟨by rfl, ?_⟩) ?_
            rotate_left
            · (intro w hSw; obtain ⟨⟨y1, y2⟩, ⟨y3, y4⟩⟩ := hSw; go_simp; try with_reducible rfl)
            try simp only [Act.put, List.getElem_toArray, List.getElem_cons_succ, List.getElem_cons_zero, List.setIfInBounds_toArray, List.set_cons_zero, List.set_cons_succ]
            refine wpAnyI_takeN (i := 7) (v := ?_) (by kernel_rfl) rfl (by kernel_rfl) (by kernel_rfl) (by kernel_rfl) (fun _ _ _ h => h) HS (Or.inl ⟨by rfl, ?_⟩) ?_
            rotate_left
            · (intro w hSw; obtain ⟨⟨y1, y2⟩, ⟨y3, y4⟩⟩ := hSw; go_simp; try with_reducible rfl)
            try simp only [Act.put, List.getElem_toArray, List.getElem_cons_succ, List.getElem_cons_zero, List.setIfInBounds_toArray, List.set_cons_zero, List.set_cons_succ]
            refine wpAnyI_takeN (i := 8) (v := .int .i64 (q : Nat)) (by kernel_rfl) rfl (by kernel_rfl) (by kernel_rfl) (by kernel_rfl) (fun _ _ _ h => h) HS (Or.inl ⟨by rfl, ?_⟩) ?_
            · (intro w hSw; obtain ⟨⟨y1, y2⟩, ⟨y3, y4⟩⟩ := hSw; go_simp; first | rw [hq1.out] | rw [hq0.out])
            try simp only [Act.put, List.getElem_toArray, List.getElem_cons_succ, List.getElem_cons_zero, List.setIfInBounds_toArray, List.set_cons_zero, List.set_cons_succ]
            refine wpAnyI_takeN (i := 9) (v := .pointer (some ⟨ga, oa + q * 2, none⟩)) (by kernel_rfl) rfl (by kernel_rfl) (by kernel_rfl) (by kernel_rfl) (fun _ _ _ h => h) HS (Or.inl ⟨by rfl, ?_⟩) ?_
            · (intro w hSw; obtain ⟨⟨y1, y2⟩, ⟨y3, y4⟩⟩ := hSw; go_simp; all_goals (first | (intro hh; exfalso; omega) | omega))
            try simp only [Act.put, List.getElem_toArray, List.getElem_cons_succ, List.getElem_cons_zero, List.setIfInBounds_toArray, List.set_cons_zero, List.set_cons_succ]
            refine wpAnyI_takeN (i := 10) (v := ?_) (by kernel_rfl) rfl (by kernel_rfl) (by kernel_rfl) (by kernel_rfl) (fun _ _ _ h => h) HS (Or.inl ⟨by rfl, ?_⟩) ?_
            rotate_left
            · (intro w hSw; obtain ⟨⟨y1, y2⟩, ⟨y3, y4⟩⟩ := hSw; go_simp; try with_reducible rfl)
            try simp only [Act.put, List.getElem_toArray, List.getElem_cons_succ, List.getElem_cons_zero, List.setIfInBounds_toArray, List.set_cons_zero, List.set_cons_succ]
            refine wpAnyI_takeN (i := 11) (v := ?_) (by kernel_rfl) rfl (by kernel_rfl) (by kernel_rfl) (by kernel_rfl) (fun _ _ _ h => h) HS (Or.inl ⟨by rfl, ?_⟩) ?_
            rotate_left
            · (intro w hSw; obtain ⟨⟨y1, y2⟩, ⟨y3, y4⟩⟩ := hSw; go_simp; try with_reducible rfl)
            try simp only [Act.put, List.getElem_toArray, List.getElem_cons_succ, List.getElem_cons_zero, List.setIfInBounds_toArray, List.set_cons_zero, List.set_cons_succ]
            refine wpAnyI_one (i := 12) rfl (by kernel_rfl) (fun K hK => ?_)
            dsimp only [List.getElem_toArray, List.getElem_cons_succ, List.getElem_cons_zero]
            go_simp
            refine (touches_any _ z1 z2 x1 x2 hz6 hx6).mono ?_
            rintro e w5 ⟨rfl, k5⟩
            have HS := And.intro (And.intro (k5.cellEq HS.1.1 (by simp)) (k5.cellEq HS.1.2 (by simp))) (And.intro (k5.cellEq HS.2.1 (by simp)) (k5.cellEq HS.2.2 (by simp)))
            replace k4 := Lib.hid (k4.out.trans k5)
            clear k5
            refine hK _ _ (Or.inr HS) ?_
            clear hK K
            try simp only [Act.put, List.getElem_toArray, List.getElem_cons_succ, List.getElem_cons_zero, List.setIfInBounds_toArray, List.set_cons_zero, List.set_cons_succ]
            refine wpAnyI_takeN (i := 13) (v := .bool false) (by kernel_rfl) rfl (by kernel_rfl) (by kernel_rfl) (by kernel_rfl) (fun _ _ _ h => h) HS (Or.inl ⟨by rfl, ?_⟩) ?_
            · (intro w hSw; obtain ⟨⟨y1, y2⟩, ⟨y3, y4⟩⟩ := hSw; go_simp; all_goals simp [hb])
            try simp only [Act.put, List.getElem_toArray, List.getElem_cons_succ, List.getElem_cons_zero, List.setIfInBounds_toArray, List.set_cons_zero, List.set_cons_succ]
            refine wpAnyI_takeN (i := 14) (v := ?_) (by kernel_rfl) rfl (by kernel_rfl) (by kernel_rfl) (by kernel_rfl) (fun _ _ _ h => h) HS (Or.inl ⟨by rfl, ?_⟩) ?_
            rotate_left
            · (intro w hSw; obtain ⟨⟨y1, y2⟩, ⟨y3, y4⟩⟩ := hSw; go_simp; try with_reducible rfl)
            try simp only [Act.put, List.getElem_toArray, List.getElem_cons_succ, List.getElem_cons_zero, List.setIfInBounds_toArray, List.set_cons_zero, List.set_cons_succ]
            refine wpAnyI_done (by kernel_rfl) ?_ _
            go_wp2_with fail
            go_roundw
            case rel => exact ⟨q + 1 + 1, by omega, by go_num, hcan2, Lib.hid (Kd.out.trans k4.out)⟩
            case measure => simp [intOf]; omega
    · obtain rfl : k = n := by omega
      have hc : Canon l := by have := hcan.out; rwa [List.take_of_length_le (by rw [hl.out]; exact Nat.le_refl _)] at this
      replace hc := Lib.hid hc
      go_wp2_with fail
      go_ret
      exact ⟨true, rfl, ⟨fun _ => hc.out, fun _ => rfl⟩, hkw.out⟩
set_option maxHeartbeats 800000 in
theorem rvalid_any (w : World) (B : Nat) (A : Option Addr) (l : List Iv) (n c : Nat) (hl : l.length = n) (hB : B ≤ w.heap.size) (hO : IvAt w B A l) (h64 : All64 l) (hn : n ≤ 1000000) :
    Calls Try.prog 28 #[.slice A n c] w fun e w' => ∃ b, e = .returned (.bool b) ∧ (b = true ↔ Canon l) ∧ Keeps [] w w' := by
  have h1 := Lib.hid (rof_any w B A l n c hl hB hO h64 hn)
  replace hO := Lib.hid hO
  replace hl := Lib.hid hl
  replace h64 := Lib.hid h64
  go_enter Try.func28, Try.ntmps28
  go_wp2_with fail
  refine h1.out.mono ?_
  rintro e w1 ⟨out, hi, A1, c1, rfl, o1, nz1, k1⟩
  have h2 := Lib.hid (same_any w1 B w1.heap.size A A1 l out n c out.length c1 hl.out rfl (hO.out.keep k1 (by simp)) (IvAt.of_own o1 rfl) (by omega))
  replace hi := Lib.hid hi
  replace k1 := Lib.hid k1
  clear o1 nz1 h1
  go_wp2_with fail
  refine h2.out.mono ?_
  rintro e w2 ⟨rfl, k2⟩
  replace k2 := Lib.hid (k1.out.trans k2)
  clear h2 k1
  go_wp2_with fail
  go_ret
  exact ⟨_, rfl, ⟨fun h => by rw [of_decide_eq_true h]; exact hi.out.can, fun h => decide_eq_true (canon_unique h hi.out.can (fun z => (hi.out.same z).symm))⟩, k2.out⟩

theorem enter42 : ∀ args w, (callFunc 42 args).run Try.prog w = .ok (.enter 42 args) w := enters_of Try.func42 (by kernel_rfl) rfl
set_option maxHeartbeats 800000 in
theorem closure42 (W : World) (gb : Nat) (z x1 x2 : Int) (hz : W.cell? ⟨gb, 0, none⟩ = some (.int .i64 z)) :
    Calls Try.prog 42 #[.agg #[.int .i64 x1, .int .i64 x2], .pointer (some ⟨gb, 0, none⟩)] W fun e w' => e = .returned (.bool (decide (x1 ≤ z ∧ z ≤ x2))) ∧ Keeps [] W w' := by
  have ka : Keeps [] W (W.alloc (.cells #[.int .i64 x1, .int .i64 x2] 39)) := (Keeps.refl [] W).alloc _
  have hz' := ka.cellEq hz (by simp)
  replace ka := Lib.hid ka
  by_cases h1 : x1 ≤ z
  · have d1 : decide (x1 ≤ z) = true := decide_eq_true h1
    by_cases h2 : z ≤ x2
    · have d2 : decide (z ≤ x2) = true := decide_eq_true h2
      go_enter Try.func42, Try.ntmps42
      go_wp2_with fail
      go_ret
      exact ⟨by first | rfl | (rw [decide_eq_true (show x1 ≤ z ∧ z ≤ x2 from ⟨h1, h2⟩)]; rfl), ka.out⟩
    · have d2 : decide (z ≤ x2) = false := decide_eq_false h2
      go_enter Try.func42, Try.ntmps42
      go_wp2_with fail
      go_ret
      exact ⟨by first | rfl | (rw [decide_eq_false (show ¬ (x1 ≤ z ∧ z ≤ x2) by omega)]; rfl), ka.out⟩
  · have d1 : decide (x1 ≤ z) = false := decide_eq_false h1
    go_enter Try.func42, Try.ntmps42
    go_wp2_with fail
    go_ret
    exact ⟨by first | rfl | (rw [decide_eq_false (show ¬ (x1 ≤ z ∧ z ≤ x2) by omega)]; rfl), ka.out⟩
theorem contains_blk (w : World) (gb g n c : Nat) (z : Int) (l : List Iv) (hl : l.length = n) (hb : w.cell? ⟨gb, 0, none⟩ = some (.int .i64 z)) (hO : IvAt w w.heap.size (some ⟨g, 0, none⟩) l) (hg : g < w.heap.size) (hn : n ≤ 1000000) :
    Calls Try.prog 41 #[.slice (some ⟨g, 0, none⟩) n c, .func (.func 42) #[] #[.pointer (some ⟨gb, 0, none⟩)]] w fun e w' => e = .returned (.bool (anyIn l z)) ∧ Keeps [] w w' := by
  have hp : PredBelow Try.prog 42 #[.pointer (some ⟨gb, 0, none⟩)] (fun x : Iv => .agg (cv x).toArray) (fun x => decide (x.1 ≤ z ∧ z ≤ x.2)) w := by
    intro W x hW
    have hz : W.cell? ⟨gb, 0, none⟩ = some (.int .i64 z) := (Keeps.of_below (X := []) hW (fun y h1 h2 => absurd h2 (by omega))).cellEq hb (by simp)
    refine (closure42 W gb z x.1 x.2 hz).mono ?_
    rintro e w' ⟨he, k⟩
    exact ⟨he, ((Keeps.of_below (X := []) hW (fun y h1 h2 => absurd h2 (by omega))).trans k).below⟩
  have := Try.slices_ContainsFunc_f41 (α := Iv) 2 Try.isAgg39 Try.sizeOf39 cv cv_len (fun x => decide (x.1 ≤ z ∧ z ≤ x.2)) 42 #[.pointer (some ⟨gb, 0, none⟩)] enter42 g 0 n c l w hp (by omega) (by omega) hg (fun j hj i v hv => by
    obtain ⟨x, hx⟩ : ∃ x, l[j]? = some x := ⟨l[j], List.getElem?_eq_getElem hj⟩
    obtain ⟨g', off, he, _, h1, h2⟩ := hO j x hx
    simp only [Option.some.injEq, Addr.mk.injEq] at he
    obtain ⟨rfl, rfl, _⟩ := he
    rw [getElem!_pos l j hj, show l[j] = x by rw [List.getElem?_eq_getElem hj] at hx; exact Option.some.inj hx] at hv
    match i, hv with
    | 0, hv => simp [cv] at hv; rw [← hv]; exact h1
    | 1, hv => simp [cv] at hv; rw [← hv]; exact h2)
  rw [List.take_of_length_le (by omega)] at this
  refine this.mono ?_
  rintro e w' ⟨he, b⟩
  exact ⟨he, Keeps.of_below (X := []) b (fun z h1 h2 => absurd h2 (by omega))⟩
set_option maxHeartbeats 800000 in
theorem idx53_nil (w : World) (f : Value) : Calls Try.prog 53 #[.slice none 0 0, f] w fun e w' => e = .returned (.int .i64 (-1)) ∧ w = w' := by
  go_enter Try.func53, Try.ntmps53
  go_wp2_with fail
  go_loopw [8] (fun i wr => i = .int .i64 0 ∧ w = wr) (fun _ _ => 0)
  case atStart => exact ⟨rfl, rfl⟩
  case round =>
    obtain ⟨rfl, rfl⟩ := hrel
    go_wp2_with fail
    go_ret
    exact ⟨rfl, rfl⟩
theorem contains_nil (w : World) (f : Value) : Calls Try.prog 41 #[.slice none 0 0, f] w fun e w' => e = .returned (.bool false) ∧ Keeps [] w w' := by
  have H := Lib.hid (idx53_nil w f)
  go_enter Try.func41, Try.ntmps41
  go_wp2_with fail
  refine H.out.mono ?_
  rintro e w1 ⟨rfl, hw⟩
  have kk := Lib.hid (show Keeps [] w w1 from hw ▸ Keeps.refl [] w)
  clear hw
  go_wp2_with fail
  go_ret
  exact ⟨rfl, kk.out⟩
theorem pcontains_any (w : World) (base n c : Nat) (A : Option Addr) (z : Int) (l : List Iv) (hl : l.length = n) (h : w.ownsRow base 39 2 (.slice A n c) n (flat l)) (hn : n ≤ 1000000) :
    Calls Try.prog 22 #[.slice A n c, .int .i64 z] w fun e w' => e = .returned (.bool (anyIn l z)) ∧ Keeps [] w w' := by
  have ka : Keeps [] w (w.alloc (.cells #[.int .i64 z] 2)) := (Keeps.refl [] w).alloc _
  have HC : Calls Try.prog 41 #[.slice A n c, .func (.func 42) #[] #[.pointer (some ⟨w.heap.size, 0, none⟩)]] (w.alloc (.cells #[.int .i64 z] 2)) fun e w' => e = .returned (.bool (anyIn l z)) ∧ Keeps [] (w.alloc (.cells #[.int .i64 z] 2)) w' := by
    rcases h.2 with ⟨hv, h0⟩ | ⟨gd, cap, cur, hv, h1, h2, _⟩
    · injection hv with hA hn0 hc0
      subst hA hn0 hc0
      obtain rfl : l = [] := List.eq_nil_of_length_eq_zero hl
      exact contains_nil _ _
    · injection hv with hA _ hc
      subst hA hc
      exact contains_blk _ _ gd n c z l hl ((Blk.new w 2 #[.int .i64 z]).cell 0) (((IvAt.of_own h hl).keep ka (by simp)).mono ka.size) (Blk.lt (cs := cur) (t := 39) (Blk.keep (X := []) h2 ka (by simp))) hn
  replace HC := Lib.hid HC
  replace ka := Lib.hid ka
  clear h
  go_enter Try.func22, Try.ntmps22
  go_wp2_with fail
  refine HC.out.mono ?_
  rintro e w1 ⟨rfl, k1⟩
  have kk := Lib.hid (ka.out.trans k1)
  clear HC k1
  go_wp2_with fail
  go_ret
  exact ⟨rfl, kk.out⟩
set_option maxHeartbeats 800000 in
theorem hull_nil (w : World) (A : Option Addr) (c : Nat) : Calls Try.prog 26 #[.slice A 0 c] w fun e w' => e = .returned (.tuple #[.agg #[.int .i64 0, .int .i64 0], .bool false]) ∧ Keeps [] w w' := by
  have ka : Keeps [] w (w.alloc (.cells #[.int .i64 0, .int .i64 0] 39)) := (Keeps.refl [] w).alloc _
  have B2 := Blk.new w 39 #[.int .i64 0, .int .i64 0]
  have t0 := B2.cell
  have ft := B2.frozen
  replace B2 := Lib.hid B2
  replace ka := Lib.hid ka
  go_enter Try.func26, Try.ntmps26
  go_wp2_with fail
  have z0 := B2.out.cell
  exact bodyPost_ret (v := .tuple #[.agg #[.int .i64 0, .int .i64 0], .bool false]) (by simp [results, Try.results26, go_sem, z0]) rfl ⟨rfl, ka.out⟩
set_option maxHeartbeats 1600000 in
set_option maxRecDepth 100000 in
theorem hull_any (w : World) (B : Nat) (A : Option Addr) (l : List Iv) (q c : Nat) (x1 x2 z1 z2 : Int) (hl : l.length = q + 1) (hB : B ≤ w.heap.size) (hO : IvAt w B A l) (hx : l[0]? = some (x1, x2)) (hz : l[q]? = some (z1, z2)) (hn : q + 1 ≤ 1000000) :
    Calls Try.prog 26 #[.slice A (q + 1) c] w fun e w' => e = .returned (.tuple #[.agg #[.int .i64 x1, .int .i64 z2], .bool true]) ∧ Keeps [] w w' := by
  obtain ⟨ga, oa, rfl, hgB, c0, _⟩ := hO 0 _ hx
  obtain ⟨ga', oa', hga, _, _, c1⟩ := hO q _ hz
  simp only [Option.some.injEq, Addr.mk.injEq] at hga
  obtain ⟨rfl, rfl, _⟩ := hga
  have ka : Keeps [] w (w.alloc (.cells #[.int .i64 0, .int .i64 0] 39)) := (Keeps.refl [] w).alloc _
  replace c0 := ka.cellEq c0 (by simp)
  replace c1 := ka.cellEq c1 (by simp)
  rw [Nat.zero_mul, Nat.add_zero] at c0
  dsimp only at c0 c1
  have B2 := Lib.hid (Blk.new w 39 #[.int .i64 0, .int .i64 0])
  have hne : ga ≠ w.heap.size := by omega
  have hq1 : Hid (IntKind.i64.wrap ((q : Int) + 1 - 1) = (q : Int)) := Lib.hid (by rw [IntWalk.i64_in _ (by omega)]; omega)
  have hq0 : Hid (IntKind.i64.wrap (q : Int) = (q : Int)) := Lib.hid (IntWalk.i64_in _ (by omega))
  have hqn : (q : Int) < (q : Int) + 1 := by omega
  have hq0n : (0 : Int) ≤ (q : Int) := by omega
  have hqe : ¬ ((q : Int) + 1 = 0) := by omega
  have hqb : (((q : Int) + 1) == 0) = false := by simpa using hqe
  replace ka := Lib.hid ka
  replace hne := Lib.hid hne
  clear hO hx hz hgB
  go_enter Try.func26, Try.ntmps26
  go_wp2_with fail
  generalize hwy : w.alloc (.cells #[.int .i64 0, .int .i64 0] 39) = wy at *
  clear hwy
  generalize hgy : w.heap.size = gx at *
  have h0 : wy.drew.cell? ⟨ga, oa, none⟩ = some (.int .i64 x1) ∧ wy.drew.cell? ⟨ga, oa + q * 2 + 1, none⟩ = some (.int .i64 z2) := And.intro c0 c1
  have Kd := Lib.hid (ka.out.drew)
  have B3 := Lib.hid (B2.out.drew)
  have hgx : Hid (w.heap.size ≤ gx) := Lib.hid (by omega)
  clear ka B2 c0 c1 hgy
  refine wp_region_I (S := (fun w' : World => w'.cell? ⟨ga, oa, none⟩ = some (.int .i64 x1) ∧ w'.cell? ⟨ga, oa + q * 2 + 1, none⟩ = some (.int .i64 z2))) (n := 14) (by kernel_rfl) ?_
  generalize wy.drew = wb at *
  have HS := h0
  clear h0
  refine wpAnyI_takeN (i := 0) (v := ?_) (by kernel_rfl) rfl (by kernel_rfl) (by kernel_rfl) (by kernel_rfl) (fun _ _ _ h => h) HS (Or.inl ⟨by rfl, ?_⟩) ?_
  rotate_left
  · (intro w hSw; obtain ⟨y1, y2⟩ := hSw; go_simp; try with_reducible rfl)
  try simp only [Act.put, List.getElem_toArray, List.getElem_cons_succ, List.getElem_cons_zero, List.setIfInBounds_toArray, List.set_cons_zero, List.set_cons_succ]
  refine wpAnyI_takeN (i := 1) (v := ?_) (by kernel_rfl) rfl (by kernel_rfl) (by kernel_rfl) (by kernel_rfl) (fun _ _ _ h => h) HS (Or.inl ⟨by rfl, ?_⟩) ?_
  rotate_left
  · (intro w hSw; obtain ⟨y1, y2⟩ := hSw; go_simp; try with_reducible rfl)
  try simp only [Act.put, List.getElem_toArray, List.getElem_cons_succ, List.getElem_cons_zero, List.setIfInBounds_toArray, List.set_cons_zero, List.set_cons_succ]
  refine wpAnyI_takeN (i := 2) (v := ?_) (by kernel_rfl) rfl (by kernel_rfl) (by kernel_rfl) (by kernel_rfl) (fun _ _ _ h => h) HS (Or.inl ⟨by rfl, ?_⟩) ?_
  rotate_left
  · (intro w hSw; obtain ⟨y1, y2⟩ := hSw; go_simp; try with_reducible rfl)
  try simp only [Act.put, List.getElem_toArray, List.getElem_cons_succ, List.getElem_cons_zero, List.setIfInBounds_toArray, List.set_cons_zero, List.set_cons_succ]
  refine wpAnyI_takeN (i := 3) (v := ?_) (by kernel_rfl) rfl (by kernel_rfl) (by kernel_rfl) (by kernel_rfl) (fun _ _ _ h => h) HS (Or.inl ⟨by rfl, ?_⟩) ?_
  rotate_left
  · (intro w hSw; obtain ⟨y1, y2⟩ := hSw; go_simp; try with_reducible rfl)
  try simp only [Act.put, List.getElem_toArray, List.getElem_cons_succ, List.getElem_cons_zero, List.setIfInBounds_toArray, List.set_cons_zero, List.set_cons_succ]
  refine wpAnyI_takeN (i := 4) (v := ?_) (by kernel_rfl) rfl (by kernel_rfl) (by kernel_rfl) (by kernel_rfl) (fun _ _ _ h => h) HS (Or.inl ⟨by rfl, ?_⟩) ?_
  rotate_left
  · (intro w hSw; obtain ⟨y1, y2⟩ := hSw; go_simp; try with_reducible rfl)
  try simp only [Act.put, List.getElem_toArray, List.getElem_cons_succ, List.getElem_cons_zero, List.setIfInBounds_toArray, List.set_cons_zero, List.set_cons_succ]
  refine wpAnyI_takeN (i := 5) (v := ?_) (by kernel_rfl) rfl (by kernel_rfl) (by kernel_rfl) (by kernel_rfl) (fun _ _ _ h => h) HS (Or.inl ⟨by rfl, ?_⟩) ?_
  rotate_left
  · (intro w hSw; obtain ⟨y1, y2⟩ := hSw; go_simp; try with_reducible rfl)
  try simp only [Act.put, List.getElem_toArray, List.getElem_cons_succ, List.getElem_cons_zero, List.setIfInBounds_toArray, List.set_cons_zero, List.set_cons_succ]
  refine wpAnyI_takeN (i := 6) (v := ?_) (by kernel_rfl) rfl (by kernel_rfl) (by kernel_rfl) (by kernel_rfl) (fun _ _ _ h => h) HS (Or.inl ⟨by rfl, ?_⟩) ?_
  rotate_left
  · (intro w hSw; obtain ⟨y1, y2⟩ := hSw; go_simp; try with_reducible rfl)
  try simp only [Act.put, List.getElem_toArray, List.getElem_cons_succ, List.getElem_cons_zero, List.setIfInBounds_toArray, List.set_cons_zero, List.set_cons_succ]
  refine wpAnyI_takeN (i := 7) (v := .int .i64 (q : Nat)) (by kernel_rfl) rfl (by kernel_rfl) (by kernel_rfl) (by kernel_rfl) (fun _ _ _ h => h) HS (Or.inl ⟨by rfl, ?_⟩) ?_
  · (intro w hSw; obtain ⟨y1, y2⟩ := hSw; go_simp; first | rw [hq1.out] | rw [hq0.out])
  try simp only [Act.put, List.getElem_toArray, List.getElem_cons_succ, List.getElem_cons_zero, List.setIfInBounds_toArray, List.set_cons_zero, List.set_cons_succ]
  refine wpAnyI_takeN (i := 8) (v := .pointer (some ⟨ga, oa + q * 2, none⟩)) (by kernel_rfl) rfl (by kernel_rfl) (by kernel_rfl) (by kernel_rfl) (fun _ _ _ h => h) HS (Or.inl ⟨by rfl, ?_⟩) ?_
  · (intro w hSw; obtain ⟨y1, y2⟩ := hSw; go_simp; all_goals (first | (intro hh; exfalso; omega) | omega))
  try simp only [Act.put, List.getElem_toArray, List.getElem_cons_succ, List.getElem_cons_zero, List.setIfInBounds_toArray, List.set_cons_zero, List.set_cons_succ]
  refine wpAnyI_takeN (i := 9) (v := ?_) (by kernel_rfl) rfl (by kernel_rfl) (by kernel_rfl) (by kernel_rfl) (fun _ _ _ h => h) HS (Or.inl ⟨by rfl, ?_⟩) ?_
  rotate_left
  · (intro w hSw; obtain ⟨y1, y2⟩ := hSw; go_simp; try with_reducible rfl)
  try simp only [Act.put, List.getElem_toArray, List.getElem_cons_succ, List.getElem_cons_zero, List.setIfInBounds_toArray, List.set_cons_zero, List.set_cons_succ]
  refine wpAnyI_takeN (i := 10) (v := ?_) (by kernel_rfl) rfl (by kernel_rfl) (by kernel_rfl) (by kernel_rfl) (fun _ _ _ h => h) HS (Or.inl ⟨by rfl, ?_⟩) ?_
  rotate_left
  · (intro w hSw; obtain ⟨y1, y2⟩ := hSw; go_simp; try with_reducible rfl)
  try simp only [Act.put, List.getElem_toArray, List.getElem_cons_succ, List.getElem_cons_zero, List.setIfInBounds_toArray, List.set_cons_zero, List.set_cons_succ]
  refine wpAnyI_takeN (i := 11) (v := ?_) (by kernel_rfl) rfl (by kernel_rfl) (by kernel_rfl) (by kernel_rfl) (fun _ _ _ h => h) HS (Or.inl ⟨by rfl, ?_⟩) ?_
  rotate_left
  · (intro w hSw; obtain ⟨y1, y2⟩ := hSw; go_simp; try with_reducible rfl)
  try simp only [Act.put, List.getElem_toArray, List.getElem_cons_succ, List.getElem_cons_zero, List.setIfInBounds_toArray, List.set_cons_zero, List.set_cons_succ]
  refine wpAnyI_one (i := 12) rfl (by kernel_rfl) (fun K hK => ?_)
  dsimp only [List.getElem_toArray, List.getElem_cons_succ, List.getElem_cons_zero]
  rw [if_pos (by rfl)]
  refine wp_store_all 39 (.tmp 2) (.tmp 19) (by rfl) gx (by rfl) 39 [.int .i64 0, .int .i64 0] [.int .i64 x1, .int .i64 z2] (by rfl) B3.out (by kernel_rfl) (by rfl) (by intro v hv; simp at hv; rcases hv with rfl | rfl <;> rfl) ?_
  intro w4 B4 k4
  have HS := And.intro (k4.cellEq HS.1 (by simp; exact hne.out)) (k4.cellEq HS.2 (by simp; exact hne.out))
  refine hK _ _ (Or.inr HS) ?_
  clear hK K
  try simp only [Act.put, List.getElem_toArray, List.getElem_cons_succ, List.getElem_cons_zero, List.setIfInBounds_toArray, List.set_cons_zero, List.set_cons_succ]
  refine wpAnyI_takeN (i := 13) (v := ?_) (by kernel_rfl) rfl (by kernel_rfl) (by kernel_rfl) (by kernel_rfl) (fun _ _ _ h => h) HS (Or.inl ⟨by rfl, ?_⟩) ?_
  rotate_left
  · (intro w hSw; obtain ⟨y1, y2⟩ := hSw; go_simp; try with_reducible rfl)
  try simp only [Act.put, List.getElem_toArray, List.getElem_cons_succ, List.getElem_cons_zero, List.setIfInBounds_toArray, List.set_cons_zero, List.set_cons_succ]
  refine wpAnyI_done (by kernel_rfl) ?_ _
  have z0 := B4.out.cell
  go_wp2_with fail
  exact bodyPost_ret (v := .tuple #[.agg #[.int .i64 x1, .int .i64 z2], .bool true]) (by simp [results, Try.results26, go_sem, z0]) rfl ⟨rfl, (Kd.out.nil.trans k4).mono (fun y hy => .inr (by simp at hy; have := hgx.out; omega))⟩
end Go.Proofs.Ythmnolpamllabaa
