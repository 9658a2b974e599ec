/- The contract of Of. -/
import Derived.Test.YthmnolpamllabaaIv5
import Derived.Test.YthmnolpamllabaaReg3
namespace Go.Proofs.Ythmnolpamllabaa
open Go.RowKit
set_option linter.unusedSimpArgs false
set_option linter.unusedVariables false

set_option maxHeartbeats 800000 in
theorem idx_nil (w : World) : Calls Try.prog 49 #[.slice none 0 0, .func (.func 35) #[] #[]] w fun e w' => e = .returned (.int .i64 (-1)) ∧ w = w' := by
  go_enter Try.func49, Try.ntmps49
  go_wp2_with fail
  go_loopw [8] (fun i wr => i = .int .i64 0 ∧ w = wr) (fun _ _ => 0)
  case atStart => exact ⟨rfl, rfl⟩
  case round =>
    obtain ⟨rfl, rfl⟩ := hrel
    go_wp2_with fail
    go_ret
    exact ⟨rfl, rfl⟩
set_option maxHeartbeats 800000 in
theorem del_nil (w : World) : Calls Try.prog 43 #[.slice none 0 0, .func (.func 35) #[] #[]] w fun e w' => e = .returned (.slice none 0 0) ∧ w = w' := by
  have H := Lib.hid (idx_nil w)
  go_enter Try.func43, Try.ntmps43
  go_wp2_with fail
  refine H.out.mono ?_
  rintro e w1 ⟨rfl, rfl⟩
  go_wp2_with fail
  go_ret
  exact ⟨rfl, rfl⟩

theorem flat_set_last (a : List Iv) (z1 z2 M : Int) : (flat (a ++ [(z1, z2)])).set (a.length * 2 + 1) (.int .i64 M) = flat (a ++ [(z1, M)]) := by
  rw [flat_append, flat_append, List.set_append_right _ _ (by rw [flat_len]; omega), flat_len]
  rw [show a.length * 2 + 1 - a.length * 2 = 1 by omega]
  rfl

/-- The greatest integer of the last one is set. -/
theorem own_set_last {w : World} {base go q co : Nat} {a : List Iv} {z1 z2 M : Int} (h : w.ownsRow base 39 2 (.slice (some ⟨go, 0, none⟩) (q + 1) co) (q + 1) (flat (a ++ [(z1, z2)]))) (hq : a.length = q) :
    (w.setCell ⟨go, q * 2 + 1, none⟩ (.int .i64 M)).ownsRow base 39 2 (.slice (some ⟨go, 0, none⟩) (q + 1) co) (q + 1) (flat (a ++ [(z1, M)])) := by
  refine ⟨by rw [flat_len, List.length_append, hq]; rfl, .inr ?_⟩
  rcases h.2 with ⟨h1, _⟩ | ⟨g', cap, cur, hv, h1, h2, h3, h4, h5, h6⟩
  · simp at h1
  · have hv2 := hv
    simp only [Value.slice.injEq, Option.some.injEq, Addr.mk.injEq] at hv2
    obtain ⟨⟨rfl, _, _⟩, _, rfl⟩ := hv2
    refine ⟨go, co, cur.setIfInBounds (q * 2 + 1) (.int .i64 M), rfl, h1, Blk.set_ (cs := cur) (t := 39) h2 _ _, h3, h4, by simpa using h5, ?_⟩
    rw [Array.toList_setIfInBounds, List.take_set, h6, ← hq]
    exact flat_set_last a z1 z2 M

theorem own_le2 {w : World} {base base' : Nat} {e : TypeId} {size n : Nat} {v : Value} {xs : List Value} (h : w.ownsRow base' e size v n xs) (hb : base ≤ base') : w.ownsRow base e size v n xs := by
  refine ⟨h.1, ?_⟩
  rcases h.2 with h | ⟨g, cap, cur, hv, h1, hr⟩
  · exact .inl h
  · exact .inr ⟨g, cap, cur, hv, Nat.le_trans hb h1, hr⟩
/-- What the loop keeps of the least integers to come. -/
def Low (ou rest : List Iv) : Prop := ∀ a z, ou = a ++ [z] → ∀ x ∈ rest, z.1 ≤ x.1
theorem low_snoc {ou rest : List Iv} {x : Iv} (h : ∀ y ∈ rest, x.1 ≤ y.1) : Low (ou ++ [x]) rest := fun a z he y hy => by
  have := congrArg List.getLast? he
  simp at this
  rw [← this]
  exact h y hy
theorem asc_low {S : List Iv} {k : Nat} {x : Iv} (h : Asc S) (hx : S[k]? = some x) : ∀ y ∈ S.drop (k + 1), x.1 ≤ y.1 := by
  intro y hy
  obtain ⟨j, hj⟩ := List.getElem?_of_mem hy
  rw [List.getElem?_drop] at hj
  obtain ⟨hk, hx'⟩ := List.getElem?_eq_some_iff.1 hx
  obtain ⟨hj', hy'⟩ := List.getElem?_eq_some_iff.1 hj
  have := List.pairwise_iff_getElem.1 h k (k + 1 + j) hk hj' (by omega)
  rw [hx', hy'] at this
  exact this

set_option maxHeartbeats 1600000 in
set_option maxRecDepth 100000 in
theorem of2_any (w : World) (B : Nat) (A : Option Addr) (l : List Iv) (n c : Nat) (hl : l.length = n) (hB : B ≤ w.heap.size) (hO : IvAt w B A l) (hA : A = none ∨ ∃ g off, A = some ⟨g, off, none⟩) (h64 : All64 l) (hn : n ≤ 1000000) :
    Calls Try.prog 23 #[.slice A n c] w (OfPost 39 l w) := by
  rcases hA with rfl | ⟨ga, oa, rfl⟩
  · obtain rfl : l = [] := by
      cases l with
      | nil => rfl
      | cons x r => obtain ⟨g, off, h, _⟩ := hO 0 x rfl; cases h
    obtain rfl : n = 0 := hl.symm
    have h1 := Lib.hid (Try.slices_Clone_nil 0 c w)
    have h2 := Lib.hid (del_nil w)
    have h3 := Lib.hid (Try.slices_SortFunc_none (α := Iv) none 0 (.func (.func 45) #[] #[]) w)
    clear hO h64
    go_enter Try.func23, Try.ntmps23
    go_wp2_with fail
    refine h1.out.mono ?_
    rintro e w1 ⟨rfl, hw1⟩
    rw [hw1]
    clear hw1
    go_wp2_with fail
    refine h2.out.mono ?_
    rintro e w2 ⟨rfl, hw2⟩
    rw [← hw2]
    clear hw2
    go_wp2_with fail
    refine h3.out.mono ?_
    rintro e w3 ⟨rfl, hw3⟩
    rw [hw3]
    clear h1 h2 h3 hw3
    go_wp2_with fail
    go_loopw [3, 14] (fun out i wr => out = .slice none 0 0 ∧ i = .int .i64 0 ∧ w = wr) (fun _ _ _ => 0)
    case atStart => exact ⟨rfl, rfl, rfl⟩
    case round =>
      obtain ⟨rfl, rfl, hww⟩ := hrel
      have hfin := Lib.hid (RowPost.mk' (e := 39) (l := []) (w := w) (w' := wr) rfl ⟨rfl, .inl ⟨rfl, rfl⟩⟩ (by simp) (hww ▸ Keeps.refl [] w))
      clear hww
      go_wp2_with fail
      go_ret
      exact ⟨[], ⟨trivial, fun _ => Iff.rfl, Nat.le_refl _⟩, hfin.out⟩
  obtain ⟨i0, hi, hz0, hz1, hz2⟩ := info_parts info39
  have hcl : ∀ j u, (flat l)[j]? = some u → w.cell? ⟨ga, oa + j, none⟩ = some u := by
    intro j u hj
    have hjl : j < l.length * 2 := by rw [← flat_len]; exact (List.getElem?_eq_some_iff.1 hj).1
    obtain ⟨i, hji⟩ : ∃ i, j = i * 2 ∨ j = i * 2 + 1 := ⟨j / 2, by omega⟩
    obtain ⟨x, hx⟩ : ∃ x, l[i]? = some x := ⟨l[i]'(by omega), List.getElem?_eq_getElem _⟩
    obtain ⟨g, off, he, _, c0, c1⟩ := hO i x hx
    simp only [Option.some.injEq, Addr.mk.injEq] at he
    obtain ⟨rfl, rfl, _⟩ := he
    obtain ⟨f0, f1⟩ := flat_get l i x hx
    rcases hji with rfl | rfl
    · rw [f0] at hj
      cases hj
      exact c0
    · rw [f1] at hj
      cases hj
      rw [← Nat.add_assoc]
      exact c1
  have H1 := Lib.hid (Try.slices_Clone i0 (.agg #[.int .i64 0, .int .i64 0]) 2 16 hi hz0 hz1 hz2 rfl (by decide) Try.sizeOf39 ga oa n c (flat l) w (by rw [flat_len, hl]) (by unfold maxLen; omega) (by omega) hcl (flat_one l))
  have hF64 : All64 (l.filter full) := fun x hx => h64 x (List.mem_filter.1 hx).1
  have hFin : ∀ z, inn (l.filter full) z ↔ inn l z := fun z => ⟨fun ⟨x, hx, h⟩ => ⟨x, (List.mem_filter.1 hx).1, h⟩, fun ⟨x, hx, h1, h2⟩ => ⟨x, List.mem_filter.2 ⟨hx, by unfold full; simp; omega⟩, h1, h2⟩⟩
  have hFful : ∀ x ∈ l.filter full, x.1 ≤ x.2 := fun x hx => by have := (List.mem_filter.1 hx).2; unfold full at this; simpa using this
  have hFn : (l.filter full).length ≤ n := by rw [← hl]; exact List.length_filter_le _ _
  have hll := hl
  obtain ⟨F, hF⟩ : ∃ F, l.filter full = F := ⟨_, rfl⟩
  replace hl := Lib.hid hl
  replace h64 := Lib.hid h64
  replace hi := Lib.hid hi
  replace hz0 := Lib.hid hz0
  replace hz1 := Lib.hid hz1
  replace hz2 := Lib.hid hz2
  have HD := Lib.hid (fun (w1 : World) (g c : Nat) h => del_any w1 w.heap.size g n c l hll h (by omega))
  unfold DelPost at HD
  rw [hF] at HD hF64 hFin hFful hFn
  replace hF64 := Lib.hid hF64
  replace hFin := Lib.hid hFin
  replace hFful := Lib.hid hFful
  replace hF := Lib.hid hF
  obtain ⟨m, hm⟩ : ∃ m, F.length = m := ⟨_, rfl⟩
  rw [hm] at HD hFn
  replace hm := Lib.hid hm
  clear hO hcl hll
  go_enter Try.func23, Try.ntmps23
  go_wp2_with fail
  refine H1.out.mono ?_
  rintro e w1 ⟨v1, rfl, o1, hv1, b1⟩
  obtain ⟨g, c1, rfl, hgb⟩ : ∃ g c1, v1 = .slice (some ⟨g, 0, none⟩) n c1 ∧ w.heap.size ≤ g := by
    rcases o1.2 with ⟨h, _⟩ | ⟨g', cap, cur, hv, h1, _⟩
    · exact absurd h hv1
    · exact ⟨g', cap, hv, h1⟩
  have HD1 := Lib.hid (HD.out w1 g c1 o1)
  have k1 := Lib.hid (Keeps.of_below (X := []) b1 (fun z h1 h2 => absurd h2 (by omega)))
  replace hgb := Lib.hid hgb
  clear H1 o1 b1 hv1 HD
  go_wp2_with fail
  refine HD1.out.mono ?_
  rintro e w2 ⟨rfl, o2, k2⟩
  have HS := Lib.hid (sort_any w2 w.heap.size g m c1 F hm.out o2 (by omega))
  have k12 := Lib.hid (k1.out.nil.trans k2)
  have hg2 : Hid (g < w2.heap.size) := Lib.hid (by obtain ⟨_, cur, h⟩ := own_blk o2 (g := g) rfl; exact h.lt)
  clear HD1 o2 k2 k1
  go_wp2_with fail
  refine HS.out.mono ?_
  rintro e w3 ⟨rfl, S, hperm, hasc, hS3, k3⟩
  have hg3 : Hid (g < w3.heap.size) := Lib.hid (Nat.lt_of_lt_of_le hg2.out k3.size)
  have K3 : Hid (Keeps [] w w3) := Lib.hid ((k12.out.trans k3).mono (fun x hx => .inr (by simp at hx; rw [hx]; exact hgb.out)))
  have hSm : Hid (S.length = m) := Lib.hid (by rw [hperm.length_eq]; exact hm.out)
  have hS64 : Hid (All64 S) := Lib.hid (fun x hx => hF64.out x (hperm.mem_iff.1 hx))
  have hSf : Hid (∀ x ∈ S, x.1 ≤ x.2) := Lib.hid (fun x hx => hFful.out x (hperm.mem_iff.1 hx))
  have hSin : Hid (∀ z, inn S z ↔ inn l z) := Lib.hid (fun z => by
    rw [← hFin.out z]
    exact ⟨fun ⟨x, hx, h⟩ => ⟨x, hperm.mem_iff.1 hx, h⟩, fun ⟨x, hx, h⟩ => ⟨x, hperm.mem_iff.2 hx, h⟩⟩)
  replace hasc := Lib.hid hasc
  replace hS3 := Lib.hid hS3
  clear HS hperm k3 k12 hF64 hFin hFful
  go_wp2_with fail
  go_loopw [3, 14] (fun out i wr => ∃ (k : Nat) (ou : List Iv) (p : Nat), k ≤ m ∧ i = .int .i64 k ∧ ou.length = p ∧ p ≤ k ∧ Hid (Merged (S.take k) ou) ∧ Hid (Low ou (S.drop k)) ∧ Hid (Keeps [] w3 wr) ∧ Hid (wr.ownsRow w3.heap.size 39 2 out p (flat ou)) ∧ Hid (out = .slice none 0 0 ↔ p = 0)) (fun _ i _ => m - (intOf i).toNat)
  case atStart => exact ⟨0, [], 0, Nat.zero_le _, rfl, rfl, Nat.le_refl _, Lib.hid merged_nil, Lib.hid (fun a z h => by simp at h), Lib.hid (Keeps.refl _ _), Lib.hid ⟨rfl, .inl ⟨rfl, rfl⟩⟩, Lib.hid (by simp)⟩
  case round =>
    obtain ⟨k, ou, p, hk, rfl, hp, hpk, hM, hL, hkw, hown, hnil⟩ := hrel
    obtain ⟨Ao, co, hout, _, _⟩ := own_slice hown.out
    subst hout
    by_cases hlt : k < m
    · obtain ⟨⟨x1, x2⟩, hx⟩ : ∃ x, S[k]? = some x := ⟨S[k]'(by rw [hSm.out]; exact hlt), List.getElem?_eq_getElem _⟩
      obtain ⟨g', off', he, _, c0, c1'⟩ := (hS3.out.keep hkw.out (by simp)) k _ hx
      simp only [Option.some.injEq, Addr.mk.injEq] at he
      obtain ⟨rfl, rfl, _⟩ := he
      rw [Nat.zero_add] at c0 c1'
      dsimp only at c0 c1'
      have hx6 : In64 x1 := (hS64.out _ (List.mem_of_getElem? hx)).1
      have hx12 : x1 ≤ x2 := hSf.out _ (List.mem_of_getElem? hx)
      have hkm : (k : Int) < (m : Int) := by omega
      have ka : Keeps [] wr (wr.alloc (.cells #[.int .i64 x1, .int .i64 x2] 39)) := (Keeps.refl [] wr).alloc _
      have hxb := Lib.hid (Blk.new wr 39 #[.int .i64 x1, .int .i64 x2])
      have hka := Lib.hid (hkw.out.alloc (.cells #[.int .i64 x1, .int .i64 x2] 39))
      have howna := Lib.hid (own_keep0 hown.out ka)
      have hnext := Lib.hid (asc_low hasc.out hx)
      have htk : Hid (S.take (k + 1) = S.take k ++ [(x1, x2)]) := Lib.hid (by rw [List.take_add_one, hx]; rfl)
      replace hx := Lib.hid hx
      replace hx12 := Lib.hid hx12
      replace hx6 := Lib.hid hx6
      have hlow : Hid (∀ a z, ou = a ++ [z] → z.1 ≤ x1) := Lib.hid (fun a z h => hL.out a z h (x1, x2) (List.mem_of_getElem? (i := 0) (by rw [List.getElem?_drop]; exact hx.out)))
      rcases top_cases ou with hou | ⟨a, ⟨z1, z2⟩, hou⟩
      · have hp0 : p = 0 := by rw [← hp, hou]; rfl
        subst hp0
        have hk0 : Hid (S.take k = []) := Lib.hid (by
          have := hM.out.same
          rw [hou] at this
          cases hS : S.take k with
          | nil => rfl
          | cons y r =>
            have hy : y ∈ S := List.mem_of_mem_take (i := k) (by rw [hS]; exact List.mem_cons_self)
            exact absurd ((this y.1).2 (by rw [hS]; exact inn_cons.2 (.inl ⟨Int.le_refl _, hSf.out y hy⟩))) (inn_nil _))
        have hM2 : Hid (Merged (S.take (k + 1)) (ou ++ [(x1, x2)])) := Lib.hid (by rw [htk.out, hk0.out, hou]; exact merged_first hx12.out)
        clear hx12 hk0
        go_wp2_with fail
        generalize wr.alloc (.cells #[.int .i64 x1, .int .i64 x2] 39) = wy at *
        generalize wr.heap.size = gx at *
        have h0 := And.intro (hxb.out.drew.cell 0) (hxb.out.drew.cell 1)
        simp only [List.getElem?_toArray, List.getElem?_cons_succ, List.getElem?_cons_zero] at h0
        have Kd := Lib.hid (hka.out.drew)
        have Od : Hid (wy.drew.ownsRow w3.heap.size 39 2 (.slice Ao 0 co) 0 (flat ou)) := Lib.hid howna.out
        clear hka howna hxb c0 c1'
        refine wp_region_I (S := (fun w' : World => w'.cell? ⟨gx, 0, none⟩ = some (.int .i64 x1) ∧ w'.cell? ⟨gx, 1, none⟩ = some (.int .i64 x2))) (n := 11) (by kernel_rfl) ?_
        generalize wy.drew = wb at *
        have HS := h0
        clear h0
        refine wpAnyI_takeN (i := 0) (v := ?_) (by kernel_rfl) rfl (by kernel_rfl) (by kernel_rfl) (by kernel_rfl) (fun _ _ _ h => h) HS (Or.inl ⟨by rfl, ?_⟩) ?_
        rotate_left
        · (intro w hSw; obtain ⟨y1, y2⟩ := hSw; go_simp; try with_reducible rfl)
        try simp only [Act.put, List.getElem_toArray, List.getElem_cons_succ, List.getElem_cons_zero, List.setIfInBounds_toArray, List.set_cons_zero, List.set_cons_succ]
        refine wpAnyI_takeN (i := 1) (v := .bool false) (by kernel_rfl) rfl (by kernel_rfl) (by kernel_rfl) (by kernel_rfl) (fun _ _ _ h => h) HS (Or.inl ⟨by rfl, ?_⟩) ?_
        · (intro w hSw; obtain ⟨y1, y2⟩ := hSw; go_simp)
        try simp only [Act.put, List.getElem_toArray, List.getElem_cons_succ, List.getElem_cons_zero, List.setIfInBounds_toArray, List.set_cons_zero, List.set_cons_succ]
        refine wpAnyI_takeN (i := 2) (v := ?_) (by kernel_rfl) rfl (by kernel_rfl) (by kernel_rfl) (by kernel_rfl) (fun _ _ _ h => h) HS (Or.inl ⟨by rfl, ?_⟩) ?_
        rotate_left
        · (intro w hSw; obtain ⟨y1, y2⟩ := hSw; go_simp; try with_reducible rfl)
        try simp only [Act.put, List.getElem_toArray, List.getElem_cons_succ, List.getElem_cons_zero, List.setIfInBounds_toArray, List.set_cons_zero, List.set_cons_succ]
        refine wpAnyI_takeN (i := 3) (v := undef) (by kernel_rfl) rfl (by kernel_rfl) (by kernel_rfl) (by kernel_rfl) (fun _ _ _ h => h) HS (Or.inr ⟨by rfl, rfl⟩) ?_
        try simp only [Act.put, List.getElem_toArray, List.getElem_cons_succ, List.getElem_cons_zero, List.setIfInBounds_toArray, List.set_cons_zero, List.set_cons_succ]
        refine wpAnyI_takeN (i := 4) (v := undef) (by kernel_rfl) rfl (by kernel_rfl) (by kernel_rfl) (by kernel_rfl) (fun _ _ _ h => h) HS (Or.inr ⟨by rfl, rfl⟩) ?_
        try simp only [Act.put, List.getElem_toArray, List.getElem_cons_succ, List.getElem_cons_zero, List.setIfInBounds_toArray, List.set_cons_zero, List.set_cons_succ]
        refine wpAnyI_takeN (i := 5) (v := undef) (by kernel_rfl) rfl (by kernel_rfl) (by kernel_rfl) (by kernel_rfl) (fun _ _ _ h => h) HS (Or.inr ⟨by rfl, rfl⟩) ?_
        try simp only [Act.put, List.getElem_toArray, List.getElem_cons_succ, List.getElem_cons_zero, List.setIfInBounds_toArray, List.set_cons_zero, List.set_cons_succ]
        refine wpAnyI_takeN (i := 6) (v := undef) (by kernel_rfl) rfl (by kernel_rfl) (by kernel_rfl) (by kernel_rfl) (fun _ _ _ h => h) HS (Or.inr ⟨by rfl, rfl⟩) ?_
        try simp only [Act.put, List.getElem_toArray, List.getElem_cons_succ, List.getElem_cons_zero, List.setIfInBounds_toArray, List.set_cons_zero, List.set_cons_succ]
        refine wpAnyI_takeN (i := 7) (v := undef) (by kernel_rfl) rfl (by kernel_rfl) (by kernel_rfl) (by kernel_rfl) (fun _ _ _ h => h) HS (Or.inr ⟨by rfl, rfl⟩) ?_
        try simp only [Act.put, List.getElem_toArray, List.getElem_cons_succ, List.getElem_cons_zero, List.setIfInBounds_toArray, List.set_cons_zero, List.set_cons_succ]
        refine wpAnyI_takeN (i := 8) (v := undef) (by kernel_rfl) rfl (by kernel_rfl) (by kernel_rfl) (by kernel_rfl) (fun _ _ _ h => h) HS (Or.inr ⟨by rfl, rfl⟩) ?_
        try simp only [Act.put, List.getElem_toArray, List.getElem_cons_succ, List.getElem_cons_zero, List.setIfInBounds_toArray, List.set_cons_zero, List.set_cons_succ]
        refine wpAnyI_takeN (i := 9) (v := undef) (by kernel_rfl) rfl (by kernel_rfl) (by kernel_rfl) (by kernel_rfl) (fun _ _ _ h => h) HS (Or.inr ⟨by rfl, rfl⟩) ?_
        try simp only [Act.put, List.getElem_toArray, List.getElem_cons_succ, List.getElem_cons_zero, List.setIfInBounds_toArray, List.set_cons_zero, List.set_cons_succ]
        refine wpAnyI_takeN (i := 10) (v := ?_) (by kernel_rfl) rfl (by kernel_rfl) (by kernel_rfl) (by kernel_rfl) (fun _ _ _ h => h) HS (Or.inl ⟨by rfl, ?_⟩) ?_
        rotate_left
        · (intro w hSw; obtain ⟨y1, y2⟩ := hSw; go_simp; try with_reducible rfl)
        try simp only [Act.put, List.getElem_toArray, List.getElem_cons_succ, List.getElem_cons_zero, List.setIfInBounds_toArray, List.set_cons_zero, List.set_cons_succ]
        refine wpAnyI_done (by kernel_rfl) ?_ _
        obtain ⟨y1, y2⟩ := HS
        have hbs := Kd.out.size
        go_wp2_with (at_builtin; refine wpList_append_own _ rfl (.tmp 45) (.tmp 47) 55 rfl w3.heap.size 39 i0 (.agg #[.int .i64 0, .int .i64 0]) 2 16 Try.underlying55 hi.out hz0.out hz1.out hz2.out rfl (by decide) (.slice Ao 0 co) 0 (flat ou) rfl (own_keep0 Od.out ((Keeps.refl [] wb).alloc (.cells #[.int .i64 x1, .int .i64 x2] 39))) ⟨wb.heap.size, 0, none⟩ 1 1 [.int .i64 x1, .int .i64 x2] rfl rfl (World.news_of_block (cs := #[.int .i64 x1, .int .i64 x2]) (t := 39) (fr := (0, 0)) (heap_alloc_new wb _)) (by simp [Value.oneCell']) (by unfold maxLen; omega) (by omega) (by simp; omega) ?_; intro v' wq ho1 hg1 hn1; replace ho1 := Lib.hid ho1; replace hg1 := Lib.hid hg1; replace hn1 := Lib.hid hn1)
        go_roundw
        case rel => exact ⟨k + 1, ou ++ [(x1, x2)], 0 + 1, by omega, by go_num, by rw [List.length_append, hp]; rfl, by omega, hM2, Lib.hid (low_snoc hnext.out), Lib.hid (keeps_append Kd.out ((Keeps.refl [] wb).alloc _) Od.out hg1.out), Lib.hid (by rw [flat_append]; exact ho1.out), Lib.hid (by have := hn1.out; simp at this ⊢; exact this)⟩
        case measure => simp [intOf]; omega
      · have hz12 : z1 ≤ z2 := canon_mem (x := (z1, z2)) hM.out.can (by rw [hou]; simp)
        have hz6 : In64 z2 := in64_inn (l := S) hS64.out (by
          obtain ⟨y, hy, h⟩ := (hM.out.same z2).1 ⟨(z1, z2), by rw [hou]; simp, hz12, Int.le_refl _⟩
          exact ⟨y, List.mem_of_mem_take hy, h⟩)
        obtain ⟨q, hq⟩ : ∃ q, a.length = q := ⟨_, rfl⟩
        have hp1 : p = q + 1 := by rw [← hp, hou, List.length_append, hq]; rfl
        subst hp1
        obtain ⟨go, co', hv, _, _, hgo3, hgl, hcells, curo, hBo⟩ := own_row howna.out (by omega)
        injection hv with hAo _ hco
        subst hAo hco
        obtain ⟨f0, f1⟩ := flat_get ou q (z1, z2) (by rw [hou, ← hq]; simp)
        have cz0 := hcells _ _ f0
        have cz1 := hcells _ _ f1
        have hq1 : Hid (IntKind.i64.wrap ((q : Int) + 1 - 1) = (q : Int)) := Lib.hid (by rw [IntWalk.i64_in _ (by omega)]; omega)
        have hq0 : Hid (IntKind.i64.wrap (q : Int) = (q : Int)) := Lib.hid (IntWalk.i64_in _ (by omega))
        have hzx : z1 ≤ x1 := hlow.out a (z1, z2) hou
        have hou2 := hou
        replace hou := Lib.hid hou2
        have hMa := hM.out
        rw [hou2] at hMa
        have hq' := Lib.hid hq
        have hgo3' := Lib.hid hgo3
        have hx6' := hx6.out
        have hz6' := Lib.hid hz6
        have fz : Hid (∀ (X : List Nat) (wz : World), Keeps X (wr.alloc (.cells #[.int .i64 x1, .int .i64 x2] 39)) wz → go ∉ X → ∀ j, wz.frozen? ⟨go, j, none⟩ = false) := Lib.hid (fun X wz kz hX j => (hBo.keep kz hX).frozen j)
        clear hcells hBo f0 f1 hz12 hgl
        by_cases ht : x1 ≤ z2 + 1
        · have hM2 : Hid (Merged (S.take (k + 1)) (a ++ [(z1, max z2 x2)])) := Lib.hid (by rw [htk.out]; exact merged_touch hMa hzx hx12.out ht)
          have hL2 : Hid (Low (a ++ [(z1, max z2 x2)]) (S.drop (k + 1))) := Lib.hid (fun a' z h y hy => by
            have := congrArg List.getLast? h
            simp at this
            have h9 := hnext.out y hy
            rw [← this]
            show z1 ≤ y.1
            dsimp only at h9
            omega)
          have hb := decide_eq_true ht
          clear hMa hx12
          go_wp2_with fail
          generalize wr.alloc (.cells #[.int .i64 x1, .int .i64 x2] 39) = wy at *
          generalize wr.heap.size = gx at *
          have h0 := And.intro (And.intro (hxb.out.drew.cell 0) (hxb.out.drew.cell 1)) (And.intro cz0 cz1 : wy.drew.cell? ⟨go, q * 2, none⟩ = some (.int .i64 z1) ∧ wy.drew.cell? ⟨go, q * 2 + 1, none⟩ = some (.int .i64 z2))
          simp only [List.getElem?_toArray, List.getElem?_cons_succ, List.getElem?_cons_zero] at h0
          have Kd := Lib.hid (hka.out.drew)
          have Od : Hid (wy.drew.ownsRow w3.heap.size 39 2 (.slice (some ⟨go, 0, none⟩) (q + 1) co) (q + 1) (flat ou)) := Lib.hid howna.out
          have fzd : Hid (Keeps [] wy wy.drew) := Lib.hid (Keeps.refl [] wy).drew
          clear hka howna hxb c0 c1' cz0 cz1
          refine wp_region_I (S := (fun w' : World => (w'.cell? ⟨gx, 0, none⟩ = some (.int .i64 x1) ∧ w'.cell? ⟨gx, 1, none⟩ = some (.int .i64 x2)) ∧ (w'.cell? ⟨go, q * 2, none⟩ = some (.int .i64 z1) ∧ w'.cell? ⟨go, q * 2 + 1, none⟩ = some (.int .i64 z2)))) (n := 11) (by kernel_rfl) ?_
          generalize wy.drew = wb at *
          have HS := h0
          clear h0
          refine wpAnyI_takeN (i := 0) (v := ?_) (by kernel_rfl) rfl (by kernel_rfl) (by kernel_rfl) (by kernel_rfl) (fun _ _ _ h => h) HS (Or.inl ⟨by rfl, ?_⟩) ?_
          rotate_left
          · (intro w hSw; obtain ⟨⟨y1, y2⟩, ⟨y3, y4⟩⟩ := hSw; go_simp; try with_reducible rfl)
          try simp only [Act.put, List.getElem_toArray, List.getElem_cons_succ, List.getElem_cons_zero, List.setIfInBounds_toArray, List.set_cons_zero, List.set_cons_succ]
          refine wpAnyI_takeN (i := 1) (v := .bool true) (by kernel_rfl) rfl (by kernel_rfl) (by kernel_rfl) (by kernel_rfl) (fun _ _ _ h => h) HS (Or.inl ⟨by rfl, ?_⟩) ?_
          · (intro w hSw; obtain ⟨⟨y1, y2⟩, ⟨y3, y4⟩⟩ := hSw; go_simp; all_goals omega)
          try simp only [Act.put, List.getElem_toArray, List.getElem_cons_succ, List.getElem_cons_zero, List.setIfInBounds_toArray, List.set_cons_zero, List.set_cons_succ]
          refine wpAnyI_takeN (i := 2) (v := ?_) (by kernel_rfl) rfl (by kernel_rfl) (by kernel_rfl) (by kernel_rfl) (fun _ _ _ h => h) HS (Or.inl ⟨by rfl, ?_⟩) ?_
          rotate_left
          · (intro w hSw; obtain ⟨⟨y1, y2⟩, ⟨y3, y4⟩⟩ := hSw; go_simp; try with_reducible rfl)
          try simp only [Act.put, List.getElem_toArray, List.getElem_cons_succ, List.getElem_cons_zero, List.setIfInBounds_toArray, List.set_cons_zero, List.set_cons_succ]
          refine wpAnyI_takeN (i := 3) (v := ?_) (by kernel_rfl) rfl (by kernel_rfl) (by kernel_rfl) (by kernel_rfl) (fun _ _ _ h => h) HS (Or.inl ⟨by rfl, ?_⟩) ?_
          rotate_left
          · (intro w hSw; obtain ⟨⟨y1, y2⟩, ⟨y3, y4⟩⟩ := hSw; go_simp; try with_reducible rfl)
          try simp only [Act.put, List.getElem_toArray, List.getElem_cons_succ, List.getElem_cons_zero, List.setIfInBounds_toArray, List.set_cons_zero, List.set_cons_succ]
          refine wpAnyI_takeN (i := 4) (v := ?_) (by kernel_rfl) rfl (by kernel_rfl) (by kernel_rfl) (by kernel_rfl) (fun _ _ _ h => h) HS (Or.inl ⟨by rfl, ?_⟩) ?_
          rotate_left
          · (intro w hSw; obtain ⟨⟨y1, y2⟩, ⟨y3, y4⟩⟩ := hSw; go_simp; try with_reducible rfl)
          try simp only [Act.put, List.getElem_toArray, List.getElem_cons_succ, List.getElem_cons_zero, List.setIfInBounds_toArray, List.set_cons_zero, List.set_cons_succ]
          refine wpAnyI_takeN (i := 5) (v := .int .i64 (q : Nat)) (by kernel_rfl) rfl (by kernel_rfl) (by kernel_rfl) (by kernel_rfl) (fun _ _ _ h => h) HS (Or.inl ⟨by rfl, ?_⟩) ?_
          · (intro w hSw; obtain ⟨⟨y1, y2⟩, ⟨y3, y4⟩⟩ := hSw; go_simp; first | rw [hq1.out] | rw [hq0.out])
          try simp only [Act.put, List.getElem_toArray, List.getElem_cons_succ, List.getElem_cons_zero, List.setIfInBounds_toArray, List.set_cons_zero, List.set_cons_succ]
          refine wpAnyI_takeN (i := 6) (v := .pointer (some ⟨go, q * 2, none⟩)) (by kernel_rfl) rfl (by kernel_rfl) (by kernel_rfl) (by kernel_rfl) (fun _ _ _ h => h) HS (Or.inl ⟨by rfl, ?_⟩) ?_
          · (intro w hSw; obtain ⟨⟨y1, y2⟩, ⟨y3, y4⟩⟩ := hSw; go_simp; all_goals (intro hh; exfalso; omega))
          try simp only [Act.put, List.getElem_toArray, List.getElem_cons_succ, List.getElem_cons_zero, List.setIfInBounds_toArray, List.set_cons_zero, List.set_cons_succ]
          refine wpAnyI_takeN (i := 7) (v := ?_) (by kernel_rfl) rfl (by kernel_rfl) (by kernel_rfl) (by kernel_rfl) (fun _ _ _ h => h) HS (Or.inl ⟨by rfl, ?_⟩) ?_
          rotate_left
          · (intro w hSw; obtain ⟨⟨y1, y2⟩, ⟨y3, y4⟩⟩ := hSw; go_simp; try with_reducible rfl)
          try simp only [Act.put, List.getElem_toArray, List.getElem_cons_succ, List.getElem_cons_zero, List.setIfInBounds_toArray, List.set_cons_zero, List.set_cons_succ]
          refine wpAnyI_takeN (i := 8) (v := ?_) (by kernel_rfl) rfl (by kernel_rfl) (by kernel_rfl) (by kernel_rfl) (fun _ _ _ h => h) HS (Or.inl ⟨by rfl, ?_⟩) ?_
          rotate_left
          · (intro w hSw; obtain ⟨⟨y1, y2⟩, ⟨y3, y4⟩⟩ := hSw; go_simp; try with_reducible rfl)
          try simp only [Act.put, List.getElem_toArray, List.getElem_cons_succ, List.getElem_cons_zero, List.setIfInBounds_toArray, List.set_cons_zero, List.set_cons_succ]
          refine wpAnyI_one (i := 9) rfl (by kernel_rfl) (fun K hK => ?_)
          dsimp only [List.getElem_toArray, List.getElem_cons_succ, List.getElem_cons_zero]
          go_simp
          refine (touches_any _ z1 z2 x1 x2 hz6 hx6).mono ?_
          rintro e w4 ⟨rfl, k4⟩
          have HS := And.intro (And.intro (k4.cellEq HS.1.1 (by simp)) (k4.cellEq HS.1.2 (by simp))) (And.intro (k4.cellEq HS.2.1 (by simp)) (k4.cellEq HS.2.2 (by simp)))
          replace k4 := Lib.hid k4
          refine hK _ _ (Or.inr HS) ?_
          clear hK K
          try simp only [Act.put, List.getElem_toArray, List.getElem_cons_succ, List.getElem_cons_zero, List.setIfInBounds_toArray, List.set_cons_zero, List.set_cons_succ]
          refine wpAnyI_takeN (i := 10) (v := ?_) (by kernel_rfl) rfl (by kernel_rfl) (by kernel_rfl) (by kernel_rfl) (fun _ _ _ h => h) HS (Or.inl ⟨by rfl, ?_⟩) ?_
          rotate_left
          · (intro w hSw; obtain ⟨⟨y1, y2⟩, ⟨y3, y4⟩⟩ := hSw; go_simp; try with_reducible rfl)
          try simp only [Act.put, List.getElem_toArray, List.getElem_cons_succ, List.getElem_cons_zero, List.setIfInBounds_toArray, List.set_cons_zero, List.set_cons_succ]
          refine wpAnyI_done (by kernel_rfl) ?_ _
          obtain ⟨⟨y1, y2⟩, ⟨y3, y4⟩⟩ := HS
          go_wp2_with fail
          have h0 : (w4.drew.cell? ⟨gx, 0, none⟩ = some (.int .i64 x1) ∧ w4.drew.cell? ⟨gx, 1, none⟩ = some (.int .i64 x2)) ∧ (w4.drew.cell? ⟨go, q * 2, none⟩ = some (.int .i64 z1) ∧ w4.drew.cell? ⟨go, q * 2 + 1, none⟩ = some (.int .i64 z2)) := And.intro (And.intro y1 y2) (And.intro y3 y4)
          have K5 := Lib.hid (Kd.out.trans k4.out.drew)
          have O5 := Lib.hid (own_keep0 Od.out k4.out.drew)
          have hqlt : (q : Int) < (q : Int) + 1 := by omega
          have fz5 := (fzd.out.trans k4.out.drew)
          have fzz := fz.out _ _ fz5 (by simp) (q * 2 + 1)
          clear fz5
          refine wp_region_I (S := (fun w' : World => (w'.cell? ⟨gx, 0, none⟩ = some (.int .i64 x1) ∧ w'.cell? ⟨gx, 1, none⟩ = some (.int .i64 x2)) ∧ (w'.cell? ⟨go, q * 2, none⟩ = some (.int .i64 z1) ∧ w'.cell? ⟨go, q * 2 + 1, none⟩ = some (.int .i64 z2)))) (n := 14) (by kernel_rfl) ?_
          generalize w4.drew = wd at *
          have HS := h0
          clear h0
          refine wpAnyI_take (i := 0) (v := ?_) (by kernel_rfl) rfl (by kernel_rfl) (by kernel_rfl) (by kernel_rfl) (fun _ _ _ h => h) HS (Or.inl ⟨by rfl, ?_⟩) ?_
          rotate_left
          · (intro w hSw; obtain ⟨⟨y1, y2⟩, ⟨y3, y4⟩⟩ := hSw; go_simp; try with_reducible rfl)
          try simp only [Act.put, List.getElem_toArray, List.getElem_cons_succ, List.getElem_cons_zero, List.setIfInBounds_toArray, List.set_cons_zero, List.set_cons_succ]
          refine wpAnyI_take (i := 1) (v := ?_) (by kernel_rfl) rfl (by kernel_rfl) (by kernel_rfl) (by kernel_rfl) (fun _ _ _ h => h) HS (Or.inl ⟨by rfl, ?_⟩) ?_
          rotate_left
          · (intro w hSw; obtain ⟨⟨y1, y2⟩, ⟨y3, y4⟩⟩ := hSw; go_simp; try with_reducible rfl)
          try simp only [Act.put, List.getElem_toArray, List.getElem_cons_succ, List.getElem_cons_zero, List.setIfInBounds_toArray, List.set_cons_zero, List.set_cons_succ]
          refine wpAnyI_take (i := 2) (v := .int .i64 (q : Nat)) (by kernel_rfl) rfl (by kernel_rfl) (by kernel_rfl) (by kernel_rfl) (fun _ _ _ h => h) HS (Or.inl ⟨by rfl, ?_⟩) ?_
          · (intro w hSw; obtain ⟨⟨y1, y2⟩, ⟨y3, y4⟩⟩ := hSw; go_simp; first | rw [hq1.out] | rw [hq0.out])
          try simp only [Act.put, List.getElem_toArray, List.getElem_cons_succ, List.getElem_cons_zero, List.setIfInBounds_toArray, List.set_cons_zero, List.set_cons_succ]
          refine wpAnyI_take (i := 3) (v := ?_) (by kernel_rfl) rfl (by kernel_rfl) (by kernel_rfl) (by kernel_rfl) (fun _ _ _ h => h) HS (Or.inl ⟨by rfl, ?_⟩) ?_
          rotate_left
          · (intro w hSw; obtain ⟨⟨y1, y2⟩, ⟨y3, y4⟩⟩ := hSw; go_simp; try with_reducible rfl)
          try simp only [Act.put, List.getElem_toArray, List.getElem_cons_succ, List.getElem_cons_zero, List.setIfInBounds_toArray, List.set_cons_zero, List.set_cons_succ]
          refine wpAnyI_take (i := 4) (v := ?_) (by kernel_rfl) rfl (by kernel_rfl) (by kernel_rfl) (by kernel_rfl) (fun _ _ _ h => h) HS (Or.inl ⟨by rfl, ?_⟩) ?_
          rotate_left
          · (intro w hSw; obtain ⟨⟨y1, y2⟩, ⟨y3, y4⟩⟩ := hSw; go_simp; try with_reducible rfl)
          try simp only [Act.put, List.getElem_toArray, List.getElem_cons_succ, List.getElem_cons_zero, List.setIfInBounds_toArray, List.set_cons_zero, List.set_cons_succ]
          refine wpAnyI_take (i := 5) (v := .int .i64 (q : Nat)) (by kernel_rfl) rfl (by kernel_rfl) (by kernel_rfl) (by kernel_rfl) (fun _ _ _ h => h) HS (Or.inl ⟨by rfl, ?_⟩) ?_
          · (intro w hSw; obtain ⟨⟨y1, y2⟩, ⟨y3, y4⟩⟩ := hSw; go_simp; first | rw [hq1.out] | rw [hq0.out])
          try simp only [Act.put, List.getElem_toArray, List.getElem_cons_succ, List.getElem_cons_zero, List.setIfInBounds_toArray, List.set_cons_zero, List.set_cons_succ]
          refine wpAnyI_take (i := 6) (v := .pointer (some ⟨go, q * 2, none⟩)) (by kernel_rfl) rfl (by kernel_rfl) (by kernel_rfl) (by kernel_rfl) (fun _ _ _ h => h) HS (Or.inl ⟨by rfl, ?_⟩) ?_
          · (intro w hSw; obtain ⟨⟨y1, y2⟩, ⟨y3, y4⟩⟩ := hSw; go_simp; all_goals (intro hh; exfalso; omega))
          try simp only [Act.put, List.getElem_toArray, List.getElem_cons_succ, List.getElem_cons_zero, List.setIfInBounds_toArray, List.set_cons_zero, List.set_cons_succ]
          refine wpAnyI_take (i := 7) (v := ?_) (by kernel_rfl) rfl (by kernel_rfl) (by kernel_rfl) (by kernel_rfl) (fun _ _ _ h => h) HS (Or.inl ⟨by rfl, ?_⟩) ?_
          rotate_left
          · (intro w hSw; obtain ⟨⟨y1, y2⟩, ⟨y3, y4⟩⟩ := hSw; go_simp; try with_reducible rfl)
          try simp only [Act.put, List.getElem_toArray, List.getElem_cons_succ, List.getElem_cons_zero, List.setIfInBounds_toArray, List.set_cons_zero, List.set_cons_succ]
          refine wpAnyI_take (i := 8) (v := ?_) (by kernel_rfl) rfl (by kernel_rfl) (by kernel_rfl) (by kernel_rfl) (fun _ _ _ h => h) HS (Or.inl ⟨by rfl, ?_⟩) ?_
          rotate_left
          · (intro w hSw; obtain ⟨⟨y1, y2⟩, ⟨y3, y4⟩⟩ := hSw; go_simp; try with_reducible rfl)
          try simp only [Act.put, List.getElem_toArray, List.getElem_cons_succ, List.getElem_cons_zero, List.setIfInBounds_toArray, List.set_cons_zero, List.set_cons_succ]
          refine wpAnyI_take (i := 9) (v := ?_) (by kernel_rfl) rfl (by kernel_rfl) (by kernel_rfl) (by kernel_rfl) (fun _ _ _ h => h) HS (Or.inl ⟨by rfl, ?_⟩) ?_
          rotate_left
          · (intro w hSw; obtain ⟨⟨y1, y2⟩, ⟨y3, y4⟩⟩ := hSw; go_simp; try with_reducible rfl)
          try simp only [Act.put, List.getElem_toArray, List.getElem_cons_succ, List.getElem_cons_zero, List.setIfInBounds_toArray, List.set_cons_zero, List.set_cons_succ]
          refine wpAnyI_take (i := 10) (v := ?_) (by kernel_rfl) rfl (by kernel_rfl) (by kernel_rfl) (by kernel_rfl) (fun _ _ _ h => h) HS (Or.inl ⟨by rfl, ?_⟩) ?_
          rotate_left
          · (intro w hSw; obtain ⟨⟨y1, y2⟩, ⟨y3, y4⟩⟩ := hSw; go_simp; try with_reducible rfl)
          try simp only [Act.put, List.getElem_toArray, List.getElem_cons_succ, List.getElem_cons_zero, List.setIfInBounds_toArray, List.set_cons_zero, List.set_cons_succ]
          refine wpAnyI_take (i := 11) (v := ?_) (by kernel_rfl) rfl (by kernel_rfl) (by kernel_rfl) (by kernel_rfl) (fun _ _ _ h => h) HS (Or.inl ⟨by rfl, ?_⟩) ?_
          rotate_left
          · (intro w hSw; obtain ⟨⟨y1, y2⟩, ⟨y3, y4⟩⟩ := hSw; go_simp; try with_reducible rfl)
          try simp only [Act.put, List.getElem_toArray, List.getElem_cons_succ, List.getElem_cons_zero, List.setIfInBounds_toArray, List.set_cons_zero, List.set_cons_succ]
          refine wpAnyI_one (i := 12) rfl (by kernel_rfl) (fun K hK => ?_)
          dsimp only [List.getElem_toArray, List.getElem_cons_succ, List.getElem_cons_zero]
          go_simp
          refine hK _ _ (Or.inr HS) ?_
          clear hK K
          try simp only [Act.put, List.getElem_toArray, List.getElem_cons_succ, List.getElem_cons_zero, List.setIfInBounds_toArray, List.set_cons_zero, List.set_cons_succ]
          refine wpAnyI_take (i := 13) (v := ?_) (by kernel_rfl) rfl (by kernel_rfl) (by kernel_rfl) (by kernel_rfl) (fun _ _ _ h => h) HS (Or.inl ⟨by rfl, ?_⟩) ?_
          rotate_left
          · (intro w hSw; obtain ⟨⟨y1, y2⟩, ⟨y3, y4⟩⟩ := hSw; go_simp; try with_reducible rfl)
          try simp only [Act.put, List.getElem_toArray, List.getElem_cons_succ, List.getElem_cons_zero, List.setIfInBounds_toArray, List.set_cons_zero, List.set_cons_succ]
          refine wpAnyI_one (i := 14) rfl (by kernel_rfl) (fun K hK => ?_)
          dsimp only [List.getElem_toArray, List.getElem_cons_succ, List.getElem_cons_zero]
          go_simp
          refine hK _ _ (Or.inl rfl) ?_
          clear hK K
          try simp only [Act.put, List.getElem_toArray, List.getElem_cons_succ, List.getElem_cons_zero, List.setIfInBounds_toArray, List.set_cons_zero, List.set_cons_succ]
          refine wpAnyI_done (by kernel_rfl) ?_ _
          have O6 := Lib.hid (own_set_last (M := max z2 x2) (by have := O5.out; rw [hou.out] at this; exact this) hq'.out)
          have K6 := Lib.hid (K5.out.setCell (p := ⟨go, q * 2 + 1, none⟩) (.inr hgo3'.out) (.int .i64 (max z2 x2)))
          go_wp2_with fail
          go_roundw
          case rel => exact ⟨k + 1, a ++ [(z1, max z2 x2)], q + 1, by omega, by go_num, by rw [List.length_append, hq]; rfl, by omega, hM2, hL2, K6, O6, Lib.hid (by simp)⟩
          case measure => simp [intOf]; omega
        · have hM2 : Hid (Merged (S.take (k + 1)) (ou ++ [(x1, x2)])) := Lib.hid (by rw [htk.out, hou2]; exact merged_apart hMa hx12.out (by dsimp only; omega))
          have hb := decide_eq_false ht
          clear hMa hx12
          go_wp2_with fail
          generalize wr.alloc (.cells #[.int .i64 x1, .int .i64 x2] 39) = wy at *
          generalize wr.heap.size = gx at *
          have h0 := And.intro (And.intro (hxb.out.drew.cell 0) (hxb.out.drew.cell 1)) (And.intro cz0 cz1 : wy.drew.cell? ⟨go, q * 2, none⟩ = some (.int .i64 z1) ∧ wy.drew.cell? ⟨go, q * 2 + 1, none⟩ = some (.int .i64 z2))
          simp only [List.getElem?_toArray, List.getElem?_cons_succ, List.getElem?_cons_zero] at h0
          have Kd := Lib.hid (hka.out.drew)
          have Od : Hid (wy.drew.ownsRow w3.heap.size 39 2 (.slice (some ⟨go, 0, none⟩) (q + 1) co) (q + 1) (flat ou)) := Lib.hid howna.out
          have fzd : Hid (Keeps [] wy wy.drew) := Lib.hid (Keeps.refl [] wy).drew
          clear hka howna hxb c0 c1' cz0 cz1
          refine wp_region_I (S := (fun w' : World => (w'.cell? ⟨gx, 0, none⟩ = some (.int .i64 x1) ∧ w'.cell? ⟨gx, 1, none⟩ = some (.int .i64 x2)) ∧ (w'.cell? ⟨go, q * 2, none⟩ = some (.int .i64 z1) ∧ w'.cell? ⟨go, q * 2 + 1, none⟩ = some (.int .i64 z2)))) (n := 11) (by kernel_rfl) ?_
          generalize wy.drew = wb at *
          have HS := h0
          clear h0
          refine wpAnyI_takeN (i := 0) (v := ?_) (by kernel_rfl) rfl (by kernel_rfl) (by kernel_rfl) (by kernel_rfl) (fun _ _ _ h => h) HS (Or.inl ⟨by rfl, ?_⟩) ?_
          rotate_left
          · (intro w hSw; obtain ⟨⟨y1, y2⟩, ⟨y3, y4⟩⟩ := hSw; go_simp; try with_reducible rfl)
          try simp only [Act.put, List.getElem_toArray, List.getElem_cons_succ, List.getElem_cons_zero, List.setIfInBounds_toArray, List.set_cons_zero, List.set_cons_succ]
          refine wpAnyI_takeN (i := 1) (v := .bool true) (by kernel_rfl) rfl (by kernel_rfl) (by kernel_rfl) (by kernel_rfl) (fun _ _ _ h => h) HS (Or.inl ⟨by rfl, ?_⟩) ?_
          · (intro w hSw; obtain ⟨⟨y1, y2⟩, ⟨y3, y4⟩⟩ := hSw; go_simp; all_goals omega)
          try simp only [Act.put, List.getElem_toArray, List.getElem_cons_succ, List.getElem_cons_zero, List.setIfInBounds_toArray, List.set_cons_zero, List.set_cons_succ]
          refine wpAnyI_takeN (i := 2) (v := ?_) (by kernel_rfl) rfl (by kernel_rfl) (by kernel_rfl) (by kernel_rfl) (fun _ _ _ h => h) HS (Or.inl ⟨by rfl, ?_⟩) ?_
          rotate_left
          · (intro w hSw; obtain ⟨⟨y1, y2⟩, ⟨y3, y4⟩⟩ := hSw; go_simp; try with_reducible rfl)
          try simp only [Act.put, List.getElem_toArray, List.getElem_cons_succ, List.getElem_cons_zero, List.setIfInBounds_toArray, List.set_cons_zero, List.set_cons_succ]
          refine wpAnyI_takeN (i := 3) (v := ?_) (by kernel_rfl) rfl (by kernel_rfl) (by kernel_rfl) (by kernel_rfl) (fun _ _ _ h => h) HS (Or.inl ⟨by rfl, ?_⟩) ?_
          rotate_left
          · (intro w hSw; obtain ⟨⟨y1, y2⟩, ⟨y3, y4⟩⟩ := hSw; go_simp; try with_reducible rfl)
          try simp only [Act.put, List.getElem_toArray, List.getElem_cons_succ, List.getElem_cons_zero, List.setIfInBounds_toArray, List.set_cons_zero, List.set_cons_succ]
          refine wpAnyI_takeN (i := 4) (v := ?_) (by kernel_rfl) rfl (by kernel_rfl) (by kernel_rfl) (by kernel_rfl) (fun _ _ _ h => h) HS (Or.inl ⟨by rfl, ?_⟩) ?_
          rotate_left
          · (intro w hSw; obtain ⟨⟨y1, y2⟩, ⟨y3, y4⟩⟩ := hSw; go_simp; try with_reducible rfl)
          try simp only [Act.put, List.getElem_toArray, List.getElem_cons_succ, List.getElem_cons_zero, List.setIfInBounds_toArray, List.set_cons_zero, List.set_cons_succ]
          refine wpAnyI_takeN (i := 5) (v := .int .i64 (q : Nat)) (by kernel_rfl) rfl (by kernel_rfl) (by kernel_rfl) (by kernel_rfl) (fun _ _ _ h => h) HS (Or.inl ⟨by rfl, ?_⟩) ?_
          · (intro w hSw; obtain ⟨⟨y1, y2⟩, ⟨y3, y4⟩⟩ := hSw; go_simp; first | rw [hq1.out] | rw [hq0.out])
          try simp only [Act.put, List.getElem_toArray, List.getElem_cons_succ, List.getElem_cons_zero, List.setIfInBounds_toArray, List.set_cons_zero, List.set_cons_succ]
          refine wpAnyI_takeN (i := 6) (v := .pointer (some ⟨go, q * 2, none⟩)) (by kernel_rfl) rfl (by kernel_rfl) (by kernel_rfl) (by kernel_rfl) (fun _ _ _ h => h) HS (Or.inl ⟨by rfl, ?_⟩) ?_
          · (intro w hSw; obtain ⟨⟨y1, y2⟩, ⟨y3, y4⟩⟩ := hSw; go_simp; all_goals (intro hh; exfalso; omega))
          try simp only [Act.put, List.getElem_toArray, List.getElem_cons_succ, List.getElem_cons_zero, List.setIfInBounds_toArray, List.set_cons_zero, List.set_cons_succ]
          refine wpAnyI_takeN (i := 7) (v := ?_) (by kernel_rfl) rfl (by kernel_rfl) (by kernel_rfl) (by kernel_rfl) (fun _ _ _ h => h) HS (Or.inl ⟨by rfl, ?_⟩) ?_
          rotate_left
          · (intro w hSw; obtain ⟨⟨y1, y2⟩, ⟨y3, y4⟩⟩ := hSw; go_simp; try with_reducible rfl)
          try simp only [Act.put, List.getElem_toArray, List.getElem_cons_succ, List.getElem_cons_zero, List.setIfInBounds_toArray, List.set_cons_zero, List.set_cons_succ]
          refine wpAnyI_takeN (i := 8) (v := ?_) (by kernel_rfl) rfl (by kernel_rfl) (by kernel_rfl) (by kernel_rfl) (fun _ _ _ h => h) HS (Or.inl ⟨by rfl, ?_⟩) ?_
          rotate_left
          · (intro w hSw; obtain ⟨⟨y1, y2⟩, ⟨y3, y4⟩⟩ := hSw; go_simp; try with_reducible rfl)
          try simp only [Act.put, List.getElem_toArray, List.getElem_cons_succ, List.getElem_cons_zero, List.setIfInBounds_toArray, List.set_cons_zero, List.set_cons_succ]
          refine wpAnyI_one (i := 9) rfl (by kernel_rfl) (fun K hK => ?_)
          dsimp only [List.getElem_toArray, List.getElem_cons_succ, List.getElem_cons_zero]
          go_simp
          refine (touches_any _ z1 z2 x1 x2 hz6 hx6).mono ?_
          rintro e w4 ⟨rfl, k4⟩
          have HS := And.intro (And.intro (k4.cellEq HS.1.1 (by simp)) (k4.cellEq HS.1.2 (by simp))) (And.intro (k4.cellEq HS.2.1 (by simp)) (k4.cellEq HS.2.2 (by simp)))
          replace k4 := Lib.hid k4
          refine hK _ _ (Or.inr HS) ?_
          clear hK K
          try simp only [Act.put, List.getElem_toArray, List.getElem_cons_succ, List.getElem_cons_zero, List.setIfInBounds_toArray, List.set_cons_zero, List.set_cons_succ]
          refine wpAnyI_takeN (i := 10) (v := ?_) (by kernel_rfl) rfl (by kernel_rfl) (by kernel_rfl) (by kernel_rfl) (fun _ _ _ h => h) HS (Or.inl ⟨by rfl, ?_⟩) ?_
          rotate_left
          · (intro w hSw; obtain ⟨⟨y1, y2⟩, ⟨y3, y4⟩⟩ := hSw; go_simp; try with_reducible rfl)
          try simp only [Act.put, List.getElem_toArray, List.getElem_cons_succ, List.getElem_cons_zero, List.setIfInBounds_toArray, List.set_cons_zero, List.set_cons_succ]
          refine wpAnyI_done (by kernel_rfl) ?_ _
          obtain ⟨⟨y1, y2⟩, ⟨y3, y4⟩⟩ := HS
          have hbs := (Kd.out.trans k4.out).size
          replace y1 := y1
          have K4 := Lib.hid (Kd.out.trans k4.out)
          have O4 := Lib.hid (own_keep0 Od.out k4.out)
          go_wp2_with (at_builtin; refine wpList_append_own _ rfl (.tmp 45) (.tmp 47) 55 rfl w3.heap.size 39 i0 (.agg #[.int .i64 0, .int .i64 0]) 2 16 Try.underlying55 hi.out hz0.out hz1.out hz2.out rfl (by decide) (.slice (some ⟨go, 0, none⟩) (q + 1) co) (q + 1) (flat ou) rfl (own_keep0 O4.out ((Keeps.refl [] w4).alloc (.cells #[.int .i64 x1, .int .i64 x2] 39))) ⟨w4.heap.size, 0, none⟩ 1 1 [.int .i64 x1, .int .i64 x2] rfl rfl (World.news_of_block (cs := #[.int .i64 x1, .int .i64 x2]) (t := 39) (fr := (0, 0)) (heap_alloc_new w4 _)) (by simp [Value.oneCell']) (by unfold maxLen; omega) (by omega) (by simp; omega) ?_; intro v' wq ho1 hg1 hn1; replace ho1 := Lib.hid ho1; replace hg1 := Lib.hid hg1; replace hn1 := Lib.hid hn1)
          go_roundw
          case rel => exact ⟨k + 1, ou ++ [(x1, x2)], (q + 1) + 1, by omega, by go_num, by rw [List.length_append, hp]; rfl, by omega, hM2, Lib.hid (low_snoc hnext.out), Lib.hid (keeps_append K4.out ((Keeps.refl [] w4).alloc _) O4.out hg1.out), Lib.hid (by rw [flat_append]; exact ho1.out), Lib.hid (by have := hn1.out; simp at this ⊢; exact this)⟩
          case measure => simp [intOf]; omega
    · obtain rfl : k = m := by omega
      have hfin : Hid (OfPost 39 l w (.returned (.slice Ao p co)) wr) := Lib.hid (by
        have hM' := hM.out
        rw [List.take_of_length_le (by rw [hSm.out]; exact Nat.le_refl _)] at hM'
        exact ⟨ou, ⟨hM'.can, fun z => by rw [hM'.same]; exact hSin.out z, by rw [hp, ← hl.out] at *; omega⟩, RowPost.mk' hp (own_le2 hown.out K3.out.size) hnil.out (K3.out.trans hkw.out)⟩)
      have hkf : ¬ (k : Int) < (k : Int) := by omega
      go_wp2_with fail
      go_ret
      exact hfin.out
end Go.Proofs.Ythmnolpamllabaa
