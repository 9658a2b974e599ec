/- The contracts of Concat, Union. -/
import Derived.Test.YthmnolpamllabaaIvArgs
import Derived.Test.YthmnolpamllabaaRow
import Derived.Test.YthmnolpamllabaaReg3
import Derived.Lib.AppendZerosOnto
namespace Go.Proofs.Ythmnolpamllabaa
open Go.RowKit Go.Lib
set_option linter.unusedSimpArgs false
set_option linter.unusedVariables false

set_option maxHeartbeats 1600000 in
set_option maxRecDepth 100000 in
theorem grow_nil (w : World) (n : Nat) (hn : n ≤ 1000000) : Calls Try.prog 57 #[.slice none 0 0, .int .i64 n] w fun e w' => ∃ v, e = .returned v ∧ w'.ownsRow w.heap.size 39 2 v 0 [] ∧ Keeps [] w w' := by
  rcases Nat.eq_zero_or_pos n with rfl | h0
  · go_enter Try.func57, Try.ntmps57
    go_wp2_with fail
    go_ret
    exact ⟨_, rfl, ⟨rfl, .inl ⟨rfl, rfl⟩⟩, Keeps.refl _ _⟩
  · obtain ⟨i0, hi, hz0, hz1, hz2⟩ := info_parts info39
    have h1 : ¬ ((n : Int) < 0) := by omega
    have h4 : (n : Int) > 0 := by omega
    have h3 : wrap64 (n : Int) = (n : Int) := by unfold wrap64; omega
    have hold : (Builtin.firstCells i0.size 0 (.slice none 0 0)).run Try.prog w.drew = .ok #[] w.drew := run_firstCells_none w.drew i0.size 0 0 0
    have hrz : ∀ ty, (Builtin.append_ #[55, 3] ty #[.slice none 0 0, .int .i64 (n : Nat)]).run Try.prog w =
      .ok (.slice (some ⟨w.heap.size, 0, none⟩) n (grownCap w n 0 39)) (w.drew.alloc (.cells (#[] ++ Builtin.zeroCells #[.int .i64 0, .int .i64 0] n ++ Builtin.zeroCells #[.int .i64 0, .int .i64 0] (grownCap w n 0 39 - n)) 39)) := fun ty => by
      have h := Lib.run_append_grow_zeros w 55 3 ty 39 i0 (.agg #[.int .i64 0, .int .i64 0]) .i64 .i64 Try.underlying55 Try.underlying3 hi hz0 none 0 0 [] hold n h0 (by omega) (by omega) (by omega)
        (by rw [hz2]; omega) (by rw [Nat.zero_add]; exact growslice_fits (by omega) (by rw [hz2]; omega))
      simpa [Value.cells] using h
    have hG := grownCap_ge w n 0 39
    have hG2 := grownCap_le_maxLen w n 0 39 (by unfold maxLen; omega)
    generalize grownCap w n 0 39 = G at *
    have hG63 : G ≤ 9223372036854775807 := by unfold maxLen at hG2; omega
    have hfin : ∀ cs : Array Value, cs.size = G * 2 → (w.alloc (.cells cs 39)).drew.ownsRow w.heap.size 39 2 (.slice (some ⟨w.heap.size, 0, none⟩) 0 G) 0 [] ∧ Keeps [] w (w.alloc (.cells cs 39)).drew := fun cs hcs =>
      ⟨⟨rfl, .inr ⟨w.heap.size, G, cs, rfl, Nat.le_refl _, Blk.new w 39 cs, by omega, hG2, hcs, by simp⟩⟩, ((Keeps.refl [] w).alloc _).drew⟩
    have hsz : (Builtin.zeroCells #[.int .i64 0, .int .i64 0] n ++ Builtin.zeroCells #[.int .i64 0, .int .i64 0] (G - n)).size = G * 2 := by
      simp [Builtin.zeroCells]
      omega
    replace hfin := Lib.hid (hfin _ hsz)
    clear hsz hold
    go_enter Try.func57, Try.ntmps57
    go_wp2_with (at_builtin; refine Lib.wpList_append_run _ rfl _ _ _ _ rfl _ _ rfl rfl _ _ (hrz _) ?_)
    all_goals (go_ret; exact ⟨_, rfl, hfin.out.1, hfin.out.2⟩)

theorem src_iv {w : World} {B : Nat} {A : Option Addr} {l : List Iv} (h : IvAt w B A l) : SrcAt w A l.length (flat l) := by
  cases l with
  | nil => exact .inl rfl
  | cons x r =>
    obtain ⟨g, off, rfl, _⟩ := h 0 x rfl
    refine .inr ⟨g, off, rfl, fun j u hj => ?_⟩
    have hjl : j < (x :: r).length * 2 := by rw [← flat_len]; exact (List.getElem?_eq_some_iff.1 hj).1
    obtain ⟨i, hji⟩ : ∃ i, j = i * 2 ∨ j = i * 2 + 1 := ⟨j / 2, by omega⟩
    obtain ⟨y, hy⟩ : ∃ y, (x :: r)[i]? = some y := ⟨(x :: r)[i]'(by omega), List.getElem?_eq_getElem _⟩
    obtain ⟨g', off', he, _, c0, c1⟩ := h i y hy
    simp only [Option.some.injEq, Addr.mk.injEq] at he
    obtain ⟨rfl, rfl, _⟩ := he
    obtain ⟨f0, f1⟩ := flat_get (x :: r) i y hy
    rcases hji with rfl | rfl
    · rw [f0] at hj
      cases hj
      exact c0
    · rw [f1] at hj
      cases hj
      rw [← Nat.add_assoc]
      exact c1

set_option maxHeartbeats 3200000 in
set_option maxRecDepth 100000 in
theorem concat_any (w : World) (B gs c : Nat) (A1 A2 : Option Addr) (l1 l2 : List Iv) (n1 n2 c1 c2 : Nat) (h1 : l1.length = n1) (h2 : l2.length = n2) (hn1 : n1 ≤ 100000) (hn2 : n2 ≤ 100000) (hO1 : IvAt w B A1 l1) (hO2 : IvAt w B A2 l2) (hB : B ≤ w.heap.size)
    (hs : Blk w gs 55 #[.slice A1 n1 c1, .slice A2 n2 c2]) :
    Calls Try.prog 48 #[.slice (some ⟨gs, 0, none⟩) 2 c] w fun e w' => ∃ v, e = .returned v ∧ w'.ownsRow w.heap.size 39 2 v (n1 + n2) (flat (l1 ++ l2)) ∧ Keeps [] w w' := by
  obtain ⟨i0, hi, hz0, hz1, hz2⟩ := info_parts info39
  replace hs := Lib.hid hs
  replace hO1 := Lib.hid hO1
  replace hO2 := Lib.hid hO2
  replace hi := Lib.hid hi
  replace hz0 := Lib.hid hz0
  replace hz1 := Lib.hid hz1
  replace hz2 := Lib.hid hz2
  go_enter Try.func48, Try.ntmps48
  go_wp2_with fail
  go_loopw [11, 3] (fun i sz wr => ((i = .int .i64 0 ∧ sz = .int .i64 0) ∨ (i = .int .i64 1 ∧ sz = .int .i64 n1) ∨ (i = .int .i64 2 ∧ sz = .int .i64 (n1 + n2 : Nat))) ∧ Hid (Keeps [] w wr)) (fun i _ _ => 2 - (intOf i).toNat)
  case atStart => exact ⟨.inl ⟨rfl, rfl⟩, Lib.hid (Keeps.refl [] w)⟩
  case round =>
    obtain ⟨(⟨rfl, rfl⟩ | ⟨rfl, rfl⟩ | ⟨rfl, rfl⟩), hkw⟩ := hrel
    · have z := (hs.out.keep hkw.out (by simp)).cell
      go_wp2_with fail
      go_roundw
      case rel => exact ⟨.inr (.inl ⟨rfl, by go_num⟩), hkw⟩
      case measure => simp [intOf]
    · have z := (hs.out.keep hkw.out (by simp)).cell
      have hw : wrap64 ((n1 : Int) + (n2 : Int)) = (n1 : Int) + (n2 : Int) := by unfold wrap64; omega
      have hneg : ¬ ((n1 : Int) + (n2 : Int) < 0) := by omega
      go_wp2_with fail
      go_roundw
      case rel => exact ⟨.inr (.inr ⟨rfl, by go_num⟩), hkw⟩
      case measure => simp [intOf]
    · have HG := Lib.hid (grow_nil wr (n1 + n2) (by omega))
      go_wp2_with fail
      refine HG.out.mono ?_
      rintro e w2 ⟨v, rfl, o2, k2⟩
      replace o2 := Lib.hid (own_le2 o2 hkw.out.size)
      replace k2 := Lib.hid (hkw.out.trans k2)
      clear HG hkw
      go_wp2_with fail
      go_loopw [27, 6] (fun i v wr => ((i = .int .i64 0 ∧ Hid (wr.ownsRow w.heap.size 39 2 v 0 [])) ∨ (i = .int .i64 1 ∧ Hid (wr.ownsRow w.heap.size 39 2 v n1 (flat l1))) ∨ (i = .int .i64 2 ∧ Hid (wr.ownsRow w.heap.size 39 2 v (n1 + n2) (flat (l1 ++ l2))))) ∧ Hid (Keeps [] w wr)) (fun i _ _ => 2 - (intOf i).toNat)
      case atStart => exact ⟨.inl ⟨rfl, o2⟩, k2⟩
      case round =>
        obtain ⟨(⟨rfl, ho⟩ | ⟨rfl, ho⟩ | ⟨rfl, ho⟩), hkw⟩ := hrel
        · have z := (hs.out.keep hkw.out (by simp)).cell
          have hsrc := Lib.hid (src_iv (hO1.out.keep hkw.out (by simp)))
          rw [h1] at hsrc
          have hbs := Nat.le_trans (Nat.le_refl _) hkw.out.size
          obtain ⟨wo, hwX⟩ : ∃ x, x = wr := ⟨_, rfl⟩
          subst hwX
          go_wp2_with (at_builtin; refine wpList_append_row (by rfl) (.tmp 31) (.tmp 32) 55 rfl w.heap.size 39 i0 (.agg #[.int .i64 0, .int .i64 0]) 2 16 Try.underlying55 hi.out hz0.out hz1.out hz2.out rfl (by decide) _ 0 [] rfl ho.out A1 n1 c1 (flat l1) rfl (by rw [flat_len, h1]) hsrc.out (flat_one l1) (by unfold maxLen; omega) (by omega) hbs ?_; intro v' wq q1 q2 q3 q4)
          go_roundw
          case rel => exact ⟨.inr (.inl ⟨rfl, Lib.hid (by have := q1.out; rw [Nat.zero_add] at this; simpa using this)⟩), Lib.hid (keeps_append hkw.out (Keeps.refl [] wo) ho.out q2.out)⟩
          case measure => simp [intOf]
        · have z := (hs.out.keep hkw.out (by simp)).cell
          have hsrc := Lib.hid (src_iv (hO2.out.keep hkw.out (by simp)))
          rw [h2] at hsrc
          have hbs := Nat.le_trans (Nat.le_refl _) hkw.out.size
          obtain ⟨wo, hwX⟩ : ∃ x, x = wr := ⟨_, rfl⟩
          subst hwX
          go_wp2_with (at_builtin; refine wpList_append_row (by rfl) (.tmp 31) (.tmp 32) 55 rfl w.heap.size 39 i0 (.agg #[.int .i64 0, .int .i64 0]) 2 16 Try.underlying55 hi.out hz0.out hz1.out hz2.out rfl (by decide) _ n1 (flat l1) rfl ho.out A2 n2 c2 (flat l2) rfl (by rw [flat_len, h2]) hsrc.out (flat_one l2) (by unfold maxLen; omega) (by omega) hbs ?_; intro v' wq q1 q2 q3 q4)
          go_roundw
          case rel => exact ⟨.inr (.inr ⟨rfl, Lib.hid (by rw [flat_append]; exact q1.out)⟩), Lib.hid (keeps_append hkw.out (Keeps.refl [] wo) ho.out q2.out)⟩
          case measure => simp [intOf]
        · go_wp2_with fail
          go_ret
          exact ⟨_, rfl, ho.out, hkw.out⟩

set_option maxHeartbeats 1600000 in
theorem union_got (w : World) (B : Nat) (A1 A2 : Option Addr) (l1 l2 : List Iv) (c1 c2 : Nat) (hn1 : l1.length ≤ 100000) (hn2 : l2.length ≤ 100000) (hO1 : IvAt w B A1 l1) (hO2 : IvAt w B A2 l2) (hB : B ≤ w.heap.size) (h1 : All64 l1) (h2 : All64 l2) :
    Calls Try.prog 29 #[.slice A1 l1.length c1, .slice A2 l2.length c2] w fun e w' => ∃ out, Hid (IsOf (l1 ++ l2) out) ∧ Got 39 out w w' e := by
  have ka : Keeps [] w (w.alloc (.cells #[.slice A1 l1.length c1, .slice A2 l2.length c2] 55)) := (Keeps.refl [] w).alloc _
  have b0 : Blk (w.alloc (.cells #[.slice A1 l1.length c1, .slice A2 l2.length c2] 55)) w.heap.size 55 #[.slice A1 l1.length c1, .slice A2 l2.length c2] := Blk.new w 55 _
  have a1 := hO1.keep ka (by simp)
  have a2 := hO2.keep ka (by simp)
  have HC := Lib.hid (concat_any (w.alloc (.cells #[.slice A1 l1.length c1, .slice A2 l2.length c2] 55)) B w.heap.size 2 A1 A2 l1 l2 l1.length l2.length c1 c2 rfl rfl hn1 hn2 a1 a2 (Nat.le_trans hB ka.size) b0)
  clear b0 a1 a2
  have h64 : Hid (All64 (l1 ++ l2)) := Lib.hid (fun x hx => by
    rcases List.mem_append.1 hx with h | h
    · exact h1 x h
    · exact h2 x h)
  replace ka := Lib.hid ka
  clear hO1 hO2 h1 h2
  go_enter Try.func29, Try.ntmps29
  go_wp2_with fail
  refine HC.out.mono ?_
  rintro e w1 ⟨v, rfl, o1, k1⟩
  obtain ⟨L, hL⟩ : ∃ L, L = l1 ++ l2 := ⟨_, rfl⟩
  have hlen : l1.length + l2.length = L.length := by rw [hL, List.length_append]
  rw [← hL, hlen] at o1
  rw [← hL] at h64
  have hLh := Lib.hid hL
  have hL6 : L.length ≤ 1000000 := by omega
  clear hL hlen
  obtain ⟨A3, c3, rfl, _⟩ := own_slice o1
  have HO := Lib.hid (of2_got w1 _ A3 c3 L o1 h64.out hL6)
  have kk := Lib.hid (ka.out.trans k1)
  clear HC o1 k1 ka
  go_wp2_with fail
  refine HO.out.mono ?_
  rintro e w2 ⟨out, hio, A4, c4, rfl, o4, n4, k4⟩
  have hfin : Hid (Got 39 out w w2 (.returned (.slice A4 out.length c4))) := Lib.hid ⟨A4, c4, rfl, Lib.hid (own_le2 o4.out kk.out.size), n4, Lib.hid (kk.out.trans k4.out)⟩
  clear HO o4 n4 k4 kk
  go_wp2_with fail
  go_ret
  exact ⟨out, by rw [← hLh.out]; exact hio, hfin.out⟩

/-- What Meet computes. -/
def cutI (x y : Iv) : Iv := (max x.1 y.1, min x.2 y.2)
def meet1 (x : Iv) (b : List Iv) : List Iv := (b.map (cutI x)).filter full
def meetL (a b : List Iv) : List Iv := a.flatMap (fun x => meet1 x b)
theorem meetL_step {a b : List Iv} {k : Nat} {x : Iv} (hx : a[k]? = some x) : meetL (a.take (k + 1)) b = meetL (a.take k) b ++ meet1 x b := by
  unfold meetL
  rw [List.take_add_one, hx, List.flatMap_append]
  simp
theorem meet1_skip {x y : Iv} {b : List Iv} {j : Nat} (hy : b[j]? = some y) (h : min x.2 y.2 < max x.1 y.1) : meet1 x (b.take (j + 1)) = meet1 x (b.take j) := by
  unfold meet1
  rw [List.take_add_one, hy, List.map_append, List.filter_append]
  have : full (cutI x y) = false := by unfold full cutI; simpa using h
  simp [this]
theorem meet1_take {x y : Iv} {b : List Iv} {j : Nat} (hy : b[j]? = some y) (h : ¬ min x.2 y.2 < max x.1 y.1) : meet1 x (b.take (j + 1)) = meet1 x (b.take j) ++ [(max x.1 y.1, min x.2 y.2)] := by
  unfold meet1
  rw [List.take_add_one, hy, List.map_append, List.filter_append]
  have : full (max x.1 y.1, min x.2 y.2) = true := by unfold full; simpa using h
  simp [this, cutI]
theorem meet1_len (x : Iv) (b : List Iv) : (meet1 x b).length ≤ b.length := by
  unfold meet1
  exact Nat.le_trans (List.length_filter_le _ _) (by simp)
theorem meetL_len : ∀ (a b : List Iv), (meetL a b).length ≤ a.length * b.length
  | [], b => by simp [meetL]
  | x :: r, b => by
    have h1 := meet1_len x b
    have h2 := meetL_len r b
    have : meetL (x :: r) b = meet1 x b ++ meetL r b := by simp [meetL]
    rw [this, List.length_append, List.length_cons, Nat.succ_mul]
    omega

set_option maxHeartbeats 3200000 in
set_option maxRecDepth 100000 in
theorem meet_any (w : World) (B : Nat) (A1 A2 : Option Addr) (l1 l2 : List Iv) (n1 n2 c1 c2 : Nat) (h1 : l1.length = n1) (h2 : l2.length = n2) (hn1 : n1 ≤ 1000) (hn2 : n2 ≤ 1000) (hO1 : IvAt w B A1 l1) (hO2 : IvAt w B A2 l2) (hB : B ≤ w.heap.size) :
    Calls Try.prog 30 #[.slice A1 n1 c1, .slice A2 n2 c2] w (RowPost 39 (meetL l1 l2) w) := by
  obtain ⟨i0, hi, hz0, hz1, hz2⟩ := info_parts info39
  replace hO1 := Lib.hid hO1
  replace hO2 := Lib.hid hO2
  replace h1 := Lib.hid h1
  replace h2 := Lib.hid h2
  replace hi := Lib.hid hi
  replace hz0 := Lib.hid hz0
  replace hz1 := Lib.hid hz1
  replace hz2 := Lib.hid hz2
  go_enter Try.func30, Try.ntmps30
  go_wp2_with fail
  go_loopw [13, 5] (fun i v wr => ∃ k : Nat, k ≤ n1 ∧ i = .int .i64 k ∧ Hid (wr.ownsRow w.heap.size 39 2 v (meetL (l1.take k) l2).length (flat (meetL (l1.take k) l2))) ∧ Hid (v = .slice none 0 0 ↔ (meetL (l1.take k) l2).length = 0) ∧ Hid (Keeps [] w wr)) (fun i _ _ => n1 - (intOf i).toNat)
  case atStart => exact ⟨0, Nat.zero_le _, rfl, Lib.hid ⟨rfl, .inl ⟨rfl, rfl⟩⟩, Lib.hid ⟨fun _ => rfl, fun _ => rfl⟩, Lib.hid (Keeps.refl [] w)⟩
  case round =>
    obtain ⟨k, hk, rfl, hown, hnil, hkw⟩ := hrel
    obtain ⟨wo, hwX⟩ : ∃ x, x = wr := ⟨_, rfl⟩
    subst hwX
    by_cases hlt : k < n1
    · obtain ⟨⟨x1, x2⟩, hx⟩ : ∃ x, l1[k]? = some x := ⟨l1[k]'(by rw [h1.out]; exact hlt), List.getElem?_eq_getElem _⟩
      obtain ⟨ga, oa, rfl, _, c0, c1'⟩ := (hO1.out.keep hkw.out (by simp)) k _ hx
      dsimp only at c0 c1'
      have hki : (k : Int) < (n1 : Int) := by omega
      have ka : Keeps [] wo (wo.alloc (.cells #[.int .i64 x1, .int .i64 x2] 39)) := (Keeps.refl [] wo).alloc _
      have oa' := Lib.hid (own_keep0 hown.out ka)
      have kk := Lib.hid (hkw.out.trans ka)
      have B7 := Lib.hid (Blk.new wo 39 #[.int .i64 x1, .int .i64 x2])
      have hne7 : Hid (∀ g, u5.ownBlock = some g → g ≠ wo.heap.size) := Lib.hid (fun g hg => by obtain ⟨_, cur, h⟩ := own_blk hown.out hg; have := h.lt; omega)
      have hstep := Lib.hid (meetL_step (b := l2) hx)
      have hml : Hid ((meetL (l1.take k) l2).length ≤ k * n2) := Lib.hid (by
        have := meetL_len (l1.take k) l2
        rw [List.length_take, h2.out, h1.out, Nat.min_eq_left hk] at this
        exact this)
      have hkm : Hid (k * n2 ≤ 1000000) := Lib.hid (Nat.le_trans (Nat.mul_le_mul (Nat.le_trans hk hn1) hn2) (by omega))
      replace hx := Lib.hid hx
      clear ka hown hkw
      go_wp2_with fail
      generalize wo.alloc (.cells #[.int .i64 x1, .int .i64 x2] 39) = w7 at *
      generalize wo.heap.size = g7 at *
      clear c0 c1'
      generalize meetL (l1.take k) l2 = M at *
      go_loopw [19, 5] (fun i v wr => ∃ j : Nat, j ≤ n2 ∧ i = .int .i64 j ∧ Hid (wr.ownsRow w.heap.size 39 2 v (M ++ meet1 (x1, x2) (l2.take j)).length (flat (M ++ meet1 (x1, x2) (l2.take j)))) ∧ Hid (v = .slice none 0 0 ↔ (M ++ meet1 (x1, x2) (l2.take j)).length = 0) ∧ Hid (Blk wr g7 39 #[.int .i64 x1, .int .i64 x2]) ∧ Hid (g7 < wr.heap.size) ∧ Hid (∀ g, v.ownBlock = some g → g ≠ g7) ∧ Hid (Keeps [] w wr)) (fun i _ _ => n2 - (intOf i).toNat)
      case atStart =>
        refine ⟨0, Nat.zero_le _, rfl, ?_, ?_, B7, Lib.hid B7.out.lt, hne7, kk⟩
        · rw [show M ++ meet1 (x1, x2) (l2.take 0) = M by simp [meet1]]
          exact oa'
        · rw [show M ++ meet1 (x1, x2) (l2.take 0) = M by simp [meet1]]
          exact hnil
      case round =>
        obtain ⟨j, hj, rfl, ho, hn, B7r, hg7, hneq, hkr⟩ := hrel
        clear oa' kk B7 hnil hne7
        obtain ⟨wi, hwX⟩ : ∃ x, x = wr := ⟨_, rfl⟩
        subst hwX
        by_cases hjl : j < n2
        · obtain ⟨⟨y1, y2⟩, hy⟩ : ∃ x, l2[j]? = some x := ⟨l2[j]'(by rw [h2.out]; exact hjl), List.getElem?_eq_getElem _⟩
          obtain ⟨gb, ob, rfl, _, d0, d1⟩ := (hO2.out.keep hkr.out (by simp)) j _ hy
          dsimp only at d0 d1
          have hji : (j : Int) < (n2 : Int) := by omega
          have kb : Keeps [] wi (wi.alloc (.cells #[.int .i64 y1, .int .i64 y2] 39)) := (Keeps.refl [] wi).alloc _
          have z7 := (B7r.out.keep kb (by simp)).cell
          have kc : Keeps [] wi ((wi.alloc (.cells #[.int .i64 y1, .int .i64 y2] 39)).alloc (.cells #[.int .i64 (max x1 y1), .int .i64 (min x2 y2)] 39)) := kb.alloc _
          have HE := Lib.hid (empty_any ((wi.alloc (.cells #[.int .i64 y1, .int .i64 y2] 39)).alloc (.cells #[.int .i64 (max x1 y1), .int .i64 (min x2 y2)] 39)) (max x1 y1) (min x2 y2))
          have B10 : Hid (Blk ((wi.alloc (.cells #[.int .i64 y1, .int .i64 y2] 39)).alloc (.cells #[.int .i64 (max x1 y1), .int .i64 (min x2 y2)] 39)) (wi.heap.size + 1) 39 #[.int .i64 (max x1 y1), .int .i64 (min x2 y2)]) := Lib.hid (by
            have := Blk.new (wi.alloc (.cells #[.int .i64 y1, .int .i64 y2] 39)) 39 #[.int .i64 (max x1 y1), .int .i64 (min x2 y2)]
            simpa using this)
          replace kc := Lib.hid kc
          have hl1m : Hid ((meet1 (x1, x2) (l2.take j)).length ≤ j) := Lib.hid (Nat.le_trans (meet1_len _ _) (by rw [List.length_take]; omega))
          clear kb
          by_cases he : min x2 y2 < max x1 y1
          · have hd : decide (min x2 y2 < max x1 y1) = true := decide_eq_true he
            have hsk := Lib.hid (meet1_skip (x := (x1, x2)) hy he)
            replace he := Lib.hid he
            replace hy := Lib.hid hy
            go_wp2_with fail
            refine HE.out.mono ?_
            rintro e w10 ⟨rfl, k10⟩
            have K := Lib.hid (kc.out.trans k10)
            clear HE k10 d0 d1 z7
            rw [hd]
            go_wp2_with fail
            go_roundw
            case rel =>
              refine ⟨j + 1, by omega, by go_num, ?_, ?_, Lib.hid (B7r.out.keep K.out (by simp)), Lib.hid (Nat.lt_of_lt_of_le hg7.out K.out.size), hneq, Lib.hid (hkr.out.trans K.out)⟩
              · rw [hsk.out]; exact Lib.hid (own_keep0 ho.out K.out)
              · rw [hsk.out]; exact hn
            case measure => simp [intOf]; omega
          · have hd : decide (min x2 y2 < max x1 y1) = false := decide_eq_false he
            have hsk := Lib.hid (meet1_take (x := (x1, x2)) hy he)
            replace he := Lib.hid he
            replace hy := Lib.hid hy
            go_wp2_with fail
            refine HE.out.mono ?_
            rintro e w10 ⟨rfl, k10⟩
            have K := Lib.hid (kc.out.trans k10)
            have z10 := (B10.out.keep k10 (by simp)).cell
            clear HE k10 d0 d1 z7 B10
            have oq := Lib.hid (own_keep0 (own_keep0 ho.out K.out) ((Keeps.refl [] w10).alloc (.cells #[.int .i64 (max x1 y1), .int .i64 (min x2 y2)] 39)))
            have hbs : w.heap.size ≤ (w10.alloc (.cells #[.int .i64 (max x1 y1), .int .i64 (min x2 y2)] 39)).heap.size := by have := hkr.out.size; have := K.out.size; simp; omega
            have hlen : Hid ((M ++ meet1 (x1, x2) (l2.take j)).length ≤ 1001000) := Lib.hid (by rw [List.length_append]; have := hml.out; have := hkm.out; have := hl1m.out; omega)
            rw [hd]
            generalize meet1 (x1, x2) (l2.take j) = MJ at *
            go_wp2_with (at_builtin; refine wpList_append_row (by rfl) (.tmp 37) (.tmp 39) 55 rfl w.heap.size 39 i0 (.agg #[.int .i64 0, .int .i64 0]) 2 16 Try.underlying55 hi.out hz0.out hz1.out hz2.out rfl (by decide) _ (M ++ MJ).length (flat (M ++ MJ)) rfl oq.out (some ⟨w10.heap.size, 0, none⟩) 1 1 [.int .i64 (max x1 y1), .int .i64 (min x2 y2)] rfl rfl (src_iv (iv_new w10 39 [(max x1 y1, min x2 y2)])) (by simp [Value.oneCell']) (by have := hlen.out; unfold maxLen; omega) (by have := hlen.out; omega) hbs ?_; intro v' wq q1 q2 q3 q4)
            go_roundw
            case rel =>
              have kq := keeps_append (hkr.out.trans K.out) ((Keeps.refl [] w10).alloc _) (own_keep0 ho.out K.out) q2.out
              have ka := (Keeps.refl [] w10).alloc (.cells #[.int .i64 (max x1 y1), .int .i64 (min x2 y2)] 39)
              have hB7 := (B7r.out.keep K.out (by simp)).keep ka (by simp)
              have hg10 := B7r.out.keep K.out (by simp)
              have hlt10 := hg10.lt
              refine ⟨j + 1, by omega, by go_num, ?_, ?_, Lib.hid (hB7.keep (Keeps.grown q2.out (fun b hb => Option.mem_toList.2 hb)) (fun hm => hneq.out _ (Option.mem_toList.1 hm) rfl)), Lib.hid (Nat.lt_of_lt_of_le (Nat.lt_of_lt_of_le hlt10 ka.size) (Keeps.grown q2.out (X := _) (fun b hb => Option.mem_toList.2 hb)).size), Lib.hid (fun g hg => ?_), Lib.hid kq⟩
              · rw [hsk.out, ← List.append_assoc, List.length_append (bs := [_]), flat_append]
                exact q1
              · rw [hsk.out]
                exact Lib.hid ⟨fun h => absurd (q3.out.1 h).2 (by omega), fun h => by simp at h⟩
              · rcases q4.out with h | h
                · exact hneq.out g (h.symm.trans hg)
                · rw [h] at hg
                  simp at hg
                  omega
            case measure => simp [intOf]; omega
        · obtain rfl : j = n2 := by omega
          have hfull : Hid (M ++ meet1 (x1, x2) (l2.take j) = meetL (l1.take (k + 1)) l2) := Lib.hid (by rw [hstep.out, List.take_of_length_le (by rw [h2.out]; exact Nat.le_refl _)])
          have hjf : ¬ (j : Int) < (j : Int) := by omega
          have ho2 : Hid _ := ho
          rw [hfull.out] at ho2
          have hn2' : Hid _ := hn
          rw [hfull.out] at hn2'
          go_wp2_with fail
          go_roundw
          case rel => exact ⟨k + 1, by omega, by go_num, ho2, hn2', hkr⟩
          case measure => simp [intOf]; omega
    · obtain rfl : k = n1 := by omega
      have hkf : ¬ (k : Int) < (k : Int) := by omega
      rw [List.take_of_length_le (by rw [h1.out]; exact Nat.le_refl _)] at hown hnil
      have hfin := Lib.hid (RowPost.mk' rfl hown.out hnil.out hkw.out)
      go_wp2_with fail
      go_ret
      exact hfin.out
end Go.Proofs.Ythmnolpamllabaa
