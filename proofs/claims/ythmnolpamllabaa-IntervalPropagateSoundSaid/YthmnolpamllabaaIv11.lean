/- The contract of Propagate. -/
import Derived.Test.YthmnolpamllabaaIv10
namespace Go.Proofs.Ythmnolpamllabaa
open Go.RowKit
set_option linter.unusedSimpArgs false
set_option linter.unusedVariables false

theorem own_split {w : World} {base m : Nat} {v : Value} {E : List Iv} (h : w.ownsRow base 39 2 v m (flat E)) (hm : E.length = m) (h0 : 0 < m) :
    ∃ gd c tail, v = .slice (some ⟨gd, 0, none⟩) m c ∧ base ≤ gd ∧ Blk w gd 39 (flat E ++ tail).toArray ∧ m ≤ c ∧ c ≤ maxLen ∧ (flat E ++ tail).length = c * 2 := by
  rcases h.2 with ⟨_, h1⟩ | ⟨gd, cap, cur, hv, h1, h2, h3, h4, h5, h6⟩
  · omega
  · have e : cur.toList = flat E ++ cur.toList.drop (m * 2) := by rw [← h6, List.take_append_drop]
    refine ⟨gd, cap, cur.toList.drop (m * 2), hv, h1, ?_, h3, h4, ?_⟩
    · rw [← e]; exact h2
    · rw [← e]; simpa using h5
theorem own_join {w : World} {base m gd c : Nat} {E : List Iv} {tail : List Value} (hb : base ≤ gd) (hB : Blk w gd 39 (flat E ++ tail).toArray) (hmc : m ≤ c) (hcm : c ≤ maxLen) (hl : (flat E ++ tail).length = c * 2) (hE : E.length = m) :
    w.ownsRow base 39 2 (.slice (some ⟨gd, 0, none⟩) m c) m (flat E) := by
  refine ⟨by rw [flat_len, hE], .inr ⟨gd, c, (flat E ++ tail).toArray, rfl, hb, hB, hmc, hcm, by simpa using hl, ?_⟩⟩
  show (flat E ++ tail).take (m * 2) = flat E
  rw [List.take_append_of_le_length (by rw [flat_len, hE]; exact Nat.le_refl _), List.take_of_length_le (by rw [flat_len, hE]; exact Nat.le_refl _)]

/-- Clone of a row that the call owns. -/
theorem clone_own (w : World) (base m : Nat) (v : Value) (E : List Iv) (hE : E.length = m) (h : w.ownsRow base 39 2 v m (flat E)) (hm : m ≤ 1000000) :
    Calls Try.prog 33 #[v] w fun e w' => ∃ v', e = .returned v' ∧ w'.ownsRow w.heap.size 39 2 v' m (flat E) ∧ Keeps [] w w' := by
  rcases h.2 with ⟨rfl, rfl⟩ | ⟨gd, cap, cur, rfl, h1, h2, h3, h4, h5, h6⟩
  · refine (Try.slices_Clone_nil 0 0 w).mono ?_
    rintro e w' ⟨rfl, rfl⟩
    exact ⟨_, rfl, ⟨h.1, .inl ⟨rfl, rfl⟩⟩, Keeps.refl _ _⟩
  · obtain ⟨i0, hi, hz0, hz1, hz2⟩ := info_parts info39
    have hc : ∀ j u, (flat E)[j]? = some u → w.cell? ⟨gd, 0 + j, none⟩ = some u := by
      intro j u hj
      rw [Nat.zero_add, Blk.cell (cs := cur) (t := 39) h2]
      rw [← h6, List.getElem?_take] at hj
      split at hj
      · simpa using hj
      · cases hj
    refine (Try.slices_Clone i0 (.agg #[.int .i64 0, .int .i64 0]) 2 16 hi hz0 hz1 hz2 rfl (by decide) Try.sizeOf39 gd 0 m cap (flat E) w (by rw [flat_len, hE]) (by unfold maxLen; omega) (by omega) hc (flat_one E)).mono ?_
    rintro e w' ⟨v', rfl, o, _, b⟩
    exact ⟨v', rfl, o, Keeps.of_below (X := []) b (fun z h1 h2 => absurd h2 (by omega))⟩
theorem clone_arg (w : World) (B : Nat) (A : Option Addr) (m c : Nat) (E : List Iv) (hE : E.length = m) (hO : IvAt w B A E) (hA : A = none ∨ ∃ g off, A = some ⟨g, off, none⟩) (hm : m ≤ 1000000) :
    Calls Try.prog 33 #[.slice A m c] w fun e w' => ∃ v', e = .returned v' ∧ w'.ownsRow w.heap.size 39 2 v' m (flat E) ∧ Keeps [] w w' := by
  rcases hA with rfl | ⟨ga, oa, rfl⟩
  · obtain rfl : E = [] := by
      cases E with
      | nil => rfl
      | cons x r => obtain ⟨g, off, h, _⟩ := hO 0 x rfl; cases h
    obtain rfl : m = 0 := hE.symm
    refine (Try.slices_Clone_nil 0 c w).mono ?_
    rintro e w' ⟨rfl, rfl⟩
    exact ⟨_, rfl, ⟨rfl, .inl ⟨rfl, rfl⟩⟩, Keeps.refl _ _⟩
  · obtain ⟨i0, hi, hz0, hz1, hz2⟩ := info_parts info39
    have hc : ∀ j u, (flat E)[j]? = some u → w.cell? ⟨ga, oa + j, none⟩ = some u := by
      intro j u hj
      have hjl : j < E.length * 2 := by rw [← flat_len]; exact (List.getElem?_eq_some_iff.1 hj).1
      obtain ⟨i, hji⟩ : ∃ i, j = i * 2 ∨ j = i * 2 + 1 := ⟨j / 2, by omega⟩
      obtain ⟨x, hx⟩ : ∃ x, E[i]? = some x := ⟨E[i]'(by omega), List.getElem?_eq_getElem _⟩
      obtain ⟨g, off, he, _, c0, c1⟩ := hO i x hx
      simp only [Option.some.injEq, Addr.mk.injEq] at he
      obtain ⟨rfl, rfl, _⟩ := he
      obtain ⟨f0, f1⟩ := flat_get E i x hx
      rcases hji with rfl | rfl
      · rw [f0] at hj
        cases hj
        exact c0
      · rw [f1] at hj
        cases hj
        rw [← Nat.add_assoc]
        exact c1
    refine (Try.slices_Clone i0 (.agg #[.int .i64 0, .int .i64 0]) 2 16 hi hz0 hz1 hz2 rfl (by decide) Try.sizeOf39 ga oa m c (flat E) w (by rw [flat_len, hE]) (by unfold maxLen; omega) (by omega) hc (flat_one E)).mono ?_
    rintro e w' ⟨v', rfl, o, _, b⟩
    exact ⟨v', rfl, o, Keeps.of_below (X := []) b (fun z h1 h2 => absurd h2 (by omega))⟩

theorem contains_own (w : World) (base m : Nat) (v : Value) (E : List Iv) (hE : E.length = m) (h : w.ownsRow base 39 2 v m (flat E)) (hm : m ≤ 1000000) :
    Calls Try.prog 34 #[v, .func (.func 35) #[] #[]] w fun e w' => e = .returned (.bool (E.any fun x => !full x)) ∧ Keeps [] w w' := by
  rcases Nat.eq_zero_or_pos m with rfl | h0
  · obtain rfl : E = [] := List.eq_nil_of_length_eq_zero hE
    rcases h.2 with ⟨rfl, _⟩ | ⟨gd, cap, cur, rfl, h1, h2, _⟩
    · have H := Lib.hid (idx_nil w)
      show Calls Try.prog 34 _ w fun e w' => e = .returned (.bool false) ∧ Keeps [] w w'
      clear h
      go_enter Try.func34, Try.ntmps34
      go_wp2_with fail
      refine H.out.mono ?_
      rintro e w1 ⟨rfl, hw⟩
      have kk := Lib.hid (show Keeps [] w w1 from hw ▸ Keeps.refl [] w)
      clear hw
      go_wp2_with fail
      go_ret
      exact ⟨rfl, kk.out⟩
    · exact contains_any w (gd + 1) gd 0 cap [] rfl (IvAt.nil _ _ _) (Blk.lt (cs := cur) (t := 39) h2) (by omega)
  · obtain ⟨gd, c, tail, rfl, _, hB, _⟩ := own_split h hE h0
    exact contains_any w w.heap.size gd m c E hE (IvAt.of_own h hE) hB.lt hm
theorem equal_own (w : World) (b1 b2 m : Nat) (v1 v2 : Value) (D E : List Iv) (hD : D.length = m) (hE : E.length = m) (h1 : w.ownsRow b1 39 2 v1 m (flat D)) (h2 : w.ownsRow b2 39 2 v2 m (flat E)) (hm : m ≤ 1000000) :
    Calls Try.prog 38 #[v1, v2] w fun e w' => e = .returned (.bool (decide (D = E))) ∧ Keeps [] w w' := by
  obtain ⟨A1, c1, rfl, _⟩ := own_slice h1
  obtain ⟨A2, c2, rfl, _⟩ := own_slice h2
  exact equal_any w _ _ A1 A2 D E m c1 m c2 hD hE (IvAt.of_own h1 hD) (IvAt.of_own h2 hE) (by omega)

/-- Constraints behind an address, below block B. -/
def ConsAt (w : World) (B : Nat) (A : Option Addr) (l : List Con) : Prop :=
  ∀ i f, l[i]? = some f → ∃ g off Ac cc, A = some ⟨g, off, none⟩ ∧ g < B ∧ w.cell? ⟨g, off + i * 3, none⟩ = some (.int .i64 f.c) ∧ w.cell? ⟨g, off + i * 3 + 1, none⟩ = some (.slice Ac f.co.length cc) ∧ w.cell? ⟨g, off + i * 3 + 2, none⟩ = some (.bool f.eq) ∧ IvAt w B Ac f.co
theorem ConsAt.keep {w w' : World} {B : Nat} {A : Option Addr} {l : List Con} {X : List Nat} (h : ConsAt w B A l) (hk : Keeps X w w') (hX : ∀ x ∈ X, B ≤ x) : ConsAt w' B A l := by
  intro i f hf
  obtain ⟨g, off, Ac, cc, rfl, hg, h0, h1, h2, h3⟩ := h i f hf
  have hn : g ∉ X := fun hx => by have := hX g hx; omega
  exact ⟨g, off, Ac, cc, rfl, hg, hk.cellEq h0 hn, hk.cellEq h1 hn, hk.cellEq h2 hn, h3.keep hk hX⟩

def PropPost (w : World) (m : Nat) (r : Option (List Iv)) (e : Ending) (w' : World) : Prop :=
  (r = none ∧ e = .returned (.tuple #[.slice none 0 0, .bool false]) ∧ Keeps [] w w') ∨
  (∃ D' v, r = some D' ∧ D'.length = m ∧ e = .returned (.tuple #[v, .bool true]) ∧ w'.ownsRow w.heap.size 39 2 v m (flat D') ∧ Keeps [] w w')

theorem coefP_skip {f : Con} {j : Nat} {x : Iv} {D : List Iv} {s : Bool} (hx : f.co[j]? = some x) (h : x.2 = 0) : coefP f (f.co.drop j) D s = coefP f (f.co.drop (j + 1)) D s := by
  obtain ⟨hj, hx'⟩ := List.getElem?_eq_some_iff.1 hx
  rw [List.drop_eq_getElem_cons hj, hx']
  show (if x.2 = 0 then _ else _) = _
  rw [if_pos h]
theorem coefP_step {f : Con} {j : Nat} {x : Iv} {D : List Iv} {s : Bool} (hx : f.co[j]? = some x) (h : x.2 ≠ 0) :
    coefP f (f.co.drop j) D s = if full (narM (D.getD x.1.toNat (0, 0)) x.2 (woM D x.1 f.co f.c) f.eq) = true then coefP f (f.co.drop (j + 1)) (D.set x.1.toNat (narM (D.getD x.1.toNat (0, 0)) x.2 (woM D x.1 f.co f.c) f.eq)) true else none := by
  obtain ⟨hj, hx'⟩ := List.getElem?_eq_some_iff.1 hx
  rw [List.drop_eq_getElem_cons hj, hx']
  show (if x.2 = 0 then _ else _) = _
  rw [if_neg h]
theorem roundP_step {l : List Con} {k : Nat} {f : Con} {E : List Iv} (hf : l[k]? = some f) : roundP (l.drop k) E = match conP f E with
    | none => none
    | some E' => roundP (l.drop (k + 1)) E' := by
  obtain ⟨hk, hf'⟩ := List.getElem?_eq_some_iff.1 hf
  rw [List.drop_eq_getElem_cons hk, hf']
  rfl

set_option maxHeartbeats 6400000 in
set_option maxRecDepth 100000 in
theorem prop_any (w : World) (B : Nat) (Al Ad : Option Addr) (l : List Con) (D : List Iv) (n cl m cd : Nat) (hn : l.length = n) (hm : D.length = m) (hL : ConsAt w B Al l) (hD : IvAt w B Ad D) (hA : Ad = none ∨ ∃ g off, Ad = some ⟨g, off, none⟩) (hB : B ≤ w.heap.size)
    (hG : ∀ f ∈ l, GoodL D f.co f.c) (hn6 : n ≤ 1000000) (hm6 : m ≤ 1000000) :
    Calls Try.prog 13 #[.slice Al n cl, .slice Ad m cd] w (PropPost w m (propP l D)) := by
  have H1 := Lib.hid (clone_arg w B Ad m cd D hm hD hA hm6)
  replace hn := Lib.hid hn
  replace hm := Lib.hid hm
  replace hL := Lib.hid hL
  obtain ⟨q, hq⟩ : ∃ q, propP l D = q := ⟨_, rfl⟩
  rw [hq]
  have hq0 := hq
  unfold propP at hq0
  clear hD hA
  go_enter Try.func13, Try.ntmps13
  go_wp2_with fail
  refine H1.out.mono ?_
  rintro e w1 ⟨v6, rfl, o6, k1⟩
  have HC := Lib.hid (contains_own w1 w.heap.size m v6 D hm.out o6 hm6)
  replace o6 := Lib.hid o6
  replace k1 := Lib.hid k1
  clear H1
  cases hany : (D.any fun x => !full x)
  · rw [hany] at HC hq0
    rw [if_neg (by simp)] at hq0
    have hGP : Hid (GoodP D l) := Lib.hid ⟨hG, fun d hd => by
      have := List.any_eq_false.1 hany d hd
      unfold full at this
      simpa using this⟩
    replace hq0 := Lib.hid hq0
    replace hq := Lib.hid hq
    replace hany := Lib.hid hany
    clear hG
    go_wp2_with fail
    refine HC.out.mono ?_
    rintro e w2 ⟨rfl, k2⟩
    have o2 := Lib.hid (own_keep0 o6.out k2)
    have K2 := Lib.hid (k1.out.trans k2)
    clear HC k2 o6 k1
    go_wp2_with fail
    go_loopw [18] (fun i wr => ∃ (r : Nat) (D' : List Iv), r ≤ 32 ∧ i = .int .i64 r ∧ Hid (GoodP D' l) ∧ Hid (D'.length = m) ∧ Hid (wr.ownsRow w.heap.size 39 2 v6 m (flat D')) ∧ Hid (Keeps [] w wr) ∧ Hid (roundsP l (32 - r) D' = q)) (fun i _ => 32 - (intOf i).toNat)
    case atStart => exact ⟨0, D, by omega, rfl, hGP, hm, o2, K2, hq0⟩
    case round =>
      obtain ⟨r, D', hr, rfl, hGr, hDl, or_, hkr, hqr⟩ := hrel
      clear hGP o2 K2 hq0
      obtain ⟨wr0, hwX⟩ : ∃ x, x = wr := ⟨_, rfl⟩
      subst hwX
      by_cases hr32 : r < 32
      · have hri : (r : Int) < 32 := by omega
        have HCl := Lib.hid (clone_own wr0 w.heap.size m v6 D' hDl.out or_.out hm6)
        go_wp2_with fail
        refine HCl.out.mono ?_
        rintro e w3 ⟨v7, rfl, o7, k3⟩
        have O6 := Lib.hid (own_keep0 or_.out k3)
        have K3 := Lib.hid (hkr.out.trans k3)
        obtain ⟨b7, hb7⟩ : ∃ b, b = wr0.heap.size := ⟨_, rfl⟩
        rw [← hb7] at o7
        have hlt6 : Hid (∀ g, v6.ownBlock = some g → g < b7) := Lib.hid (fun g hg => by rw [hb7]; obtain ⟨_, cur, h⟩ := own_blk or_.out hg; exact h.lt)
        have O7 := Lib.hid o7
        clear HCl o7 k3 hb7
        go_wp2_with fail
        go_loopw [24] (fun i wr => ∃ (k : Nat) (E : List Iv), k ≤ n ∧ i = .int .i64 k ∧ Hid (GoodP E l) ∧ Hid (E.length = m) ∧ Hid (wr.ownsRow w.heap.size 39 2 v6 m (flat E)) ∧ Hid (wr.ownsRow b7 39 2 v7 m (flat D')) ∧ Hid (Keeps [] w wr) ∧ Hid (roundP l D' = roundP (l.drop k) E)) (fun i _ => n - (intOf i).toNat)
        case atStart => exact ⟨0, D', Nat.zero_le _, rfl, hGr, hDl, O6, O7, K3, Lib.hid rfl⟩
        case round =>
          obtain ⟨k, E, hk, rfl, hGE, hEl, oE, oD, hkE, hrd⟩ := hrel
          clear O6 O7 K3
          obtain ⟨wc, hwX⟩ : ∃ x, x = wr := ⟨_, rfl⟩
          subst hwX
          by_cases hkn : k < n
          · obtain ⟨⟨fc, co, feq⟩, hf⟩ : ∃ f, l[k]? = some f := ⟨l[k]'(by rw [hn.out]; exact hkn), List.getElem?_eq_getElem _⟩
            have hfm := List.mem_of_getElem? hf
            obtain ⟨g0, off0, Ac, cc, rfl, _, f0, f1, f2, hco⟩ := (hL.out.keep hkE.out (by simp)) k _ hf
            dsimp only at f0 f1 f2 hco
            obtain ⟨nc, hnc⟩ : ∃ nc, co.length = nc := ⟨_, rfl⟩
            rw [hnc] at f1
            have hncb : nc ≤ 1000000 := by have := (hGE.out.lin _ hfm).few; dsimp only at this; omega
            have hki : (k : Int) < (n : Int) := by omega
            have ka : Keeps [] wc (wc.alloc (.cells #[.int .i64 fc, .slice Ac nc cc, .bool feq] 46)) := (Keeps.refl [] wc).alloc _
            have B9 := Lib.hid (Blk.new wc 46 #[.int .i64 fc, .slice Ac nc cc, .bool feq])
            have oEa := Lib.hid (own_keep0 oE.out ka)
            have oDa := Lib.hid (own_keep0 oD.out ka)
            have kEa := Lib.hid (hkE.out.trans ka)
            have hcoa := Lib.hid (hco.keep ka (by simp))
            have hstep := Lib.hid (roundP_step (E := E) hf)
            have h9 : Hid (∀ g, v6.ownBlock = some g → g < wc.heap.size) := Lib.hid (fun g hg => by obtain ⟨_, cur, h⟩ := own_blk oE.out hg; exact h.lt)
            have hwc : Hid (w.heap.size ≤ wc.heap.size) := Lib.hid hkE.out.size
            replace hf := Lib.hid hf
            replace hfm := Lib.hid hfm
            replace hnc := Lib.hid hnc
            clear ka hco
            go_wp2_with fail
            generalize wc.alloc (.cells #[.int .i64 fc, .slice Ac nc cc, .bool feq] 46) = w9 at *
            generalize wc.heap.size = g9 at *
            have hnc0 : 0 ≤ (nc : Int) := by omega
            clear f0 f1 f2
            go_loopw [32, 10] (fun i sm wr => ∃ (j : Nat) (E2 : List Iv) (s : Bool), j ≤ nc ∧ i = .int .i64 j ∧ sm = .bool s ∧ Hid (GoodP E2 l) ∧ Hid (E2.length = m) ∧ Hid (wr.ownsRow w.heap.size 39 2 v6 m (flat E2)) ∧ Hid (wr.ownsRow b7 39 2 v7 m (flat D')) ∧ Hid (Blk wr g9 46 #[.int .i64 fc, .slice Ac nc cc, .bool feq]) ∧ Hid (IvAt wr B Ac co) ∧ Hid (Keeps [] w wr) ∧ Hid (coefP ⟨fc, co, feq⟩ co E false = coefP ⟨fc, co, feq⟩ (co.drop j) E2 s)) (fun i _ _ => nc - (intOf i).toNat)
            case atStart => exact ⟨0, E, false, Nat.zero_le _, rfl, rfl, hGE, hEl, oEa, oDa, B9, hcoa, kEa, Lib.hid rfl⟩
            case round =>
              obtain ⟨j, E2, s, hj, rfl, rfl, hG2, hE2, o2, oD2, B92, hco2, hk2, hcf⟩ := hrel
              clear oEa oDa B9 hcoa kEa
              obtain ⟨wy, hwX⟩ : ∃ x, x = wr := ⟨_, rfl⟩
              subst hwX
              have z9 := B92.out.cell
              by_cases hjn : j < nc
              · obtain ⟨⟨V, N⟩, hx⟩ : ∃ x, co[j]? = some x := ⟨co[j]'(by rw [hnc.out]; exact hjn), List.getElem?_eq_getElem _⟩
                have hxm := List.mem_of_getElem? hx
                have hGL := hG2.out.lin _ hfm.out
                dsimp only at hGL
                obtain ⟨ga, oa, hAc, _, c0, c1⟩ := hco2.out j _ hx
                subst hAc
                obtain ⟨Vn, ⟨d1, d2⟩, hV, hdv, hdg, hb1, hb2⟩ := dom_get hGL hxm
                dsimp only at c0 c1 hV hb1 hb2 hdg
                subst hV
                have hji : (j : Int) < (nc : Int) := by omega
                have hVm : Vn < m := by have := (List.getElem?_eq_some_iff.1 hdv).1; rw [hE2.out] at this; exact this
                have hVi : (Vn : Int) < (m : Int) := by omega
                have hfac := hGL.fac _ hxm
                dsimp only at hfac
                have ka : Keeps [] wy (wy.alloc (.cells #[.int .i64 (Vn : Nat), .int .i64 N] 50)) := (Keeps.refl [] wy).alloc _
                have o2a := Lib.hid (own_keep0 o2.out ka)
                have oDa := Lib.hid (own_keep0 oD2.out ka)
                have B9a := Lib.hid (B92.out.keep ka (by simp))
                have hcoa := Lib.hid (hco2.out.keep ka (by simp))
                have kka := Lib.hid (hk2.out.trans ka)
                have B12 := Lib.hid (Blk.new wy 50 #[.int .i64 (Vn : Nat), .int .i64 N])
                have hg9 : Hid (g9 < wy.heap.size) := Lib.hid B92.out.lt
                by_cases hN : N = 0
                · subst hN
                  have hcf2 := Lib.hid (hcf.out.trans (coefP_skip (f := ⟨fc, co, feq⟩) hx rfl))
                  clear hcf hGL hb1 hb2 hdg hfac ka B12
                  replace hx := Lib.hid hx
                  replace hxm := Lib.hid hxm
                  replace hdv := Lib.hid hdv
                  go_wp2_with fail
                  go_roundw
                  case rel => exact ⟨j + 1, E2, s, by omega, by go_num, rfl, hG2, hE2, o2a, oDa, B9a, hcoa, kka, hcf2⟩
                  case measure => simp [intOf]; omega
                · have hNb : (N == 0) = false := by simpa using hN
                  have hcs := coefP_step (f := ⟨fc, co, feq⟩) (D := E2) (s := s) hx hN
                  dsimp only at hcs
                  rw [Int.toNat_natCast, show E2.getD Vn (0, 0) = (d1, d2) from hdg] at hcs
                  obtain ⟨gd, c6, tail, hv6, hgw, hBd0, hmc, hcm, htl⟩ := own_split o2a.out hE2.out (by omega)
                  subst hv6
                  have hgd9 : gd < g9 := h9.out gd rfl
                  have HWo := Lib.hid (without_any (wy.alloc (.cells #[.int .i64 (Vn : Nat), .int .i64 N] 50)).drew (wy.heap.size + 1) (some ⟨ga, oa, none⟩) (some ⟨gd, 0, none⟩) E2 co fc (Vn : Nat) nc cc m c6 hnc.out hE2.out (hcoa.out.mono (by have := hk2.out.size; omega)) ((IvAt.of_own o2a.out hE2.out).mono (by simp)) (by show wy.heap.size + 1 ≤ (wy.alloc _).heap.size; simp) hGL hm6)
                  have hwb := bd_all (v := ((Vn : Nat) : Int)) hGL
                  generalize woM E2 ((Vn : Nat) : Int) co fc = rr at *
                  obtain ⟨r1, r2⟩ := rr
                  dsimp only at hwb
                  have HNa := Lib.hid (fun w' : World => narrow_any w' d1 d2 N r1 r2 feq hN hwb.1 hwb.2 (by unfold B60; omega))
                  unfold NarPost at HWo HNa
                  have hni := narM_in (x := (d1, d2)) (r := (r1, r2)) (a := N) (eq := feq)
                  generalize narM (d1, d2) N (r1, r2) feq = yy at *
                  obtain ⟨y1, y2⟩ := yy
                  dsimp only at HWo HNa hcs hni
                  have hBd : Hid (Blk (wy.alloc (.cells #[.int .i64 (Vn : Nat), .int .i64 N] 50)).drew gd 39 (flat E2 ++ tail).toArray) := Lib.hid hBd0
                  have hfit : Hid (Vn * 2 + (cv (y1, y2)).length ≤ (flat E2 ++ tail).length) := Lib.hid (by rw [cv_len, htl]; omega)
                  have hdc := (IvAt.of_own o2a.out hE2.out) Vn _ hdv
                  obtain ⟨gd', off', he', _, e0, e1⟩ := hdc
                  simp only [Option.some.injEq, Addr.mk.injEq] at he'
                  obtain ⟨rfl, rfl, _⟩ := he'
                  rw [Nat.zero_add] at e0 e1
                  dsimp only at e0 e1
                  have hspl := Lib.hid (splice_flat E2 Vn (y1, y2) tail (by rw [hE2.out]; exact hVm))
                  have hset : Hid (E2[Vn]? = some (d1, d2)) := Lib.hid hdv
                  replace hni := Lib.hid hni
                  replace hcs := Lib.hid hcs
                  replace htl := Lib.hid htl
                  replace hN := Lib.hid hN
                  replace hgd9 := Lib.hid hgd9
                  replace hgw := Lib.hid hgw
                  have h12n : Hid (wy.heap.size ≠ gd ∧ g9 ≠ gd) := Lib.hid (by have := hgd9.out; have := hg9.out; omega)
                  replace hx := Lib.hid hx
                  replace hxm := Lib.hid hxm
                  clear hGL hb1 hb2 hdg hdv hfac ka hwb hBd0
                  have h0 := And.intro (And.intro (B12.out.drew.cell 0) (B12.out.drew.cell 1)) (And.intro (And.intro (B9a.out.drew.cell 0) (And.intro (B9a.out.drew.cell 1) (B9a.out.drew.cell 2))) (And.intro e0 e1 : (wy.alloc (.cells #[.int .i64 (Vn : Nat), .int .i64 N] 50)).drew.cell? ⟨gd, Vn * 2, none⟩ = some (.int .i64 d1) ∧ (wy.alloc (.cells #[.int .i64 (Vn : Nat), .int .i64 N] 50)).drew.cell? ⟨gd, Vn * 2 + 1, none⟩ = some (.int .i64 d2)))
                  simp only [List.getElem?_toArray, List.getElem?_cons_succ, List.getElem?_cons_zero] at h0
                  have o2d : Hid ((wy.alloc (.cells #[.int .i64 (Vn : Nat), .int .i64 N] 50)).drew.ownsRow w.heap.size 39 2 (.slice (some ⟨gd, 0, none⟩) m c6) m (flat E2)) := Lib.hid o2a.out
                  have oDd : Hid ((wy.alloc (.cells #[.int .i64 (Vn : Nat), .int .i64 N] 50)).drew.ownsRow b7 39 2 v7 m (flat D')) := Lib.hid oDa.out
                  have B9d := Lib.hid B9a.out.drew
                  have B12d := Lib.hid B12.out.drew
                  have hcod : Hid (IvAt (wy.alloc (.cells #[.int .i64 (Vn : Nat), .int .i64 N] 50)).drew B (some ⟨ga, oa, none⟩) co) := Lib.hid hcoa.out
                  have kkd := Lib.hid kka.out.drew
                  clear o2a oDa B9a B12 hcoa kka e0 e1
                  go_wp2_with fail
                  generalize wy.alloc (.cells #[.int .i64 (Vn : Nat), .int .i64 N] 50) = wv at *
                  generalize wy.heap.size = g12 at *
                  refine wp_region_I (S := (fun w' : World => (w'.cell? ⟨g12, 0, none⟩ = some (.int .i64 (Vn : Nat)) ∧ w'.cell? ⟨g12, 1, none⟩ = some (.int .i64 N)) ∧ (w'.cell? ⟨g9, 0, none⟩ = some (.int .i64 fc) ∧ w'.cell? ⟨g9, 1, none⟩ = some (.slice (some ⟨ga, oa, none⟩) nc cc) ∧ w'.cell? ⟨g9, 2, none⟩ = some (.bool feq)) ∧ (w'.cell? ⟨gd, Vn * 2, none⟩ = some (.int .i64 d1) ∧ w'.cell? ⟨gd, Vn * 2 + 1, none⟩ = some (.int .i64 d2)))) (n := 20) (by kernel_rfl) ?_
                  generalize wv.drew = wd at *
                  have HS := h0
                  clear h0
                  refine wpAnyI_take (i := 0) (v := ?_) (by kernel_rfl) rfl (by kernel_rfl) (by kernel_rfl) (by kernel_rfl) (fun _ _ _ h => h) HS (Or.inl ⟨by rfl, ?_⟩) ?_
                  rotate_left
                  · (intro w hSw; obtain ⟨⟨s1, s2⟩, ⟨s3, s4, s5⟩, ⟨s6, s7⟩⟩ := hSw; go_simp; try with_reducible rfl)
                  try simp only [Act.put, List.getElem_toArray, List.getElem_cons_succ, List.getElem_cons_zero, List.setIfInBounds_toArray, List.set_cons_zero, List.set_cons_succ]
                  refine wpAnyI_take (i := 1) (v := ?_) (by kernel_rfl) rfl (by kernel_rfl) (by kernel_rfl) (by kernel_rfl) (fun _ _ _ h => h) HS (Or.inl ⟨by rfl, ?_⟩) ?_
                  rotate_left
                  · (intro w hSw; obtain ⟨⟨s1, s2⟩, ⟨s3, s4, s5⟩, ⟨s6, s7⟩⟩ := hSw; go_simp; try with_reducible rfl)
                  try simp only [Act.put, List.getElem_toArray, List.getElem_cons_succ, List.getElem_cons_zero, List.setIfInBounds_toArray, List.set_cons_zero, List.set_cons_succ]
                  refine wpAnyI_take (i := 2) (v := ?_) (by kernel_rfl) rfl (by kernel_rfl) (by kernel_rfl) (by kernel_rfl) (fun _ _ _ h => h) HS (Or.inl ⟨by rfl, ?_⟩) ?_
                  rotate_left
                  · (intro w hSw; obtain ⟨⟨s1, s2⟩, ⟨s3, s4, s5⟩, ⟨s6, s7⟩⟩ := hSw; go_simp; try with_reducible rfl)
                  try simp only [Act.put, List.getElem_toArray, List.getElem_cons_succ, List.getElem_cons_zero, List.setIfInBounds_toArray, List.set_cons_zero, List.set_cons_succ]
                  refine wpAnyI_take (i := 3) (v := ?_) (by kernel_rfl) rfl (by kernel_rfl) (by kernel_rfl) (by kernel_rfl) (fun _ _ _ h => h) HS (Or.inl ⟨by rfl, ?_⟩) ?_
                  rotate_left
                  · (intro w hSw; obtain ⟨⟨s1, s2⟩, ⟨s3, s4, s5⟩, ⟨s6, s7⟩⟩ := hSw; go_simp; try with_reducible rfl)
                  try simp only [Act.put, List.getElem_toArray, List.getElem_cons_succ, List.getElem_cons_zero, List.setIfInBounds_toArray, List.set_cons_zero, List.set_cons_succ]
                  refine wpAnyI_take (i := 4) (v := ?_) (by kernel_rfl) rfl (by kernel_rfl) (by kernel_rfl) (by kernel_rfl) (fun _ _ _ h => h) HS (Or.inl ⟨by rfl, ?_⟩) ?_
                  rotate_left
                  · (intro w hSw; obtain ⟨⟨s1, s2⟩, ⟨s3, s4, s5⟩, ⟨s6, s7⟩⟩ := hSw; go_simp; try with_reducible rfl)
                  try simp only [Act.put, List.getElem_toArray, List.getElem_cons_succ, List.getElem_cons_zero, List.setIfInBounds_toArray, List.set_cons_zero, List.set_cons_succ]
                  refine wpAnyI_take (i := 5) (v := ?_) (by kernel_rfl) rfl (by kernel_rfl) (by kernel_rfl) (by kernel_rfl) (fun _ _ _ h => h) HS (Or.inl ⟨by rfl, ?_⟩) ?_
                  rotate_left
                  · (intro w hSw; obtain ⟨⟨s1, s2⟩, ⟨s3, s4, s5⟩, ⟨s6, s7⟩⟩ := hSw; go_simp; try with_reducible rfl)
                  try simp only [Act.put, List.getElem_toArray, List.getElem_cons_succ, List.getElem_cons_zero, List.setIfInBounds_toArray, List.set_cons_zero, List.set_cons_succ]
                  refine wpAnyI_take (i := 6) (v := ?_) (by kernel_rfl) rfl (by kernel_rfl) (by kernel_rfl) (by kernel_rfl) (fun _ _ _ h => h) HS (Or.inl ⟨by rfl, ?_⟩) ?_
                  rotate_left
                  · (intro w hSw; obtain ⟨⟨s1, s2⟩, ⟨s3, s4, s5⟩, ⟨s6, s7⟩⟩ := hSw; go_simp; try with_reducible rfl)
                  try simp only [Act.put, List.getElem_toArray, List.getElem_cons_succ, List.getElem_cons_zero, List.setIfInBounds_toArray, List.set_cons_zero, List.set_cons_succ]
                  refine wpAnyI_take (i := 7) (v := ?_) (by kernel_rfl) rfl (by kernel_rfl) (by kernel_rfl) (by kernel_rfl) (fun _ _ _ h => h) HS (Or.inl ⟨by rfl, ?_⟩) ?_
                  rotate_left
                  · (intro w hSw; obtain ⟨⟨s1, s2⟩, ⟨s3, s4, s5⟩, ⟨s6, s7⟩⟩ := hSw; go_simp; try with_reducible rfl)
                  try simp only [Act.put, List.getElem_toArray, List.getElem_cons_succ, List.getElem_cons_zero, List.setIfInBounds_toArray, List.set_cons_zero, List.set_cons_succ]
                  refine wpAnyI_take (i := 8) (v := ?_) (by kernel_rfl) rfl (by kernel_rfl) (by kernel_rfl) (by kernel_rfl) (fun _ _ _ h => h) HS (Or.inl ⟨by rfl, ?_⟩) ?_
                  rotate_left
                  · (intro w hSw; obtain ⟨⟨s1, s2⟩, ⟨s3, s4, s5⟩, ⟨s6, s7⟩⟩ := hSw; go_simp; try with_reducible rfl)
                  try simp only [Act.put, List.getElem_toArray, List.getElem_cons_succ, List.getElem_cons_zero, List.setIfInBounds_toArray, List.set_cons_zero, List.set_cons_succ]
                  refine wpAnyI_take (i := 9) (v := ?_) (by kernel_rfl) rfl (by kernel_rfl) (by kernel_rfl) (by kernel_rfl) (fun _ _ _ h => h) HS (Or.inl ⟨by rfl, ?_⟩) ?_
                  rotate_left
                  · (intro w hSw; obtain ⟨⟨s1, s2⟩, ⟨s3, s4, s5⟩, ⟨s6, s7⟩⟩ := hSw; go_simp; try with_reducible rfl)
                  try simp only [Act.put, List.getElem_toArray, List.getElem_cons_succ, List.getElem_cons_zero, List.setIfInBounds_toArray, List.set_cons_zero, List.set_cons_succ]
                  refine wpAnyI_take (i := 10) (v := ?_) (by kernel_rfl) rfl (by kernel_rfl) (by kernel_rfl) (by kernel_rfl) (fun _ _ _ h => h) HS (Or.inl ⟨by rfl, ?_⟩) ?_
                  rotate_left
                  · (intro w hSw; obtain ⟨⟨s1, s2⟩, ⟨s3, s4, s5⟩, ⟨s6, s7⟩⟩ := hSw; go_simp; try with_reducible rfl)
                  try simp only [Act.put, List.getElem_toArray, List.getElem_cons_succ, List.getElem_cons_zero, List.setIfInBounds_toArray, List.set_cons_zero, List.set_cons_succ]
                  refine wpAnyI_take (i := 11) (v := ?_) (by kernel_rfl) rfl (by kernel_rfl) (by kernel_rfl) (by kernel_rfl) (fun _ _ _ h => h) HS (Or.inl ⟨by rfl, ?_⟩) ?_
                  rotate_left
                  · (intro w hSw; obtain ⟨⟨s1, s2⟩, ⟨s3, s4, s5⟩, ⟨s6, s7⟩⟩ := hSw; go_simp; try with_reducible rfl)
                  try simp only [Act.put, List.getElem_toArray, List.getElem_cons_succ, List.getElem_cons_zero, List.setIfInBounds_toArray, List.set_cons_zero, List.set_cons_succ]
                  refine wpAnyI_take (i := 12) (v := ?_) (by kernel_rfl) rfl (by kernel_rfl) (by kernel_rfl) (by kernel_rfl) (fun _ _ _ h => h) HS (Or.inl ⟨by rfl, ?_⟩) ?_
                  rotate_left
                  · (intro w hSw; obtain ⟨⟨s1, s2⟩, ⟨s3, s4, s5⟩, ⟨s6, s7⟩⟩ := hSw; go_simp; try with_reducible rfl)
                  try simp only [Act.put, List.getElem_toArray, List.getElem_cons_succ, List.getElem_cons_zero, List.setIfInBounds_toArray, List.set_cons_zero, List.set_cons_succ]
                  refine wpAnyI_take (i := 13) (v := ?_) (by kernel_rfl) rfl (by kernel_rfl) (by kernel_rfl) (by kernel_rfl) (fun _ _ _ h => h) HS (Or.inl ⟨by rfl, ?_⟩) ?_
                  rotate_left
                  · (intro w hSw; obtain ⟨⟨s1, s2⟩, ⟨s3, s4, s5⟩, ⟨s6, s7⟩⟩ := hSw; go_simp; try with_reducible rfl)
                  try simp only [Act.put, List.getElem_toArray, List.getElem_cons_succ, List.getElem_cons_zero, List.setIfInBounds_toArray, List.set_cons_zero, List.set_cons_succ]
                  refine wpAnyI_take (i := 14) (v := ?_) (by kernel_rfl) rfl (by kernel_rfl) (by kernel_rfl) (by kernel_rfl) (fun _ _ _ h => h) HS (Or.inl ⟨by rfl, ?_⟩) ?_
                  rotate_left
                  · (intro w hSw; obtain ⟨⟨s1, s2⟩, ⟨s3, s4, s5⟩, ⟨s6, s7⟩⟩ := hSw; go_simp; try with_reducible rfl)
                  try simp only [Act.put, List.getElem_toArray, List.getElem_cons_succ, List.getElem_cons_zero, List.setIfInBounds_toArray, List.set_cons_zero, List.set_cons_succ]
                  refine wpAnyI_take (i := 16) (v := ?_) (by kernel_rfl) rfl (by kernel_rfl) (by kernel_rfl) (by kernel_rfl) (fun _ _ _ h => h) HS (Or.inl ⟨by rfl, ?_⟩) ?_
                  rotate_left
                  · (intro w hSw; obtain ⟨⟨s1, s2⟩, ⟨s3, s4, s5⟩, ⟨s6, s7⟩⟩ := hSw; go_simp; try with_reducible rfl)
                  try simp only [Act.put, List.getElem_toArray, List.getElem_cons_succ, List.getElem_cons_zero, List.setIfInBounds_toArray, List.set_cons_zero, List.set_cons_succ]
                  refine wpAnyI_take (i := 17) (v := ?_) (by kernel_rfl) rfl (by kernel_rfl) (by kernel_rfl) (by kernel_rfl) (fun _ _ _ h => h) HS (Or.inl ⟨by rfl, ?_⟩) ?_
                  rotate_left
                  · (intro w hSw; obtain ⟨⟨s1, s2⟩, ⟨s3, s4, s5⟩, ⟨s6, s7⟩⟩ := hSw; go_simp; try with_reducible rfl)
                  try simp only [Act.put, List.getElem_toArray, List.getElem_cons_succ, List.getElem_cons_zero, List.setIfInBounds_toArray, List.set_cons_zero, List.set_cons_succ]
                  refine wpAnyI_one (i := 15) rfl (by kernel_rfl) (fun K hK => ?_)
                  dsimp only [List.getElem_toArray, List.getElem_cons_succ, List.getElem_cons_zero]
                  go_simp
                  refine HWo.out.mono ?_
                  rintro e w4 ⟨rfl, k4⟩
                  have HS := And.intro (And.intro (k4.cellEq HS.1.1 (by simp)) (k4.cellEq HS.1.2 (by simp))) (And.intro (And.intro (k4.cellEq HS.2.1.1 (by simp)) (And.intro (k4.cellEq HS.2.1.2.1 (by simp)) (k4.cellEq HS.2.1.2.2 (by simp)))) (And.intro (k4.cellEq HS.2.2.1 (by simp)) (k4.cellEq HS.2.2.2 (by simp))))
                  replace k4 := Lib.hid k4
                  refine hK _ _ (Or.inr HS) ?_
                  clear hK K
                  try simp only [Act.put, List.getElem_toArray, List.getElem_cons_succ, List.getElem_cons_zero, List.setIfInBounds_toArray, List.set_cons_zero, List.set_cons_succ]
                  refine wpAnyI_one (i := 18) rfl (by kernel_rfl) (fun K hK => ?_)
                  dsimp only [List.getElem_toArray, List.getElem_cons_succ, List.getElem_cons_zero]
                  go_simp
                  refine (HNa.out w4).mono ?_
                  rintro e w5 ⟨rfl, k5⟩
                  have HS := And.intro (And.intro (k5.cellEq HS.1.1 (by simp)) (k5.cellEq HS.1.2 (by simp))) (And.intro (And.intro (k5.cellEq HS.2.1.1 (by simp)) (And.intro (k5.cellEq HS.2.1.2.1 (by simp)) (k5.cellEq HS.2.1.2.2 (by simp)))) (And.intro (k5.cellEq HS.2.2.1 (by simp)) (k5.cellEq HS.2.2.2 (by simp))))
                  have k45 := Lib.hid (k4.out.trans k5)
                  have hBd5 := Lib.hid (hBd.out.keep k45.out (by simp))
                  refine hK _ _ (Or.inr HS) ?_
                  clear hK K k5
                  try simp only [Act.put, List.getElem_toArray, List.getElem_cons_succ, List.getElem_cons_zero, List.setIfInBounds_toArray, List.set_cons_zero, List.set_cons_succ]
                  refine wpAnyI_one (i := 19) rfl (by kernel_rfl) (fun K hK => ?_)
                  dsimp only [List.getElem_toArray, List.getElem_cons_succ, List.getElem_cons_zero]
                  go_simp
                  refine hK _ _ (Or.inr HS) ?_
                  clear hK K
                  try simp only [Act.put, List.getElem_toArray, List.getElem_cons_succ, List.getElem_cons_zero, List.setIfInBounds_toArray, List.set_cons_zero, List.set_cons_succ]
                  refine wpAnyI_one (i := 20) rfl (by kernel_rfl) (fun K hK => ?_)
                  dsimp only [List.getElem_toArray, List.getElem_cons_succ, List.getElem_cons_zero]
                  rw [if_pos (by rfl)]
                  refine wp_store_mid 39 (.tmp 58) (.tmp 57) (by rfl) gd (Vn * 2) (by rfl) 39 (flat E2 ++ tail) (cv (y1, y2)) (by rfl) hBd5.out (by kernel_rfl) hfit.out (cv_one _) ?_
                  intro w6 m6 k6
                  refine hK _ _ (Or.inl rfl) ?_
                  clear hK K
                  try simp only [Act.put, List.getElem_toArray, List.getElem_cons_succ, List.getElem_cons_zero, List.setIfInBounds_toArray, List.set_cons_zero, List.set_cons_succ]
                  refine wpAnyI_done (by kernel_rfl) ?_ _
                  have hB6 : Hid (Blk w6 gd 39 (flat (E2.set Vn (y1, y2)) ++ tail).toArray) := Lib.hid (by have := m6.out; rw [hspl.out] at this; exact this)
                  have k56 := Lib.hid (k45.out.nil.trans k6)
                  have o6' := Lib.hid (own_join hgw.out hB6.out hmc hcm (by have := htl.out; rw [List.length_append, flat_len] at this ⊢; rw [List.length_set]; exact this) (by rw [List.length_set]; exact hE2.out))
                  have oD6 := Lib.hid (own_keep oDd.out k56.out (fun g hg hx => by have h1 := (own_blk oDd.out hg).1; have h2 := hlt6.out gd rfl; simp at hx; omega))
                  have B96 := Lib.hid (B9d.out.keep k56.out (by simp; exact h12n.out.2))
                  have B126 := Lib.hid (B12d.out.keep k56.out (by simp; exact h12n.out.1))
                  have hco6 := Lib.hid (hcod.out.keep k56.out (by simp; have := hgw.out; omega))
                  have kk6 : Hid (Keeps [] w w6) := Lib.hid ((kkd.out.nil.trans k56.out).mono (fun x hx => .inr (by simp at hx; have := hgw.out; omega)))
                  have HE := Lib.hid (empty_any w6 y1 y2)
                  have hyc := (IvAt.of_own o6'.out (by rw [List.length_set]; exact hE2.out)) Vn (y1, y2) (by rw [List.getElem?_set_self (by rw [hE2.out]; exact hVm)])
                  obtain ⟨gd', off', he', _, e0, e1⟩ := hyc
                  simp only [Option.some.injEq, Addr.mk.injEq] at he'
                  obtain ⟨rfl, rfl, _⟩ := he'
                  rw [Nat.zero_add] at e0 e1
                  dsimp only at e0 e1
                  have v12 := B126.out.cell
                  clear z9 m6 k6 k45 k4 hBd hBd5 HWo HNa o2d oDd B9d B12d hcod kkd HS c0 c1
                  by_cases hfu : y2 < y1
                  · have hd := decide_eq_true hfu
                    have hqn : Hid (q = none) := Lib.hid (by
                      have h1 := hcs.out
                      rw [if_neg (by unfold full; simp; omega)] at h1
                      have h2 := hcf.out.trans h1
                      have h3 := hstep.out
                      unfold conP at h3
                      dsimp only at h3
                      rw [h2] at h3
                      have h4 := hrd.out.trans h3
                      rw [← hqr.out, show 32 - r = (31 - r) + 1 by omega]
                      show (match roundP l D' with | none => none | some D'' => _) = none
                      rw [h4])
                    go_wp2_with fail
                    refine HE.out.mono ?_
                    rintro e w7 ⟨rfl, k7⟩
                    have kk7 := Lib.hid (kk6.out.trans k7)
                    clear HE k7 e0 e1 v12
                    go_wp2_with fail
                    exact bodyPost_ret (v := .tuple #[.slice none 0 0, .bool false]) (by simp [results, Try.results13, go_sem]) rfl (.inl ⟨hqn.out, rfl, kk7.out⟩)
                  · have hd := decide_eq_false hfu
                    have hcf2 : Hid (coefP ⟨fc, co, feq⟩ co E false = coefP ⟨fc, co, feq⟩ (co.drop (j + 1)) (E2.set Vn (y1, y2)) true) := Lib.hid (by
                      have h1 := hcs.out
                      rw [if_pos (by unfold full; simp; omega)] at h1
                      exact hcf.out.trans h1)
                    have hG6 : Hid (GoodP (E2.set Vn (y1, y2)) l) := Lib.hid (goodP_set hG2.out hset.out hni.out.1 hni.out.2 (by show y1 ≤ y2; omega))
                    have hE6 : Hid ((E2.set Vn (y1, y2)).length = m) := Lib.hid (by rw [List.length_set]; exact hE2.out)
                    go_wp2_with fail
                    refine HE.out.mono ?_
                    rintro e w7 ⟨rfl, k7⟩
                    have kk7 := Lib.hid (kk6.out.trans k7)
                    have o7 := Lib.hid (own_keep0 o6'.out k7)
                    have oD7 := Lib.hid (own_keep0 oD6.out k7)
                    have B97 := Lib.hid (B96.out.keep k7 (by simp))
                    have hco7 := Lib.hid (hco6.out.keep k7 (by simp))
                    clear HE k7 e0 e1 v12
                    go_wp2_with fail
                    go_roundw
                    case rel => exact ⟨j + 1, E2.set Vn (y1, y2), true, by omega, by go_num, rfl, hG6, hE6, o7, oD7, B97, hco7, kk7, hcf2⟩
                    case measure => simp [intOf]; omega
              · obtain rfl : j = nc := by omega
                have hcf2 : coefP ⟨fc, co, feq⟩ co E false = some (E2, s) := by rw [hcf.out, List.drop_of_length_le (by rw [hnc.out]; exact Nat.le_refl _)]; rfl
                have hjf : ¬ (j : Int) < (j : Int) := by omega
                have hcon : conP ⟨fc, co, feq⟩ E = if (!s && lost ⟨fc, co, feq⟩) = true then none else some E2 := by
                  unfold conP
                  dsimp only
                  rw [hcf2]
                have hbad : Hid ((!s && lost ⟨fc, co, feq⟩) = true → q = none) := Lib.hid (fun hl => by
                  have h3 := hstep.out
                  rw [hcon, if_pos hl] at h3
                  have h4 := hrd.out.trans h3
                  rw [← hqr.out, show 32 - r = (31 - r) + 1 by omega]
                  show (match roundP l D' with | none => none | some D'' => _) = none
                  rw [h4])
                have hok : Hid ((!s && lost ⟨fc, co, feq⟩) = false → roundP l D' = roundP (l.drop (k + 1)) E2) := Lib.hid (fun hl => by
                  have h3 := hstep.out
                  rw [hcon, if_neg (by rw [hl]; simp)] at h3
                  exact hrd.out.trans h3)
                clear hcf hcf2 hcon hco2
                cases hs : s
                · subst hs
                  by_cases h0 : 0 < fc
                  · have hd0 : decide (0 < fc) = true := decide_eq_true h0
                    have hqn := Lib.hid (hbad.out (by simp [lost, h0]))
                    clear hbad hok
                    go_wp2_with fail
                    exact bodyPost_ret (v := .tuple #[.slice none 0 0, .bool false]) (by simp [results, Try.results13, go_sem]) rfl (.inl ⟨hqn.out, rfl, hk2.out⟩)
                  · have hd0 : decide (0 < fc) = false := decide_eq_false h0
                    cases feq
                    · have hn2 := Lib.hid (hok.out (by simp [lost, h0]))
                      clear hbad hok
                      go_wp2_with fail
                      go_roundw
                      case rel => exact ⟨k + 1, E2, by omega, by go_num, hG2, hE2, o2, oD2, hk2, hn2⟩
                      case measure => simp [intOf]; omega
                    · by_cases h1 : fc = 0
                      · subst h1
                        have hn2 := Lib.hid (hok.out (by simp [lost]))
                        clear hbad hok
                        go_wp2_with fail
                        go_roundw
                        case rel => exact ⟨k + 1, E2, by omega, by go_num, hG2, hE2, o2, oD2, hk2, hn2⟩
                        case measure => simp [intOf]; omega
                      · have h1b : (fc != 0) = true := by simpa using h1
                        have hqn := Lib.hid (hbad.out (by simp [lost, h0, h1]))
                        clear hbad hok
                        go_wp2_with fail
                        exact bodyPost_ret (v := .tuple #[.slice none 0 0, .bool false]) (by simp [results, Try.results13, go_sem]) rfl (.inl ⟨hqn.out, rfl, hk2.out⟩)
                · subst hs
                  have hn2 := Lib.hid (hok.out (by simp))
                  clear hbad hok
                  go_wp2_with fail
                  go_roundw
                  case rel => exact ⟨k + 1, E2, by omega, by go_num, hG2, hE2, o2, oD2, hk2, hn2⟩
                  case measure => simp [intOf]; omega
          · obtain rfl : k = n := by omega
            have hrd2 : roundP l D' = some E := by rw [hrd.out, List.drop_of_length_le (by rw [hn.out]; exact Nat.le_refl _)]; rfl
            have hq2 : q = if D' = E then some E else roundsP l (31 - r) E := by
              rw [← hqr.out, show 32 - r = (31 - r) + 1 by omega]
              show (match roundP l D' with | none => none | some D'' => _) = _
              rw [hrd2]
            have hkf : ¬ (k : Int) < (k : Int) := by omega
            have HQ := Lib.hid (equal_own wc b7 w.heap.size m v7 v6 D' E hDl.out hEl.out oD.out oE.out hm6)
            clear hrd hrd2
            by_cases heq : D' = E
            · have hdq : decide (D' = E) = true := decide_eq_true heq
              rw [if_pos heq] at hq2
              rw [hdq] at HQ
              replace hq2 := Lib.hid hq2
              replace heq := Lib.hid heq
              clear hdq
              go_wp2_with fail
              refine HQ.out.mono ?_
              rintro e w7 ⟨rfl, k7⟩
              have kk7 := Lib.hid (hkE.out.trans k7)
              have o7 := Lib.hid (own_keep0 oE.out k7)
              clear HQ k7
              go_wp2_with fail
              exact bodyPost_ret (v := .tuple #[v6, .bool true]) (by simp [results, Try.results13, go_sem]) rfl (.inr ⟨E, v6, hq2.out, hEl.out, rfl, o7.out, kk7.out⟩)
            · have hdq : decide (D' = E) = false := decide_eq_false heq
              rw [if_neg heq] at hq2
              rw [hdq] at HQ
              replace hq2 := Lib.hid hq2.symm
              replace heq := Lib.hid heq
              clear hdq
              go_wp2_with fail
              refine HQ.out.mono ?_
              rintro e w7 ⟨rfl, k7⟩
              have kk7 := Lib.hid (hkE.out.trans k7)
              have o7 := Lib.hid (own_keep0 oE.out k7)
              clear HQ k7
              go_wp2_with fail
              go_roundw
              case rel => exact ⟨r + 1, E, by omega, by go_num, hGE, hEl, o7, kk7, Lib.hid (by rw [show 32 - (r + 1) = 31 - r by omega]; exact hq2.out)⟩
              case measure => simp [intOf]; omega
      · obtain rfl : r = 32 := by omega
        have hq2 : Hid (q = some D') := Lib.hid hqr.out.symm
        have hrf : ¬ ((32 : Nat) : Int) < 32 := by omega
        go_wp2_with fail
        exact bodyPost_ret (v := .tuple #[v6, .bool true]) (by simp [results, Try.results13, go_sem]) rfl (.inr ⟨D', v6, hq2.out, hDl.out, rfl, or_.out, hkr.out⟩)
  · rw [hany] at HC hq0
    rw [if_pos rfl] at hq0
    replace hq0 := Lib.hid hq0
    replace hq := Lib.hid hq
    replace hany := Lib.hid hany
    clear hG
    go_wp2_with fail
    refine HC.out.mono ?_
    rintro e w2 ⟨rfl, k2⟩
    have K2 := Lib.hid (k1.out.trans k2)
    clear HC k2 o6 k1
    go_wp2_with fail
    exact bodyPost_ret (v := .tuple #[.slice none 0 0, .bool false]) (by simp [results, Try.results13, go_sem]) rfl (.inl ⟨hq0.out.symm, rfl, K2.out⟩)
end Go.Proofs.Ythmnolpamllabaa
