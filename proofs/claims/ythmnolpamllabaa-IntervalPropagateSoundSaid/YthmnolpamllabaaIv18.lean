/- The contract of the reference's Propagate. -/
import Derived.Test.YthmnolpamllabaaIvR
import Derived.Test.YthmnolpamllabaaIvSets
import Derived.Deep.DeepCutAuto
namespace Go.Proofs.Ythmnolpamllabaa
open Go.RowKit Go.Lib
set_option linter.unusedSimpArgs false
set_option linter.unusedVariables false

def RPropPost (w : World) (m : Nat) (r : Option (List Iv)) (e : Ending) (w' : World) : Prop :=
  (r = none ∧ e = .returned (.tuple #[.slice none 0 0, .bool false]) ∧ Keeps [] w w') ∨
  (∃ D' A c, r = some D' ∧ D'.length = m ∧ e = .returned (.tuple #[.slice A m c, .bool true]) ∧ w'.ownsRow w.heap.size 38 2 (.slice A m c) m (flat D') ∧ Keeps [] w w')

set_option maxHeartbeats 25600000 in
set_option maxRecDepth 100000 in
theorem rprop_any (w : World) (B : Nat) (Al Ad : Option Addr) (l : List Con) (D : List Iv) (n cl m cd : Nat) (hn : l.length = n) (hm : D.length = m) (hL : ConsAt2 w B Al l) (hD : IvAt w B Ad D) (hB : B ≤ w.heap.size) (hA : GoodA D l) (hn6 : n ≤ 1000000) :
    Calls Try.prog 15 #[.slice Al n cl, .slice Ad m cd] w (RPropPost w m (propP l D)) := by
  have hm6 : m ≤ 64 := by have := hA.few; omega
  obtain ⟨i3, hi, hz0, hz1, hz2⟩ := info_parts info38
  obtain ⟨i5, hi5, hy0, hy1, hy2⟩ := info_parts info50
  have hsrc := src_iv (hD.keep ((Keeps.refl [] w).alloc (.cells #[] 38)) (by simp))
  rw [hm] at hsrc
  replace hsrc := Lib.hid hsrc
  have hfl : Hid ((flat D).length = m * 2) := Lib.hid (by rw [flat_len, hm])
  have hv := Lib.hid (own_void w 38)
  have hbs : w.heap.size ≤ (w.alloc (.cells #[] 38)).heap.size := (Keeps.alloc (Keeps.refl [] w) _).size
  have hasc : Hid (∀ f ∈ l, AscV f.co) := Lib.hid (fun f hf => (hA.con f hf).asc)
  have hlin := Lib.hid hA.lin
  replace hi := Lib.hid hi
  replace hz0 := Lib.hid hz0
  replace hz1 := Lib.hid hz1
  replace hz2 := Lib.hid hz2
  replace hi5 := Lib.hid hi5
  replace hy0 := Lib.hid hy0
  replace hy1 := Lib.hid hy1
  replace hy2 := Lib.hid hy2
  replace hn := Lib.hid hn
  replace hm := Lib.hid hm
  replace hL := Lib.hid hL
  obtain ⟨q, hq⟩ : ∃ q, propP l D = q := ⟨_, rfl⟩
  rw [hq]
  replace hq := Lib.hid hq
  clear hD hA
  go_enter Try.func15, Try.ntmps15
  go_wp2_with (at_builtin; refine wpList_append_row (by rfl) (.tmp 19) (.tmp 20) 23 rfl w.heap.size 38 i3 (.agg #[.int .i64 0, .int .i64 0]) 2 16 Try.underlying23 hi.out hz0.out hz1.out hz2.out rfl (by decide) _ 0 [] rfl hv.out Ad m cd (flat D) rfl hfl.out hsrc.out (flat_one D) (by unfold maxLen; omega) (by omega) hbs ?_; intro v6 w1 q1 q2 q3 q4)
  have K1 := Lib.hid (keeps_append ((Keeps.refl [] w).alloc _) (Keeps.refl [] _) hv.out q2.out)
  have o6 : Hid (w1.ownsRow w.heap.size 38 2 v6 m (flat D)) := Lib.hid (by have := q1.out; rw [List.nil_append, Nat.zero_add] at this; exact this)
  clear q1 q2 q3 q4 hsrc hv hbs
  obtain ⟨A6, c6, rfl, _⟩ := own_slice o6.out
  go_loopw [7] (fun i wr => ∃ k : Nat, k ≤ m ∧ i = .int .i64 k ∧ Hid ((D.take k).any (fun x => !full x) = false) ∧ Hid (wr.ownsRow w.heap.size 38 2 (.slice A6 m c6) m (flat D)) ∧ Hid (Keeps [] w wr)) (fun i _ => m - (intOf i).toNat)
  case atStart => exact ⟨0, Nat.zero_le _, rfl, Lib.hid rfl, o6, K1⟩
  case round =>
    obtain ⟨k, hk, rfl, hno, or_, hkr⟩ := hrel
    clear o6 K1
    obtain ⟨wo, hwX⟩ : ∃ x, x = wr := ⟨_, rfl⟩
    subst hwX
    by_cases hlt : k < m
    · obtain ⟨⟨d1, d2⟩, hx⟩ : ∃ x, D[k]? = some x := ⟨D[k]'(by rw [hm.out]; exact hlt), List.getElem?_eq_getElem _⟩
      obtain ⟨g', off', hA', _, e0, e1⟩ := (IvAt.of_own or_.out hm.out) k _ hx
      dsimp only at e0 e1
      subst hA'
      have hki : (k : Int) < (m : Int) := by omega
      by_cases hf : d1 > d2
      · have hqn : Hid (q = none) := Lib.hid (by
          rw [← hq.out]
          unfold propP
          rw [if_pos (List.any_eq_true.2 ⟨_, List.mem_of_getElem? hx, by unfold full; simp; omega⟩)])
        replace hx := Lib.hid hx
        go_wp2_with fail
        go_quiet (fail)
        go_wp2_with fail
        exact bodyPost_ret (v := .tuple #[.slice none 0 0, .bool false]) (by simp [results, Try.results15, go_sem]) rfl (.inl ⟨hqn.out, rfl, hkr.out.drewN _⟩)
      · have hst : Hid ((D.take (k + 1)).any (fun x => !full x) = false) := Lib.hid (by
          rw [List.take_add_one, hx, List.any_append, hno.out]
          unfold full
          simp
          omega)
        replace hx := Lib.hid hx
        go_wp2_with fail
        go_quiet (fail)
        go_wp2_with fail
        go_roundw
        case rel => exact ⟨k + 1, by omega, by go_num, hst, Lib.hid (own_keep0 or_.out ((Keeps.refl [] _).drewN _)), Lib.hid (hkr.out.drewN _)⟩
        case measure => simp [intOf]; omega
    · obtain rfl : k = m := by omega
      have hkf : ¬ (k : Int) < (k : Int) := by omega
      have hany := hno.out
      rw [List.take_of_length_le (by rw [hm.out]; exact Nat.le_refl _)] at hany
      have hGP : Hid (GoodP D l) := Lib.hid ⟨hlin.out, fun d hd => by
        have := List.any_eq_false.1 hany d hd
        unfold full at this
        simpa using this⟩
      have hq0 : Hid (roundsP l 32 D = q) := Lib.hid (by
        rw [← hq.out]
        unfold propP
        rw [if_neg (by rw [hany]; simp)])
      clear hany hno
      go_wp2_with fail
      go_loopw [8] (fun i wr => ∃ (r : Nat) (D' : List Iv), r ≤ 32 ∧ i = .int .i64 r ∧ Hid (GoodP D' l) ∧ Hid (D'.length = k) ∧ Hid (wr.ownsRow w.heap.size 38 2 (.slice A6 k c6) k (flat D')) ∧ Hid (Keeps [] w wr) ∧ Hid (roundsP l (32 - r) D' = q)) (fun i _ => 32 - (intOf i).toNat)
      case atStart => exact ⟨0, D, by omega, rfl, hGP, hm, or_, hkr, hq0⟩
      case round =>
        obtain ⟨r, D', hr, rfl, hGr, hDl, oD, hkD, hqr⟩ := hrel
        clear hGP or_ hkr hq0
        obtain ⟨wr0, hwX⟩ : ∃ x, x = wr := ⟨_, rfl⟩
        subst hwX
        by_cases hr32 : r < 32
        · have hri : (r : Int) < 32 := by omega
          go_wp2_with fail
          go_loopw [10, 9] (fun i cv wr => ∃ (s : Nat) (E : List Iv) (ch : Bool), s ≤ n ∧ i = .int .i64 s ∧ cv = .bool ch ∧ Hid (GoodP E l) ∧ Hid (E.length = k) ∧ Hid (Turned D' E ch) ∧ Hid (wr.ownsRow w.heap.size 38 2 (.slice A6 k c6) k (flat E)) ∧ Hid (Keeps [] w wr) ∧ Hid (roundP l D' = roundP (l.drop s) E)) (fun i _ _ => n - (intOf i).toNat)
          case atStart => exact ⟨0, D', false, Nat.zero_le _, rfl, rfl, hGr, hDl, Lib.hid (Turned.start D'), oD, hkD, Lib.hid rfl⟩
          case round =>
            obtain ⟨s, E, ch, hs, rfl, rfl, hGE, hEl, hTE, oE, hkE, hrd⟩ := hrel
            clear oD hkD
            obtain ⟨wc0, hwX⟩ : ∃ x, x = wr := ⟨_, rfl⟩
            subst hwX
            by_cases hsn : s < n
            · obtain ⟨⟨fc, co, feq⟩, hf⟩ : ∃ f, l[s]? = some f := ⟨l[s]'(by rw [hn.out]; exact hsn), List.getElem?_eq_getElem _⟩
              have hfm := List.mem_of_getElem? hf
              obtain ⟨g0, off0, Ac, cc, rfl, hg0, f0, f1, f2, hco, hcc, hccm⟩ := (hL.out.keep hkE.out (by simp)) s _ hf
              dsimp only at f0 f1 f2 hco hcc
              obtain ⟨nc, hnc⟩ : ∃ nc, co.length = nc := ⟨_, rfl⟩
              rw [hnc] at f1 hcc
              have hncb : nc ≤ 64 := by have := (hGE.out.lin _ hfm).few; dsimp only at this; omega
              have hki : (s : Int) < (n : Int) := by omega
              have ka : Keeps [] wc0 (wc0.alloc (.cells #[.int .i64 fc, .slice Ac nc cc] 44)) := (Keeps.refl [] wc0).alloc _
              have B11 := Lib.hid (Blk.new wc0 44 #[.int .i64 fc, .slice Ac nc cc])
              have oEa := Lib.hid (own_keep0 oE.out ka)
              have kEa := Lib.hid (hkE.out.trans ka)
              have hcoa := Lib.hid (hco.keep ka (by simp))
              have heqa := Lib.hid (ka.cellEq f2 (by simp))
              have hstep := Lib.hid (roundP_step (E := E) hf)
              have h11 : Hid (w.heap.size ≤ wc0.heap.size) := Lib.hid hkE.out.size
              have h11d : Hid (∀ g, (Value.slice A6 k c6).ownBlock = some g → g < wc0.heap.size) := Lib.hid (fun g hg => by obtain ⟨_, cur, h⟩ := own_blk oE.out hg; exact h.lt)
              replace hf := Lib.hid hf
              replace hfm := Lib.hid hfm
              replace hnc := Lib.hid hnc
              clear ka hco
              go_wp2_with fail
              generalize wc0.alloc (.cells #[.int .i64 fc, .slice Ac nc cc] 44) = w9 at *
              generalize wc0.heap.size = g11 at *
              clear f0 f1 f2
              go_loopw [13, 12, 9] (fun i sm cv wr => ∃ (j : Nat) (E2 : List Iv) (sb ch2 : Bool), j ≤ nc ∧ i = .int .i64 j ∧ sm = .bool sb ∧ cv = .bool ch2 ∧ Hid (GoodP E2 l) ∧ Hid (E2.length = k) ∧ Hid (Turned D' E2 ch2) ∧ Hid (wr.ownsRow w.heap.size 38 2 (.slice A6 k c6) k (flat E2)) ∧ Hid (Blk wr g11 44 #[.int .i64 fc, .slice Ac nc cc]) ∧ Hid (IvAt wr B Ac co) ∧ Hid (wr.cell? ⟨g0, off0 + s * 3 + 2, none⟩ = some (.bool feq)) ∧ Hid (Keeps [] w wr) ∧ Hid (coefP ⟨fc, co, feq⟩ co E false = coefP ⟨fc, co, feq⟩ (co.drop j) E2 sb)) (fun i _ _ _ => nc - (intOf i).toNat)
              case atStart => exact ⟨0, E, false, ch, Nat.zero_le _, rfl, rfl, rfl, hGE, hEl, hTE, oEa, B11, hcoa, heqa, kEa, Lib.hid rfl⟩
              case round =>
                obtain ⟨j, E2, sb, ch2, hj, rfl, rfl, rfl, hG2, hE2, hturn, o2, B112, hco2, heq2, hk2, hcf⟩ := hrel
                clear oEa B11 hcoa heqa kEa
                obtain ⟨wy, hwX⟩ : ∃ x, x = wr := ⟨_, rfl⟩
                subst hwX
                have z11 := B112.out.cell
                by_cases hjn : j < nc
                · obtain ⟨⟨V, N⟩, hx⟩ : ∃ x, co[j]? = some x := ⟨co[j]'(by rw [hnc.out]; exact hjn), List.getElem?_eq_getElem _⟩
                  have hxm := List.mem_of_getElem? hx
                  have hGL := hG2.out.lin _ hfm.out
                  dsimp only at hGL
                  obtain ⟨ga, oa, hAc, hgaB, c0, c1⟩ := hco2.out j _ hx
                  subst hAc
                  obtain ⟨Vn, ⟨d1, d2⟩, hV, hdv, hdg, hb1, hb2⟩ := dom_get hGL hxm
                  dsimp only at c0 c1 hV hb1 hb2 hdg
                  subst hV
                  have hji : (j : Int) < (nc : Int) := by omega
                  have hVk : Vn < k := by have := (List.getElem?_eq_some_iff.1 hdv).1; rw [hE2.out] at this; exact this
                  have hVi : (Vn : Int) < (k : Int) := by omega
                  have hfac := hGL.fac _ hxm
                  dsimp only at hfac
                  by_cases hN : N = 0
                  · subst hN
                    have hcf2 := Lib.hid (hcf.out.trans (coefP_skip (f := ⟨fc, co, feq⟩) hx rfl))
                    clear hcf hGL hb1 hb2 hdg hfac
                    replace hx := Lib.hid hx
                    replace hxm := Lib.hid hxm
                    replace hdv := Lib.hid hdv
                    go_wp2_with fail
                    go_roundw
                    case rel => exact ⟨j + 1, E2, sb, ch2, by omega, by go_num, rfl, rfl, hG2, hE2, hturn, o2, B112, hco2, heq2, hk2, hcf2⟩
                    case measure => simp [intOf]; omega
                  · have hNb : (N == 0) = false := by simpa using hN
                    have hcs := coefP_step (f := ⟨fc, co, feq⟩) (D := E2) (s := sb) hx hN
                    dsimp only at hcs
                    rw [Int.toNat_natCast, show E2.getD Vn (0, 0) = (d1, d2) from hdg] at hcs
                    obtain ⟨gd, c6', tail, hv6, hgw, hBd0, hmc, hcm, htl⟩ := own_splitE o2.out hE2.out (by omega)
                    simp only [Value.slice.injEq, true_and] at hv6
                    obtain ⟨rfl, rfl⟩ := hv6
                    have hgd11 : gd < g11 := h11d.out gd rfl
                    have hjl : j < co.length := by rw [hnc.out]; exact hjn
                    have hrr := rrM_rest (D := E2) (c := fc) hx (hasc.out _ hfm.out) hGL.var hG2.out.ok
                    dsimp only at hrr
                    have hwb := bd_all (v := ((Vn : Nat) : Int)) hGL
                    have hnm := narM_narR (d1, d2) N (woM E2 ((Vn : Nat) : Int) co fc) feq hN
                    have hni := narM_in (x := (d1, d2)) (r := woM E2 ((Vn : Nat) : Int) co fc) (a := N) (eq := feq)
                    obtain ⟨⟨r1, r2⟩, hrE⟩ : ∃ r, woM E2 ((Vn : Nat) : Int) co fc = r := ⟨_, rfl⟩
                    rw [hrE] at hcs hrr hwb hnm hni
                    clear hrE
                    dsimp only at hwb hnm
                    obtain ⟨⟨y1, y2⟩, hyE⟩ : ∃ y, narM (d1, d2) N (r1, r2) feq = y := ⟨_, rfl⟩
                    rw [hyE] at hcs hnm hni
                    clear hyE
                    obtain ⟨⟨u1, u2⟩, huE⟩ : ∃ u, narR (d1, d2) N r1 = u := ⟨_, rfl⟩
                    rw [huE] at hnm
                    have HN : Hid (∀ w' : World, Calls Try.prog 39 #[.agg #[.int .i64 d1, .int .i64 d2], .int .i64 N, .int .i64 r1] w' (NarPost w' (u1, u2))) := Lib.hid (fun w' => by have := rnarrow_any w' d1 d2 N r1 hN hwb.1 (by unfold B60; omega); rw [huE] at this; exact this)
                    have HN2f : Hid (feq = true → ∀ w' : World, Calls Try.prog 39 #[.agg #[.int .i64 u1, .int .i64 u2], .int .i64 (-N), .int .i64 (-r2)] w' (NarPost w' (y1, y2))) := Lib.hid (fun he w' => by
                      rw [if_pos he] at hnm
                      have := rnarrow_any w' u1 u2 (-N) (-r2) (by omega) (by have := hwb.2; unfold B60 at *; omega) (by unfold B60; omega)
                      rw [hnm] at this
                      exact this)
                    have hyf : Hid (feq = false → y1 = u1 ∧ y2 = u2) := Lib.hid (fun he => by
                      rw [if_neg (by rw [he]; simp)] at hnm
                      simp only [Prod.mk.injEq] at hnm
                      exact ⟨hnm.1.symm, hnm.2.symm⟩)
                    have hrb : B60 r2 := hwb.2
                    have hempty : Hid (y1 > y2 → q = none) := Lib.hid (fun hfu => by
                      have h1 := hcs
                      rw [if_neg (by unfold full; simp; omega)] at h1
                      have h2 := hcf.out.trans h1
                      have h3 := hstep.out
                      unfold conP at h3
                      dsimp only at h3
                      rw [h2] at h3
                      have h4 := hrd.out.trans h3
                      rw [← hqr.out, show 32 - r = (31 - r) + 1 by omega]
                      show (match roundP l D' with | none => none | some D'' => _) = none
                      rw [h4])
                    have hfull : Hid (¬ y1 > y2 → coefP ⟨fc, co, feq⟩ co E false = coefP ⟨fc, co, feq⟩ (co.drop (j + 1)) (E2.set Vn (y1, y2)) true) := Lib.hid (fun hfu => by
                      have h1 := hcs
                      rw [if_pos (by unfold full; simp; omega)] at h1
                      exact hcf.out.trans h1)
                    have hgood : Hid (¬ y1 > y2 → GoodP (E2.set Vn (y1, y2)) l) := Lib.hid (fun hfu => goodP_set hG2.out hdv hni.1 hni.2 (by show y1 ≤ y2; omega))
                    have hE6 : Hid ((E2.set Vn (y1, y2)).length = k) := Lib.hid (by rw [List.length_set]; exact hE2.out)
                    have hdc := (IvAt.of_own o2.out hE2.out) Vn _ hdv
                    obtain ⟨gd', off', he', _, e0, e1⟩ := hdc
                    simp only [Option.some.injEq, Addr.mk.injEq] at he'
                    obtain ⟨rfl, rfl, _⟩ := he'
                    rw [Nat.zero_add] at e0 e1
                    dsimp only at e0 e1
                    have c_e0 := Lib.hid e0
                    have c_e1 := Lib.hid e1
                    have hset : Hid (E2[Vn]? = some (d1, d2)) := Lib.hid hdv
                    have hVm := Lib.hid hVk
                    have hne : Hid (g11 ≠ gd ∧ g0 ≠ gd) := Lib.hid ⟨by omega, by omega⟩
                    have hGLr := Lib.hid (goodL_rest (j := j) hGL hjl)
                    have hrl := Lib.hid (rest_len hjl)
                    have hjcc : (j : Int) ≤ (cc : Int) := by omega
                    have hjcc1 : (j : Int) + 1 ≤ (cc : Int) := by omega
                    have hjnc1 : (j : Int) + 1 ≤ (nc : Int) := by omega
                    have hnccc : (nc : Int) ≤ (cc : Int) := by omega
                    have hnb := Lib.hid hncb
                    have hfl1 : Hid ((flat (co.take j)).length = j * 2) := Lib.hid (by rw [flat_len, List.length_take]; omega)
                    have hfl2 : Hid ((flat (co.drop (j + 1))).length = (nc - (j + 1)) * 2) := Lib.hid (by rw [flat_len, List.length_drop, hnc.out])
                    replace hni := Lib.hid hni
                    replace hN := Lib.hid hN
                    replace hgw := Lib.hid hgw
                    replace hx := Lib.hid hx
                    replace hxm := Lib.hid hxm
                    replace hrr := Lib.hid hrr
                    replace hjl := Lib.hid hjl
                    have ka : Keeps [] wy (wy.alloc (.cells #[.int .i64 fc, .slice none 0 0] 44)) := (Keeps.refl [] wy).alloc _
                    have B16 := Lib.hid (Blk.new wy 44 #[.int .i64 fc, .slice none 0 0])
                    have hg116' : Hid (g11 < wy.heap.size) := Lib.hid B112.out.lt
                    obtain ⟨g16, hg16e⟩ : ∃ g, g = wy.heap.size := ⟨_, rfl⟩
                    have hg116 : Hid (g11 < g16) := Lib.hid (by rw [hg16e]; exact hg116'.out)
                    have hgwy : Hid (w.heap.size ≤ wy.heap.size) := Lib.hid hk2.out.size
                    have hg16w : Hid (wy.heap.size ≤ g16 ∧ w.heap.size ≤ g16) := Lib.hid (by rw [hg16e]; exact ⟨Nat.le_refl _, hk2.out.size⟩)
                    rw [← hg16e] at B16
                    have hgdy : Hid (gd < g16) := Lib.hid (by have := hg116.out; omega)
                    have hsrc1 : Hid (SrcAt (wy.alloc (.cells #[.int .i64 fc, .slice none 0 0] 44)).drew (some ⟨ga, oa, none⟩) j (flat (co.take j))) := Lib.hid (by
                      have := src_iv ((hco2.out.keep ka.drew (by simp)).take_ j)
                      rw [List.length_take, hnc.out, Nat.min_eq_left hj] at this
                      exact this)
                    have h0 : (wy.alloc (.cells #[.int .i64 fc, .slice none 0 0] 44)).drew.cell? ⟨g16, 1, none⟩ = some (.slice none 0 0) ∧ (wy.alloc (.cells #[.int .i64 fc, .slice none 0 0] 44)).drew.cell? ⟨g11, 1, none⟩ = some (.slice (some ⟨ga, oa, none⟩) nc cc) := ⟨B16.out.drew.cell 1, ka.drew.cellEq (B112.out.cell 1) (by simp)⟩
                    have B16d := Lib.hid B16.out.drew
                    have Kd := Lib.hid ka.drew
                    clear hwb hnm hcs hGL hb1 hb2 hdg hdv hBd0 htl hmc hcm huE B16 hg116' ka e0 e1 hgd11 hVk
                    go_wp2_with fail
                    rw [← hg16e]
                    replace hg16e := Lib.hid hg16e
                    generalize wy.alloc (.cells #[.int .i64 fc, .slice none 0 0] 44) = wa at *
                    clear c0 c1 z11
                    refine wp_region_I (S := (fun w' : World => w'.cell? ⟨g16, 1, none⟩ = some (.slice none 0 0) ∧ w'.cell? ⟨g11, 1, none⟩ = some (.slice (some ⟨ga, oa, none⟩) nc cc))) (n := 8) (by kernel_rfl) ?_
                    generalize wa.drew = wd at *
                    have HS := h0
                    clear h0
                    refine wpAnyI_take (i := 0) (v := ?_) (by kernel_rfl) rfl (by kernel_rfl) (by kernel_rfl) (by kernel_rfl) (fun _ _ _ h => h) HS (Or.inl ⟨by rfl, ?_⟩) ?_
                    rotate_left
                    · (intro w hSw; obtain ⟨y1, y2⟩ := hSw; go_simp; try with_reducible rfl)
                    try simp only [Act.put, List.getElem_toArray, List.getElem_cons_succ, List.getElem_cons_zero, List.setIfInBounds_toArray, List.set_cons_zero, List.set_cons_succ]
                    refine wpAnyI_take (i := 1) (v := ?_) (by kernel_rfl) rfl (by kernel_rfl) (by kernel_rfl) (by kernel_rfl) (fun _ _ _ h => h) HS (Or.inl ⟨by rfl, ?_⟩) ?_
                    rotate_left
                    · (intro w hSw; obtain ⟨y1, y2⟩ := hSw; go_simp; try with_reducible rfl)
                    try simp only [Act.put, List.getElem_toArray, List.getElem_cons_succ, List.getElem_cons_zero, List.setIfInBounds_toArray, List.set_cons_zero, List.set_cons_succ]
                    refine wpAnyI_take (i := 2) (v := ?_) (by kernel_rfl) rfl (by kernel_rfl) (by kernel_rfl) (by kernel_rfl) (fun _ _ _ h => h) HS (Or.inl ⟨by rfl, ?_⟩) ?_
                    rotate_left
                    · (intro w hSw; obtain ⟨y1, y2⟩ := hSw; go_simp; try with_reducible rfl)
                    try simp only [Act.put, List.getElem_toArray, List.getElem_cons_succ, List.getElem_cons_zero, List.setIfInBounds_toArray, List.set_cons_zero, List.set_cons_succ]
                    refine wpAnyI_take (i := 3) (v := ?_) (by kernel_rfl) rfl (by kernel_rfl) (by kernel_rfl) (by kernel_rfl) (fun _ _ _ h => h) HS (Or.inl ⟨by rfl, ?_⟩) ?_
                    rotate_left
                    · (intro w hSw; obtain ⟨y1, y2⟩ := hSw; go_simp; try with_reducible rfl)
                    try simp only [Act.put, List.getElem_toArray, List.getElem_cons_succ, List.getElem_cons_zero, List.setIfInBounds_toArray, List.set_cons_zero, List.set_cons_succ]
                    refine wpAnyI_take (i := 4) (v := ?_) (by kernel_rfl) rfl (by kernel_rfl) (by kernel_rfl) (by kernel_rfl) (fun _ _ _ h => h) HS (Or.inl ⟨by rfl, ?_⟩) ?_
                    rotate_left
                    · (intro w hSw; obtain ⟨y1, y2⟩ := hSw; go_simp; try with_reducible rfl)
                    try simp only [Act.put, List.getElem_toArray, List.getElem_cons_succ, List.getElem_cons_zero, List.setIfInBounds_toArray, List.set_cons_zero, List.set_cons_succ]
                    refine wpAnyI_take (i := 5) (v := ?_) (by kernel_rfl) rfl (by kernel_rfl) (by kernel_rfl) (by kernel_rfl) (fun _ _ _ h => h) HS (Or.inl ⟨by rfl, ?_⟩) ?_
                    rotate_left
                    · (intro w hSw; obtain ⟨y1, y2⟩ := hSw; go_simp; try with_reducible rfl)
                    try simp only [Act.put, List.getElem_toArray, List.getElem_cons_succ, List.getElem_cons_zero, List.setIfInBounds_toArray, List.set_cons_zero, List.set_cons_succ]
                    refine wpAnyI_one (i := 6) rfl (by kernel_rfl) (fun K hK => ?_)
                    dsimp only [List.getElem_toArray, List.getElem_cons_succ, List.getElem_cons_zero]
                    rw [if_pos (by rfl)]
                    refine wp_append_row (.tmp 79) (.tmp 83) 42 (by rfl) wd.heap.size 50 i5 (.agg #[.int .i64 0, .int .i64 0]) 2 16 Try.underlying42 hi5.out hy0.out hy1.out hy2.out rfl (by decide) (.slice none 0 0) 0 [] (by rfl) ⟨rfl, .inl ⟨rfl, rfl⟩⟩ (some ⟨ga, oa, none⟩) j cc (flat (co.take j)) (by rfl) hfl1.out hsrc1.out (flat_one _) (by have := hnb.out; unfold maxLen; omega) (by have := hnb.out; omega) (Nat.le_refl _) ?_
                    intro v1 w4 q1 q2 q3 q4
                    replace q1 : Hid (w4.ownsRow wd.heap.size 50 2 v1 j (flat (co.take j))) := Lib.hid (by have := q1.out; rw [List.nil_append, Nat.zero_add] at this; exact this)
                    obtain ⟨A1, cA1, rfl, _⟩ := own_slice q1.out
                    have k4 := Lib.hid (keeps_append (Keeps.refl [] wd) (Keeps.refl [] wd) (show wd.ownsRow wd.heap.size 50 2 (.slice none 0 0) 0 [] from ⟨rfl, .inl ⟨rfl, rfl⟩⟩) q2.out)
                    have fz := (B16d.out.keep k4.out (by simp)).frozen 1
                    have HS := And.intro (k4.out.cellEq HS.1 (by simp)) (k4.out.cellEq HS.2 (by simp))
                    refine hK _ _ (Or.inr HS) ?_
                    clear hK K
                    try simp only [Act.put, List.getElem_toArray, List.getElem_cons_succ, List.getElem_cons_zero, List.setIfInBounds_toArray, List.set_cons_zero, List.set_cons_succ]
                    refine wpAnyI_take (i := 7) (v := ?_) (by kernel_rfl) rfl (by kernel_rfl) (by kernel_rfl) (by kernel_rfl) (fun _ _ _ h => h) HS (Or.inl ⟨by rfl, ?_⟩) ?_
                    rotate_left
                    · (intro w hSw; obtain ⟨y1, y2⟩ := hSw; go_simp; try with_reducible rfl)
                    try simp only [Act.put, List.getElem_toArray, List.getElem_cons_succ, List.getElem_cons_zero, List.setIfInBounds_toArray, List.set_cons_zero, List.set_cons_succ]
                    refine wpAnyI_one (i := 8) rfl (by kernel_rfl) (fun K hK => ?_)
                    dsimp only [List.getElem_toArray, List.getElem_cons_succ, List.getElem_cons_zero]
                    go_simp
                    refine hK _ _ (Or.inl rfl) ?_
                    clear hK K
                    try simp only [Act.put, List.getElem_toArray, List.getElem_cons_succ, List.getElem_cons_zero, List.setIfInBounds_toArray, List.set_cons_zero, List.set_cons_succ]
                    refine wpAnyI_done (by kernel_rfl) ?_ _
                    have hg16d : Hid (g16 < wd.heap.size) := Lib.hid B16d.out.lt
                    obtain ⟨b16, hb16e⟩ : ∃ b, b = wd.heap.size := ⟨_, rfl⟩
                    have q1' : w4.ownsRow b16 50 2 (.slice A1 j cA1) j (flat (co.take j)) := by rw [hb16e]; exact q1.out
                    have hb16 : Hid (g16 < b16 ∧ b16 ≤ (w4.setCell ⟨g16, 1, none⟩ (.slice A1 j cA1)).heap.size) := Lib.hid ⟨by rw [hb16e]; exact hg16d.out, by rw [hb16e]; exact (k4.out.nil (X := [g16]) |>.setCell (p := ⟨g16, 1, none⟩) (.inl (List.mem_singleton.2 rfl)) (.slice A1 j cA1)).size⟩
                    have B16e : Hid (Blk (w4.setCell ⟨g16, 1, none⟩ (.slice A1 j cA1)) g16 44 #[.int .i64 fc, .slice A1 j cA1]) := Lib.hid ((B16d.out.keep k4.out (by simp)).set_ 1 (.slice A1 j cA1))
                    have Ke : Hid (Keeps [] wy (w4.setCell ⟨g16, 1, none⟩ (.slice A1 j cA1))) := Lib.hid ((Kd.out.trans k4.out).setCell (p := ⟨g16, 1, none⟩) (.inr hg16w.out.1) (.slice A1 j cA1))
                    have ov : Hid ((w4.setCell ⟨g16, 1, none⟩ (.slice A1 j cA1)).ownsRow b16 50 2 (.slice A1 j cA1) j (flat (co.take j))) := Lib.hid (own_keep q1' ((Keeps.refl [g16] w4).setCell (p := ⟨g16, 1, none⟩) (.inl (List.mem_singleton.2 rfl)) (.slice A1 j cA1)) (fun g hg hx => by have h1 := (own_blk q1' hg).1; have h2 := hb16.out.1; rw [List.mem_singleton.1 hx] at h1; omega))
                    clear q1 q2 q3 q4 q1' k4 HS fz hb16e hg16d Kd B16d hsrc1 hfl1
                    generalize w4.setCell ⟨g16, 1, none⟩ (.slice A1 j cA1) = we at *
                    have h0 : we.drew.cell? ⟨g16, 1, none⟩ = some (.slice A1 j cA1) ∧ we.drew.cell? ⟨g11, 1, none⟩ = some (.slice (some ⟨ga, oa, none⟩) nc cc) := ⟨B16e.out.drew.cell 1, Ke.out.drew.cellEq (B112.out.cell 1) (by simp)⟩
                    obtain ⟨AD, hAD⟩ : ∃ A : Option Addr, A = if cc = j + 1 then some ⟨ga, oa, none⟩ else some ⟨ga, oa + (j + 1) * 2, none⟩ := ⟨_, rfl⟩
                    have hsrc2 : Hid (SrcAt we.drew AD (nc - (j + 1)) (flat (co.drop (j + 1)))) := Lib.hid (by
                      rw [hAD]
                      have := src_drop (cc := cc) (hco2.out.keep Ke.out.drew (by simp)) (j + 1) (by rw [hnc.out]; exact hcc)
                      rw [hnc.out] at this
                      exact this)
                    have B16d := Lib.hid B16e.out.drew
                    have Kd := Lib.hid Ke.out.drew
                    have ov1 : Hid (we.drew.ownsRow b16 50 2 (.slice A1 j cA1) j (flat (co.take j))) := ov
                    replace hb16 : Hid (g16 < b16 ∧ b16 ≤ we.drew.heap.size) := hb16
                    have hj1 : Hid (IntKind.i64.wrap ((j : Int) + 1) = (j : Int) + 1) := Lib.hid (IntWalk.i64_in _ (by omega))
                    replace hAD := Lib.hid hAD
                    have hj10 : ¬ ((j : Int) + 1 < 0) := by omega
                    clear B16e Ke ov
                    go_wp2_with fail
                    refine wp_region_I (S := (fun w' : World => w'.cell? ⟨g16, 1, none⟩ = some (.slice A1 j cA1) ∧ w'.cell? ⟨g11, 1, none⟩ = some (.slice (some ⟨ga, oa, none⟩) nc cc))) (n := 9) (by kernel_rfl) ?_
                    generalize we.drew = wd at *
                    have HS := h0
                    clear h0
                    refine wpAnyI_take (i := 0) (v := ?_) (by kernel_rfl) rfl (by kernel_rfl) (by kernel_rfl) (by kernel_rfl) (fun _ _ _ h => h) HS (Or.inl ⟨by rfl, ?_⟩) ?_
                    rotate_left
                    · (intro w hSw; obtain ⟨y1, y2⟩ := hSw; go_simp; try with_reducible rfl)
                    try simp only [Act.put, List.getElem_toArray, List.getElem_cons_succ, List.getElem_cons_zero, List.setIfInBounds_toArray, List.set_cons_zero, List.set_cons_succ]
                    refine wpAnyI_take (i := 1) (v := ?_) (by kernel_rfl) rfl (by kernel_rfl) (by kernel_rfl) (by kernel_rfl) (fun _ _ _ h => h) HS (Or.inl ⟨by rfl, ?_⟩) ?_
                    rotate_left
                    · (intro w hSw; obtain ⟨y1, y2⟩ := hSw; go_simp; try with_reducible rfl)
                    try simp only [Act.put, List.getElem_toArray, List.getElem_cons_succ, List.getElem_cons_zero, List.setIfInBounds_toArray, List.set_cons_zero, List.set_cons_succ]
                    refine wpAnyI_take (i := 2) (v := ?_) (by kernel_rfl) rfl (by kernel_rfl) (by kernel_rfl) (by kernel_rfl) (fun _ _ _ h => h) HS (Or.inl ⟨by rfl, ?_⟩) ?_
                    rotate_left
                    · (intro w hSw; obtain ⟨y1, y2⟩ := hSw; go_simp; try with_reducible rfl)
                    try simp only [Act.put, List.getElem_toArray, List.getElem_cons_succ, List.getElem_cons_zero, List.setIfInBounds_toArray, List.set_cons_zero, List.set_cons_succ]
                    refine wpAnyI_take (i := 3) (v := ?_) (by kernel_rfl) rfl (by kernel_rfl) (by kernel_rfl) (by kernel_rfl) (fun _ _ _ h => h) HS (Or.inl ⟨by rfl, ?_⟩) ?_
                    rotate_left
                    · (intro w hSw; obtain ⟨y1, y2⟩ := hSw; go_simp; try with_reducible rfl)
                    try simp only [Act.put, List.getElem_toArray, List.getElem_cons_succ, List.getElem_cons_zero, List.setIfInBounds_toArray, List.set_cons_zero, List.set_cons_succ]
                    refine wpAnyI_take (i := 4) (v := ?_) (by kernel_rfl) rfl (by kernel_rfl) (by kernel_rfl) (by kernel_rfl) (fun _ _ _ h => h) HS (Or.inl ⟨by rfl, ?_⟩) ?_
                    rotate_left
                    · (intro w hSw; obtain ⟨y1, y2⟩ := hSw; go_simp; try with_reducible rfl)
                    try simp only [Act.put, List.getElem_toArray, List.getElem_cons_succ, List.getElem_cons_zero, List.setIfInBounds_toArray, List.set_cons_zero, List.set_cons_succ]
                    refine wpAnyI_take (i := 5) (v := .int .i64 ((j : Int) + 1)) (by kernel_rfl) rfl (by kernel_rfl) (by kernel_rfl) (by kernel_rfl) (fun _ _ _ h => h) HS (Or.inl ⟨by rfl, ?_⟩) ?_
                    · (intro w hSw; obtain ⟨y1, y2⟩ := hSw; go_simp; try rw [hj1.out])
                    try simp only [Act.put, List.getElem_toArray, List.getElem_cons_succ, List.getElem_cons_zero, List.setIfInBounds_toArray, List.set_cons_zero, List.set_cons_succ]
                    refine wpAnyI_take (i := 6) (v := .slice AD (nc - (j + 1)) (cc - (j + 1))) (by kernel_rfl) rfl (by kernel_rfl) (by kernel_rfl) (by kernel_rfl) (fun _ _ _ h => h) HS (Or.inl ⟨by rfl, ?_⟩) ?_
                    · (intro w hSw; obtain ⟨y1, y2⟩ := hSw; rw [hAD.out]; go_simp)
                    try simp only [Act.put, List.getElem_toArray, List.getElem_cons_succ, List.getElem_cons_zero, List.setIfInBounds_toArray, List.set_cons_zero, List.set_cons_succ]
                    refine wpAnyI_one (i := 7) rfl (by kernel_rfl) (fun K hK => ?_)
                    dsimp only [List.getElem_toArray, List.getElem_cons_succ, List.getElem_cons_zero]
                    rw [if_pos (by rfl)]
                    refine wp_append_row (.tmp 87) (.tmp 92) 42 (by rfl) b16 50 i5 (.agg #[.int .i64 0, .int .i64 0]) 2 16 Try.underlying42 hi5.out hy0.out hy1.out hy2.out rfl (by decide) (.slice A1 j cA1) j (flat (co.take j)) (by rfl) ov1.out AD (nc - (j + 1)) (cc - (j + 1)) (flat (co.drop (j + 1))) (by rfl) hfl2.out hsrc2.out (flat_one _) (by have := hnb.out; unfold maxLen; omega) (by have := hnb.out; omega) hb16.out.2 ?_
                    intro v2 w5 q1 q2 q3 q4
                    obtain ⟨nr, hnr⟩ : ∃ nr, nr = j + (nc - (j + 1)) := ⟨_, rfl⟩
                    rw [← hnr] at q1
                    replace hnr := Lib.hid hnr
                    obtain ⟨A2, c2, rfl, _⟩ := own_slice q1.out
                    have k5 : Hid (Keeps (Value.slice A1 j cA1).ownBlock.toList wd w5) := Lib.hid (Keeps.grown q2.out (fun g hg => Option.mem_toList.2 hg))
                    have hn16 : Hid (g16 ∉ (Value.slice A1 j cA1).ownBlock.toList ∧ g11 ∉ (Value.slice A1 j cA1).ownBlock.toList) := Lib.hid ⟨fun hx => by have := (own_blk ov1.out (Option.mem_toList.1 hx)).1; have := hb16.out.1; omega, fun hx => by have := (own_blk ov1.out (Option.mem_toList.1 hx)).1; have := hb16.out.1; have := hg116.out; omega⟩
                    have fz := (B16d.out.keep k5.out hn16.out.1).frozen 1
                    have HS := And.intro (k5.out.cellEq HS.1 hn16.out.1) (k5.out.cellEq HS.2 hn16.out.2)
                    refine hK _ _ (Or.inr HS) ?_
                    clear hK K
                    try simp only [Act.put, List.getElem_toArray, List.getElem_cons_succ, List.getElem_cons_zero, List.setIfInBounds_toArray, List.set_cons_zero, List.set_cons_succ]
                    refine wpAnyI_take (i := 8) (v := ?_) (by kernel_rfl) rfl (by kernel_rfl) (by kernel_rfl) (by kernel_rfl) (fun _ _ _ h => h) HS (Or.inl ⟨by rfl, ?_⟩) ?_
                    rotate_left
                    · (intro w hSw; obtain ⟨y1, y2⟩ := hSw; go_simp; try with_reducible rfl)
                    try simp only [Act.put, List.getElem_toArray, List.getElem_cons_succ, List.getElem_cons_zero, List.setIfInBounds_toArray, List.set_cons_zero, List.set_cons_succ]
                    refine wpAnyI_one (i := 9) rfl (by kernel_rfl) (fun K hK => ?_)
                    dsimp only [List.getElem_toArray, List.getElem_cons_succ, List.getElem_cons_zero]
                    go_simp
                    refine hK _ _ (Or.inl rfl) ?_
                    clear hK K
                    try simp only [Act.put, List.getElem_toArray, List.getElem_cons_succ, List.getElem_cons_zero, List.setIfInBounds_toArray, List.set_cons_zero, List.set_cons_succ]
                    refine wpAnyI_done (by kernel_rfl) ?_ _
                    have q1' : w5.ownsRow b16 50 2 (.slice A2 nr c2) nr (flat (co.take j ++ co.drop (j + 1))) := by have := q1.out; rw [← flat_append] at this; exact this
                    have B16f : Hid (Blk (w5.setCell ⟨g16, 1, none⟩ (.slice A2 nr c2)) g16 44 #[.int .i64 fc, .slice A2 nr c2]) := Lib.hid ((B16d.out.keep k5.out hn16.out.1).set_ 1 (.slice A2 nr c2))
                    have K5w : Hid (Keeps [] wy w5) := Lib.hid ((Kd.out.nil.trans k5.out).mono (fun y hy => .inr (by have := (own_blk ov1.out (Option.mem_toList.1 hy)).1; have := hb16.out.1; have := hg16w.out.1; omega)))
                    have Kf : Hid (Keeps [] wy (w5.setCell ⟨g16, 1, none⟩ (.slice A2 nr c2))) := Lib.hid (K5w.out.setCell (p := ⟨g16, 1, none⟩) (.inr hg16w.out.1) _)
                    have ov2 : Hid ((w5.setCell ⟨g16, 1, none⟩ (.slice A2 nr c2)).ownsRow b16 50 2 (.slice A2 nr c2) nr (flat (co.take j ++ co.drop (j + 1)))) := Lib.hid (own_keep q1' ((Keeps.refl [g16] w5).setCell (p := ⟨g16, 1, none⟩) (.inl (List.mem_singleton.2 rfl)) _) (fun g hg hx => by have h1 := (own_blk q1' hg).1; have h2 := hb16.out.1; rw [List.mem_singleton.1 hx] at h1; omega))
                    have hnr2 : Hid ((co.take j ++ co.drop (j + 1)).length = nr) := Lib.hid (by rw [hrl.out, hnc.out]; exact hnr.out.symm)
                    clear q1 q2 q3 q4 q1' k5 hn16 HS fz B16d Kd ov1 hsrc2 hfl2 K5w hnr
                    generalize w5.setCell ⟨g16, 1, none⟩ (.slice A2 nr c2) = wf at *
                    have HR : Hid (Calls Try.prog 20 #[.agg #[.int .i64 fc, .slice A2 nr c2], .slice (some ⟨gd, 0, none⟩) k c6] wf (NarPost wf (r1, r2))) := Lib.hid (by
                      have := rrange_any wf wf.heap.size A2 (some ⟨gd, 0, none⟩) E2 (co.take j ++ co.drop (j + 1)) fc nr c2 k c6 hnr2.out hE2.out (IvAt.of_own ov2.out hnr2.out) (IvAt.of_own (own_keep0 o2.out Kf.out) hE2.out) (Nat.le_refl _) hGLr.out (by omega)
                      rw [hrr.out] at this
                      exact this)
                    have z16 := B16f.out.cell
                    clear B16f ov2 hnr2
                    go_wp2_with fail
                    refine HR.out.mono ?_
                    rintro e w26 ⟨rfl, k26⟩
                    have Kg := Lib.hid ((Kf.out.trans k26).alloc (.cells #[.int .i64 r1, .int .i64 r2] 38))
                    have B17g := Lib.hid (Blk.new w26 38 #[.int .i64 r1, .int .i64 r2])
                    have hgd26 : Hid (gd < w26.heap.size) := Lib.hid (by have := hgdy.out; have := (Kf.out.trans k26).size; have := hg16e.out; omega)
                    clear HR k26 z16 Kf
                    go_wp2_with fail
                    generalize w26.alloc (.cells #[.int .i64 r1, .int .i64 r2] 38) = wg at *
                    generalize w26.heap.size = g17 at *
                    have HSf : Hid (∀ w', Keeps [] wg.drew w' → (w'.cell? ⟨gd, Vn * 2, none⟩ = some (.int .i64 d1) ∧ w'.cell? ⟨gd, Vn * 2 + 1, none⟩ = some (.int .i64 d2)) ∧ w'.cell? ⟨g17, 0, none⟩ = some (.int .i64 r1)) := Lib.hid (fun w' hk => ⟨⟨hk.cellEq (Kg.out.drew.cellEq c_e0.out (by simp)) (by simp), hk.cellEq (Kg.out.drew.cellEq c_e1.out (by simp)) (by simp)⟩, hk.cellEq (B17g.out.drew.cell 0) (by simp)⟩)
                    have h0 := HSf.out _ (Keeps.refl [] wg.drew)
                    have B17d := Lib.hid B17g.out.drew
                    have Kgd := Lib.hid Kg.out.drew
                    have hwg : Hid (wy.heap.size ≤ wg.drew.heap.size) := Lib.hid Kg.out.size
                    clear Kg B17g
                    go_cut [18] (fun s18 wx => ∃ g, s18 = .pointer (some ⟨g, 0, none⟩) ∧ Hid (Blk wx g 38 #[.int .i64 u1, .int .i64 u2]) ∧ Hid (wg.drew.heap.size ≤ g) ∧ Hid (Keeps [] wg.drew wx))
                    case first =>
                      refine wp_region_I (S := (fun w' : World => (w'.cell? ⟨gd, Vn * 2, none⟩ = some (.int .i64 d1) ∧ w'.cell? ⟨gd, Vn * 2 + 1, none⟩ = some (.int .i64 d2)) ∧ w'.cell? ⟨g17, 0, none⟩ = some (.int .i64 r1))) (n := 10) (by kernel_rfl) ?_
                      generalize wg.drew = wd at *
                      have HS := h0
                      have Kx := Lib.hid (Keeps.refl [] wd)
                      clear h0
                      refine wpAnyI_takeN (i := 0) (v := ?_) (by kernel_rfl) rfl (by kernel_rfl) (by kernel_rfl) (by kernel_rfl) (fun _ _ _ h => h) HS (Or.inl ⟨by rfl, ?_⟩) ?_
                      rotate_left
                      · (intro w hSw; obtain ⟨⟨y1, y2⟩, y3⟩ := hSw; go_simp; try with_reducible rfl)
                      try simp only [Act.put, List.getElem_toArray, List.getElem_cons_succ, List.getElem_cons_zero, List.setIfInBounds_toArray, List.set_cons_zero, List.set_cons_succ]
                      refine wpAnyI_takeN (i := 1) (v := ?_) (by kernel_rfl) rfl (by kernel_rfl) (by kernel_rfl) (by kernel_rfl) (fun _ _ _ h => h) HS (Or.inl ⟨by rfl, ?_⟩) ?_
                      rotate_left
                      · (intro w hSw; obtain ⟨⟨y1, y2⟩, y3⟩ := hSw; go_simp; try with_reducible rfl)
                      try simp only [Act.put, List.getElem_toArray, List.getElem_cons_succ, List.getElem_cons_zero, List.setIfInBounds_toArray, List.set_cons_zero, List.set_cons_succ]
                      refine wpAnyI_takeN (i := 2) (v := ?_) (by kernel_rfl) rfl (by kernel_rfl) (by kernel_rfl) (by kernel_rfl) (fun _ _ _ h => h) HS (Or.inl ⟨by rfl, ?_⟩) ?_
                      rotate_left
                      · (intro w hSw; obtain ⟨⟨y1, y2⟩, y3⟩ := hSw; go_simp; try with_reducible rfl)
                      try simp only [Act.put, List.getElem_toArray, List.getElem_cons_succ, List.getElem_cons_zero, List.setIfInBounds_toArray, List.set_cons_zero, List.set_cons_succ]
                      refine wpAnyI_takeN (i := 3) (v := ?_) (by kernel_rfl) rfl (by kernel_rfl) (by kernel_rfl) (by kernel_rfl) (fun _ _ _ h => h) HS (Or.inl ⟨by rfl, ?_⟩) ?_
                      rotate_left
                      · (intro w hSw; obtain ⟨⟨y1, y2⟩, y3⟩ := hSw; go_simp; try with_reducible rfl)
                      try simp only [Act.put, List.getElem_toArray, List.getElem_cons_succ, List.getElem_cons_zero, List.setIfInBounds_toArray, List.set_cons_zero, List.set_cons_succ]
                      refine wpAnyI_takeN (i := 4) (v := ?_) (by kernel_rfl) rfl (by kernel_rfl) (by kernel_rfl) (by kernel_rfl) (fun _ _ _ h => h) HS (Or.inl ⟨by rfl, ?_⟩) ?_
                      rotate_left
                      · (intro w hSw; obtain ⟨⟨y1, y2⟩, y3⟩ := hSw; go_simp; try with_reducible rfl)
                      try simp only [Act.put, List.getElem_toArray, List.getElem_cons_succ, List.getElem_cons_zero, List.setIfInBounds_toArray, List.set_cons_zero, List.set_cons_succ]
                      refine wpAnyI_takeN (i := 5) (v := ?_) (by kernel_rfl) rfl (by kernel_rfl) (by kernel_rfl) (by kernel_rfl) (fun _ _ _ h => h) HS (Or.inl ⟨by rfl, ?_⟩) ?_
                      rotate_left
                      · (intro w hSw; obtain ⟨⟨y1, y2⟩, y3⟩ := hSw; go_simp; try with_reducible rfl)
                      try simp only [Act.put, List.getElem_toArray, List.getElem_cons_succ, List.getElem_cons_zero, List.setIfInBounds_toArray, List.set_cons_zero, List.set_cons_succ]
                      refine wpAnyI_takeN (i := 6) (v := ?_) (by kernel_rfl) rfl (by kernel_rfl) (by kernel_rfl) (by kernel_rfl) (fun _ _ _ h => h) HS (Or.inl ⟨by rfl, ?_⟩) ?_
                      rotate_left
                      · (intro w hSw; obtain ⟨⟨y1, y2⟩, y3⟩ := hSw; go_simp; try with_reducible rfl)
                      try simp only [Act.put, List.getElem_toArray, List.getElem_cons_succ, List.getElem_cons_zero, List.setIfInBounds_toArray, List.set_cons_zero, List.set_cons_succ]
                      refine wpAnyI_two (i := 7) (j := 8) rfl rfl (by kernel_rfl) (fun K hK => ?_) (fun K hK => ?_)
                      · dsimp only [List.getElem_toArray, List.getElem_cons_succ, List.getElem_cons_zero]
                        go_simp
                        refine (HN.out _).mono ?_
                        rintro e w39 ⟨rfl, k39⟩
                        try (replace Z := Lib.hid (Z.out.keep k39 (by simp)))
                        replace Kx := Lib.hid (Kx.out.trans k39)
                        have HS := HSf.out _ Kx.out
                        clear k39
                        refine hK _ _ (Or.inr HS) ?_
                        clear hK K
                        try simp only [Act.put, List.getElem_toArray, List.getElem_cons_succ, List.getElem_cons_zero, List.setIfInBounds_toArray, List.set_cons_zero, List.set_cons_succ]
                        refine wpAnyI_one (i := 8) rfl (by kernel_rfl) (fun K hK => ?_)
                        dsimp only [List.getElem_toArray, List.getElem_cons_succ, List.getElem_cons_zero]
                        go_simp
                        obtain ⟨gz, hgzE⟩ : ∃ g, g = w39.heap.size := ⟨_, rfl⟩
                        have hgz : Hid (wd.heap.size ≤ gz) := Lib.hid (by rw [hgzE]; exact Kx.out.size)
                        have Z := Lib.hid (Blk.new w39 38 #[.int .i64 0, .int .i64 0])
                        replace Kx := Lib.hid (Kx.out.alloc (.cells #[.int .i64 0, .int .i64 0] 38))
                        have HS := HSf.out _ Kx.out
                        refine hK _ _ (Or.inr HS) ?_
                        clear hK K
                        rw [← hgzE] at Z ⊢
                        clear hgzE
                        generalize w39.alloc (.cells #[.int .i64 0, .int .i64 0] 38) = wz at *
                        try simp only [Act.put, List.getElem_toArray, List.getElem_cons_succ, List.getElem_cons_zero, List.setIfInBounds_toArray, List.set_cons_zero, List.set_cons_succ]
                        refine wpAnyI_one (i := 9) rfl (by kernel_rfl) (fun K hK => ?_)
                        dsimp only [List.getElem_toArray, List.getElem_cons_succ, List.getElem_cons_zero]
                        rw [if_pos (by rfl)]
                        refine wp_store_all 38 (.tmp 18) (.tmp 105) (by rfl) gz (by rfl) 38 [.int .i64 0, .int .i64 0] [.int .i64 u1, .int .i64 u2] (by rfl) Z.out (by kernel_rfl) (by rfl) (by simp [Value.oneCell']) ?_
                        intro w8 C8 k8
                        replace Kx := Lib.hid (keeps_via Kx.out hgz.out k8)
                        have HS := HSf.out _ Kx.out
                        clear k8 Z
                        refine hK _ _ (Or.inr HS) ?_
                        clear hK K
                        try simp only [Act.put, List.getElem_toArray, List.getElem_cons_succ, List.getElem_cons_zero, List.setIfInBounds_toArray, List.set_cons_zero, List.set_cons_succ]
                        refine wpAnyI_done (by kernel_rfl) ?_ _
                        go_wp2_with fail
                        go_meet
                        exact ⟨gz, rfl, C8, hgz, Kx⟩
                      · dsimp only [List.getElem_toArray, List.getElem_cons_succ, List.getElem_cons_zero]
                        go_simp
                        obtain ⟨gz, hgzE⟩ : ∃ g, g = wd.heap.size := ⟨_, rfl⟩
                        have hgz : Hid (wd.heap.size ≤ gz) := Lib.hid (by rw [hgzE]; exact Kx.out.size)
                        have Z := Lib.hid (Blk.new wd 38 #[.int .i64 0, .int .i64 0])
                        replace Kx := Lib.hid (Kx.out.alloc (.cells #[.int .i64 0, .int .i64 0] 38))
                        have HS := HSf.out _ Kx.out
                        refine hK _ _ (Or.inr HS) ?_
                        clear hK K
                        rw [← hgzE] at Z ⊢
                        clear hgzE
                        generalize wd.alloc (.cells #[.int .i64 0, .int .i64 0] 38) = wz at *
                        try simp only [Act.put, List.getElem_toArray, List.getElem_cons_succ, List.getElem_cons_zero, List.setIfInBounds_toArray, List.set_cons_zero, List.set_cons_succ]
                        refine wpAnyI_one (i := 7) rfl (by kernel_rfl) (fun K hK => ?_)
                        dsimp only [List.getElem_toArray, List.getElem_cons_succ, List.getElem_cons_zero]
                        go_simp
                        refine (HN.out _).mono ?_
                        rintro e w39 ⟨rfl, k39⟩
                        try (replace Z := Lib.hid (Z.out.keep k39 (by simp)))
                        replace Kx := Lib.hid (Kx.out.trans k39)
                        have HS := HSf.out _ Kx.out
                        clear k39
                        refine hK _ _ (Or.inr HS) ?_
                        clear hK K
                        try simp only [Act.put, List.getElem_toArray, List.getElem_cons_succ, List.getElem_cons_zero, List.setIfInBounds_toArray, List.set_cons_zero, List.set_cons_succ]
                        refine wpAnyI_one (i := 9) rfl (by kernel_rfl) (fun K hK => ?_)
                        dsimp only [List.getElem_toArray, List.getElem_cons_succ, List.getElem_cons_zero]
                        rw [if_pos (by rfl)]
                        refine wp_store_all 38 (.tmp 18) (.tmp 105) (by rfl) gz (by rfl) 38 [.int .i64 0, .int .i64 0] [.int .i64 u1, .int .i64 u2] (by rfl) Z.out (by kernel_rfl) (by rfl) (by simp [Value.oneCell']) ?_
                        intro w8 C8 k8
                        replace Kx := Lib.hid (keeps_via Kx.out hgz.out k8)
                        have HS := HSf.out _ Kx.out
                        clear k8 Z
                        refine hK _ _ (Or.inr HS) ?_
                        clear hK K
                        try simp only [Act.put, List.getElem_toArray, List.getElem_cons_succ, List.getElem_cons_zero, List.setIfInBounds_toArray, List.set_cons_zero, List.set_cons_succ]
                        refine wpAnyI_done (by kernel_rfl) ?_ _
                        go_wp2_with fail
                        go_meet
                        exact ⟨gz, rfl, C8, hgz, Kx⟩
                    case rest =>
                      obtain ⟨g18, rfl, B18, hg18', K18⟩ := hcut
                      have Kc := Lib.hid (Kgd.out.trans K18.out)
                      have Kw := Lib.hid (hk2.out.trans Kc.out)
                      have B17 := Lib.hid (B17d.out.keep K18.out (by simp))
                      have hg18 : Hid (wy.heap.size ≤ g18) := Lib.hid (Nat.le_trans hwg.out hg18'.out)
                      have hg18w : Hid (w.heap.size ≤ g18) := Lib.hid (Nat.le_trans hgwy.out hg18.out)
                      have hx28 := Kc.out.cellEq heq2.out (by simp)
                      clear h0 HSf B17d Kgd K18 hg18' hwg HN
                      cases feq
                      · have z18 := B18.out.cell
                        obtain ⟨rfl, rfl⟩ := hyf.out rfl
                        have Kwf := Kw
                        have Kcf := Kc
                        have B18f := B18
                        have of_ := Lib.hid (own_keep0 o2.out Kcf.out)
                        have s0 := B18f.out.cell 0
                        have s1 := B18f.out.cell 1
                        simp only [List.getElem?_toArray, List.getElem?_cons_succ, List.getElem?_cons_zero] at s0 s1
                        have e0 := Kcf.out.cellEq c_e0.out (by simp)
                        have e1 := Kcf.out.cellEq c_e1.out (by simp)
                        have B11f := Lib.hid (B112.out.keep Kcf.out (by simp))
                        have hcof := Lib.hid (hco2.out.keep Kcf.out (by simp))
                        have hef := Lib.hid (Kcf.out.cellEq heq2.out (by simp))
                        by_cases p30 : y1 > y2
                        · have hqn := Lib.hid (hempty.out (by omega))
                          go_wp2_with fail
                          exact bodyPost_ret (v := .tuple #[.slice none 0 0, .bool false]) (by simp [results, Try.results15, go_sem]) rfl (.inl ⟨hqn.out, rfl, Kwf.out⟩)
                        · have hcf2 := Lib.hid (hfull.out (by omega))
                          have hG6 := Lib.hid (hgood.out (by omega))
                          by_cases pe : y1 = d1 ∧ y2 = d2
                          · obtain ⟨rfl, rfl⟩ := pe
                            have hT := Lib.hid (hturn.out.same hset.out)
                            go_wp2_with fail
                            go_quiet (fail)
                            go_wp2_with fail
                            go_roundw
                            case rel => exact ⟨j + 1, E2.set Vn (y1, y2), true, ch2, by omega, by go_num, rfl, rfl, hG6, hE6, hT, Lib.hid (by rw [set_same hset.out]; exact own_keep0 of_.out ((Keeps.refl [] _).drewN _)), B11f, hcof, hef, Lib.hid (Kwf.out.drewN _), hcf2⟩
                            case measure => simp [intOf]; omega
                          · have hT := Lib.hid (hturn.out.turn (y := (y1, y2)) hset.out hni.out.1 hni.out.2 (fun h => pe (by simpa using h)))
                            by_cases pa : y1 = d1
                            · have hb : (y2 == d2) = false := by simpa using fun h => pe ⟨pa, h⟩
                              subst pa
                              replace pe := Lib.hid pe
                              go_wp2_with fail
                              go_quiet (fail)
                              have x0 : (wc.drewN nq).cell? ⟨gd, Vn * 2, none⟩ = _ := e0
                              have x1 : (wc.drewN nq).cell? ⟨gd, Vn * 2 + 1, none⟩ = _ := e1
                              have x2 : (wc.drewN nq).cell? ⟨g18, 0, none⟩ = _ := s0
                              have x3 : (wc.drewN nq).cell? ⟨g18, 1, none⟩ = _ := s1
                              have oq : Hid ((wc.drewN nq).ownsRow w.heap.size 38 2 (.slice (some ⟨gd, 0, none⟩) k c6) k (flat E2)) := of_
                              have Kq := Lib.hid (Kwf.out.drewN nq)
                              have B11q : Hid (Blk (wc.drewN nq) g11 44 _) := B11f
                              have hcoq := Lib.hid (hcof.out.keep ((Keeps.refl [] wc).drewN nq) (by simp))
                              have heqq : Hid ((wc.drewN nq).cell? ⟨g0, off0 + s * 3 + 2, none⟩ = _) := hef
                              have fq : ∀ i, (wc.drewN nq).frozen? ⟨gd, i, none⟩ = false := by obtain ⟨_, _, _, hv, _, hBq, _⟩ := own_splitE oq.out hE2.out (by omega); simp only [Value.slice.injEq, Option.some.injEq, Addr.mk.injEq] at hv; obtain ⟨⟨rfl, _⟩, _⟩ := hv; exact hBq.frozen
                              clear Kwf Kcf of_ s0 s1 e0 e1 B11f hcof hef B18f z18
                              generalize wc.drewN nq = wl at *
                              have op := Lib.hid (own_put oq.out hE2.out Vn hVm.out y1 y2)
                              have Kp := Lib.hid (keeps_two (i := Vn * 2) (j := Vn * 2 + 1) Kq.out (.inr hgw.out) (.int .i64 y1) (.int .i64 y2))
                              have kp2 := Lib.hid (keeps_two (X := [gd]) (i := Vn * 2) (j := Vn * 2 + 1) (Keeps.refl [gd] wl) (.inl (List.mem_singleton.2 rfl)) (.int .i64 y1) (.int .i64 y2))
                              have B11p := Lib.hid (B11q.out.keep kp2.out (by simp; exact hne.out.1))
                              have hcop := Lib.hid (hcoq.out.keep kp2.out (by simp; have := hgw.out; omega))
                              have hep := Lib.hid (kp2.out.cellEq heqq.out (by simp; exact hne.out.2))
                              go_wp2_with fail
                              go_roundw
                              case rel => exact ⟨j + 1, E2.set Vn (y1, y2), true, true, by omega, by go_num, rfl, rfl, hG6, hE6, hT, op, B11p, hcop, hep, Kp, hcf2⟩
                              case measure => simp [intOf]; omega
                            · have hb : (y1 == d1) = false := by simpa using pa
                              replace pa := Lib.hid pa
                              replace pe := Lib.hid pe
                              go_wp2_with fail
                              go_quiet (fail)
                              have x0 : (wc.drewN nq).cell? ⟨gd, Vn * 2, none⟩ = _ := e0
                              have x1 : (wc.drewN nq).cell? ⟨gd, Vn * 2 + 1, none⟩ = _ := e1
                              have x2 : (wc.drewN nq).cell? ⟨g18, 0, none⟩ = _ := s0
                              have x3 : (wc.drewN nq).cell? ⟨g18, 1, none⟩ = _ := s1
                              have oq : Hid ((wc.drewN nq).ownsRow w.heap.size 38 2 (.slice (some ⟨gd, 0, none⟩) k c6) k (flat E2)) := of_
                              have Kq := Lib.hid (Kwf.out.drewN nq)
                              have B11q : Hid (Blk (wc.drewN nq) g11 44 _) := B11f
                              have hcoq := Lib.hid (hcof.out.keep ((Keeps.refl [] wc).drewN nq) (by simp))
                              have heqq : Hid ((wc.drewN nq).cell? ⟨g0, off0 + s * 3 + 2, none⟩ = _) := hef
                              have fq : ∀ i, (wc.drewN nq).frozen? ⟨gd, i, none⟩ = false := by obtain ⟨_, _, _, hv, _, hBq, _⟩ := own_splitE oq.out hE2.out (by omega); simp only [Value.slice.injEq, Option.some.injEq, Addr.mk.injEq] at hv; obtain ⟨⟨rfl, _⟩, _⟩ := hv; exact hBq.frozen
                              clear Kwf Kcf of_ s0 s1 e0 e1 B11f hcof hef B18f z18
                              generalize wc.drewN nq = wl at *
                              have op := Lib.hid (own_put oq.out hE2.out Vn hVm.out y1 y2)
                              have Kp := Lib.hid (keeps_two (i := Vn * 2) (j := Vn * 2 + 1) Kq.out (.inr hgw.out) (.int .i64 y1) (.int .i64 y2))
                              have kp2 := Lib.hid (keeps_two (X := [gd]) (i := Vn * 2) (j := Vn * 2 + 1) (Keeps.refl [gd] wl) (.inl (List.mem_singleton.2 rfl)) (.int .i64 y1) (.int .i64 y2))
                              have B11p := Lib.hid (B11q.out.keep kp2.out (by simp; exact hne.out.1))
                              have hcop := Lib.hid (hcoq.out.keep kp2.out (by simp; have := hgw.out; omega))
                              have hep := Lib.hid (kp2.out.cellEq heqq.out (by simp; exact hne.out.2))
                              go_wp2_with fail
                              go_roundw
                              case rel => exact ⟨j + 1, E2.set Vn (y1, y2), true, true, by omega, by go_num, rfl, rfl, hG6, hE6, hT, op, B11p, hcop, hep, Kp, hcf2⟩
                              case measure => simp [intOf]; omega
                      · have z18 := B18.out.cell
                        have hw9 : IntKind.i64.wrap (-N) = -N := IntWalk.i64_in _ (by omega)
                        have hw8 : IntKind.i64.wrap (-r2) = -r2 := IntWalk.i64_in _ (by unfold B60 at hrb; omega)
                        have z17 := B17.out.cell
                        have HN2 := Lib.hid (HN2f.out rfl wc)
                        go_wp2_with fail
                        refine HN2.out.mono ?_
                        rintro e wh ⟨rfl, kh⟩
                        have B18h := B18.out.keep kh (by simp)
                        clear z18 z17
                        have z18 := B18h.cell
                        have f18 := B18h.frozen
                        have Kwh := Lib.hid (Kw.out.trans kh)
                        have Khh := Lib.hid (Kc.out.trans kh)
                        have Kwf := Lib.hid (keeps_two (i := 0) (j := 1) Kwh.out (.inr hg18w.out) (.int .i64 y1) (.int .i64 y2))
                        have Kcf := Lib.hid (keeps_two (i := 0) (j := 1) Khh.out (.inr hg18.out) (.int .i64 y1) (.int .i64 y2))
                        have B18f : Hid (Blk ((wh.setCell ⟨g18, 0, none⟩ (.int .i64 y1)).setCell ⟨g18, 1, none⟩ (.int .i64 y2)) g18 38 #[.int .i64 y1, .int .i64 y2]) := Lib.hid ((B18h.set_ 0 (.int .i64 y1)).set_ 1 (.int .i64 y2))
                        clear Kwh Khh kh B18h
                        have of_ := Lib.hid (own_keep0 o2.out Kcf.out)
                        have s0 := B18f.out.cell 0
                        have s1 := B18f.out.cell 1
                        simp only [List.getElem?_toArray, List.getElem?_cons_succ, List.getElem?_cons_zero] at s0 s1
                        have e0 := Kcf.out.cellEq c_e0.out (by simp)
                        have e1 := Kcf.out.cellEq c_e1.out (by simp)
                        have B11f := Lib.hid (B112.out.keep Kcf.out (by simp))
                        have hcof := Lib.hid (hco2.out.keep Kcf.out (by simp))
                        have hef := Lib.hid (Kcf.out.cellEq heq2.out (by simp))
                        by_cases p30 : y1 > y2
                        · have hqn := Lib.hid (hempty.out (by omega))
                          go_wp2_with fail
                          exact bodyPost_ret (v := .tuple #[.slice none 0 0, .bool false]) (by simp [results, Try.results15, go_sem]) rfl (.inl ⟨hqn.out, rfl, Kwf.out⟩)
                        · have hcf2 := Lib.hid (hfull.out (by omega))
                          have hG6 := Lib.hid (hgood.out (by omega))
                          by_cases pe : y1 = d1 ∧ y2 = d2
                          · obtain ⟨rfl, rfl⟩ := pe
                            have hT := Lib.hid (hturn.out.same hset.out)
                            go_wp2_with fail
                            go_quiet (fail)
                            go_wp2_with fail
                            go_roundw
                            case rel => exact ⟨j + 1, E2.set Vn (y1, y2), true, ch2, by omega, by go_num, rfl, rfl, hG6, hE6, hT, Lib.hid (by rw [set_same hset.out]; exact own_keep0 of_.out ((Keeps.refl [] _).drewN _)), B11f, hcof, hef, Lib.hid (Kwf.out.drewN _), hcf2⟩
                            case measure => simp [intOf]; omega
                          · have hT := Lib.hid (hturn.out.turn (y := (y1, y2)) hset.out hni.out.1 hni.out.2 (fun h => pe (by simpa using h)))
                            by_cases pa : y1 = d1
                            · have hb : (y2 == d2) = false := by simpa using fun h => pe ⟨pa, h⟩
                              subst pa
                              replace pe := Lib.hid pe
                              go_wp2_with fail
                              go_quiet (fail)
                              have x0 : (((wh.setCell ⟨g18, 0, none⟩ (.int .i64 y1)).setCell ⟨g18, 1, none⟩ (.int .i64 y2)).drewN nq).cell? ⟨gd, Vn * 2, none⟩ = _ := e0
                              have x1 : (((wh.setCell ⟨g18, 0, none⟩ (.int .i64 y1)).setCell ⟨g18, 1, none⟩ (.int .i64 y2)).drewN nq).cell? ⟨gd, Vn * 2 + 1, none⟩ = _ := e1
                              have x2 : (((wh.setCell ⟨g18, 0, none⟩ (.int .i64 y1)).setCell ⟨g18, 1, none⟩ (.int .i64 y2)).drewN nq).cell? ⟨g18, 0, none⟩ = _ := s0
                              have x3 : (((wh.setCell ⟨g18, 0, none⟩ (.int .i64 y1)).setCell ⟨g18, 1, none⟩ (.int .i64 y2)).drewN nq).cell? ⟨g18, 1, none⟩ = _ := s1
                              have oq : Hid ((((wh.setCell ⟨g18, 0, none⟩ (.int .i64 y1)).setCell ⟨g18, 1, none⟩ (.int .i64 y2)).drewN nq).ownsRow w.heap.size 38 2 (.slice (some ⟨gd, 0, none⟩) k c6) k (flat E2)) := of_
                              have Kq := Lib.hid (Kwf.out.drewN nq)
                              have B11q : Hid (Blk (((wh.setCell ⟨g18, 0, none⟩ (.int .i64 y1)).setCell ⟨g18, 1, none⟩ (.int .i64 y2)).drewN nq) g11 44 _) := B11f
                              have hcoq := Lib.hid (hcof.out.keep ((Keeps.refl [] ((wh.setCell ⟨g18, 0, none⟩ (.int .i64 y1)).setCell ⟨g18, 1, none⟩ (.int .i64 y2))).drewN nq) (by simp))
                              have heqq : Hid ((((wh.setCell ⟨g18, 0, none⟩ (.int .i64 y1)).setCell ⟨g18, 1, none⟩ (.int .i64 y2)).drewN nq).cell? ⟨g0, off0 + s * 3 + 2, none⟩ = _) := hef
                              have fq : ∀ i, (((wh.setCell ⟨g18, 0, none⟩ (.int .i64 y1)).setCell ⟨g18, 1, none⟩ (.int .i64 y2)).drewN nq).frozen? ⟨gd, i, none⟩ = false := by obtain ⟨_, _, _, hv, _, hBq, _⟩ := own_splitE oq.out hE2.out (by omega); simp only [Value.slice.injEq, Option.some.injEq, Addr.mk.injEq] at hv; obtain ⟨⟨rfl, _⟩, _⟩ := hv; exact hBq.frozen
                              clear Kwf Kcf of_ s0 s1 e0 e1 B11f hcof hef B18f z18 f18
                              generalize ((wh.setCell ⟨g18, 0, none⟩ (.int .i64 y1)).setCell ⟨g18, 1, none⟩ (.int .i64 y2)).drewN nq = wl at *
                              have op := Lib.hid (own_put oq.out hE2.out Vn hVm.out y1 y2)
                              have Kp := Lib.hid (keeps_two (i := Vn * 2) (j := Vn * 2 + 1) Kq.out (.inr hgw.out) (.int .i64 y1) (.int .i64 y2))
                              have kp2 := Lib.hid (keeps_two (X := [gd]) (i := Vn * 2) (j := Vn * 2 + 1) (Keeps.refl [gd] wl) (.inl (List.mem_singleton.2 rfl)) (.int .i64 y1) (.int .i64 y2))
                              have B11p := Lib.hid (B11q.out.keep kp2.out (by simp; exact hne.out.1))
                              have hcop := Lib.hid (hcoq.out.keep kp2.out (by simp; have := hgw.out; omega))
                              have hep := Lib.hid (kp2.out.cellEq heqq.out (by simp; exact hne.out.2))
                              go_wp2_with fail
                              go_roundw
                              case rel => exact ⟨j + 1, E2.set Vn (y1, y2), true, true, by omega, by go_num, rfl, rfl, hG6, hE6, hT, op, B11p, hcop, hep, Kp, hcf2⟩
                              case measure => simp [intOf]; omega
                            · have hb : (y1 == d1) = false := by simpa using pa
                              replace pa := Lib.hid pa
                              replace pe := Lib.hid pe
                              go_wp2_with fail
                              go_quiet (fail)
                              have x0 : (((wh.setCell ⟨g18, 0, none⟩ (.int .i64 y1)).setCell ⟨g18, 1, none⟩ (.int .i64 y2)).drewN nq).cell? ⟨gd, Vn * 2, none⟩ = _ := e0
                              have x1 : (((wh.setCell ⟨g18, 0, none⟩ (.int .i64 y1)).setCell ⟨g18, 1, none⟩ (.int .i64 y2)).drewN nq).cell? ⟨gd, Vn * 2 + 1, none⟩ = _ := e1
                              have x2 : (((wh.setCell ⟨g18, 0, none⟩ (.int .i64 y1)).setCell ⟨g18, 1, none⟩ (.int .i64 y2)).drewN nq).cell? ⟨g18, 0, none⟩ = _ := s0
                              have x3 : (((wh.setCell ⟨g18, 0, none⟩ (.int .i64 y1)).setCell ⟨g18, 1, none⟩ (.int .i64 y2)).drewN nq).cell? ⟨g18, 1, none⟩ = _ := s1
                              have oq : Hid ((((wh.setCell ⟨g18, 0, none⟩ (.int .i64 y1)).setCell ⟨g18, 1, none⟩ (.int .i64 y2)).drewN nq).ownsRow w.heap.size 38 2 (.slice (some ⟨gd, 0, none⟩) k c6) k (flat E2)) := of_
                              have Kq := Lib.hid (Kwf.out.drewN nq)
                              have B11q : Hid (Blk (((wh.setCell ⟨g18, 0, none⟩ (.int .i64 y1)).setCell ⟨g18, 1, none⟩ (.int .i64 y2)).drewN nq) g11 44 _) := B11f
                              have hcoq := Lib.hid (hcof.out.keep ((Keeps.refl [] ((wh.setCell ⟨g18, 0, none⟩ (.int .i64 y1)).setCell ⟨g18, 1, none⟩ (.int .i64 y2))).drewN nq) (by simp))
                              have heqq : Hid ((((wh.setCell ⟨g18, 0, none⟩ (.int .i64 y1)).setCell ⟨g18, 1, none⟩ (.int .i64 y2)).drewN nq).cell? ⟨g0, off0 + s * 3 + 2, none⟩ = _) := hef
                              have fq : ∀ i, (((wh.setCell ⟨g18, 0, none⟩ (.int .i64 y1)).setCell ⟨g18, 1, none⟩ (.int .i64 y2)).drewN nq).frozen? ⟨gd, i, none⟩ = false := by obtain ⟨_, _, _, hv, _, hBq, _⟩ := own_splitE oq.out hE2.out (by omega); simp only [Value.slice.injEq, Option.some.injEq, Addr.mk.injEq] at hv; obtain ⟨⟨rfl, _⟩, _⟩ := hv; exact hBq.frozen
                              clear Kwf Kcf of_ s0 s1 e0 e1 B11f hcof hef B18f z18 f18
                              generalize ((wh.setCell ⟨g18, 0, none⟩ (.int .i64 y1)).setCell ⟨g18, 1, none⟩ (.int .i64 y2)).drewN nq = wl at *
                              have op := Lib.hid (own_put oq.out hE2.out Vn hVm.out y1 y2)
                              have Kp := Lib.hid (keeps_two (i := Vn * 2) (j := Vn * 2 + 1) Kq.out (.inr hgw.out) (.int .i64 y1) (.int .i64 y2))
                              have kp2 := Lib.hid (keeps_two (X := [gd]) (i := Vn * 2) (j := Vn * 2 + 1) (Keeps.refl [gd] wl) (.inl (List.mem_singleton.2 rfl)) (.int .i64 y1) (.int .i64 y2))
                              have B11p := Lib.hid (B11q.out.keep kp2.out (by simp; exact hne.out.1))
                              have hcop := Lib.hid (hcoq.out.keep kp2.out (by simp; have := hgw.out; omega))
                              have hep := Lib.hid (kp2.out.cellEq heqq.out (by simp; exact hne.out.2))
                              go_wp2_with fail
                              go_roundw
                              case rel => exact ⟨j + 1, E2.set Vn (y1, y2), true, true, by omega, by go_num, rfl, rfl, hG6, hE6, hT, op, B11p, hcop, hep, Kp, hcf2⟩
                              case measure => simp [intOf]; omega
                · obtain rfl : j = nc := by omega
                  have hcf2 : coefP ⟨fc, co, feq⟩ co E false = some (E2, sb) := by rw [hcf.out, List.drop_of_length_le (by rw [hnc.out]; exact Nat.le_refl _)]; rfl
                  have hjf : ¬ (j : Int) < (j : Int) := by omega
                  have hcon : conP ⟨fc, co, feq⟩ E = if (!sb && lost ⟨fc, co, feq⟩) = true then none else some E2 := by
                    unfold conP
                    dsimp only
                    rw [hcf2]
                  have hbad : Hid ((!sb && lost ⟨fc, co, feq⟩) = true → q = none) := Lib.hid (fun hl => by
                    have h3 := hstep.out
                    rw [hcon, if_pos hl] at h3
                    have h4 := hrd.out.trans h3
                    rw [← hqr.out, show 32 - r = (31 - r) + 1 by omega]
                    show (match roundP l D' with | none => none | some D'' => _) = none
                    rw [h4])
                  have hok : Hid ((!sb && lost ⟨fc, co, feq⟩) = false → roundP l D' = roundP (l.drop (s + 1)) E2) := Lib.hid (fun hl => by
                    have h3 := hstep.out
                    rw [hcon, if_neg (by rw [hl]; simp)] at h3
                    exact hrd.out.trans h3)
                  clear hcf hcf2 hcon hco2
                  have heqv := heq2.out
                  cases hs' : sb
                  · subst hs'
                    by_cases h0 : 0 < fc
                    · have hd0 : decide (0 < fc) = true := decide_eq_true h0
                      have h0' : fc > 0 := h0
                      have hqn := Lib.hid (hbad.out (by simp [lost, h0]))
                      clear hbad hok
                      go_wp2_with fail
                      exact bodyPost_ret (v := .tuple #[.slice none 0 0, .bool false]) (by simp [results, Try.results15, go_sem]) rfl (.inl ⟨hqn.out, rfl, hk2.out⟩)
                    · have hd0 : decide (0 < fc) = false := decide_eq_false h0
                      have h0' : ¬ fc > 0 := h0
                      cases feq
                      · have hn2 := Lib.hid (hok.out (by simp [lost, h0]))
                        clear hbad hok
                        go_wp2_with fail
                        go_roundw
                        case rel => exact ⟨s + 1, E2, ch2, by omega, by go_num, rfl, hG2, hE2, hturn, o2, hk2, hn2⟩
                        case measure => simp [intOf]; omega
                      · by_cases h1 : fc = 0
                        · subst h1
                          have hn2 := Lib.hid (hok.out (by simp [lost]))
                          clear hbad hok
                          go_wp2_with fail
                          go_roundw
                          case rel => exact ⟨s + 1, E2, ch2, by omega, by go_num, rfl, hG2, hE2, hturn, o2, hk2, hn2⟩
                          case measure => simp [intOf]; omega
                        · have h1b : (fc != 0) = true := by simpa using h1
                          have hqn := Lib.hid (hbad.out (by simp [lost, h0, h1]))
                          clear hbad hok
                          go_wp2_with fail
                          exact bodyPost_ret (v := .tuple #[.slice none 0 0, .bool false]) (by simp [results, Try.results15, go_sem]) rfl (.inl ⟨hqn.out, rfl, hk2.out⟩)
                  · subst hs'
                    have hn2 := Lib.hid (hok.out (by simp))
                    clear hbad hok
                    go_wp2_with fail
                    go_roundw
                    case rel => exact ⟨s + 1, E2, ch2, by omega, by go_num, rfl, hG2, hE2, hturn, o2, hk2, hn2⟩
                    case measure => simp [intOf]; omega
            · obtain rfl : s = n := by omega
              have hrd2 : roundP l D' = some E := by rw [hrd.out, List.drop_of_length_le (by rw [hn.out]; exact Nat.le_refl _)]; rfl
              have hq2 : q = if D' = E then some E else roundsP l (31 - r) E := by
                rw [← hqr.out, show 32 - r = (31 - r) + 1 by omega]
                show (match roundP l D' with | none => none | some D'' => _) = _
                rw [hrd2]
              have hkf : ¬ (s : Int) < (s : Int) := by omega
              clear hrd hrd2
              cases hc : ch
              · have heq : D' = E := hTE.out.ch.1 hc
                rw [if_pos heq] at hq2
                replace hq2 := Lib.hid hq2
                replace heq := Lib.hid heq
                subst hc
                go_wp2_with fail
                exact bodyPost_ret (v := .tuple #[.slice A6 k c6, .bool true]) (by simp [results, Try.results15, go_sem]) rfl (.inr ⟨E, A6, c6, hq2.out, hEl.out, rfl, oE.out, hkE.out⟩)
              · have heq : ¬ D' = E := fun h => by have := hTE.out.ch.2 h; rw [hc] at this; cases this
                rw [if_neg heq] at hq2
                replace hq2 := Lib.hid hq2.symm
                replace heq := Lib.hid heq
                subst hc
                go_wp2_with fail
                go_roundw
                case rel => exact ⟨r + 1, E, by omega, by go_num, hGE, hEl, oE, hkE, Lib.hid (by rw [show 32 - (r + 1) = 31 - r by omega]; exact hq2.out)⟩
                case measure => simp [intOf]; omega
        · obtain rfl : r = 32 := by omega
          have hq2 : Hid (q = some D') := Lib.hid hqr.out.symm
          have hrf : ¬ ((32 : Nat) : Int) < 32 := by omega
          go_wp2_with fail
          exact bodyPost_ret (v := .tuple #[.slice A6 k c6, .bool true]) (by simp [results, Try.results15, go_sem]) rfl (.inr ⟨D', A6, c6, hq2.out, hDl.out, rfl, oD.out, hkD.out⟩)
end Go.Proofs.Ythmnolpamllabaa
