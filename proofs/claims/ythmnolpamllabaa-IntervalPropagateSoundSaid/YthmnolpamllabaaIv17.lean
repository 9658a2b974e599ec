/- The reference's Floor, narrow and Range. -/
import Derived.Test.YthmnolpamllabaaIv16
namespace Go.Proofs.Ythmnolpamllabaa
open Go.RowKit Go.Lib
set_option linter.unusedSimpArgs false
set_option linter.unusedVariables false

set_option maxHeartbeats 800000 in
theorem rfloor_any (w : World) (a b : Int) (hb : 0 < b) (ha : B60 a) : Calls Try.prog 52 #[.int .i64 a, .int .i64 b] w fun e w' => e = .returned (.int .i64 (a / b)) ∧ w = w' := by
  have hq := ediv_b60 hb ha
  have he := floor_eq (a := a) hb
  unfold B60 at hq ha
  have hbz : ¬ b = 0 := by omega
  by_cases h : a.tmod b < 0
  · rw [if_pos h] at he
    have hd := decide_eq_true h
    have hw1 : IntKind.i64.wrap (a.tdiv b) = a.tdiv b := IntWalk.i64_in _ (by omega)
    have hw2 : IntKind.i64.wrap (a.tdiv b - 1) = a.tdiv b - 1 := IntWalk.i64_in _ (by omega)
    rw [he]
    clear he hq
    go_enter Try.func52, Try.ntmps52
    go_wp2
    go_ret
    exact ⟨rfl, rfl⟩
  · rw [if_neg h] at he
    have hd := decide_eq_false h
    have hw1 : IntKind.i64.wrap (a.tdiv b) = a.tdiv b := IntWalk.i64_in _ (by omega)
    rw [he]
    clear he hq
    go_enter Try.func52, Try.ntmps52
    go_wp2
    go_ret
    exact ⟨rfl, rfl⟩

/-- What the reference's narrow computes. -/
def narR (x : Iv) (a k : Int) : Iv := if 0 < a then (x.1, min x.2 (-k / a)) else (max x.1 (-(-k / -a)), x.2)
theorem narM_narR (x : Iv) (a : Int) (r : Iv) (eq : Bool) (ha : a ≠ 0) : (if eq = true then narR (narR x a r.1) (-a) (-r.2) else narR x a r.1) = narM x a r eq := by
  unfold narR narM
  obtain ⟨x1, x2⟩ := x
  obtain ⟨r1, r2⟩ := r
  by_cases h : 0 < a
  · have h' : ¬ a < 0 := by omega
    cases eq <;> simp [h, h', Int.neg_neg]
  · have h' : a < 0 := by omega
    have h'' : ¬ 0 ≤ a := by omega
    cases eq <;> simp [h, h', h'', Int.neg_neg]

set_option maxHeartbeats 1600000 in
set_option maxRecDepth 100000 in
theorem rnarrow_any (w : World) (x1 x2 a k : Int) (ha : a ≠ 0) (hk : B60 k) (h3 : B60 a) :
    Calls Try.prog 39 #[.agg #[.int .i64 x1, .int .i64 x2], .int .i64 a, .int .i64 k] w (NarPost w (narR (x1, x2) a k)) := by
  have k1 : Keeps [] w ((w.alloc (.cells #[.int .i64 x1, .int .i64 x2] 38)).alloc (.cells #[.int .i64 0, .int .i64 0] 38)) := ((Keeps.refl [] w).alloc _).alloc _
  have Bx : Blk ((w.alloc (.cells #[.int .i64 x1, .int .i64 x2] 38)).alloc (.cells #[.int .i64 0, .int .i64 0] 38)) w.heap.size 38 #[.int .i64 x1, .int .i64 x2] := (Blk.new w 38 _).alloc _
  have Bt : Blk ((w.alloc (.cells #[.int .i64 x1, .int .i64 x2] 38)).alloc (.cells #[.int .i64 0, .int .i64 0] 38)) (w.heap.size + 1) 38 #[.int .i64 0, .int .i64 0] := by
    have := Blk.new (w.alloc (.cells #[.int .i64 x1, .int .i64 x2] 38)) 38 #[.int .i64 0, .int .i64 0]
    simpa using this
  replace k1 := Lib.hid k1
  replace Bx := Lib.hid Bx
  replace Bt := Lib.hid Bt
  obtain ⟨gx, hgx⟩ : ∃ g, g = w.heap.size := ⟨_, rfl⟩
  obtain ⟨gt, hgt⟩ : ∃ g, g = w.heap.size + 1 := ⟨_, rfl⟩
  rw [← hgx] at Bx
  rw [← hgt] at Bt
  have hg := Lib.hid (show gx ≠ gt ∧ gt ≠ gx ∧ w.heap.size ≤ gx ∧ w.heap.size ≤ gt by omega)
  have hw1 : IntKind.i64.wrap (-k) = -k := IntWalk.i64_in _ (by unfold B60 at hk; omega)
  have hkn : B60 (-k) := by unfold B60 at *; omega
  by_cases hp : 0 < a
  · have hnr : narR (x1, x2) a k = (x1, min x2 (-k / a)) := by unfold narR; rw [if_pos hp]
    rw [hnr]
    have HF := Lib.hid (fun w' : World => rfloor_any w' (-k) a hp hkn)
    have hpg : a > 0 := hp
    generalize -k / a = q at *
    clear hnr hk hkn h3 ha
    by_cases hq : q < x2
    · have hmin : Hid (min x2 q = q) := Lib.hid (by omega)
      rw [hmin.out]
      go_enter Try.func39, Try.ntmps39
      go_wp2_with fail
      generalize (w.alloc (.cells #[.int .i64 x1, .int .i64 x2] 38)).alloc (.cells #[.int .i64 0, .int .i64 0] 38) = wa at *
      rw [← hgt, ← hgx]
      clear hgx hgt
      refine (HF.out wa).mono ?_
      rintro e w4 ⟨rfl, rfl⟩
      have b0 := Bx.out.cell
      have bf := Bx.out.frozen
      have t0 := Bt.out.cell
      have ft := Bt.out.frozen
      have hgn := hg.out.2.1
      have hgn2 := hg.out.1
      have Bf := Lib.hid (fun (s u v : Value) => ((Bt.out.far (p := ⟨gx, 1, none⟩) hg.out.2.1 s).set_ 0 u).set_ 1 v)
      have Kf := Lib.hid (fun (s u v : Value) => ((k1.out.setCell (p := ⟨gx, 1, none⟩) (.inr hg.out.2.2.1) s).setCell (p := ⟨gt, 0, none⟩) (.inr hg.out.2.2.2) u).setCell (p := ⟨gt, 1, none⟩) (.inr hg.out.2.2.2) v)
      clear HF
      go_wp2_with fail
      have z0 := (Bf.out (.int .i64 q) (.int .i64 x1) (.int .i64 q)).cell
      refine bodyPost_ret (v := .agg #[.int .i64 x1, .int .i64 q]) (by simp [results, Try.results39, go_sem, z0]) rfl ⟨rfl, Kf.out _ _ _⟩
    · have hmin : Hid (min x2 q = x2) := Lib.hid (by omega)
      rw [hmin.out]
      go_enter Try.func39, Try.ntmps39
      go_wp2_with fail
      generalize (w.alloc (.cells #[.int .i64 x1, .int .i64 x2] 38)).alloc (.cells #[.int .i64 0, .int .i64 0] 38) = wa at *
      rw [← hgt, ← hgx]
      clear hgx hgt
      refine (HF.out wa).mono ?_
      rintro e w4 ⟨rfl, rfl⟩
      have b0 := Bx.out.cell
      have t0 := Bt.out.cell
      have ft := Bt.out.frozen
      have hgn := hg.out.2.1
      have hgn2 := hg.out.1
      have Bf := Lib.hid (fun (u v : Value) => (Bt.out.set_ 0 u).set_ 1 v)
      have Kf := Lib.hid (fun (u v : Value) => (k1.out.setCell (p := ⟨gt, 0, none⟩) (.inr hg.out.2.2.2) u).setCell (p := ⟨gt, 1, none⟩) (.inr hg.out.2.2.2) v)
      clear HF
      go_wp2_with fail
      have z0 := (Bf.out (.int .i64 x1) (.int .i64 x2)).cell
      refine bodyPost_ret (v := .agg #[.int .i64 x1, .int .i64 x2]) (by simp [results, Try.results39, go_sem, z0]) rfl ⟨rfl, Kf.out _ _⟩
  · have hnr : narR (x1, x2) a k = (max x1 (-(-k / -a)), x2) := by unfold narR; rw [if_neg hp]
    rw [hnr]
    have hpn : 0 < -a := by omega
    have HF := Lib.hid (fun w' : World => rfloor_any w' (-k) (-a) hpn hkn)
    have hq0 := ediv_b60 hpn hkn
    have hw2 : IntKind.i64.wrap (-a) = -a := IntWalk.i64_in _ (by unfold B60 at h3; omega)
    have hpg : ¬ a > 0 := hp
    generalize -k / -a = q at *
    have hw3 : IntKind.i64.wrap (-q) = -q := IntWalk.i64_in _ (by unfold B60 at hq0; omega)
    clear hnr hk hkn h3 ha hq0
    by_cases hq : -q > x1
    · have hmin : Hid (max x1 (-q) = -q) := Lib.hid (by omega)
      rw [hmin.out]
      go_enter Try.func39, Try.ntmps39
      go_wp2_with fail
      generalize (w.alloc (.cells #[.int .i64 x1, .int .i64 x2] 38)).alloc (.cells #[.int .i64 0, .int .i64 0] 38) = wa at *
      rw [← hgt, ← hgx]
      clear hgx hgt
      refine (HF.out wa).mono ?_
      rintro e w4 ⟨rfl, rfl⟩
      have b0 := Bx.out.cell
      have bf := Bx.out.frozen
      have t0 := Bt.out.cell
      have ft := Bt.out.frozen
      have hgn := hg.out.2.1
      have hgn2 := hg.out.1
      have Bf := Lib.hid (fun (s u v : Value) => ((Bt.out.far (p := ⟨gx, 0, none⟩) hg.out.2.1 s).set_ 0 u).set_ 1 v)
      have Kf := Lib.hid (fun (s u v : Value) => ((k1.out.setCell (p := ⟨gx, 0, none⟩) (.inr hg.out.2.2.1) s).setCell (p := ⟨gt, 0, none⟩) (.inr hg.out.2.2.2) u).setCell (p := ⟨gt, 1, none⟩) (.inr hg.out.2.2.2) v)
      clear HF
      go_wp2_with fail
      have z0 := (Bf.out (.int .i64 (-q)) (.int .i64 (-q)) (.int .i64 x2)).cell
      refine bodyPost_ret (v := .agg #[.int .i64 (-q), .int .i64 x2]) (by simp [results, Try.results39, go_sem, z0]) rfl ⟨rfl, Kf.out _ _ _⟩
    · have hmin : Hid (max x1 (-q) = x1) := Lib.hid (by omega)
      rw [hmin.out]
      go_enter Try.func39, Try.ntmps39
      go_wp2_with fail
      generalize (w.alloc (.cells #[.int .i64 x1, .int .i64 x2] 38)).alloc (.cells #[.int .i64 0, .int .i64 0] 38) = wa at *
      rw [← hgt, ← hgx]
      clear hgx hgt
      refine (HF.out wa).mono ?_
      rintro e w4 ⟨rfl, rfl⟩
      have b0 := Bx.out.cell
      have t0 := Bt.out.cell
      have ft := Bt.out.frozen
      have hgn := hg.out.2.1
      have hgn2 := hg.out.1
      have Bf := Lib.hid (fun (u v : Value) => (Bt.out.set_ 0 u).set_ 1 v)
      have Kf := Lib.hid (fun (u v : Value) => (k1.out.setCell (p := ⟨gt, 0, none⟩) (.inr hg.out.2.2.2) u).setCell (p := ⟨gt, 1, none⟩) (.inr hg.out.2.2.2) v)
      clear HF
      go_wp2_with fail
      have z0 := (Bf.out (.int .i64 x1) (.int .i64 x2)).cell
      refine bodyPost_ret (v := .agg #[.int .i64 x1, .int .i64 x2]) (by simp [results, Try.results39, go_sem, z0]) rfl ⟨rfl, Kf.out _ _⟩

/-- What the reference's Range computes. -/
def stepR (dom : List Iv) (acc x : Iv) : Iv :=
  if x.2 < 0 then (acc.1 + x.2 * (dom.getD x.1.toNat (0, 0)).2, acc.2 + x.2 * (dom.getD x.1.toNat (0, 0)).1)
  else (acc.1 + x.2 * (dom.getD x.1.toNat (0, 0)).1, acc.2 + x.2 * (dom.getD x.1.toNat (0, 0)).2)
def rrM (dom co : List Iv) (c : Int) : Iv := co.foldl (stepR dom) (c, c)
theorem rrM_snoc (dom : List Iv) (co : List Iv) (x : Iv) (c : Int) : rrM dom (co ++ [x]) c = stepR dom (rrM dom co c) x := by
  unfold rrM; rw [List.foldl_append]; rfl
theorem bd_stepR {dom co : List Iv} {c : Int} (h : GoodL dom co c) {k : Nat} {r x : Iv} (hr : Bd k r) (hx : x ∈ co) : Bd (k + 1) (stepR dom r x) := by
  unfold stepR
  obtain ⟨n, d, _, _, hd, h1, h2⟩ := dom_get h hx
  rw [hd]
  have m1 := mul_bd (h.fac x hx) h1
  have m2 := mul_bd (h.fac x hx) h2
  unfold Bd at *
  split <;> (dsimp only; omega)
theorem bd_takeR {dom co : List Iv} {c : Int} (h : GoodL dom co c) : ∀ k, k ≤ co.length → Bd k (rrM dom (co.take k) c)
  | 0, _ => by
    have := h.con
    show Bd 0 (c, c)
    unfold Bd
    dsimp only
    omega
  | k + 1, hk => by
    have ih := bd_takeR h k (by omega)
    rw [List.take_add_one, List.getElem?_eq_getElem (by omega)]
    show Bd (k + 1) (rrM dom (co.take k ++ [co[k]]) c)
    rw [rrM_snoc]
    exact bd_stepR h ih (List.getElem_mem _)
theorem bd_allR {dom co : List Iv} {c : Int} (h : GoodL dom co c) : B60 (rrM dom co c).1 ∧ B60 (rrM dom co c).2 := by
  have := bd_takeR h co.length (Nat.le_refl _)
  rw [List.take_length] at this
  have hf := h.few
  unfold Bd at this
  unfold B60
  omega

set_option maxHeartbeats 3200000 in
set_option maxRecDepth 100000 in
theorem rrange_any (w : World) (B : Nat) (Ac Ad : Option Addr) (dom co : List Iv) (c : Int) (n cc m cd : Nat) (hn : co.length = n) (hm : dom.length = m) (hC : IvAt w B Ac co) (hD : IvAt w B Ad dom) (hB : B ≤ w.heap.size) (hG : GoodL dom co c) (hm6 : m ≤ 1000000) :
    Calls Try.prog 20 #[.agg #[.int .i64 c, .slice Ac n cc], .slice Ad m cd] w (NarPost w (rrM dom co c)) := by
  have hn64 : n ≤ 64 := by have := hG.few; omega
  have kb : Keeps [] w ((((w.alloc (.cells #[.int .i64 c, .slice Ac n cc] 44)).alloc (.cells #[.int .i64 0, .int .i64 0] 38))).alloc (.cells #[.int .i64 c, .int .i64 c] 38)) := (((Keeps.refl [] w).alloc _).alloc _).alloc _
  have Bl : Blk ((((w.alloc (.cells #[.int .i64 c, .slice Ac n cc] 44)).alloc (.cells #[.int .i64 0, .int .i64 0] 38))).alloc (.cells #[.int .i64 c, .int .i64 c] 38)) w.heap.size 44 #[.int .i64 c, .slice Ac n cc] := ((Blk.new w 44 _).alloc _).alloc _
  have Bt : Blk ((((w.alloc (.cells #[.int .i64 c, .slice Ac n cc] 44)).alloc (.cells #[.int .i64 0, .int .i64 0] 38))).alloc (.cells #[.int .i64 c, .int .i64 c] 38)) (w.heap.size + 1) 38 #[.int .i64 0, .int .i64 0] := by
    have := (Blk.new (w.alloc (.cells #[.int .i64 c, .slice Ac n cc] 44)) 38 #[.int .i64 0, .int .i64 0]).alloc (.cells #[.int .i64 c, .int .i64 c] 38)
    simpa using this
  have Bo : Blk ((((w.alloc (.cells #[.int .i64 c, .slice Ac n cc] 44)).alloc (.cells #[.int .i64 0, .int .i64 0] 38))).alloc (.cells #[.int .i64 c, .int .i64 c] 38)) (w.heap.size + 1 + 1) 38 #[.int .i64 c, .int .i64 c] := by
    have := Blk.new ((w.alloc (.cells #[.int .i64 c, .slice Ac n cc] 44)).alloc (.cells #[.int .i64 0, .int .i64 0] 38)) 38 #[.int .i64 c, .int .i64 c]
    simpa using this
  replace kb := Lib.hid kb
  replace Bl := Lib.hid Bl
  replace Bt := Lib.hid Bt
  replace Bo := Lib.hid Bo
  replace hn := Lib.hid hn
  replace hm := Lib.hid hm
  replace hG := Lib.hid hG
  replace hC := Lib.hid hC
  replace hD := Lib.hid hD
  go_enter Try.func20, Try.ntmps20
  go_wp2_with fail
  generalize ((((w.alloc (.cells #[.int .i64 c, .slice Ac n cc] 44)).alloc (.cells #[.int .i64 0, .int .i64 0] 38))).alloc (.cells #[.int .i64 c, .int .i64 c] 38)) = wa at *
  obtain ⟨gl, hgl⟩ : ∃ g, g = w.heap.size := ⟨_, rfl⟩
  have hgl0 := Lib.hid (show w.heap.size ≤ gl by omega)
  rw [← hgl] at Bl Bt Bo
  rw [← hgl]
  clear hgl
  obtain ⟨gt, hgt⟩ : ∃ g, g = gl + 1 := ⟨_, rfl⟩
  rw [← hgt] at Bt Bo
  rw [← hgt]
  have hgt0 := Lib.hid (show gl < gt by omega)
  clear hgt
  obtain ⟨go, hgo⟩ : ∃ g, g = gt + 1 := ⟨_, rfl⟩
  rw [← hgo] at Bo
  rw [← hgo]
  have hgo0 := Lib.hid (show gt < go by omega)
  clear hgo
  have hg := Lib.hid (show w.heap.size ≤ gt ∧ w.heap.size ≤ go ∧ gt ≠ go ∧ gl ≠ go by have := hgl0.out; have := hgt0.out; have := hgo0.out; omega)
  go_loopw [6] (fun i wr => ∃ k : Nat, k ≤ n ∧ i = .int .i64 k ∧ Hid (Blk wr go 38 #[.int .i64 (rrM dom (co.take k) c).1, .int .i64 (rrM dom (co.take k) c).2]) ∧ Hid (Blk wr gt 38 #[.int .i64 0, .int .i64 0]) ∧ Hid (Blk wr gl 44 #[.int .i64 c, .slice Ac n cc]) ∧ Hid (Keeps [] w wr)) (fun i _ => n - (intOf i).toNat)
  case atStart => exact ⟨0, Nat.zero_le _, rfl, Bo, Bt, Bl, kb⟩
  case round =>
    obtain ⟨k, hk, rfl, Bo', Bt', Bl', hkw⟩ := hrel
    clear Bo Bt Bl kb
    obtain ⟨wi, hwX⟩ : ∃ x, x = wr := ⟨_, rfl⟩
    subst hwX
    by_cases hlt : k < n
    · obtain ⟨⟨V, N⟩, hx⟩ : ∃ x, co[k]? = some x := ⟨co[k]'(by rw [hn.out]; exact hlt), List.getElem?_eq_getElem _⟩
      have hxm := List.mem_of_getElem? hx
      obtain ⟨g, off, rfl, hgB, c0, c1⟩ := (hC.out.keep hkw.out (by simp)) k _ hx
      obtain ⟨Vn, ⟨d1, d2⟩, hV, hdv, hdg, hb1, hb2⟩ := dom_get hG.out hxm
      dsimp only at c0 c1 hV hb1 hb2
      subst hV
      obtain ⟨gd, offd, rfl, _, e0, e1⟩ := (hD.out.keep hkw.out (by simp)) Vn _ hdv
      dsimp only at e0 e1
      have hbd := bd_takeR hG.out k (by rw [hn.out]; omega)
      have hsn : rrM dom (co.take (k + 1)) c = stepR dom (rrM dom (co.take k) c) ((Vn : Int), N) := by
        rw [List.take_add_one, hx]
        exact rrM_snoc _ _ _ _
      have hfac := hG.out.fac _ hxm
      dsimp only at hfac
      have hkm : (k : Int) < (n : Int) := by omega
      have hVm : (Vn : Int) < (m : Int) := by have := (hG.out.var _ hxm).2; dsimp only at this; rw [hm.out] at this; exact this
      unfold stepR at hsn
      dsimp only at hsn hdg
      rw [hdg] at hsn
      dsimp only at hsn
      generalize rrM dom (co.take k) c = r at *
      obtain ⟨r1, r2⟩ := r
      dsimp only at Bo' hsn
      have ka : Keeps [] wi (wi.alloc (.cells #[.int .i64 d1, .int .i64 d2] 38)) := (Keeps.refl [] wi).alloc _
      have Ba := Lib.hid (Bo'.out.keep ka (by simp))
      have Ta := Lib.hid (Bt'.out.keep ka (by simp))
      have La := Lib.hid (Bl'.out.keep ka (by simp))
      have Ka := Lib.hid (hkw.out.trans ka)
      have gl' := Lib.hid (show go < wi.heap.size from Bo'.out.lt)
      have m1 := mul_bd hfac hb1
      have m2 := mul_bd hfac hb2
      obtain ⟨p1, hp1⟩ : ∃ p, N * d1 = p := ⟨_, rfl⟩
      obtain ⟨p2, hp2⟩ : ∃ p, N * d2 = p := ⟨_, rfl⟩
      have hw1 : IntKind.i64.wrap (N * d1) = p1 := by rw [hp1] at m1 ⊢; exact IntWalk.i64_in _ (by omega)
      have hw2 : IntKind.i64.wrap (N * d2) = p2 := by rw [hp2] at m2 ⊢; exact IntWalk.i64_in _ (by omega)
      rw [hp1] at m1
      rw [hp2] at m2
      rw [hp1, hp2] at hsn
      replace hp1 := Lib.hid hp1
      replace hp2 := Lib.hid hp2
      unfold Bd at hbd
      dsimp only at hbd
      have hw3 : IntKind.i64.wrap (r1 + p1) = r1 + p1 := IntWalk.i64_in _ (by omega)
      have hw4 : IntKind.i64.wrap (r1 + p2) = r1 + p2 := IntWalk.i64_in _ (by omega)
      have hw5 : IntKind.i64.wrap (r2 + p1) = r2 + p1 := IntWalk.i64_in _ (by omega)
      have hw6 : IntKind.i64.wrap (r2 + p2) = r2 + p2 := IntWalk.i64_in _ (by omega)
      replace hx := Lib.hid hx
      replace hxm := Lib.hid hxm
      replace hdv := Lib.hid hdv
      have q0 := Ba.out.cell
      have f0 := Ba.out.frozen
      have l0 := Bl'.out.cell
      have hgne : Hid (go ≠ wi.heap.size) := Lib.hid (by have := gl'.out; omega)
      have hgn := hgne.out
      have hgn' := hgne.out.symm
      have Bf := Lib.hid (fun u v => (Ba.out.set_ 0 u).set_ 1 v)
      have Tf := Lib.hid (fun u v => (Ta.out.far (p := ⟨go, 0, none⟩) hg.out.2.2.1 u).far (p := ⟨go, 1, none⟩) hg.out.2.2.1 v)
      have Lf := Lib.hid (fun u v => (La.out.far (p := ⟨go, 0, none⟩) hg.out.2.2.2 u).far (p := ⟨go, 1, none⟩) hg.out.2.2.2 v)
      have Kf := Lib.hid (fun u v => (Ka.out.setCell (p := ⟨go, 0, none⟩) (.inr hg.out.2.1) u).setCell (p := ⟨go, 1, none⟩) (.inr hg.out.2.1) v)
      clear hbd hb1 hb2 m1 m2 ka hdg
      by_cases hN : N < 0
      · rw [if_pos hN] at hsn
        have hsn' := Lib.hid hsn
        clear hsn
        go_wp2_with fail
        go_roundw
        case rel => exact ⟨k + 1, by omega, by go_num, Lib.hid (by rw [hsn'.out]; exact Bf.out _ _), Lib.hid (Tf.out _ _), Lib.hid (Lf.out _ _), Lib.hid (Kf.out _ _)⟩
        case measure => simp [intOf]; omega
      · rw [if_neg hN] at hsn
        have hsn' := Lib.hid hsn
        clear hsn
        go_wp2_with fail
        go_roundw
        case rel => exact ⟨k + 1, by omega, by go_num, Lib.hid (by rw [hsn'.out]; exact Bf.out _ _), Lib.hid (Tf.out _ _), Lib.hid (Lf.out _ _), Lib.hid (Kf.out _ _)⟩
        case measure => simp [intOf]; omega
    · obtain rfl : k = n := by omega
      rw [List.take_of_length_le (by rw [hn.out]; exact Nat.le_refl _)] at Bo'
      generalize rrM dom co c = r at *
      obtain ⟨r1, r2⟩ := r
      dsimp only at Bo'
      have q0 := Bo'.out.cell
      have l0 := Bl'.out.cell
      have t0 := Bt'.out.cell
      have ft := Bt'.out.frozen
      have Tf := Lib.hid (fun u v => (Bt'.out.set_ 0 u).set_ 1 v)
      have Kf := Lib.hid (fun u v => (hkw.out.setCell (p := ⟨gt, 0, none⟩) (.inr hg.out.1) u).setCell (p := ⟨gt, 1, none⟩) (.inr hg.out.1) v)
      have hkk : ¬ (k : Int) < (k : Int) := by omega
      go_wp2_with fail
      have z0 := (Tf.out (.int .i64 r1) (.int .i64 r2)).cell
      refine bodyPost_ret (v := .agg #[.int .i64 r1, .int .i64 r2]) (by simp [results, Try.results20, go_sem, z0]) rfl ⟨rfl, Kf.out _ _⟩

/-- Where no term stands over an empty domain both ranges are the same. -/
theorem rrM_woM {dom : List Iv} {v : Int} : ∀ {co : List Iv} {c : Int}, (∀ x ∈ co, hole dom x = false) → (∀ x ∈ co, x.1 ≠ v) → rrM dom co c = woM dom v co c := by
  intro co c hh hv
  unfold rrM woM
  generalize ((c, c) : Iv) = acc
  induction co generalizing acc with
  | nil => rfl
  | cons x r ih =>
    have e : stepR dom acc x = stepW dom v acc x := by
      have h1 := hh x List.mem_cons_self
      have h2 := hv x List.mem_cons_self
      unfold stepR stepW
      unfold hole full at h1
      obtain ⟨V, N⟩ := x
      dsimp only at h1 h2 ⊢
      generalize dom.getD V.toNat (0, 0) = d at *
      obtain ⟨d1, d2⟩ := d
      dsimp only at h1 ⊢
      by_cases hN : N = 0
      · subst hN
        simp
      · have hd : d1 ≤ d2 := by simpa [hN] using h1
        have hor : ¬ (V = v ∨ N = 0) := fun h => h.elim h2 hN
        by_cases hn : N < 0
        · have : N * d2 ≤ N * d1 := Int.mul_le_mul_of_nonpos_left (by omega) hd
          rw [if_pos hn, if_neg hor, Int.min_eq_right this, Int.max_eq_left this]
        · have : N * d1 ≤ N * d2 := Int.mul_le_mul_of_nonneg_left hd (by omega)
          rw [if_neg hn, if_neg hor, Int.min_eq_left this, Int.max_eq_right this]
    rw [List.foldl_cons, List.foldl_cons, e]
    exact ih (fun y hy => hh y (List.mem_cons_of_mem _ hy)) (fun y hy => hv y (List.mem_cons_of_mem _ hy)) _
end Go.Proofs.Ythmnolpamllabaa
