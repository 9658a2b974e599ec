/- The range of a linear form without a variable. -/
import Derived.Test.YthmnolpamllabaaIv7
namespace Go.Proofs.Ythmnolpamllabaa
open Go.RowKit
set_option linter.unusedSimpArgs false
set_option linter.unusedVariables false

/-- A term: its variable and its factor. -/
def stepW (dom : List Iv) (v : Int) (acc x : Iv) : Iv :=
  if x.1 = v ∨ x.2 = 0 then acc else
    (acc.1 + min (x.2 * (dom.getD x.1.toNat (0, 0)).1) (x.2 * (dom.getD x.1.toNat (0, 0)).2), acc.2 + max (x.2 * (dom.getD x.1.toNat (0, 0)).1) (x.2 * (dom.getD x.1.toNat (0, 0)).2))
def woM (dom : List Iv) (v : Int) (co : List Iv) (c : Int) : Iv := co.foldl (stepW dom v) (c, c)
theorem woM_snoc (dom : List Iv) (v : Int) (co : List Iv) (x : Iv) (c : Int) : woM dom v (co ++ [x]) c = stepW dom v (woM dom v co c) x := by
  unfold woM; rw [List.foldl_append]; rfl

/-- The terms and the domains are of the size that Good asks for. -/
structure GoodL (dom co : List Iv) (c : Int) : Prop where
  dm : ∀ d ∈ dom, (-4294967296 ≤ d.1 ∧ d.1 ≤ 4294967296) ∧ (-4294967296 ≤ d.2 ∧ d.2 ≤ 4294967296)
  var : ∀ x ∈ co, 0 ≤ x.1 ∧ x.1 < (dom.length : Int)
  fac : ∀ x ∈ co, -1048576 ≤ x.2 ∧ x.2 ≤ 1048576
  con : -1099511627776 ≤ c ∧ c ≤ 1099511627776
  few : co.length ≤ 64

theorem mul_bd {a b : Int} (ha : -1048576 ≤ a ∧ a ≤ 1048576) (hb : -4294967296 ≤ b ∧ b ≤ 4294967296) : -4503599627370496 ≤ a * b ∧ a * b ≤ 4503599627370496 := by
  have h1 : (a * b).natAbs = a.natAbs * b.natAbs := Int.natAbs_mul a b
  have h2 : a.natAbs * b.natAbs ≤ 1048576 * 4294967296 := Nat.mul_le_mul (by omega) (by omega)
  omega

def Bd (k : Nat) (r : Iv) : Prop := (-1099511627776 - 4503599627370496 * (k : Int) ≤ r.1 ∧ r.1 ≤ 1099511627776 + 4503599627370496 * (k : Int)) ∧ (-1099511627776 - 4503599627370496 * (k : Int) ≤ r.2 ∧ r.2 ≤ 1099511627776 + 4503599627370496 * (k : Int))
theorem dom_get {dom co : List Iv} {c : Int} (h : GoodL dom co c) {x : Iv} (hx : x ∈ co) : ∃ (n : Nat) (d : Iv), x.1 = n ∧ dom[n]? = some d ∧ dom.getD x.1.toNat (0, 0) = d ∧ ((-4294967296 ≤ d.1 ∧ d.1 ≤ 4294967296) ∧ (-4294967296 ≤ d.2 ∧ d.2 ≤ 4294967296)) := by
  have hv := h.var x hx
  refine ⟨x.1.toNat, dom[x.1.toNat]'(by omega), by omega, List.getElem?_eq_getElem _, ?_, h.dm _ (List.getElem_mem _)⟩
  rw [List.getD_eq_getElem?_getD, List.getElem?_eq_getElem (by omega)]
  rfl
theorem bd_step {dom co : List Iv} {c v : Int} (h : GoodL dom co c) {k : Nat} {r x : Iv} (hr : Bd k r) (hx : x ∈ co) : Bd (k + 1) (stepW dom v r x) := by
  unfold stepW
  split
  · unfold Bd at *; omega
  · obtain ⟨n, d, _, _, hd, h1, h2⟩ := dom_get h hx
    rw [hd]
    have m1 := mul_bd (h.fac x hx) h1
    have m2 := mul_bd (h.fac x hx) h2
    unfold Bd at *
    dsimp only
    omega
theorem bd_take {dom co : List Iv} {c v : Int} (h : GoodL dom co c) : ∀ k, k ≤ co.length → Bd k (woM dom v (co.take k) c)
  | 0, _ => by
    have := h.con
    show Bd 0 (c, c)
    unfold Bd
    dsimp only
    omega
  | k + 1, hk => by
    have ih := bd_take (v := v) h k (by omega)
    rw [List.take_add_one, List.getElem?_eq_getElem (by omega)]
    show Bd (k + 1) (woM dom v (co.take k ++ [co[k]]) c)
    rw [woM_snoc]
    exact bd_step h ih (List.getElem_mem _)
theorem bd_all {dom co : List Iv} {c v : Int} (h : GoodL dom co c) : B60 (woM dom v co c).1 ∧ B60 (woM dom v co c).2 := by
  have := bd_take (v := v) h co.length (Nat.le_refl _)
  rw [List.take_length] at this
  have hf := h.few
  unfold Bd at this
  unfold B60
  omega

set_option maxHeartbeats 1600000 in
set_option maxRecDepth 100000 in
theorem without_any (w : World) (B : Nat) (Ac Ad : Option Addr) (dom co : List Iv) (c v : Int) (n cc m cd : Nat) (hn : co.length = n) (hm : dom.length = m) (hC : IvAt w B Ac co) (hD : IvAt w B Ad dom) (hB : B ≤ w.heap.size) (hG : GoodL dom co c) (hm6 : m ≤ 1000000) :
    Calls Try.prog 37 #[.agg #[.int .i64 c, .slice Ac n cc], .slice Ad m cd, .int .i64 v] w (NarPost w (woM dom v co c)) := by
  have hn64 : n ≤ 64 := by have := hG.few; omega
  have kb : Keeps [] w ((((w.alloc (.cells #[.int .i64 c, .slice Ac n cc] 44)).alloc (.cells #[.int .i64 0, .int .i64 0] 39))).alloc (.cells #[.int .i64 c, .int .i64 c] 39)) := (((Keeps.refl [] w).alloc _).alloc _).alloc _
  have Bt : Blk ((((w.alloc (.cells #[.int .i64 c, .slice Ac n cc] 44)).alloc (.cells #[.int .i64 0, .int .i64 0] 39))).alloc (.cells #[.int .i64 c, .int .i64 c] 39)) (w.heap.size + 1) 39 #[.int .i64 0, .int .i64 0] := by
    have := (Blk.new (w.alloc (.cells #[.int .i64 c, .slice Ac n cc] 44)) 39 #[.int .i64 0, .int .i64 0]).alloc (.cells #[.int .i64 c, .int .i64 c] 39)
    simpa using this
  have Bo : Blk ((((w.alloc (.cells #[.int .i64 c, .slice Ac n cc] 44)).alloc (.cells #[.int .i64 0, .int .i64 0] 39))).alloc (.cells #[.int .i64 c, .int .i64 c] 39)) (w.heap.size + 1 + 1) 39 #[.int .i64 c, .int .i64 c] := by
    have := Blk.new ((w.alloc (.cells #[.int .i64 c, .slice Ac n cc] 44)).alloc (.cells #[.int .i64 0, .int .i64 0] 39)) 39 #[.int .i64 c, .int .i64 c]
    simpa using this
  replace kb := Lib.hid kb
  replace Bt := Lib.hid Bt
  replace Bo := Lib.hid Bo
  replace hn := Lib.hid hn
  replace hm := Lib.hid hm
  replace hG := Lib.hid hG
  replace hC := Lib.hid hC
  replace hD := Lib.hid hD
  go_enter Try.func37, Try.ntmps37
  go_wp2_with fail
  generalize ((((w.alloc (.cells #[.int .i64 c, .slice Ac n cc] 44)).alloc (.cells #[.int .i64 0, .int .i64 0] 39))).alloc (.cells #[.int .i64 c, .int .i64 c] 39)) = wa at *
  obtain ⟨gt, hgt⟩ : ∃ g, g = w.heap.size + 1 := ⟨_, rfl⟩
  rw [← hgt] at Bt Bo
  have hgto : Hid (w.heap.size ≤ gt ∧ gt + 1 ≠ gt) := Lib.hid (by omega)
  rw [← hgt]
  clear hgt
  generalize hgo : gt + 1 = go at *
  have hg := Lib.hid (show w.heap.size ≤ gt ∧ w.heap.size ≤ go ∧ gt ≠ go by have := hgto.out; omega)
  clear hgo hgto
  go_loopw [20] (fun i wr => ∃ k : Nat, k ≤ n ∧ i = .int .i64 k ∧ Hid (Blk wr go 39 #[.int .i64 (woM dom v (co.take k) c).1, .int .i64 (woM dom v (co.take k) c).2]) ∧ Hid (Blk wr gt 39 #[.int .i64 0, .int .i64 0]) ∧ Hid (Keeps [] w wr)) (fun i _ => n - (intOf i).toNat)
  case atStart => exact ⟨0, Nat.zero_le _, rfl, Bo, Bt, kb⟩
  case round =>
    obtain ⟨k, hk, rfl, Bo', Bt', hkw⟩ := hrel
    clear Bo Bt kb
    by_cases hlt : k < n
    · obtain ⟨⟨V, N⟩, hx⟩ : ∃ x, co[k]? = some x := ⟨co[k]'(by rw [hn.out]; exact hlt), List.getElem?_eq_getElem _⟩
      have hxm := List.mem_of_getElem? hx
      obtain ⟨g, off, rfl, hgB, c0, c1⟩ := (hC.out.keep hkw.out (by simp)) k _ hx
      obtain ⟨Vn, ⟨d1, d2⟩, hV, hdv, hdg, hb1, hb2⟩ := dom_get hG.out hxm
      dsimp only at c0 c1 hV hb1 hb2
      subst hV
      obtain ⟨gd, offd, rfl, _, e0, e1⟩ := (hD.out.keep hkw.out (by simp)) Vn _ hdv
      dsimp only at e0 e1
      have hbd := bd_take (v := v) hG.out k (by rw [hn.out]; omega)
      have hsn : woM dom v (co.take (k + 1)) c = stepW dom v (woM dom v (co.take k) c) ((Vn : Int), N) := by
        rw [List.take_add_one, hx]
        exact woM_snoc _ _ _ _ _
      have hfac := hG.out.fac _ hxm
      dsimp only at hfac
      have hkm : (k : Int) < (n : Int) := by omega
      have hVm : (Vn : Int) < (m : Int) := by have := (hG.out.var _ hxm).2; dsimp only at this; rw [hm.out] at this; exact this
      unfold stepW at hsn
      dsimp only at hsn hdg
      rw [hdg] at hsn
      dsimp only at hsn
      generalize woM dom v (co.take k) c = r at *
      obtain ⟨r1, r2⟩ := r
      dsimp only at Bo' hsn
      have ka : Keeps [] wr (wr.alloc (.cells #[.int .i64 (Vn : Nat), .int .i64 N] 50)) := (Keeps.refl [] wr).alloc _
      have Ba := Lib.hid (Bo'.out.keep ka (by simp))
      have Ta := Lib.hid (Bt'.out.keep ka (by simp))
      have Ka := Lib.hid (hkw.out.trans ka)
      have gl := Lib.hid (show go < wr.heap.size from Bo'.out.lt)
      replace hx := Lib.hid hx
      replace hxm := Lib.hid hxm
      replace hdv := Lib.hid hdv
      clear hdg
      by_cases hsk : (Vn : Int) = v ∨ N = 0
      · rw [if_pos hsk] at hsn
        have hsn' := Lib.hid hsn
        clear hsn hbd e0 e1
        have hB2 : Hid (Blk (wr.alloc (.cells #[.int .i64 (Vn : Nat), .int .i64 N] 50)) go 39 #[.int .i64 (woM dom v (co.take (k + 1)) c).1, .int .i64 (woM dom v (co.take (k + 1)) c).2]) := Lib.hid (by rw [hsn'.out]; exact Ba.out)
        by_cases hv : (Vn : Int) = v
        · have hb : ((Vn : Int) == v) = true := by simpa using hv
          replace hv := Lib.hid hv
          replace hsk := Lib.hid hsk
          go_wp2_with fail
          go_roundw
          case rel => exact ⟨k + 1, by omega, by go_num, hB2, Ta, Ka⟩
          case measure => simp [intOf]; omega
        · have hb : ((Vn : Int) == v) = false := by simpa using hv
          obtain rfl : N = 0 := by rcases hsk with h | h; exact absurd h hv; exact h
          replace hv := Lib.hid hv
          replace hsk := Lib.hid hsk
          go_wp2_with fail
          go_roundw
          case rel => exact ⟨k + 1, by omega, by go_num, hB2, Ta, Ka⟩
          case measure => simp [intOf]; omega
      · rw [if_neg hsk] at hsn
        have hb : ((Vn : Int) == v) = false := by simp; exact fun h => hsk (.inl h)
        have hb2' : (N == 0) = false := by simp; exact fun h => hsk (.inr h)
        have m1 := mul_bd hfac hb1
        have m2 := mul_bd hfac hb2
        replace hsk := Lib.hid hsk
        obtain ⟨p1, hp1⟩ : ∃ p, N * d1 = p := ⟨_, rfl⟩
        obtain ⟨p2, hp2⟩ : ∃ p, N * d2 = p := ⟨_, rfl⟩
        have hw1 : IntKind.i64.wrap (N * d1) = p1 := by rw [hp1] at m1 ⊢; exact IntWalk.i64_in _ (by omega)
        have hw2 : IntKind.i64.wrap (N * d2) = p2 := by rw [hp2] at m2 ⊢; exact IntWalk.i64_in _ (by omega)
        rw [hp1] at m1
        rw [hp2] at m2
        rw [hp1, hp2] at hsn
        have hsn' := Lib.hid hsn
        replace hp1 := Lib.hid hp1
        replace hp2 := Lib.hid hp2
        unfold Bd at hbd
        dsimp only at hbd
        have hw3 : IntKind.i64.wrap (r1 + min p1 p2) = r1 + min p1 p2 := IntWalk.i64_in _ (by omega)
        have hw4 : IntKind.i64.wrap (r2 + max p1 p2) = r2 + max p1 p2 := IntWalk.i64_in _ (by omega)
        have e0' := ka.cellEq e0 (by simp)
        have e1' := ka.cellEq e1 (by simp)
        clear hsn hbd hb1 hb2 m1 m2 ka e0 e1
        go_wp2_with fail
        go_quiet (fail)
        have Bq : Blk ((wr.alloc (.cells #[.int .i64 (Vn : Nat), .int .i64 N] 50)).drewN nq) go 39 #[.int .i64 r1, .int .i64 r2] := Ba.out
        have Bf := Lib.hid (fun u v => (Bq.set_ 0 u).set_ 1 v)
        have Tf := Lib.hid (fun u v => ((show Blk ((wr.alloc (.cells #[.int .i64 (Vn : Nat), .int .i64 N] 50)).drewN nq) gt 39 #[.int .i64 0, .int .i64 0] from Ta.out).far (p := ⟨go, 0, none⟩) hg.out.2.2 u).far (p := ⟨go, 1, none⟩) hg.out.2.2 v)
        have Kf := Lib.hid (fun u v => ((Ka.out.drewN nq).setCell (p := ⟨go, 0, none⟩) (.inr hg.out.2.1) u).setCell (p := ⟨go, 1, none⟩) (.inr hg.out.2.1) v)
        have q0 := Bq.cell
        have f0 := Bq.frozen
        clear Bq e0' e1'
        go_wp2_with fail
        go_roundw
        case rel => exact ⟨k + 1, by omega, by go_num, Lib.hid (by rw [hsn'.out]; exact Bf.out _ _), Lib.hid (Tf.out _ _), Lib.hid (Kf.out _ _)⟩
        case measure => simp [intOf]; omega
    · obtain rfl : k = n := by omega
      rw [List.take_of_length_le (by rw [hn.out]; exact Nat.le_refl _)] at Bo'
      generalize woM dom v co c = r at *
      obtain ⟨r1, r2⟩ := r
      dsimp only at Bo'
      have q0 := Bo'.out.cell
      have t0 := Bt'.out.cell
      have ft := Bt'.out.frozen
      have Tf := Lib.hid (fun u v => (Bt'.out.set_ 0 u).set_ 1 v)
      have Kf := Lib.hid (fun u v => (hkw.out.setCell (p := ⟨gt, 0, none⟩) (.inr hg.out.1) u).setCell (p := ⟨gt, 1, none⟩) (.inr hg.out.1) v)
      have hkk : ¬ (k : Int) < (k : Int) := by omega
      go_wp2_with fail
      have z0 := (Tf.out (.int .i64 r1) (.int .i64 r2)).cell
      refine bodyPost_ret (v := .agg #[.int .i64 r1, .int .i64 r2]) (by simp [results, Try.results37, go_sem, z0]) rfl ⟨rfl, Kf.out _ _⟩
end Go.Proofs.Ythmnolpamllabaa
