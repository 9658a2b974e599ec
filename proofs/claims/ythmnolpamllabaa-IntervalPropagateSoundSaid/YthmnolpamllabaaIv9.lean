/- The contract of Range. -/
import Derived.Test.YthmnolpamllabaaIv8
namespace Go.Proofs.Ythmnolpamllabaa
open Go.RowKit
set_option linter.unusedSimpArgs false
set_option linter.unusedVariables false

/-- A term over an empty domain. -/
def hole (dom : List Iv) (x : Iv) : Bool := decide (x.2 ≠ 0) && !full (dom.getD x.1.toNat (0, 0))
def rngM (dom co : List Iv) (c : Int) : Iv × Bool := if co.any (hole dom) = true then ((0, 0), false) else (woM dom (-1) co c, true)
def RngPost (w : World) (q : Iv × Bool) (e : Ending) (w' : World) : Prop := e = .returned (.tuple #[.agg #[.int .i64 q.1.1, .int .i64 q.1.2], .bool q.2]) ∧ Keeps [] w w'

set_option maxHeartbeats 1600000 in
set_option maxRecDepth 100000 in
theorem range_any (w : World) (B : Nat) (Ac Ad : Option Addr) (dom co : List Iv) (c : Int) (n cc m cd : Nat) (hn : co.length = n) (hm : dom.length = m) (hC : IvAt w B Ac co) (hD : IvAt w B Ad dom) (hB : B ≤ w.heap.size) (hG : GoodL dom co c) (hm6 : m ≤ 1000000) :
    Calls Try.prog 19 #[.agg #[.int .i64 c, .slice Ac n cc], .slice Ad m cd] w (RngPost w (rngM dom co c)) := by
  have hn64 : n ≤ 64 := by have := hG.few; omega
  have kb : Keeps [] w ((w.alloc (.cells #[.int .i64 c, .slice Ac n cc] 44)).alloc (.cells #[.int .i64 0, .int .i64 0] 39)) := ((Keeps.refl [] w).alloc _).alloc _
  have Bl : Blk ((w.alloc (.cells #[.int .i64 c, .slice Ac n cc] 44)).alloc (.cells #[.int .i64 0, .int .i64 0] 39)) w.heap.size 44 #[.int .i64 c, .slice Ac n cc] := (Blk.new w 44 _).alloc _
  have Bt : Blk ((w.alloc (.cells #[.int .i64 c, .slice Ac n cc] 44)).alloc (.cells #[.int .i64 0, .int .i64 0] 39)) (w.heap.size + 1) 39 #[.int .i64 0, .int .i64 0] := by
    have := Blk.new (w.alloc (.cells #[.int .i64 c, .slice Ac n cc] 44)) 39 #[.int .i64 0, .int .i64 0]
    simpa using this
  replace kb := Lib.hid kb
  replace Bt := Lib.hid Bt
  replace Bl := Lib.hid Bl
  replace hn := Lib.hid hn
  replace hm := Lib.hid hm
  replace hG := Lib.hid hG
  replace hC := Lib.hid hC
  replace hD := Lib.hid hD
  obtain ⟨q, hq⟩ : ∃ q, rngM dom co c = q := ⟨_, rfl⟩
  rw [hq]
  replace hq := Lib.hid hq
  go_enter Try.func19, Try.ntmps19
  go_wp2_with fail
  generalize ((w.alloc (.cells #[.int .i64 c, .slice Ac n cc] 44)).alloc (.cells #[.int .i64 0, .int .i64 0] 39)) = wa at *
  obtain ⟨gl, hgl⟩ : ∃ g, g = w.heap.size := ⟨_, rfl⟩
  have hg := Lib.hid (show w.heap.size ≤ gl ∧ w.heap.size ≤ gl + 1 ∧ gl ≠ gl + 1 by omega)
  rw [← hgl] at Bl Bt
  rw [← hgl]
  clear hgl
  obtain ⟨gt, hgt⟩ : ∃ g, g = gl + 1 := ⟨_, rfl⟩
  rw [← hgt] at Bt hg
  rw [← hgt]
  clear hgt
  go_loopw [11] (fun i wr => ∃ k : Nat, k ≤ n ∧ i = .int .i64 k ∧ Hid ((co.take k).any (hole dom) = false) ∧ Hid (Blk wr gl 44 #[.int .i64 c, .slice Ac n cc]) ∧ Hid (Blk wr gt 39 #[.int .i64 0, .int .i64 0]) ∧ Hid (Keeps [] w wr)) (fun i _ => n - (intOf i).toNat)
  case atStart => exact ⟨0, Nat.zero_le _, rfl, Lib.hid rfl, Bl, Bt, kb⟩
  case round =>
    obtain ⟨k, hk, rfl, hno, Bl', Bt', hkw⟩ := hrel
    clear Bl Bt kb
    by_cases hlt : k < n
    · obtain ⟨⟨V, N⟩, hx⟩ : ∃ x, co[k]? = some x := ⟨co[k]'(by rw [hn.out]; exact hlt), List.getElem?_eq_getElem _⟩
      have hxm := List.mem_of_getElem? hx
      obtain ⟨g, off, rfl, hgB, c0, c1⟩ := (hC.out.keep hkw.out (by simp)) k _ hx
      obtain ⟨Vn, ⟨d1, d2⟩, hV, hdv, hdg, hb1, hb2⟩ := dom_get hG.out hxm
      dsimp only at c0 c1 hV hb1 hb2
      subst hV
      obtain ⟨gd, offd, rfl, _, e0, e1⟩ := (hD.out.keep hkw.out (by simp)) Vn _ hdv
      dsimp only at e0 e1 hdg
      have hkm : (k : Int) < (n : Int) := by omega
      have hVm : (Vn : Int) < (m : Int) := by have := (hG.out.var _ hxm).2; dsimp only at this; rw [hm.out] at this; exact this
      have hh : hole dom ((Vn : Int), N) = (decide (N ≠ 0) && !full (d1, d2)) := by unfold hole; dsimp only; rw [hdg]
      have hst : (co.take (k + 1)).any (hole dom) = (decide (N ≠ 0) && !full (d1, d2)) := by
        rw [List.take_add_one, hx, List.any_append, hno.out]
        simp [hh]
      have ka : Keeps [] wr (wr.alloc (.cells #[.int .i64 (Vn : Nat), .int .i64 N] 50)) := (Keeps.refl [] wr).alloc _
      have La := Lib.hid (Bl'.out.keep ka (by simp))
      have Ta := Lib.hid (Bt'.out.keep ka (by simp))
      have Ka := Lib.hid (hkw.out.trans ka)
      have e0' := ka.cellEq e0 (by simp)
      have e1' := ka.cellEq e1 (by simp)
      have HE := Lib.hid (empty_any (wr.alloc (.cells #[.int .i64 (Vn : Nat), .int .i64 N] 50)) d1 d2)
      have hex : Hid (∃ x ∈ co, hole dom x = (decide (N ≠ 0) && !full (d1, d2))) := Lib.hid ⟨_, hxm, hh⟩
      have l0 := Bl'.out.cell
      replace hx := Lib.hid hx
      replace hxm := Lib.hid hxm
      replace hdv := Lib.hid hdv
      replace hh := Lib.hid hh
      clear hdg hb1 hb2 ka e0 e1
      by_cases hN : N = 0
      · subst hN
        have hst2 : Hid ((co.take (k + 1)).any (hole dom) = false) := Lib.hid (by rw [hst]; simp)
        clear hst l0
        have l0 := La.out.cell
        go_wp2_with fail
        go_roundw
        case rel => exact ⟨k + 1, by omega, by go_num, hst2, La, Ta, Ka⟩
        case measure => simp [intOf]; omega
      · have hb : (N != 0) = true := by simpa using hN
        by_cases hf : d2 < d1
        · have hd := decide_eq_true hf
          have hqv : q = ((0, 0), false) := by
            rw [← hq.out]
            unfold rngM
            rw [if_pos]
            obtain ⟨x, hx1, hx2⟩ := hex.out
            refine List.any_eq_true.2 ⟨x, hx1, ?_⟩
            rw [hx2]
            unfold full
            simp [hN]
            omega
          subst hqv
          replace hN := Lib.hid hN
          clear hst l0
          have l0 := La.out.cell
          go_wp2_with fail
          refine HE.out.mono ?_
          rintro e wb ⟨rfl, kb⟩
          have Tb := (Ta.out.keep kb (by simp))
          have t0 := Tb.cell
          have ft := Tb.frozen
          have Tf := Lib.hid (fun u v => (Tb.set_ 0 u).set_ 1 v)
          have Kf := Lib.hid (fun u v => ((Ka.out.trans kb).setCell (p := ⟨gt, 0, none⟩) (.inr hg.out.2.1) u).setCell (p := ⟨gt, 1, none⟩) (.inr hg.out.2.1) v)
          clear HE kb l0 e0' e1' Tb
          go_wp2_with fail
          have z0 := (Tf.out (.int .i64 0) (.int .i64 0)).cell
          refine bodyPost_ret (v := .tuple #[.agg #[.int .i64 0, .int .i64 0], .bool false]) (by simp [results, Try.results19, go_sem, z0]) rfl ⟨rfl, Kf.out _ _⟩
        · have hd := decide_eq_false hf
          have hst2 : Hid ((co.take (k + 1)).any (hole dom) = false) := Lib.hid (by rw [hst]; unfold full; simp; intro; omega)
          replace hN := Lib.hid hN
          clear hst l0
          have l0 := La.out.cell
          go_wp2_with fail
          refine HE.out.mono ?_
          rintro e wb ⟨rfl, kb⟩
          have Lb := Lib.hid (La.out.keep kb (by simp))
          have Tb := Lib.hid (Ta.out.keep kb (by simp))
          have Kb := Lib.hid (Ka.out.trans kb)
          clear HE kb l0 e0' e1'
          go_wp2_with fail
          go_roundw
          case rel => exact ⟨k + 1, by omega, by go_num, hst2, Lb, Tb, Kb⟩
          case measure => simp [intOf]; omega
    · obtain rfl : k = n := by omega
      have hno' := hno.out
      rw [List.take_of_length_le (by rw [hn.out]; exact Nat.le_refl _)] at hno'
      have hqv : q = (woM dom (-1) co c, true) := by
        rw [← hq.out]
        unfold rngM
        rw [if_neg (by rw [hno']; simp)]
      subst hqv
      have HW := without_any wr B Ac Ad dom co c (-1) k cc m cd hn.out hm.out (hC.out.keep hkw.out (by simp)) (hD.out.keep hkw.out (by simp)) (Nat.le_trans hB hkw.out.size) hG.out hm6
      unfold NarPost at HW
      generalize woM dom (-1) co c = r at *
      obtain ⟨r1, r2⟩ := r
      dsimp only at HW
      replace HW := Lib.hid HW
      have l0 := Bl'.out.cell
      have hkk : ¬ (k : Int) < (k : Int) := by omega
      clear hno'
      go_wp2_with fail
      refine HW.out.mono ?_
      rintro e wb ⟨rfl, kb⟩
      have Tb := (Bt'.out.keep kb (by simp))
      have t0 := Tb.cell
      have ft := Tb.frozen
      have Tf := Lib.hid (fun u v => (Tb.set_ 0 u).set_ 1 v)
      have Kf := Lib.hid (fun u v => ((hkw.out.trans kb).setCell (p := ⟨gt, 0, none⟩) (.inr hg.out.2.1) u).setCell (p := ⟨gt, 1, none⟩) (.inr hg.out.2.1) v)
      clear HW kb l0 Tb
      go_wp2_with fail
      have z0 := (Tf.out (.int .i64 r1) (.int .i64 r2)).cell
      refine bodyPost_ret (v := .tuple #[.agg #[.int .i64 r1, .int .i64 r2], .bool true]) (by simp [results, Try.results19, go_sem, z0]) rfl ⟨rfl, Kf.out _ _⟩
end Go.Proofs.Ythmnolpamllabaa
