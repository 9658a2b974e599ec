/- The law's functions equal and same. -/
import Derived.Test.YtnoaahgjfknnlaaWal5
namespace Go.Proofs.Ytnoaahgjfknnlaa
open Go.RowKit
set_option linter.unusedSimpArgs false
set_option linter.unusedVariables false

theorem step_convert_bts {P : Program} {w : World} {ops : Array Oper} {o : Oper} {a : Act} {K : Act → World → Prop} {Q : Exit → Act → World → Prop} {E : Prop} (hgd : Region.wanted o (yielded ops a.tmps) = true) (src dst : TypeId) (x : Operand) (ho : o.op = .convert src dst x) (e : TypeId)
    (hs : P.underlying src = some (.slice e)) (he : P.underlying e = some (.int .u8)) (hd : P.underlying dst = some .string)
    (A : Option Addr) (l : List UInt8) (n c : Nat) (hx : a.eval x = .slice A n c) (hn : l.length = n) (hB : Bts w A l)
    (h : K (a.put o.dst (.string ⟨l.toArray⟩)) w) : if Region.wanted o (yielded ops a.tmps) = true then Oper.wp P o a w K Q else E := by
  rw [if_pos hgd]
  unfold Oper.wp execOp
  simp only [ho, hx, Sem.run_bind, Sem.run_pure, Result.andThen_ok, run_convert_bts src dst e hs he hd A l n c hn hB]
  exact h

/-- Byte strings behind an address. -/
def RowsAt (w : World) (A : Option Addr) (rs : List (List UInt8)) : Prop :=
  ∀ (i : Nat) (r : List UInt8), rs[i]? = some r → ∃ (g o : Nat) (Ar : Option Addr) (c : Nat), A = some ⟨g, o, none⟩ ∧ w.cell? ⟨g, o + i, none⟩ = some (Value.slice Ar r.length c) ∧ Bts w Ar r
theorem RowsAt.keep {w w' : World} {A : Option Addr} {rs : List (List UInt8)} (h : RowsAt w A rs) (hk : Keeps [] w w') : RowsAt w' A rs := by
  intro i r hi
  obtain ⟨g, o, Ar, c, e, hc, hb⟩ := h i r hi
  exact ⟨g, o, Ar, c, e, hk.cellEq hc (by simp), hb.keep hk (by simp)⟩
theorem LstAt.rows {w : World} {B : Nat} {A : Option Addr} {rs : List (List UInt8)} (h : LstAt w B A rs) : RowsAt w A rs := by
  intro i r hi
  obtain ⟨g, o, Ar, c, e, _, hc, _, _, hb, _⟩ := h i r hi
  exact ⟨g, o, Ar, c, e, hc, hb⟩
theorem OutAt.rows {base : Nat} {w : World} {A : Option Addr} {n c : Nat} {rs : List (List UInt8)} (h : OutAt base w (.slice A n c) rs) : RowsAt w A rs := by
  obtain ⟨vs, h1, h2⟩ := h
  intro i r hi
  obtain ⟨B, c', e, _, _, hb, _⟩ := h2 i r hi
  have hil : i < rs.length := (List.getElem?_eq_some_iff.1 hi).1
  rcases h1.2 with ⟨_, h0⟩ | ⟨g, cap, cur, hv, hb', hg, hc, hm, hs, ht⟩
  · omega
  · injection hv with hA _ _
    refine ⟨g, 0, B, c', hA, ?_, hb⟩
    rw [Nat.zero_add, Blk.cell (cs := cur) (t := 34) hg]
    have h3 : (cur.toList.take (rs.length * 1))[i]? = some (Value.slice B r.length c') := by rw [ht]; exact e
    rw [List.getElem?_take, if_pos (by omega)] at h3
    simpa using h3

set_option maxHeartbeats 400000 in
theorem equal_len (w : World) (A B : Option Addr) (n c m c' : Nat) (h : n ≠ m) :
    Calls Try.prog 25 #[.slice A n c, .slice B m c'] w fun e w' => e = .returned (.bool false) ∧ w = w' := by
  have hb : ((n : Int) != (m : Int)) = true := by simp; omega
  go_enter Try.func25, Try.ntmps25
  go_wp2_with fail
  go_ret
  exact ⟨rfl, rfl⟩

set_option maxHeartbeats 1600000 in
theorem equal_yes (w : World) (A B : Option Addr) (rs : List (List UInt8)) (n c c' : Nat) (hn : rs.length = n) (hs : n ≤ 1000000000) (hA : RowsAt w A rs) (hB : RowsAt w B rs) :
    Calls Try.prog 25 #[.slice A n c, .slice B n c'] w fun e w' => e = .returned (.bool true) ∧ Keeps [] w w' := by
  replace hA := Lib.hid hA
  replace hB := Lib.hid hB
  replace hn := Lib.hid hn
  go_enter Try.func25, Try.ntmps25
  go_wp2_with fail
  go_loopw [13] (fun i wr => ∃ k : Nat, k ≤ n ∧ i = .int .i64 k ∧ Hid (Keeps [] w wr)) (fun i _ => n - (intOf i).toNat)
  case atStart => exact ⟨0, Nat.zero_le _, rfl, Lib.hid (Keeps.refl _ _)⟩
  case round =>
    obtain ⟨k, hk, rfl, hkw⟩ := hrel
    by_cases hlt : k < n
    · obtain ⟨r, hr⟩ : ∃ r, rs[k]? = some r := ⟨rs[k]'(by have := hn.out; omega), List.getElem?_eq_getElem _⟩
      obtain ⟨g, o, Ar, ca, rfl, ha, hba⟩ := (hA.out.keep hkw.out) k r hr
      obtain ⟨g', o', Br, cb, rfl, hb, hbb⟩ := (hB.out.keep hkw.out) k r hr
      replace hba := Lib.hid hba.drew_
      replace hbb := Lib.hid hbb.drew_
      have hki : (k : Int) < (n : Int) := by omega
      have hki0 : (0 : Int) ≤ (k : Int) := by omega
      have KK : Hid (Keeps [] wr wr.drew) := Lib.hid (Keeps.refl _ _).drew
      clear hr
      go_wp2_with fail
      have cv1 := run_convert_bts (P := Try.prog) (w := wr.drew) 34 9 5 Try.underlying34 Try.underlying5 Try.underlying9 Ar r r.length ca rfl hba.out
      have cv2 := run_convert_bts (P := Try.prog) (w := wr.drew) 34 9 5 Try.underlying34 Try.underlying5 Try.underlying9 Br r r.length cb rfl hbb.out
      go_region_with (fail)
      all_goals
        go_wp2_with fail
        go_roundw
        case rel => exact ⟨k + 1, by omega, by go_num, Lib.hid (hkw.out.trans KK.out)⟩
        case measure => simp [intOf]; omega
    · obtain rfl : k = n := by omega
      go_wp2_with fail
      go_ret
      exact ⟨rfl, hkw.out⟩

set_option maxHeartbeats 1600000 in
theorem same_any {Z : List Nat} (w : World) (bd bs bm bS : Nat) (s : St) (hD : DRep w bd bs s) (hM : MRep Z w bm bS s) (hdown : s.down = false) :
    Calls Try.prog 27 #[.pointer (some ⟨bd, 0, none⟩), .pointer (some ⟨bm, 0, none⟩)] w fun e w' => e = .returned (.bool true) ∧ Keeps [] w w' := by
  have hns := hD.n
  obtain ⟨cap, cells, a1, a2, a3, a4, a5⟩ := hM.ex
  have c0 : w.cell? ⟨bm, 0, none⟩ = some (.slice (some ⟨bS, 0, none⟩) s.n cap) := (a1.cell 0).trans rfl
  replace hD := Lib.hid hD
  replace hM := Lib.hid hM
  replace a1 := Lib.hid a1
  replace a2 := Lib.hid a2
  replace a5 := Lib.hid a5
  obtain ⟨n, hn⟩ : ∃ n, s.n = n := ⟨_, rfl⟩
  rw [hn] at c0 a3 a4 hns
  replace hn := Lib.hid hn
  go_enter Try.func27, Try.ntmps27
  go_wp2_with fail
  go_loopw [13] (fun i wr => ∃ k : Nat, k ≤ n ∧ i = .int .i64 k ∧ Hid (Keeps [] w wr)) (fun i _ => n - (intOf i).toNat)
  case atStart => exact ⟨0, Nat.zero_le _, rfl, Lib.hid (Keeps.refl _ _)⟩
  case round =>
    clear c0
    obtain ⟨k, hk, rfl, hkw⟩ := hrel
    by_cases hlt : k < n
    · have hki : (k : Int) < (n : Int) := by omega
      have hki0 : (0 : Int) ≤ (k : Int) := by omega
      have hks : k < s.n := by rw [hn.out]; exact hlt
      have hck : chk s (k : Int) = 0 := by unfold chk; rw [hdown]; simp; omega
      have HR := read_ok wr bd bs s k (hD.out.keep hkw.out (by simp) (by simp)) hck hks
      obtain ⟨v, hv, hsl⟩ := a5.out k hks
      have hbl := sec_len hD.out hks
      generalize hb : sec s k = b at *
      replace hb := Lib.hid hb
      replace HR := Lib.hid HR
      obtain ⟨g, c, rfl, _, _, hgb, _, _, _⟩ := hsl.bts
      clear hck
      go_wp2_with fail
      refine HR.out.mono ?_
      rintro e w1 ⟨rfl, hB, k1⟩
      have kk1 := Lib.hid (hkw.out.trans k1)
      have hba : Hid (Bts w1 (some ⟨wr.heap.size, 0, none⟩) b) := Lib.hid (.inr ⟨_, 0, rfl, fun j v hj => by
        show w1.cell? _ = _
        rw [hB.cell, Nat.zero_add]
        simp [hj]⟩)
      have hbb : Hid (Bts w1 (some ⟨g, 0, none⟩) b) := Lib.hid (hgb.keep kk1.out (by simp))
      have s0 : w1.cell? ⟨bm, 0, none⟩ = some (.slice (some ⟨bS, 0, none⟩) n cap) := by rw [← hn.out]; exact ((a1.out.keep kk1.out (by simp)).cell 0).trans rfl
      have s1 : w1.cell? ⟨bS, k, none⟩ = some (.slice (some ⟨g, 0, none⟩) 64 c) := ((a2.out.keep kk1.out (by simp)).cell k).trans hv
      have KK : Hid (Keeps [] w1 w1.drew) := Lib.hid (Keeps.refl _ _).drew
      replace hbl := Lib.hid hbl
      clear HR hB k1 hv hsl hgb
      go_wp2_with fail
      have cv1 := fun m => run_convert_bts (P := Try.prog) (w := w1.drewN m) 34 9 5 Try.underlying34 Try.underlying5 Try.underlying9 (some ⟨wr.heap.size, 0, none⟩) b 64 64 hbl.out (hba.out.keep ((Keeps.refl [] w1).drewN m) (by simp))
      have cv2 := fun m => run_convert_bts (P := Try.prog) (w := w1.drewN m) 34 9 5 Try.underlying34 Try.underlying5 Try.underlying9 (some ⟨g, 0, none⟩) b 64 c hbl.out (hbb.out.keep ((Keeps.refl [] w1).drewN m) (by simp))
      go_quiet (fail)
      all_goals
        go_wp2_with fail
        go_roundw
        case rel => exact ⟨k + 1, by omega, by go_num, Lib.hid (kk1.out.drewN _)⟩
        case measure => simp [intOf]; omega
    · obtain rfl : k = n := by omega
      go_wp2_with fail
      go_ret
      exact ⟨rfl, hkw.out⟩
end Go.Proofs.Ytnoaahgjfknnlaa
