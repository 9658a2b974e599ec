/- The case that comes in: small, disks. -/
import Derived.Test.YtnoaahgjfknnlaaWal4
import Derived.Test.YtnoaahgjfknnlaaWalQ
namespace Go.Proofs.Ytnoaahgjfknnlaa
open Go.RowKit
set_option linter.unusedSimpArgs false
set_option linter.unusedVariables false

/-- Byte strings behind an address, below block B. -/
def LstAt (w : World) (B : Nat) (A : Option Addr) (rs : List (List UInt8)) : Prop :=
  ∀ (i : Nat) (r : List UInt8), rs[i]? = some r → ∃ (g o : Nat) (Ar : Option Addr) (c : Nat), A = some ⟨g, o, none⟩ ∧ g < B ∧ w.cell? ⟨g, o + i, none⟩ = some (Value.slice Ar r.length c) ∧ r.length ≤ c ∧ c ≤ maxLen ∧ Bts w Ar r ∧ (r ≠ [] → ∀ a, Ar = some a → a.block < B)

theorem LstAt.keep {w w' : World} {B : Nat} {A : Option Addr} {rs : List (List UInt8)} {X : List Nat} (h : LstAt w B A rs) (hk : Keeps X w w') (hX : ∀ x ∈ X, B ≤ x) : LstAt w' B A rs := by
  intro i r hi
  obtain ⟨g, o, Ar, c, rfl, hg, hc, h1, h2, hb, hB⟩ := h i r hi
  refine ⟨g, o, Ar, c, rfl, hg, hk.cellEq hc (fun hx => by have := hX g hx; omega), h1, h2, ?_, hB⟩
  by_cases hr : r = []
  · exact .inl hr
  · exact hb.keep hk (fun a ha hx => by have := hB hr a ha; have := hX _ hx; omega)

/-- A case, as a value. -/
abbrev caseV (S : Int) (AO : Option Addr) (nO cO : Nat) (F Co : Int) (ep : Nat) (AR : Option Addr) (nR cR : Nat) : Array Value :=
  #[.int .i64 S, .slice AO nO cO, .int .i64 F, .int .i64 Co, .int .u32 ep, .slice AR nR cR]

def Small (S : Int) (nO : Nat) (rs : List (List UInt8)) : Prop := 1 ≤ S ∧ S ≤ 12 ∧ (nO : Int) ≤ S ∧ rs.length ≤ 12 ∧ ∀ r ∈ rs, r.length ≤ 400

def SmallPost (S : Int) (nO : Nat) (rs : List (List UInt8)) (w : World) (e : Ending) (w' : World) : Prop := ∃ b, e = .returned (.bool b) ∧ (b = true ↔ Small S nO rs) ∧ Keeps [] w w'

set_option maxHeartbeats 1600000 in
set_option maxRecDepth 100000 in
theorem small_any (w : World) (S : Int) (AO : Option Addr) (nO cO : Nat) (F Co : Int) (ep : Nat) (AR : Option Addr) (nR cR : Nat) (rs : List (List UInt8)) (hl : rs.length = nR) (hc : nR ≤ cR) (hm : cR ≤ maxLen) (hR : LstAt w w.heap.size AR rs) :
    Calls Try.prog 19 #[.agg (caseV S AO nO cO F Co ep AR nR cR)] w (SmallPost S nO rs w) := by
  have hk : Keeps [] w (w.alloc (.cells (caseV S AO nO cO F Co ep AR nR cR) 38)) := (Keeps.refl _ _).alloc _
  have hR' := Lib.hid (hR.keep hk (by simp))
  replace hk := Lib.hid hk
  replace hl := Lib.hid hl
  unfold maxLen at hm
  clear hR
  have hbad : ∀ (p : Prop), (¬ p) → ((false = true) ↔ p) := fun p h => by simp [h]
  by_cases h1 : S < 1
  · go_enter Try.func19, Try.ntmps19
    go_wp2_with fail
    go_ret
    exact ⟨_, rfl, hbad _ (by unfold Small; omega), hk.out⟩
  · by_cases h2 : 12 < S
    · go_enter Try.func19, Try.ntmps19
      go_wp2_with fail
      go_ret
      exact ⟨_, rfl, hbad _ (by unfold Small; omega), hk.out⟩
    · by_cases h3 : S < (nO : Int)
      · go_enter Try.func19, Try.ntmps19
        go_wp2_with fail
        go_ret
        exact ⟨_, rfl, hbad _ (by unfold Small; omega), hk.out⟩
      · by_cases h4 : (12 : Int) < (nR : Int)
        · go_enter Try.func19, Try.ntmps19
          go_wp2_with fail
          go_ret
          exact ⟨_, rfl, hbad _ (by unfold Small; have := hl.out; omega), hk.out⟩
        · go_enter Try.func19, Try.ntmps19
          go_wp2_with fail
          go_loopw [30] (fun i wr => ∃ k : Nat, k ≤ nR ∧ i = .int .i64 k ∧ Hid (∀ j r, j < k → rs[j]? = some r → r.length ≤ 400) ∧ wr = w.alloc (.cells (caseV S AO nO cO F Co ep AR nR cR) 38)) (fun i _ => nR - (intOf i).toNat)
          case atStart => exact ⟨0, Nat.zero_le _, rfl, Lib.hid (fun j r hj => absurd hj (Nat.not_lt_zero _)), rfl⟩
          case round =>
            obtain ⟨k, hkn, rfl, hall, rfl⟩ := hrel
            by_cases hlt : k < nR
            · obtain ⟨r, hr⟩ : ∃ r, rs[k]? = some r := ⟨rs[k]'(by have := hl.out; omega), List.getElem?_eq_getElem _⟩
              obtain ⟨g, o, Ar, c, rfl, hg, hcell, _⟩ := hR'.out k r hr
              have hki : (k : Int) < (nR : Int) := by omega
              have hki0 : (0 : Int) ≤ (k : Int) := by omega
              generalize hrl : r.length = m at *
              by_cases hm4 : (400 : Int) < (m : Int)
              · go_wp2_with fail
                go_ret
                refine ⟨_, rfl, hbad _ ?_, hk.out⟩
                unfold Small
                rintro ⟨_, _, _, _, h5⟩
                have := h5 r (List.mem_of_getElem? hr)
                omega
              · go_wp2_with fail
                go_roundw
                case rel => exact ⟨k + 1, by omega, by go_num, Lib.hid (fun j r' hj hr' => by
                  by_cases hjk : j < k
                  · exact hall.out j r' hjk hr'
                  · obtain rfl : j = k := by omega
                    rw [hr] at hr'
                    injection hr' with e
                    rw [← e, hrl]
                    omega), trivial⟩
                case measure => simp [intOf]; omega
            · obtain rfl : k = nR := by omega
              go_wp2_with fail
              go_ret
              refine ⟨_, rfl, ⟨fun _ => ?_, fun _ => rfl⟩, hk.out⟩
              refine ⟨by omega, by omega, by omega, by have := hl.out; omega, fun r hr => ?_⟩
              obtain ⟨j, hj⟩ := List.getElem?_of_mem hr
              exact hall.out j r (by have := (List.getElem?_eq_some_iff.1 hj).1; have := hl.out; omega) hj

/-- A disk and the reference's, in the same state, that do not fail. -/
structure DkOk (w0 w : World) (bd bs bm bS : Nat) (s : St) (S : Nat) : Prop where
  d : DRep w bd bs s
  m : MRep [] w bm bS s
  n : s.n = S
  down : s.down = false
  left : s.left = 0
  wr0 : 0 ≤ s.writes
  wr1 : s.writes ≤ 12
  hbd : w0.heap.size ≤ bd
  hbs : w0.heap.size ≤ bs
  hbm : w0.heap.size ≤ bm
  hbS : w0.heap.size ≤ bS
  keep : Keeps [] w0 w

theorem full_len (r : List UInt8) : (splice (List.replicate 64 0) 0 (r.take 64)).length = 64 := by
  have : (r.take 64).length ≤ 64 := by rw [List.length_take]; omega
  rw [length_splice _ _ _ (by rw [List.length_replicate]; omega), List.length_replicate]

set_option maxHeartbeats 3200000 in
set_option maxRecDepth 100000 in
theorem disks_any (w : World) (S : Nat) (AO : Option Addr) (nO cO : Nat) (F Co : Int) (ep : Nat) (AR : Option Addr) (nR cR : Nat) (old : List (List UInt8)) (hl : old.length = nO) (hc : nO ≤ cO) (hm : cO ≤ maxLen) (hO : LstAt w w.heap.size AO old) (h1 : 1 ≤ S) (h12 : S ≤ 12) (hn : nO ≤ S) :
    Calls Try.prog 20 #[.agg (caseV S AO nO cO F Co ep AR nR cR)] w fun e w' => ∃ bd bs bm bS s, e = .returned (.tuple #[.pointer (some ⟨bd, 0, none⟩), .pointer (some ⟨bm, 0, none⟩)]) ∧ DkOk w w' bd bs bm bS s S := by
  have hk : Keeps [] w (w.alloc (.cells (caseV S AO nO cO F Co ep AR nR cR) 38)) := (Keeps.refl _ _).alloc _
  have hbx := Lib.hid (Blk.new w 38 (caseV S AO nO cO F Co ep AR nR cR))
  have hO' := Lib.hid (hO.keep hk (by simp))
  replace hk := Lib.hid hk
  replace hl := Lib.hid hl
  unfold maxLen at hm
  clear hO
  go_enter Try.func20, Try.ntmps20
  go_wp2_with fail
  generalize hww : w.alloc (.cells (caseV S AO nO cO F Co ep AR nR cR) 38) = wx at *
  clear hww
  refine (new_ok wx S h1 (by omega)).mono ?_
  rintro e w1 ⟨bd, bs, rfl, hD, hbd, hbs, k1⟩
  have hbx1 := Lib.hid (hbx.out.keep k1 (by simp))
  have c0 : w1.cell? ⟨w.heap.size, 0, none⟩ = some (.int .i64 S) := (hbx1.out.cell 0).trans rfl
  replace hbd : w.heap.size ≤ bd := Nat.le_trans hk.out.size hbd
  replace hbs : w.heap.size ≤ bs := Nat.le_trans hk.out.size hbs
  have kx1 := Lib.hid k1
  replace k1 := Lib.hid (hk.out.trans k1)
  replace hD := Lib.hid hD
  clear hbx
  go_wp2_with fail
  refine (rnew_ok w1 S h1 (by omega)).mono ?_
  rintro e w2 ⟨bm, bS, rfl, hM, hbm, hbS, k2⟩
  have hbx2 := Lib.hid (hbx1.out.keep k2 (by simp))
  have c1 : w2.cell? ⟨w.heap.size, 1, none⟩ = some (.slice AO nO cO) := (hbx2.out.cell 1).trans rfl
  replace hbm : w.heap.size ≤ bm := Nat.le_trans k1.out.size hbm
  replace hbS : w.heap.size ≤ bS := Nat.le_trans k1.out.size hbS
  have k3 := Lib.hid (k1.out.trans k2)
  have hD2 := hD.out.keep k2 (by simp) (by simp)
  have hx0 : Hid (DRep w2 bd bs (st0 S) ∧ MRep [] w2 bm bS (st0 S) ∧ (st0 S).n = S ∧ (st0 S).down = false ∧ (st0 S).left = 0 ∧ 0 ≤ (st0 S).writes ∧ (st0 S).writes ≤ (0 : Nat)) := Lib.hid ⟨hD2, hM, rfl, rfl, rfl, by simp [st0], by simp [st0]⟩
  have hOw := Lib.hid (hO'.out.keep (kx1.out.trans k2) (by simp))
  clear hD hM k1 k2 hD2 hbx1 c0 kx1 hO'
  have info5 : Hid ((Try.prog.info? 5).map (fun i => (i.zero, i.size, i.bytes)) = some (some (.int .u8 0), 1, 1)) := Lib.hid (by kernel_rfl)
  have infoS : Hid ((Try.prog.info? 5).map (·.size) = some 1) := Lib.hid (by kernel_rfl)
  have hzm : Hid (madeCells #[.int .u8 0] 64 = ((List.replicate 64 (0 : UInt8)).map bv).toArray) := Lib.hid (by rw [List.map_replicate]; exact madeCells_same 1 64 (bv 0) (by decide))
  have hX : ∀ x ∈ [bd, bs, bm, bS], w.heap.size ≤ x := by intro x hx; simp at hx; rcases hx with rfl | rfl | rfl | rfl <;> assumption
  replace hX := Lib.hid hX
  have hncl : nO ≤ 12 := by omega
  go_wp2_with fail
  go_loopw [33] (fun i wr => ∃ (k : Nat) (s : St), k ≤ nO ∧ i = .int .i64 k ∧ Hid (DRep wr bd bs s ∧ MRep [] wr bm bS s ∧ s.n = S ∧ s.down = false ∧ s.left = 0 ∧ 0 ≤ s.writes ∧ s.writes ≤ k) ∧ Hid (Keeps [bd, bs, bm, bS] w2 wr)) (fun i _ => nO - (intOf i).toNat)
  case atStart => exact ⟨0, st0 S, Nat.zero_le _, rfl, hx0, Lib.hid (Keeps.refl _ _)⟩
  case round =>
    clear hx0 c1
    obtain ⟨k, s, hkn, rfl, hs, hkw⟩ := hrel
    by_cases hlt : k < nO
    · obtain ⟨r, hr⟩ : ∃ r, old[k]? = some r := ⟨old[k]'(by have := hl.out; omega), List.getElem?_eq_getElem _⟩
      obtain ⟨g, o, Ar, c, rfl, hg, hcell, hrc, hcm, hrb, hrB⟩ := (hOw.out.keep hkw.out hX.out) k r hr
      have hki : (k : Int) < (nO : Int) := by omega
      have hki0 : (0 : Int) ≤ (k : Int) := by omega
      replace hrb := Lib.hid hrb
      have hrl : Hid (r.length = r.length) := Lib.hid rfl
      go_wp2_with (first
        | (refine wpList_make rfl 34 (.const (.int .i64 64)) (.const (.int .i64 64)) rfl 5 (.int .u8 0) 1 1 Try.underlying34 info5.out .i64 .i64 64 64 rfl rfl ?_ ?_ ?_ ?_; omega; omega; omega; intro x1 m1 y1 z1; have B1 : Hid (Blk x1 wr.heap.size 5 ((List.replicate 64 (0 : UInt8)).map bv).toArray) := Lib.hid (hzm.out ▸ m1.out); have hB1 := Lib.hid (hrb.out.keep y1 (fun _ _ => List.not_mem_nil)); replace y1 := Lib.hid y1; clear m1 z1)
        | (refine wpList_copy_bts rfl (.tmp 39) (.tmp 40) 34 34 rfl 5 Try.underlying34 infoS.out wr.heap.size 0 64 64 _ r _ _ rfl rfl ?_ ?_ (List.replicate 64 (0 : UInt8)) 5 B1.out ?_ ?_; rfl; (exact hB1.out); (rw [List.length_replicate]; exact Nat.le_refl 64); intro x2 m2 y2; have hp2 := Lib.hid (bts_new m2.out); have kx2 := Lib.hid (new_keep (X := []) y1.out y2); clear y1 y2 B1 m2))
      obtain ⟨FB, hFB⟩ : ∃ FB, splice (List.replicate 64 0) 0 (r.take 64) = FB := ⟨_, rfl⟩
      have hfl := full_len r
      rw [hFB] at hfl
      rw [hFB] at hp2
      obtain ⟨q1, q2, q3, q4, q5, q6, q7⟩ := hs.out
      have hkn' : k < s.n := by omega
      have hg := wr_good (i := k) (b := FB) q4 q5 hkn' hfl
      have hD2 := q1.keep kx2.out (by simp) (by simp)
      have hM2 := q2.keep kx2.out (by simp) (by simp) (by simp)
      have hgbd : wr.heap.size ≠ bd := by have := q1.d.lt; omega
      have hgbm : wr.heap.size ≠ bm := by obtain ⟨cap, cells, a1, _⟩ := q2.ex; have := a1.lt; omega
      have HW := write_any x2 bd bs s (k : Int) (some ⟨wr.heap.size, 0, none⟩) FB 64 64 hfl hD2 hp2.out (fun _ a ha => by cases ha; exact hgbd) (Nat.le_refl _) q6 (by omega)
      rw [hg] at HW
      replace HW := Lib.hid HW
      refine HW.out.mono ?_
      rintro e x3 ⟨rfl, hD3, k3'⟩
      have hbdm : bd ≠ bm := by obtain ⟨cap, cells, a1, _⟩ := q2.ex; exact fun h => q1.d.ne_ a1 (by decide) h
      have hM3 := hM2.keep k3' (by simp; obtain ⟨cap, cells, a1, a2, _⟩ := hM2.ex; exact ⟨fun h => hD2.d.ne_ a1 (by decide) h.symm, fun h => hD2.m.ne_ a1 (by decide) h.symm⟩) (by simp; obtain ⟨cap, cells, a1, a2, _⟩ := hM2.ex; exact ⟨fun h => hD2.d.ne_ a2 (by decide) h.symm, fun h => hD2.m.ne_ a2 (by decide) h.symm⟩) (fun g' cur hg' _ => by have h1 := hg'.ne_ hD2.d (by decide); have h2 := hg'.ne_ hD2.m (by decide); simp; exact ⟨h1, h2⟩)
      have hp3 := hp2.out.keep k3' (fun a ha => by cases ha; have h1 := q1.d.lt; have h2 := q1.m.lt; simp; omega)
      have HW2 := rwrite_any x3 bm bS s (k : Int) (some ⟨wr.heap.size, 0, none⟩) FB 64 64 hfl hM3 hp3 (fun _ a ha => by cases ha; exact hgbm) (Nat.le_refl _) q6 (by omega) (by simp)
      rw [hg] at HW2
      replace HW2 := Lib.hid HW2
      replace hD3 := Lib.hid hD3
      have kk3 : Keeps [bd, bs, bm, bS] w2 x3 := hkw.out.trans ((kx2.out.nil.trans k3').mono (fun x hx => .inl (by simp at hx; simp; omega)))
      replace kk3 := Lib.hid kk3
      replace hM3 := Lib.hid hM3
      clear HW hs hkw kx2 k3' hp2 hp3 hD2 hM2 q1 q2
      go_wp2_with fail
      refine HW2.out.mono ?_
      rintro e x4 ⟨rfl, hM4, k4⟩
      have hD4 := hD3.out.keep k4 (by simp; obtain ⟨cap, cells, a1, a2, _⟩ := hM3.out.ex; exact ⟨fun h => hD3.out.d.ne_ a1 (by decide) h, fun h => hD3.out.d.ne_ a2 (by decide) h⟩) (by simp; obtain ⟨cap, cells, a1, a2, _⟩ := hM3.out.ex; exact ⟨fun h => hD3.out.m.ne_ a1 (by decide) h, fun h => hD3.out.m.ne_ a2 (by decide) h⟩)
      have kk4 : Keeps [bd, bs, bm, bS] w2 x4 := kk3.out.trans (k4.mono (fun x hx => .inl (by simp at hx; simp; omega)))
      replace kk4 := Lib.hid kk4
      have hnew : Hid (DRep x4 bd bs { s with mem := splice s.mem (64 * k) FB, left := s.left, writes := s.writes + 1 } ∧ MRep [] x4 bm bS { s with mem := splice s.mem (64 * k) FB, left := s.left, writes := s.writes + 1 }) := Lib.hid ⟨hD4, hM4⟩
      clear HW2 hD3 hM3 kk3 hD4 hM4 k4
      go_wp2_with fail
      go_roundw
      case rel => exact ⟨k + 1, { s with mem := splice s.mem (64 * k) FB, left := s.left, writes := s.writes + 1 }, by omega, by go_num, Lib.hid ⟨hnew.out.1, hnew.out.2, q3, q4, q5, by dsimp only; omega, by dsimp only; omega⟩, kk4⟩
      case measure => simp [intOf]; omega
    · obtain rfl : k = nO := by omega
      go_wp2_with fail
      go_ret2
      obtain ⟨q1, q2, q3, q4, q5, q6, q7⟩ := hs.out
      refine ⟨bd, bs, bm, bS, s, rfl, q1, q2, q3, q4, q5, q6, by omega, hbd, hbs, hbm, hbS, ?_⟩
      exact (k3.out.nil.trans hkw.out).mono (fun x hx => .inr (hX.out x hx))
end Go.Proofs.Ytnoaahgjfknnlaa
