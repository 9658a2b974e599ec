/- The walk of the statement SessionNumbers. -/
import Derived.Test.YtbhdangjafokaaaSess7
namespace Go.Proofs.Ytbhdangjafokaaa
open Go.RowKit
set_option linter.unusedSimpArgs false
set_option linter.unusedVariables false

def zs60 : List Int := List.replicate 60 0
theorem zs60_len : (split zs60).length = 60 := by decide +kernel
theorem zs60_fin {c : Nat} (h : c < 60) : fin zs60 c 0 = (c + 1, 0) := by
  unfold fin; rw [zs60_len, if_pos h]

/-- A session in another block stays. -/
theorem SRep.far {w w' : World} {b s : Nat} {num num' : Int} {ks ks' : List Int} {cur dn cur' dn' : Nat} (h : SRep w b num ks cur dn) (hs : SRep w s num' ks' cur' dn') (hne : b ≠ s) (hk : Keeps [s] w w') : SRep w' b num ks cur dn := by
  obtain ⟨sv, pv, h1, h2, h3⟩ := h.ex
  obtain ⟨_, _, k1, _, _⟩ := hs.ex
  refine ⟨⟨sv, pv, h1.keep hk (by simpa using hne), own_keep h2 hk ?_, own_keep h3 hk ?_⟩, h.n0, h.n1, h.len, h.cur, h.dn⟩
  · intro g hg hx
    obtain ⟨_, cur, hB⟩ := own_blk h2 hg
    simp at hx; subst hx
    exact hB.ne_ k1 (by decide) rfl
  · intro g hg hx
    obtain ⟨_, cur, hB⟩ := own_blk h3 hg
    simp at hx; subst hx
    exact hB.ne_ k1 (by decide) rfl

/-- The two sessions. -/
structure Two (w0 w : World) (s t : Nat) (na nb : Int) (c d : Nat) : Prop where
  s_ : SRep w s na zs60 c 0
  t_ : SRep w t nb zs60 d 0
  ne : s ≠ t
  keep : Keeps [s, t] w0 w

theorem two_trans1 {w0 w : World} {s t : Nat} {na nb : Int} {c d : Nat} (h : Two w0 w s t na nb c d) :
    Calls Try.prog 15 #[.pointer (some ⟨s, 0, none⟩)] w fun e w' => e = .returned (.int .i64 (1 + c * 8 + na)) ∧ Hid (Two w0 w' s t na nb c d) := by
  refine (trans_any w s na zs60 c 0 h.s_).mono ?_
  rintro e w' ⟨rfl, k⟩
  exact ⟨rfl, Lib.hid ⟨h.s_.keep k, h.t_.keep k, h.ne, h.keep.trans k.nil⟩⟩
theorem two_trans2 {w0 w : World} {s t : Nat} {na nb : Int} {c d : Nat} (h : Two w0 w s t na nb c d) :
    Calls Try.prog 15 #[.pointer (some ⟨t, 0, none⟩)] w fun e w' => e = .returned (.int .i64 (1 + d * 8 + nb)) ∧ Hid (Two w0 w' s t na nb c d) := by
  refine (trans_any w t nb zs60 d 0 h.t_).mono ?_
  rintro e w' ⟨rfl, k⟩
  exact ⟨rfl, Lib.hid ⟨h.s_.keep k, h.t_.keep k, h.ne, h.keep.trans k.nil⟩⟩
theorem two_finish1 {w0 w : World} {s t : Nat} {na nb : Int} {c d : Nat} (h : Two w0 w s t na nb c d) (hc : c < 60) :
    Calls Try.prog 16 #[.pointer (some ⟨s, 0, none⟩)] w fun e w' => e = .returned (.tuple #[]) ∧ Hid (Two w0 w' s t na nb (c + 1) d) := by
  refine (finish_any w s na zs60 c 0 h.s_).mono ?_
  rw [zs60_fin hc]
  rintro e w' ⟨rfl, r, k⟩
  exact ⟨rfl, Lib.hid ⟨r, h.t_.far h.s_ h.ne.symm k, h.ne, h.keep.trans (k.mono (by simp))⟩⟩
theorem two_finish2 {w0 w : World} {s t : Nat} {na nb : Int} {c d : Nat} (h : Two w0 w s t na nb c d) (hd : d < 60) :
    Calls Try.prog 16 #[.pointer (some ⟨t, 0, none⟩)] w fun e w' => e = .returned (.tuple #[]) ∧ Hid (Two w0 w' s t na nb c (d + 1)) := by
  refine (finish_any w t nb zs60 d 0 h.t_).mono ?_
  rw [zs60_fin hd]
  rintro e w' ⟨rfl, r, k⟩
  exact ⟨rfl, Lib.hid ⟨h.s_.far h.t_ h.ne k, r, h.ne, h.keep.trans (k.mono (by simp))⟩⟩
theorem Two.keep_ {w0 w w' : World} {s t : Nat} {na nb : Int} {c d : Nat} (h : Two w0 w s t na nb c d) (k : Keeps [] w w') : Two w0 w' s t na nb c d :=
  ⟨h.s_.keep k, h.t_.keep k, h.ne, h.keep.trans k.nil⟩

theorem zs60_length : zs60.length = 60 := List.length_replicate
theorem row60 {w : World} {g : Nat} (m : Blk w g 3 (List.replicate 60 (.int .i64 0)).toArray) : IntsAt w w.heap.size (some ⟨g, 0, none⟩) zs60 := by
  intro i k hi
  refine ⟨_, 0, rfl, m.lt, ?_⟩
  rw [m.cell, Nat.zero_add]
  unfold zs60 at hi
  rw [List.getElem?_replicate] at hi
  rw [List.getElem?_toArray, List.getElem?_replicate]
  split at hi
  · rename_i h60
    cases hi
    rw [if_pos h60]
  · cases hi

/-- What has been the last number. -/
def lastN (na : Int) : Nat → Int
  | 0 => 0
  | k + 1 => 1 + (k : Int) * 8 + na

theorem lastN_lt {na : Int} (h : 0 ≤ na) (k : Nat) : lastN na k < 1 + (k : Int) * 8 + na := by
  cases k with
  | zero => simp [lastN]; omega
  | succ k => simp only [lastN]; push_cast; omega

set_option maxHeartbeats 3200000 in
theorem law_numbers (w : World) (a b f0 f1 : Int) (ha : 0 ≤ a ∧ a < 256) (hb : 0 ≤ b ∧ b < 256) (h0 : 0 ≤ f0 ∧ f0 < 256) (h1 : 0 ≤ f1 ∧ f1 < 256) :
    Calls Try.prog 5 #[.int .u8 a, .int .u8 b, .agg #[.int .u8 f0, .int .u8 f1]] w fun e w' => e = .returned (.bool true) ∧ Keeps [] w w' := by
  go_enter Try.func5, Try.ntmps5
  have mz := madeCells_same 1 60 (.int .i64 0) (by decide)
  replace mz := Lib.hid mz
  go_wp2_with (refine wpList_make rfl 22 (.const (.int .i64 60)) (.const (.int .i64 60)) rfl 3 (.int .i64 0) 1 8 Try.underlying22 (by kernel_rfl) .i64 .i64 60 60 rfl rfl (by omega) (by omega) (by omega) ?_; intro w1 m1 k1 s1; replace k1 := Lib.hid k1)
  rw [show (Value.int IntKind.i64 0).cells = Array.replicate 1 (.int .i64 0) from rfl, Nat.mul_one, mz.out] at m1
  clear mz s1
  have hbx : Blk (w.alloc (.cells #[.int .u8 f0, .int .u8 f1] 32)) w.heap.size 32 #[.int .u8 f0, .int .u8 f1] := Blk.new _ _ _
  have hws : (w.alloc (.cells #[.int .u8 f0, .int .u8 f1] 32)).heap.size = w.heap.size + 1 := by simp
  rw [hws] at m1
  have kbx : Keeps [] w (w.alloc (.cells #[.int .u8 f0, .int .u8 f1] 32)) := (Keeps.refl _ _).alloc _
  generalize w.alloc (.cells #[.int .u8 f0, .int .u8 f1] 32) = wb at *
  have b0 : wb.cell? ⟨w.heap.size, 0, none⟩ = some (.int .u8 f0) := by rw [hbx.cell]; rfl
  have b1 : wb.cell? ⟨w.heap.size, 1, none⟩ = some (.int .u8 f1) := by rw [hbx.cell]; rfl
  have hlt := hbx.lt
  replace kbx := Lib.hid kbx
  have i1 := Lib.hid (row60 m1.out)
  clear m1 hbx
  refine (script_any w1 w1.heap.size _ zs60 60 60 zs60_length (Nat.le_refl _) (Nat.le_refl _) i1.out (by decide)).mono ?_
  rintro e w2 ⟨v, rfl, o2, n2, k2⟩
  replace o2 := Lib.hid o2
  replace n2 := Lib.hid n2
  have i2 := Lib.hid (i1.out.keep k2 (by simp))
  have hs1 := k2.size
  replace k2 := Lib.hid (k1.out.trans k2)
  clear k1 i1
  have ha8 : 0 ≤ a % 8 ∧ a % 8 < 8 := by omega
  have hb8 : 0 ≤ b % 8 ∧ b % 8 < 8 := by omega
  go_wp2_with fail
  refine (new_ok w2 (a % 8) v _ zs60 60 zs60_length o2.out n2.out (by decide) ha8.1 ha8.2).mono ?_
  rintro e w3 ⟨s, rfl, rs, hs, k3⟩
  have i3 := Lib.hid (i2.out.keep k3 (by simp))
  have hs3 := k3.size
  have hs2 := k2.out.size
  have hb1 := (k2.out.trans k3).size
  replace rs := Lib.hid rs
  replace k3 := Lib.hid (k2.out.trans k3)
  clear k2 i2 o2 n2
  go_wp2_with fail
  refine (script_any w3 w1.heap.size _ zs60 60 60 zs60_length (Nat.le_refl _) (by omega) i3.out (by decide)).mono ?_
  rintro e w4 ⟨v4, rfl, o4, n4, k4⟩
  have rs4 := Lib.hid (rs.out.keep k4)
  have hs4 := k4.size
  replace o4 := Lib.hid o4
  replace n4 := Lib.hid n4
  replace k4 := Lib.hid (k3.out.trans k4)
  clear k3 i3 rs
  go_wp2_with fail
  refine (new_ok w4 (b % 8) v4 _ zs60 60 zs60_length o4.out n4.out (by decide) hb8.1 hb8.2).mono ?_
  rintro e w5 ⟨t, rfl, rt, ht, k5⟩
  have hst : s ≠ t := by
    obtain ⟨_, _, hB, _, _⟩ := rs4.out.ex
    have := hB.lt
    omega
  have T : Hid (Two wb w5 s t (a % 8) (b % 8) 0 0) := Lib.hid ⟨rs4.out.keep k5, rt, hst, (k4.out.trans k5).nil⟩
  have hsw : wb.heap.size ≤ s := by omega
  have htw : wb.heap.size ≤ t := by have := k4.out.size; omega
  clear k5 k4 rs4 rt o4 n4 hs3 hs2 hb1 hs4 hs1 hs ht
  go_wp2_with fail
  refine (awake_any w5).mono ?_
  rintro e w6 ⟨rfl, k6⟩
  replace T := Lib.hid (T.out.keep_ k6)
  clear k6
  have c0 := T.out.keep.cellEq b0 (by simp; omega)
  go_wp2_with fail
  obtain ⟨p, hp⟩ : ∃ p : Nat, f0 % 60 = (p : Int) := ⟨(f0 % 60).toNat, by omega⟩
  obtain ⟨q, hq⟩ : ∃ q : Nat, f1 % 60 = (q : Int) := ⟨(f1 % 60).toNat, by omega⟩
  have hp60 : p < 60 := by omega
  have hq60 : q < 60 := by omega
  clear c0
  replace hp := Lib.hid hp
  replace hq := Lib.hid hq
  go_loopw [10, 39] (fun last i wr => ∃ k : Nat, k ≤ p ∧ i = .int .i64 k ∧ last = .int .i64 (lastN (a % 8) k) ∧ Hid (Two wb wr s t (a % 8) (b % 8) k 0)) (fun _ i _ => p - (intOf i).toNat)
  case atStart => exact ⟨0, Nat.zero_le _, rfl, rfl, T⟩
  case round =>
    clear T
    obtain ⟨k, hk, rfl, rfl, T⟩ := hrel
    by_cases hlt : k < p
    · have hlast := lastN_lt ha8.1 k
      have hkk : (k : Int) < f0 % 60 := by have := hp.out; omega
      go_wp2_with fail
      refine (two_trans1 T.out).mono ?_
      rintro e v1 ⟨rfl, T1⟩
      go_wp2_with fail
      refine (two_trans1 T1.out).mono ?_
      rintro e v2 ⟨rfl, T2⟩
      go_wp2_with fail
      refine (two_finish1 T2.out (by omega)).mono ?_
      rintro e v3 ⟨rfl, T3⟩
      go_wp2_with fail
      go_roundw
      case rel => exact ⟨k + 1, by omega, by go_num, rfl, T3⟩
      case measure => simp [intOf]; omega
    · obtain rfl : k = p := by omega
      have hkk : ¬ (k : Int) < f0 % 60 := by have := hp.out; omega
      have c1 := T.out.keep.cellEq b1 (by simp; omega)
      go_wp2_with fail
      go_loopw [54] (fun i wr => ∃ j : Nat, j ≤ q ∧ i = .int .i64 j ∧ Hid (Two wb wr s t (a % 8) (b % 8) k j)) (fun i _ => q - (intOf i).toNat)
      case atStart => exact ⟨0, Nat.zero_le _, rfl, T⟩
      case round =>
        clear T
        obtain ⟨j, hj, rfl, T⟩ := hrel
        by_cases hlt2 : j < q
        · have hkj : (j : Int) < f1 % 60 := by have := hq.out; omega
          go_wp2_with fail
          refine (two_finish2 T.out (by omega)).mono ?_
          rintro e v3 ⟨rfl, T3⟩
          go_wp2_with fail
          go_roundw
          case rel => exact ⟨j + 1, by omega, by go_num, T3⟩
          case measure => simp [intOf]; omega
        · obtain rfl : j = q := by omega
          have hkj : ¬ (j : Int) < f1 % 60 := by have := hq.out; omega
          have hlast := lastN_lt ha8.1 k
          go_wp2_with fail
          refine (two_trans1 T.out).mono ?_
          rintro e v1 ⟨rfl, T1⟩
          go_wp2_with fail
          refine (two_trans1 T1.out).mono ?_
          rintro e v2 ⟨rfl, T2⟩
          go_wp2_with fail
          refine (two_trans2 T2.out).mono ?_
          rintro e v3 ⟨rfl, T3⟩
          have d0 := T3.out.keep.cellEq b0 (by simp; omega)
          have d1 := T3.out.keep.cellEq b1 (by simp; omega)
          have kend : Hid (Keeps [] w v3) := Lib.hid (kbx.out.trans (T3.out.keep.mono (by intro x hx; simp at hx; rcases hx with rfl | rfl <;> exact .inr (by assumption))))
          by_cases hab : a % 8 = b % 8
          · have hX : ((1 + (k : Int) * 8 + b % 8 == 1 + (j : Int) * 8 + b % 8) == (f0 % 60 == f1 % 60)) = true := by
              have hpq := hp.out
              have hqq := hq.out
              rw [beq_iff_eq, Bool.eq_iff_iff, beq_iff_eq, beq_iff_eq]
              omega
            go_wp2_with fail
            go_ret
            exact ⟨rfl, kend.out⟩
          · have hX : (!(1 + (k : Int) * 8 + a % 8 == 1 + (j : Int) * 8 + b % 8)) = true := by
              rw [Bool.not_eq_true', beq_eq_false_iff_ne]
              omega
            go_wp2_with fail
            go_ret
            exact ⟨rfl, kend.out⟩
end Go.Proofs.Ytbhdangjafokaaa
