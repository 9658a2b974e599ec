/- The contracts of the law's helpers: fill, sector, Same, few, awake. -/
import Derived.Test.YtpjmkjcgpbpfdaaDisk5
namespace Go.Proofs.Ytpjmkjcgpbpfdaa
open Go.RowKit
set_option linter.unusedSimpArgs false

/-- A new slice of 64 bytes. -/
def FreshB (w : World) (l : List UInt8) (e : Ending) (w' : World) : Prop :=
  ∃ g, e = .returned (.slice (some ⟨g, 0, none⟩) 64 64) ∧ Blk w' g 5 (l.map bv).toArray ∧ w.heap.size ≤ g ∧ Keeps [] w w'

theorem blk_bts {w : World} {g : Nat} {t : TypeId} {l : List UInt8} (h : Blk w g t (l.map bv).toArray) : Bts w (some ⟨g, 0, none⟩) l :=
  .inr ⟨g, 0, rfl, fun j v hj => by rw [h.cell]; simp [hj]⟩

set_option maxHeartbeats 400000 in
theorem same_any (w : World) (A B : Option Addr) (a b : List UInt8) (ca cb na nb : Nat) (hna : a.length = na) (hnb : b.length = nb) (hA : Bts w A a) (hB : Bts w B b) :
    Calls Try.prog 17 #[.slice A na ca, .slice B nb cb] w fun e w' => e = .returned (.bool (decide (a = b))) ∧ w = w' := by
  have HA := Lib.hid hA
  have HB := Lib.hid hB
  have Hna := Lib.hid hna
  have Hnb := Lib.hid hnb
  clear hA hB hna hnb
  go_enter Try.func17, Try.ntmps17
  go_wp2_with (first 
    | (refine wpList_convert_bts rfl 23 9 (.tmp 5) rfl 5 Try.underlying23 Try.underlying5 Try.underlying9 A a na ca rfl Hna.out HA.out ?_)
    | (refine wpList_convert_bts rfl 23 9 (.tmp 7) rfl 5 Try.underlying23 Try.underlying5 Try.underlying9 B b nb cb rfl Hnb.out HB.out ?_))
  go_ret
  have e : (a == b) = decide (a = b) := by rw [Bool.eq_iff_iff]; simp
  exact ⟨by rw [← e]; rfl, rfl⟩

set_option maxHeartbeats 400000 in
theorem fill_any (w : World) (b : UInt8) :
    Calls Try.prog 27 #[.int .u8 (b.toNat : Int)] w (FreshB w (List.replicate 64 b)) := by
  go_enter Try.func27, Try.ntmps27
  go_wp2_with (first
    | (refine wpList_make rfl 23 (.const (.int .i64 64)) (.const (.int .i64 64)) rfl 5 (.int .u8 0) 1 1 Try.underlying23 (by kernel_rfl) .i64 .i64 64 64 rfl rfl (by omega) (by omega) (by omega) ?_; intro w1 m1 k1 s1; replace k1 := Lib.hid k1))
  go_loopw [8] (fun i wr => ∃ k : Nat, k ≤ 64 ∧ i = .int .i64 k ∧ Blk wr w.heap.size 5 ((List.replicate k b ++ List.replicate (64 - k) 0).map bv).toArray ∧ Keeps [] w wr) (fun i _ => 64 - (intOf i).toNat)
  case atStart => 
    refine ⟨0, by omega, rfl, ?_, k1.out⟩
    have := m1.out
    rw [show (Value.int IntKind.u8 0).cells = Array.replicate 1 (bv 0) from rfl, madeCells_same _ _ _ (by decide)] at this
    simpa using this
  case round =>
    obtain ⟨k, hk, rfl, hb, hkw⟩ := hrel
    replace hkw := Lib.hid hkw
    by_cases hlt : k < 64
    · have hc := hb.cell k
      have hf := hb.frozen k
      have hc' : wr.cell? ⟨w.heap.size, k, none⟩ = some (bv 0) := by
        rw [hc]
        simp only [List.getElem?_toArray, List.getElem?_map]
        rw [List.getElem?_append_right (by simp), List.length_replicate, Nat.sub_self, List.getElem?_replicate, if_pos (by omega)]
        rfl
      clear hc
      replace hb := Lib.hid hb
      go_wp2
      go_roundw
      case rel =>
        refine ⟨k + 1, by omega, by go_num, ?_, ((hkw.out.mono (Y := [w.heap.size]) (by simp)).setCell (by simp) _).mono (by simp)⟩
        have := hb.out.set_ k (bv b)
        have e : ((List.replicate k b ++ List.replicate (64 - k) 0).map bv).toArray.setIfInBounds k (bv b) = ((List.replicate (k + 1) b ++ List.replicate (64 - (k + 1)) 0).map bv).toArray := by
          simp only [List.setIfInBounds_toArray]
          congr 1
          rw [← List.map_set]
          congr 1
          rw [List.set_append_right _ _ (by simp), List.length_replicate, Nat.sub_self, show 64 - k = (64 - (k + 1)) + 1 by omega, List.replicate_succ, List.set_cons_zero, List.replicate_succ', List.append_assoc]
          rfl
        rw [e] at this
        exact this
      case measure => simp [intOf]; omega
    · obtain rfl : k = 64 := by omega
      replace hb := Lib.hid hb
      go_wp2
      go_ret
      exact ⟨w.heap.size, rfl, by simpa using hb.out, Nat.le_refl _, hkw.out⟩

/-- 64 bytes that begin with some bytes. -/
def pad (b : List UInt8) : List UInt8 := splice (List.replicate 64 1) 0 (b.take 64)
theorem pad_len (b : List UInt8) : (pad b).length = 64 := by
  unfold pad
  rw [length_splice _ _ _ (by simp; omega)]
  simp

set_option maxHeartbeats 400000 in
theorem sector_any (w : World) (A : Option Addr) (l : List UInt8) (n c : Nat) (hn : l.length = n) (hB : Bts w A l) :
    Calls Try.prog 14 #[.slice A n c] w (FreshB w (pad l)) := by
  have HB := Lib.hid hB
  have Hn := Lib.hid hn
  have HF := Lib.hid (fill_any w 1)
  clear hB hn
  go_enter Try.func14, Try.ntmps14
  go_wp2_with (first 
    | (go_at_call 27; refine HF.out.mono ?_; rintro e w' ⟨g, rfl, hg, hgl, hk⟩; replace hg := Lib.hid hg; replace hk := Lib.hid hk)
    | (refine wpList_copy_bts rfl (.tmp 5) (.tmp 6) 23 23 rfl 5 Try.underlying23 (by kernel_rfl) g 0 64 64 A l n c rfl rfl Hn.out (HB.out.keep hk.out (by simp)) (List.replicate 64 1) 5 hg.out (by simp) ?_; intro w2 hg2 hk2; replace hk2 := Lib.hid hk2))
  go_ret
  exact ⟨g, rfl, hg2.out, hgl, ((hk.out.mono (Y := [g]) (by simp)).trans hk2.out).mono (by simp; omega)⟩
end Go.Proofs.Ytpjmkjcgpbpfdaa
