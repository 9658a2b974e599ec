/- The contracts of fill and Header. -/
import Derived.Test.YtoefbjeclghfhaaSnap4
namespace Go.Proofs.Ytoefbjeclghfhaa
open Go.RowKit
set_option linter.unusedSimpArgs false
set_option linter.unusedVariables false

def lenOf : Value → Nat
  | .slice _ n _ => n
  | _ => 0

theorem below_keeps0 {w w' : World} (h : Below w.heap.size w w') : Keeps [] w w' := ⟨h.os, h.tape, h.output, h.size, fun g hg _ => h.block g hg⟩

set_option maxHeartbeats 1600000 in
theorem fill_any (w : World) (A : Option Addr) (l : List UInt8) (n c : Nat) (hB : Bts w A l) (hl : l.length = n) (hn : n ≤ 64) :
    Calls Try.prog 46 #[.slice A n c] w (AddPost w.heap.size w (pad l) 64) := by
  have hi5 := Lib.hid info5
  have HM : Hid ((w.alloc (.cells #[] 5)).ownsRow w.heap.size 5 1 (.slice (some ⟨w.heap.size, 0, none⟩) 0 0) ([] : List UInt8).length (([] : List UInt8).map bv)) := Lib.hid (World.ownsRow_made w #[] 0 (Nat.le_refl _) (by simp [maxLen]) (by simp))
  have KA := Lib.hid (below_keeps ((Keeps.refl [] w).alloc (.cells #[] 5)) (Nat.le_refl _))
  have HB := Lib.hid (hB.keep ((Keeps.refl [] w).alloc (.cells #[] 5)) (by simp))
  have hz : Hid (([] : List UInt8).length + n = n) := Lib.hid (Nat.zero_add n)
  have hs : w.heap.size ≤ (w.alloc (.cells #[] 5)).heap.size := by simp
  replace hl := Lib.hid hl
  clear hB
  go_enter Try.func46, Try.ntmps46
  go_wp2_with (at_builtin; refine wpList_append_bts rfl (.tmp 4) (.tmp 5) 35 rfl w.heap.size 5 Try.underlying35 hi5.out (.slice (some ⟨w.heap.size, 0, none⟩) 0 0) [] l rfl ?_ _ _ _ rfl ?_ ?_ ?_ ?_ ?_; (exact HM.out); (exact hl.out); (exact HB.out); (rw [hl.out, List.length_nil]; omega); (exact hs); intro A' c' w1 G1 G2 G3; rw [hz.out]; have g1 := G1.out; rw [hz.out, List.nil_append] at g1; replace g1 := Lib.hid g1; have k1 := Lib.hid (below_trans KA.out (below_grown HM.out hs G2.out)); clear G1 G2 G3)
  go_loopw [3] (fun ov wr => ∃ (j : Nat), n + j ≤ 64 ∧ Hid (wr.ownsRow w.heap.size 5 1 ov (n + j) ((l ++ List.replicate j 0).map bv)) ∧ Hid (Below w.heap.size w wr)) (fun ov _ => 64 - lenOf ov)
  case atStart => exact ⟨0, hn, Lib.hid (by simpa using g1.out), k1⟩
  case round =>
    clear g1 k1 HM KA HB
    obtain ⟨j, hj, ho, hkw⟩ := hrel
    obtain ⟨A0, c0, rfl, _, _⟩ := own_slice5 ho.out
    by_cases hlt : n + j < 64
    · have hji : ((n + j : Nat) : Int) < 64 := by omega
      have hll : Hid ((l ++ List.replicate j 0).length = n + j) := Lib.hid (by rw [List.length_append, List.length_replicate, hl.out])
      have hla : Hid (l ++ List.replicate j 0 ++ [0] = l ++ List.replicate (j + 1) 0) := Lib.hid (by rw [List.append_assoc, List.replicate_succ'])
      have hnb : Hid (Bts (wr.alloc (.cells #[.int .u8 0] 5)) (some ⟨wr.heap.size, 0, none⟩) [(0 : UInt8)]) := Lib.hid (.inr ⟨_, 0, rfl, fun jj v hv => by
        rw [(Blk.new wr 5 _).cell]
        rcases jj with _ | jj
        · simp only [List.getElem?_cons_zero, Option.some.injEq] at hv
          subst hv
          rfl
        · simp at hv⟩)
      have hoa := Lib.hid (ho.out.alloc (.cells #[.int .u8 0] 5))
      have hka := Lib.hid (below_trans hkw.out (below_keeps ((Keeps.refl [] wr).alloc (.cells #[.int .u8 0] 5)) hkw.out.size))
      have hbase : w.heap.size ≤ (wr.alloc (.cells #[.int .u8 0] 5)).heap.size := by have := hkw.out.size; simp; omega
      clear ho hkw
      go_wp2_with (at_builtin; refine wpList_append_bts rfl (.tmp 10) (.tmp 11) 35 rfl w.heap.size 5 Try.underlying35 hi5.out (.slice A0 (n + j) c0) (l ++ List.replicate j 0) [(0 : UInt8)] rfl ?_ _ 1 1 rfl rfl hnb.out ?_ ?_ ?_; (rw [hll.out]; exact hoa.out); (rw [hll.out, List.length_singleton]; omega); (exact hbase); (rw [hll.out, hla.out]); intro A' c' w1 G1 G2 G3; have hk1 := Lib.hid (below_trans hka.out (below_grown hoa.out hbase G2.out)); clear G2 G3)
      go_roundw
      case rel => exact ⟨j + 1, by omega, G1, hk1⟩
      case measure => simp [lenOf]; omega
    · obtain rfl : j = 64 - n := by omega
      have hji : ¬ ((n + (64 - n) : Nat) : Int) < 64 := by omega
      have e64 : n + (64 - n) = 64 := by omega
      have h1 := ho.out
      have hp : l ++ List.replicate (64 - n) 0 = pad l := by unfold pad; rw [hl.out]
      rw [hp] at h1
      rw [e64] at h1 hji ⊢
      replace h1 := Lib.hid h1
      clear ho e64 hp
      go_wp2_with fail
      go_ret
      exact ⟨A0, c0, rfl, h1.out, hkw.out⟩

set_option maxHeartbeats 1600000 in
theorem header_any (w : World) (A : Option Addr) (l : List UInt8) (n c ep : Nat) (hB : Bts w A l) (hl : l.length = n) (hn : n ≤ 1000000000) (hep : ep < 4294967296) :
    Calls Try.prog 47 #[.int .u32 ep, .slice A n c] w (AddPost w.heap.size w (pad (hdr ep l)) 64) := by
  have hi5 := Lib.hid info5
  have H1 := Lib.hid (number_any w ep 4 (by decide) (by omega))
  have e1 : IntKind.u64.wrap (ep : Int) = ep := IntWalk.u64_in _ (by omega)
  have e2 : IntKind.u64.wrap (n : Int) = n := IntWalk.u64_in _ (by omega)
  have e1m : (ep : Int) % 18446744073709551616 = ep := by omega
  have e2m : (n : Int) % 18446744073709551616 = n := by omega
  replace hB := Lib.hid hB
  replace hl := Lib.hid hl
  go_enter Try.func47, Try.ntmps47
  go_wp2_with fail
  refine H1.out.mono ?_
  rintro e w1 ⟨A1, c1, rfl, o1, k1⟩
  have H2 := Lib.hid (number_any w1 n 4 (by decide) (by omega))
  replace k1 := Lib.hid k1
  replace o1 := Lib.hid o1
  clear H1
  go_wp2_with fail
  refine H2.out.mono ?_
  rintro e w2 ⟨A2, c2, rfl, o2, k2⟩
  have k02 := Lib.hid (below_trans k1.out (below_keeps (below_keeps0 k2) k1.out.size))
  have o12 := Lib.hid (own_keep o1.out (below_keeps0 k2) (by simp))
  have hb2 := Lib.hid (own_bts o2).1
  have hle : w.heap.size ≤ w2.heap.size := k02.out.size
  clear H2 k1 o1 o2 k2
  have hl1 : Hid ((be 4 ep).length = 4) := Lib.hid (be_len 4 ep)
  have hl2 : Hid ((be 4 n).length = 4) := Lib.hid (be_len 4 n)
  go_wp2_with (at_builtin; refine wpList_append_bts rfl (.tmp 8) (.tmp 12) 35 rfl w.heap.size 5 Try.underlying35 hi5.out (.slice A1 4 c1) (be 4 ep) (be 4 n) rfl ?_ _ _ _ rfl ?_ ?_ ?_ ?_ ?_; (rw [hl1.out]; exact o12.out); (exact hl2.out); (exact hb2.out); (rw [hl1.out, hl2.out]; omega); (exact hle); (rw [hl1.out]); intro A3 c3 w3 G1 G2 G3; have k3 := Lib.hid (below_trans k02.out (below_grown o12.out hle G2.out)); replace G1 := Lib.hid G1.out; clear G2 G3)
  have hB3 := hB.out.keep (below_keeps0 k3.out) (by simp)
  have H4 := Lib.hid (rsum_any w3 A l n c hB3 hl.out hn)
  clear k02 o12 hb2 hle hB3
  refine H4.out.mono ?_
  rintro e w3 ⟨rfl, rfl⟩
  clear H4
  have H5 := Lib.hid (number_any w3 (crc l) 8 (by decide) (crc_lt l))
  go_wp2_with fail
  refine H5.out.mono ?_
  rintro e w4 ⟨A4, c4, rfl, o4, k4⟩
  have k04 := Lib.hid (below_trans k3.out (below_keeps (below_keeps0 k4) k3.out.size))
  have o34 := Lib.hid (own_keep G1.out (below_keeps0 k4) (by simp))
  have hb4 := Lib.hid (own_bts o4).1
  have hle : w.heap.size ≤ w4.heap.size := k04.out.size
  have hl3 : Hid ((be 4 ep ++ be 4 n).length = 8) := Lib.hid (by rw [List.length_append, be_len, be_len])
  have hl4 : Hid ((be 8 (crc l)).length = 8) := Lib.hid (be_len 8 _)
  have hh : Hid (be 4 ep ++ be 4 n ++ be 8 (crc l) = hdr ep l) := Lib.hid (by unfold hdr; rw [hl.out])
  clear H5 k3 k4 o4 G1
  go_wp2_with (at_builtin; refine wpList_append_bts rfl (.tmp 14) (.tmp 17) 35 rfl w.heap.size 5 Try.underlying35 hi5.out (.slice A3 8 c3) (be 4 ep ++ be 4 n) (be 8 (crc l)) rfl ?_ _ _ _ rfl ?_ ?_ ?_ ?_ ?_; (rw [hl3.out]; exact o34.out); (exact hl4.out); (exact hb4.out); (rw [hl3.out, hl4.out]; omega); (exact hle); (rw [hl3.out, hh.out]); intro A5 c5 w5 G1 G2 G3; have k5 := Lib.hid (below_trans k04.out (below_grown o34.out hle G2.out)); replace G1 := Lib.hid G1.out; clear G2 G3)
  have hb5 := (own_bts G1.out).1
  have H6 := Lib.hid (fill_any w5 A5 (hdr ep l) 16 c5 hb5 (by unfold hdr; simp [be_len]) (by omega))
  clear k04 o34 hb4 hle hb5
  refine H6.out.mono ?_
  rintro e w6 ⟨A6, c6, rfl, o6, k6⟩
  clear H6
  go_wp2_with fail
  go_ret
  exact ⟨A6, c6, rfl, own_le o6 k5.out.size, below_trans k5.out (below_keeps (below_keeps0 k6) k5.out.size)⟩
end Go.Proofs.Ytoefbjeclghfhaa
