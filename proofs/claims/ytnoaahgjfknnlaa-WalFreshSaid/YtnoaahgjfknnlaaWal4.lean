/- The law's function awake. -/
import Derived.Test.YtnoaahgjfknnlaaWal3
namespace Go.Proofs.Ytnoaahgjfknnlaa
open Go.RowKit
set_option linter.unusedSimpArgs false
set_option linter.unusedVariables false

/-- The sector that the example writes. -/
def exSec : List UInt8 := pack (enc [7, 8]) 1
theorem ex_run : (wrs (st0 1) 0 1 6 (enc [7, 8])).2 = 0 ∧ sec (wrs (st0 1) 0 1 6 (enc [7, 8])).1 0 = exSec ∧ (wrs (st0 1) 0 1 6 (enc [7, 8])).1.n = 1 ∧ (wrs (st0 1) 0 1 6 (enc [7, 8])).1.down = false := by decide +kernel

set_option maxHeartbeats 3200000 in
theorem awake_any (w : World) : Calls Try.prog 11 #[] w fun e w' => e = .returned (.bool true) ∧ Keeps [] w w' := by
  go_enter Try.func11, Try.ntmps11
  go_wp2_with fail
  refine (new_ok w 1 (by decide) (by decide)).mono ?_
  rintro e w1 ⟨bd, bs, rfl, hD, hbd, hbs, k1⟩
  replace k1 := Lib.hid k1
  have HN := Lib.hid (lnew_ok [] w1 bd bs (st0 1) 0 1 1 hD (by decide) (by unfold okR; decide))
  replace hD := Lib.hid hD
  go_wp2_with fail
  refine HN.out.mono ?_
  rintro e w2 ⟨rfl, hL, k2⟩
  have hD2 := Lib.hid (hD.out.keep k2 (by simp) (by simp))
  have HF := free_any [] w2 w1.heap.size bd 0 1 1 0 [] hL
  rw [show freeOf (59 * ((1 : Nat) : Int) - (([] : List UInt8).length : Int)) = 55 by decide] at HF
  replace HF := Lib.hid HF
  have kk := Lib.hid (k1.out.trans k2)
  have hlb : w.heap.size ≤ w1.heap.size := k1.out.size
  replace hL := Lib.hid hL
  clear HN hD k1 k2
  go_wp2_with fail
  refine HF.out.mono ?_
  rintro e w3 ⟨rfl, m, rfl⟩
  have kd := (Keeps.refl [] w2).drewN m
  have hL3 := hL.out.keep kd (by simp) (by simp)
  have hD3 := hD2.out.keep kd (by simp) (by simp)
  replace kk := Lib.hid (kk.out.trans kd)
  clear HF hL hD2 kd
  generalize w2.drewN m = w3 at *
  have ka : Keeps [] w3 (w3.alloc (.cells #[.int .u8 7, .int .u8 8] 5)) := (Keeps.refl [] w3).alloc _
  have hB : Bts (w3.alloc (.cells #[.int .u8 7, .int .u8 8] 5)) (some ⟨w3.heap.size, 0, none⟩) [7, 8] := bts_new (l := [7, 8]) (Blk.new w3 5 #[.int .u8 7, .int .u8 8])
  have HA := app_any [] (w3.alloc (.cells #[.int .u8 7, .int .u8 8] 5)) w1.heap.size bd bs 0 1 1 0 (st0 1) [] [7, 8] (some ⟨w3.heap.size, 0, none⟩) 2 2 (hD3.keep ka (by simp) (by simp)) (hL3.keep ka (by simp) (by simp)) rfl (by decide) hB (by decide) (by decide) (by decide) (by simp) (by decide)
  unfold AppPost at HA
  rw [show (0 + ([] : List UInt8).length / 59) = 0 from rfl, show (([] : List UInt8).drop (59 * (([] : List UInt8).length / 59)) ++ enc [7, 8]) = enc [7, 8] from rfl, show (enc [7, 8]).length = 6 from rfl] at HA
  obtain ⟨q0, q1, q2, q3⟩ := ex_run
  generalize wrs (st0 1) 0 1 6 (enc [7, 8]) = q at *
  rw [q0] at HA
  replace kk := Lib.hid (kk.out.trans ka)
  replace HA := Lib.hid HA
  clear ka hB hL3 hD3 q0
  go_wp2_with fail
  refine HA.out.mono ?_
  rintro e w4 ⟨rfl, hD4, _, k4⟩
  have HR := read_ok w4 bd bs q.1 0 hD4 (by unfold chk; rw [q3, q2]; decide) (by rw [q2]; decide)
  rw [q1] at HR
  replace HR := Lib.hid HR
  have kk4 := Lib.hid ((kk.out.nil (X := [w1.heap.size, bd, bs])).trans k4)
  clear HA kk k4 hD4 q1 q2 q3
  go_wp2_with fail
  refine HR.out.mono ?_
  rintro e w5 ⟨rfl, hB5, k5⟩
  have hbt : Bts w5 (some ⟨w4.heap.size, 0, none⟩) (exSec.take 7) := by
    have : Bts w5 (some ⟨w4.heap.size, 0, none⟩) exSec := .inr ⟨_, 0, rfl, fun j v hj => by rw [hB5.cell, Nat.zero_add]; simp [hj]⟩
    exact this.take 7
  rw [show exSec.take 7 = [0, 0, 0, 2, 7, 8, 0] by decide +kernel] at hbt
  have c59 : w5.cell? ⟨w4.heap.size, 59, none⟩ = some (.int .u8 6) := by rw [hB5.cell, List.getElem?_toArray, List.getElem?_map, show exSec[59]? = some 6 by decide +kernel]; rfl
  have c63 : w5.cell? ⟨w4.heap.size, 63, none⟩ = some (.int .u8 1) := by rw [hB5.cell, List.getElem?_toArray, List.getElem?_map, show exSec[63]? = some 1 by decide +kernel]; rfl
  replace hbt := Lib.hid hbt
  replace kk4 := Lib.hid (kk4.out.trans k5.nil)
  clear HR hB5 k5
  go_wp2_with (refine wpList_convert_bts rfl 34 9 (.tmp 51) rfl 5 Try.underlying34 Try.underlying5 Try.underlying9 _ [0, 0, 0, 2, 7, 8, 0] _ _ rfl ?_ hbt.out ?_; rfl)
  go_ret
  exact ⟨rfl, kk4.out.mono (by intro x hx; simp at hx; right; rcases hx with rfl | rfl | rfl; exact hlb; exact hbd; exact hbs)⟩
end Go.Proofs.Ytnoaahgjfknnlaa
