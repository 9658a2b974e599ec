/- Numbers of four bytes: the functions that write and read them. -/
import Derived.Test.YtnoaahgjfknnlaaDisk5
import Derived.Test.YtnoaahgjfknnlaaWalP
import Derived.Laws.BitsAllLaws
namespace Go.Proofs.Ytnoaahgjfknnlaa
open Go.RowKit
set_option linter.unusedSimpArgs false
set_option linter.unusedVariables false

theorem be32_bv {n : Nat} (h : n < 4294967296) : ((be32 n).map bv).toArray = #[.int .u8 ((n : Int) / 16777216), .int .u8 ((n : Int) / 65536 % 256), .int .u8 ((n : Int) / 256 % 256), .int .u8 ((n : Int) % 256)] := by
  simp only [be32, bv, List.map_cons, List.map_nil, UInt8.toNat_ofNat']
  congr 5 <;> first | omega | (push_cast; omega)

/-- A slice of bytes that the call has made. -/
def NewBytes (l : List UInt8) (w : World) (e : Ending) (w' : World) : Prop :=
  e = .returned (.slice (some ⟨w.heap.size, 0, none⟩) l.length l.length) ∧ Blk w' w.heap.size 5 (l.map bv).toArray ∧ Keeps [] w w'

set_option maxHeartbeats 800000 in
theorem put_any (w : World) (n : Nat) (hn : n < 4294967296) : Calls Try.prog 40 #[.int .u32 n] w (NewBytes (be32 n) w) := by
  have h0 : (0 : Int) ≤ (n : Int) := by omega
  have h1 : (n : Int) < 4294967296 := by omega
  have hb := Lib.hid (be32_bv hn)
  go_enter Try.func40, Try.ntmps40
  go_wp2_with fail
  go_ret
  refine ⟨rfl, ?_, (Keeps.refl _ _).alloc _⟩
  rw [hb.out]
  exact Blk.new _ _ _
set_option maxHeartbeats 800000 in
theorem number_any (w : World) (n : Nat) (hn : n < 4294967296) : Calls Try.prog 49 #[.int .u32 n] w (NewBytes (be32 n) w) := by
  have h0 : (0 : Int) ≤ (n : Int) := by omega
  have h1 : (n : Int) < 4294967296 := by omega
  have hb := Lib.hid (be32_bv hn)
  go_enter Try.func49, Try.ntmps49
  go_wp2_with fail
  go_ret
  refine ⟨rfl, ?_, (Keeps.refl _ _).alloc _⟩
  rw [hb.out]
  exact Blk.new _ _ _

theorem four (l : List UInt8) (h : 4 ≤ l.length) : ∃ a b c d r, l = a :: b :: c :: d :: r := by
  match l, h with
  | a :: b :: c :: d :: r, _ => exact ⟨a, b, c, d, r, rfl⟩

theorem or_num (a b c d : UInt8) : bits .or .u32 (bits .or .u32 (bits .or .u32 (((a.toNat : Nat) : Int) % 4294967296 * 16777216 % 4294967296) (((b.toNat : Nat) : Int) % 4294967296 * 65536 % 4294967296)) (((c.toNat : Nat) : Int) % 4294967296 * 256 % 4294967296)) (((d.toNat : Nat) : Int) % 4294967296)
    = ((a.toNat * 16777216 + b.toNat * 65536 + c.toNat * 256 + d.toNat : Nat) : Int) := by
  have ha := a.toNat_lt
  have hb := b.toNat_lt
  have hc := c.toNat_lt
  have hd := d.toNat_lt
  generalize a.toNat = A at *
  generalize b.toNat = B at *
  generalize c.toNat = C at *
  generalize d.toNat = D at *
  rw [show ((A : Nat) : Int) % 4294967296 * 16777216 % 4294967296 = ((A * 16777216 : Nat) : Int) by omega, show ((B : Nat) : Int) % 4294967296 * 65536 % 4294967296 = ((B * 65536 : Nat) : Int) by omega,
    show ((C : Nat) : Int) % 4294967296 * 256 % 4294967296 = ((C * 256 : Nat) : Int) by omega, show ((D : Nat) : Int) % 4294967296 = (D : Int) by omega]
  rw [u32_or_nat _ _ (by omega) (by omega), nat_join 24 _ _ (by omega) (by omega), u32_or_nat _ _ (by omega) (by omega), nat_join 16 _ _ (by omega) (by omega), u32_or_nat _ _ (by omega) (by omega), nat_join 8 _ _ (by omega) (by omega)]

set_option maxHeartbeats 800000 in
theorem get_any (w : World) (A : Option Addr) (l : List UInt8) (n c : Nat) (hB : Bts w A l) (hl : l.length = n) (hn : 4 ≤ n) :
    Calls Try.prog 45 #[.slice A n c] w fun e w' => e = .returned (.int .u32 (num l : Nat)) ∧ ∃ m, w' = w.drewN m := by
  obtain ⟨a0, a1, a2, a3, r, rfl⟩ := four l (by omega)
  rcases hB with h | ⟨g, o, rfl, h⟩
  · cases h
  have h0 := h 0 a0 rfl
  have h1 := h 1 a1 rfl
  have h2 := h 2 a2 rfl
  have h3 := h 3 a3 rfl
  rw [Nat.add_zero] at h0
  clear h
  unfold bv at *
  have l3 : (3 : Int) < n := by omega
  have hor := Lib.hid (or_num a0 a1 a2 a3)
  go_enter Try.func45, Try.ntmps45
  go_wp2_with fail
  go_quiet (fail)
  go_wp2_with fail
  go_ret
  refine ⟨?_, _, rfl⟩
  exact congrArg (fun z => Ending.returned (.int .u32 z)) hor.out
set_option maxHeartbeats 800000 in
theorem read_any (w : World) (A : Option Addr) (l : List UInt8) (n c : Nat) (hB : Bts w A l) (hl : l.length = n) (hn : 4 ≤ n) :
    Calls Try.prog 48 #[.slice A n c] w fun e w' => e = .returned (.int .u32 (num l : Nat)) ∧ ∃ m, w' = w.drewN m := by
  obtain ⟨a0, a1, a2, a3, r, rfl⟩ := four l (by omega)
  rcases hB with h | ⟨g, o, rfl, h⟩
  · cases h
  have h0 := h 0 a0 rfl
  have h1 := h 1 a1 rfl
  have h2 := h 2 a2 rfl
  have h3 := h 3 a3 rfl
  rw [Nat.add_zero] at h0
  clear h
  unfold bv at *
  have l3 : (3 : Int) < n := by omega
  have hn0 : Hid (num (a0 :: a1 :: a2 :: a3 :: r) = a0.toNat * 16777216 + a1.toNat * 65536 + a2.toNat * 256 + a3.toNat) := Lib.hid rfl
  go_enter Try.func48, Try.ntmps48
  go_wp2_with fail
  go_quiet (fail)
  go_wp2_with fail
  go_ret
  refine ⟨?_, _, rfl⟩
  rw [hn0.out]
  have b0 := a0.toNat_lt
  have b1 := a1.toNat_lt
  have b2 := a2.toNat_lt
  have b3 := a3.toNat_lt
  refine congrArg (fun z => Ending.returned (.int .u32 z)) ?_
  show _ % _ = _
  omega
end Go.Proofs.Ytnoaahgjfknnlaa
