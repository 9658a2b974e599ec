/- The law's function run: all operations, on the disk and on the reference. -/
import Derived.Test.YtpjmkjcgpbpfdaaDisk9
namespace Go.Proofs.Ytpjmkjcgpbpfdaa
open Go.RowKit
set_option linter.unusedSimpArgs false

theorem wr_writes (s : St) (i : Int) (b : List UInt8) : s.writes ≤ (wr s i b).1.writes ∧ (wr s i b).1.writes ≤ s.writes + 1 ∧ (wr s i b).1.n = s.n := by
  unfold wr fail
  split
  · exact ⟨Int.le_refl _, by dsimp only; omega, rfl⟩
  · split
    · exact ⟨Int.le_refl _, by dsimp only; omega, rfl⟩
    · split
      · exact ⟨Int.le_refl _, by dsimp only; omega, rfl⟩
      · exact ⟨by dsimp only; omega, by dsimp only; omega, rfl⟩

theorem step_writes (s : St) (o : OpD) : s.writes ≤ (step s o).writes ∧ (step s o).writes ≤ s.writes + 1 ∧ (step s o).n = s.n := by
  unfold step
  split
  · exact wr_writes _ _ _
  · split
    · exact ⟨Int.le_refl _, by omega, rfl⟩
    · split
      · unfold arm; split
        · exact ⟨Int.le_refl _, by omega, rfl⟩
        · exact ⟨Int.le_refl _, by dsimp only; omega, rfl⟩
      · split
        · exact ⟨Int.le_refl _, by show s.writes ≤ s.writes + 1; omega, rfl⟩
        · split
          · exact ⟨Int.le_refl _, by show s.writes ≤ s.writes + 1; omega, rfl⟩
          · exact wr_writes _ _ _

def runS (ops : List OpD) : St := ops.foldl step (st0 4)

theorem runS_snoc (ops : List OpD) (o : OpD) : runS (ops ++ [o]) = step (runS ops) o := by simp [runS]

theorem fold_writes (ops : List OpD) : ∀ s : St, s.writes ≤ (ops.foldl step s).writes ∧ (ops.foldl step s).writes ≤ s.writes + ops.length ∧ (ops.foldl step s).n = s.n := by
  induction ops with
  | nil => intro s; simp
  | cons o ops ih =>
    intro s
    have h1 := step_writes s o
    have h2 := ih (step s o)
    simp only [List.foldl_cons, List.length_cons]
    refine ⟨by omega, by omega, h2.2.2.trans h1.2.2⟩

theorem runS_writes (ops : List OpD) : 0 ≤ (runS ops).writes ∧ (runS ops).writes ≤ ops.length ∧ (runS ops).n = 4 := by
  have := fold_writes ops (st0 4)
  simp only [st0] at this
  unfold runS st0
  omega

theorem take_snoc' {α : Type} {l : List α} {k : Nat} {x : α} (h : l[k]? = some x) : l.take (k + 1) = l.take k ++ [x] := by
  have hk := (List.getElem?_eq_some_iff.1 h).1
  rw [List.take_succ_eq_append_getElem hk, (List.getElem?_eq_some_iff.1 h).2]

/-- What run leaves. -/
def Ran (w : World) (B : Nat) (s : St) (e : Ending) (w' : World) : Prop :=
  ∃ bd bs bm bS, e = .returned (.tuple #[.pointer (some ⟨bd, 0, none⟩), .pointer (some ⟨bm, 0, none⟩), .bool true]) ∧ Both w' B bd bs bm bS s ∧ w.heap.size ≤ bd ∧ w.heap.size ≤ bs ∧ w.heap.size ≤ bm ∧ w.heap.size ≤ bS ∧ Keeps [] w w'

set_option maxHeartbeats 1600000 in
theorem run_any (w : World) (A : Option Addr) (ops : List OpD) (n c B : Nat) (hn : ops.length = n) (hnc : n ≤ c) (hc : c ≤ 9223372036854775807) (hO : OpsAt w B A ops) (hB : B ≤ w.heap.size) (hfew : few ops = true) :
    Calls Try.prog 11 #[.slice A n c] w (Ran w B (runS ops)) := by
  have hn60 : n ≤ 60 := by unfold few at hfew; simp at hfew; omega
  have HO := Lib.hid hO
  have Hn := Lib.hid hn
  have Hf := Lib.hid hfew
  clear hO hn hfew
  go_enter Try.func11, Try.ntmps11
  go_wp2_with fail
  refine (new_ok w 4 (by omega) (by omega)).mono ?_
  rintro e w1 ⟨bd, bs, rfl, D1, l1, l2, k1⟩
  replace D1 := Lib.hid D1
  replace k1 := Lib.hid k1
  go_wp2_with fail
  refine (rnew_ok w1 4 (by omega) (by omega)).mono ?_
  rintro e w2 ⟨bm, bS, rfl, M2, l3, l4, k2⟩
  have hz1 := k1.out.size
  have Bth : Both w2 B bd bs bm bS (st0 4) := ⟨D1.out.keep k2 (by simp) (by simp), M2, by omega, by omega, by omega, by omega⟩
  have l3' : w.heap.size ≤ bm := by omega
  have l4' : w.heap.size ≤ bS := by omega
  have K2 := Lib.hid (k1.out.trans k2)
  replace Bth := Lib.hid Bth
  clear k1 k2 M2 D1 l3 l4 hz1
  go_wp2_with (go_at_call 10; refine (few_any w2 A ops n c B Hn.out hnc hc (HO.out.keep K2.out (by simp))).mono ?_; rintro e w3 ⟨rfl, k3⟩; rw [Hf.out]; replace Bth := Lib.hid (Bth.out.keep k3); replace K2 := Lib.hid (K2.out.trans k3); clear k3)
  go_loopw [9, 34] (fun ok i wr => ∃ k : Nat, k ≤ n ∧ i = .int .i64 k ∧ ok = .bool true ∧ Both wr B bd bs bm bS (runS (ops.take k)) ∧ Keeps [] w wr) (fun _ i _ => n - (intOf i).toNat)
  case atStart => exact ⟨0, Nat.zero_le _, rfl, rfl, Bth.out, K2.out⟩
  case round =>
    obtain ⟨k, hk, rfl, rfl, hb, hkw⟩ := hrel
    have hOk := HO.out.keep hkw (by simp)
    replace hkw := Lib.hid hkw
    replace hb := Lib.hid hb
    clear Bth K2
    by_cases hlt : k < n
    · have hkl : k < ops.length := by rw [Hn.out]; exact hlt
      obtain ⟨o, ho⟩ : ∃ o, ops[k]? = some o := ⟨ops[k], List.getElem?_eq_getElem hkl⟩
      obtain ⟨hfit, g, off, v, rfl, hg, c0, c1, c2, c3, hv⟩ := hOk k o ho
      have hw := runS_writes (ops.take k)
      have hw1 : 0 ≤ (runS (ops.take k)).writes := hw.1
      have hw2 : (runS (ops.take k)).writes ≤ 1000000 := by have := hw.2.1; rw [List.length_take] at this; omega
      have hs := runS_snoc (ops.take k) o
      rw [← take_snoc' ho] at hs
      obtain ⟨A', c', rfl, hrest⟩ := hv
      replace hs := Lib.hid hs
      replace hrest := Lib.hid hrest
      replace hfit := Lib.hid hfit
      replace hw1 := Lib.hid hw1
      replace hw2 := Lib.hid hw2
      clear hOk hw ho
      go_wp2_with (go_at_call 29; refine (do_any _ B bd bs bm bS (runS (ops.take k)) o _ hfit.out (ArgB.keep ⟨A', c', rfl, hrest.out⟩ ((Keeps.refl [] wr).alloc _) (by simp)) (hb.out.keep ((Keeps.refl _ _).alloc _)) hw1.out hw2.out).mono ?_; rintro e w5 ⟨rfl, hb5, hk5⟩; replace hb5 := Lib.hid hb5; replace hk5 := Lib.hid hk5)
      go_roundw
      case rel =>
        refine ⟨k + 1, by omega, by go_num, rfl, by rw [hs.out]; exact hb5.out, ?_⟩
        refine (((hkw.out.nil (X := [bd, bs, bm, bS])).alloc _).trans hk5.out).mono ?_
        intro x hx
        right
        simp at hx
        omega
      case measure => simp [intOf]; omega
    · obtain rfl : k = n := by omega
      clear hOk
      go_wp2
      go_ret3
      refine ⟨bd, bs, bm, bS, rfl, ?_, l1, l2, l3', l4', hkw.out⟩
      have := hb.out
      rwa [List.take_of_length_le (by rw [Hn.out]; exact Nat.le_refl _)] at this
end Go.Proofs.Ytpjmkjcgpbpfdaa
