/- The law's function free; the list of the records that were appended. -/
import Derived.Test.YtnoaahgjfknnlaaWal9
import Derived.Test.YtnoaahgjfknnlaaWalT
namespace Go.Proofs.Ytnoaahgjfknnlaa
open Go.RowKit
set_option linter.unusedSimpArgs false
set_option linter.unusedVariables false

def FreePost (s : St) (n : Nat) (F Co : Int) (ep : Nat) (w : World) (e : Ending) (w' : World) : Prop :=
  ∃ b, e = .returned (.bool b) ∧ (b = true → okR n F Co ep ∧ ∀ j : Nat, (j : Int) < Co → epo (sec s (F.toNat + j)) ≠ ep) ∧ Keeps [] w w'

set_option maxHeartbeats 1600000 in
set_option maxRecDepth 100000 in
theorem cfree_any {Z : List Nat} (w : World) (bm bS : Nat) (s : St) (n : Nat) (AO : Option Addr) (nO cO : Nat) (F Co : Int) (ep : Nat) (AR : Option Addr) (nR cR : Nat) (hM : MRep Z w bm bS s) (hn : s.n = n)
    (hF : -9223372036854775808 ≤ F ∧ F ≤ 9223372036854775807) (hCo : -9223372036854775808 ≤ Co ∧ Co ≤ 9223372036854775807) (hep : ep < 4294967296) :
    Calls Try.prog 29 #[.agg (caseV n AO nO cO F Co ep AR nR cR), .pointer (some ⟨bm, 0, none⟩)] w (FreePost s n F Co ep w) := by
  have hns := hM.n
  have kx : Keeps [] w (w.alloc (.cells (caseV n AO nO cO F Co ep AR nR cR) 38)) := (Keeps.refl _ _).alloc _
  have hb := Lib.hid (Blk.new w 38 (caseV n AO nO cO F Co ep AR nR cR))
  have hMx := Lib.hid (hM.keep kx (by simp) (by simp) (by simp))
  replace kx := Lib.hid kx
  clear hM
  by_cases hok : okR n F Co ep
  · have hok2 := hok
    unfold okR at hok2
    obtain ⟨fi, rfl⟩ : ∃ fi : Nat, F = fi := ⟨F.toNat, by omega⟩
    obtain ⟨co, rfl⟩ : ∃ co : Nat, Co = co := ⟨Co.toNat, by omega⟩
    have HM := fun w => may_any w n fi co ep (by omega) hep hF.2 hCo.2
    rw [decide_eq_true hok] at HM
    replace HM := Lib.hid HM
    have e0 : IntKind.i64.wrap ((fi : Int) + (co : Int)) = (fi : Int) + (co : Int) := IntWalk.i64_in _ (by omega)
    have hfico : fi + co ≤ n := by omega
    have hn16 : n ≤ 65536 := by omega
    clear hF hCo
    go_enter Try.func29, Try.ntmps29
    go_wp2_with fail
    generalize w.alloc (.cells (caseV n AO nO cO fi co ep AR nR cR) 38) = wx at *
    refine (HM.out wx).mono ?_
    rintro e w1 ⟨rfl, rfl⟩
    have cc := hb.out.cell
    clear HM
    go_wp2_with fail
    go_loopw [5] (fun i wr => ∃ j : Nat, j ≤ co ∧ i = .int .i64 ((fi : Int) + (j : Int)) ∧ Hid (∀ j', j' < j → epo (sec s (fi + j')) ≠ ep) ∧ Hid (Keeps [] wx wr)) (fun i _ => fi + co - (intOf i).toNat)
    case atStart => exact ⟨0, Nat.zero_le _, by simp, Lib.hid (fun j hj => absurd hj (Nat.not_lt_zero _)), Lib.hid (Keeps.refl _ _)⟩
    case round =>
      clear cc
      obtain ⟨j, hj, rfl, hall, hkw⟩ := hrel
      have cc := (hb.out.keep hkw.out (by simp)).cell
      by_cases hlt : j < co
      · have hk0 : (fi : Int) + (j : Int) < (fi : Int) + (co : Int) := by omega
        have HE := ends_any wr bm bS s (fi + j) ep (hMx.out.keep hkw.out (by simp) (by simp) (by simp)) (by omega) hep
        rw [show ((fi + j : Nat) : Int) = (fi : Int) + (j : Int) by omega] at HE
        replace HE := Lib.hid HE
        have ew : IntKind.i64.wrap ((fi : Int) + (j : Int) + 1) = (fi : Int) + (j : Int) + 1 := IntWalk.i64_in _ (by omega)
        go_wp2_with fail
        refine HE.out.mono ?_
        rintro e w2 ⟨rfl, k2⟩
        replace hkw := Lib.hid (hkw.out.trans k2)
        clear HE k2 cc
        by_cases hE : epo (sec s (fi + j)) = ep
        · rw [decide_eq_true hE]
          go_wp2_with fail
          go_ret
          exact ⟨_, rfl, (fun h => by cases h), kx.out.trans hkw.out⟩
        · rw [decide_eq_false hE]
          go_wp2_with fail
          go_roundw
          case rel => exact ⟨j + 1, by omega, congrArg (Value.int .i64) (by omega), Lib.hid (fun j' hj' => by
            rcases Nat.lt_or_ge j' j with h | h
            · exact hall.out j' h
            · obtain rfl : j' = j := by omega
              exact hE), hkw⟩
          case measure => simp [intOf]; omega
      · obtain rfl : j = co := by omega
        have hk0 : ¬ (fi : Int) + (j : Int) < (fi : Int) + (j : Int) := by omega
        go_wp2_with fail
        go_ret
        exact ⟨_, rfl, fun _ => ⟨hok, fun j' hj' => by
          have := hall.out j' (by omega)
          simpa using this⟩, kx.out.trans hkw.out⟩
  · have HM := fun w => may_any w n F Co ep (by omega) hep hF.2 hCo.2
    rw [decide_eq_false hok] at HM
    replace HM := Lib.hid HM
    go_enter Try.func29, Try.ntmps29
    go_wp2_with fail
    refine (HM.out _).mono ?_
    rintro e w1 ⟨rfl, rfl⟩
    go_wp2_with fail
    go_ret
    exact ⟨_, rfl, (fun h => by cases h), kx.out⟩

/-- A list of byte strings that the call has made, of strings that lie below block B. -/
def DoneAt (base B : Nat) (w : World) (v : Value) (rs : List (List UInt8)) : Prop :=
  ∃ vs : List Value, w.ownsRow base 34 1 v rs.length vs ∧ ∀ (j : Nat) (r : List UInt8), rs[j]? = some r → ∃ (Ar : Option Addr) (c : Nat), vs[j]? = some (Value.slice Ar r.length c) ∧ Bts w Ar r ∧ (r ≠ [] → ∀ a, Ar = some a → a.block < B)
theorem DoneAt.nil (base B : Nat) (w : World) : DoneAt base B w (.slice none 0 0) [] := ⟨[], World.ownsRow_nil _ _ _ _, fun j r hj => by cases hj⟩
theorem DoneAt.keep {base B : Nat} {w w' : World} {v : Value} {rs : List (List UInt8)} {X : List Nat} (h : DoneAt base B w v rs) (hk : Keeps X w w') (h1 : ∀ g, v.ownBlock = some g → g ∉ X) (h2 : ∀ x ∈ X, B ≤ x) : DoneAt base B w' v rs := by
  obtain ⟨vs, a1, a2⟩ := h
  refine ⟨vs, own_keep a1 hk h1, fun j r hj => ?_⟩
  obtain ⟨Ar, c, e, hb, hB⟩ := a2 j r hj
  refine ⟨Ar, c, e, ?_, hB⟩
  by_cases hr : r = []
  · exact .inl hr
  · exact hb.keep hk (fun a ha hx => by have := hB hr a ha; have := h2 _ hx; omega)
theorem DoneAt.rows {base B : Nat} {w : World} {A : Option Addr} {n c : Nat} {rs : List (List UInt8)} (h : DoneAt base B w (.slice A n c) rs) : RowsAt w A rs := by
  obtain ⟨vs, h1, h2⟩ := h
  intro i r hi
  obtain ⟨Ar, c', e, hb, _⟩ := h2 i r hi
  have hil : i < rs.length := (List.getElem?_eq_some_iff.1 hi).1
  rcases h1.2 with ⟨_, h0⟩ | ⟨g, cap, cur, hv, hb', hg, hc, hm, hs, ht⟩
  · omega
  · injection hv with hA _ _
    refine ⟨g, 0, Ar, c', hA, ?_, hb⟩
    rw [Nat.zero_add, Blk.cell (cs := cur) (t := 34) hg]
    have h3 : (cur.toList.take (rs.length * 1))[i]? = some (Value.slice Ar r.length c') := by rw [ht]; exact e
    rw [List.getElem?_take, if_pos (by omega)] at h3
    simpa using h3
theorem DoneAt.slice {base B : Nat} {w : World} {v : Value} {rs : List (List UInt8)} (h : DoneAt base B w v rs) : ∃ A c, v = .slice A rs.length c ∧ rs.length ≤ c ∧ c ≤ maxLen := by
  obtain ⟨vs, h1, _⟩ := h
  exact own_slice5 h1
theorem DoneAt.push {base B : Nat} {w1 w2 : World} {v v' : Value} {rs : List (List UInt8)} {vs : List Value} {r : List UInt8} {Ar : Option Addr} {c n : Nat} {o : Obj} (hn : r.length = n) (hbase : B ≤ base)
    (hel : ∀ (j : Nat) (r : List UInt8), rs[j]? = some r → ∃ (Ar : Option Addr) (c : Nat), vs[j]? = some (Value.slice Ar r.length c) ∧ Bts w1 Ar r ∧ (r ≠ [] → ∀ a, Ar = some a → a.block < B))
    (hown : w1.ownsRow base 34 1 v rs.length vs) (hb : Bts w1 Ar r) (hB : r ≠ [] → ∀ a, Ar = some a → a.block < B)
    (hown2 : w2.ownsRow base 34 1 v' (rs.length + 1) (vs ++ [.slice Ar n c])) (hg : (w1.alloc o).grownBy w2 v.ownBlock) : DoneAt base B w2 v' (rs ++ [r]) := by
  have hk : Keeps v.ownBlock.toList w1 w2 := ((Keeps.refl _ _).alloc o).trans (Keeps.grown hg (by intro g h; rw [h]; simp))
  have hvl : vs.length = rs.length := by have := hown.1; simpa using this
  have hno : ∀ x ∈ v.ownBlock.toList, B ≤ x := by
    intro x hx
    exact Nat.le_trans hbase (own_blk hown (g := x) (by simpa using hx)).1
  have kb : ∀ (A : Option Addr) (l : List UInt8), Bts w1 A l → (l ≠ [] → ∀ a, A = some a → a.block < B) → Bts w2 A l := by
    intro A l h1 h2
    by_cases hl : l = []
    · exact .inl hl
    · exact h1.keep hk (fun a ha hx => by have := h2 hl a ha; have := hno _ hx; omega)
  refine ⟨vs ++ [.slice Ar n c], by rw [List.length_append]; exact hown2, fun j r' hj => ?_⟩
  by_cases hjl : j < rs.length
  · rw [List.getElem?_append_left hjl] at hj
    obtain ⟨A', c', e, hb', hB'⟩ := hel j r' hj
    exact ⟨A', c', by rw [List.getElem?_append_left (by omega)]; exact e, kb _ _ hb' hB', hB'⟩
  · have hjl2 : j = rs.length := by
      have := (List.getElem?_eq_some_iff.1 hj).1
      simp at this
      omega
    subst hjl2
    rw [List.getElem?_append_right (Nat.le_refl _), Nat.sub_self] at hj
    obtain rfl : r = r' := by simpa using hj
    exact ⟨Ar, c, by rw [List.getElem?_append_right (by omega), hvl, Nat.sub_self, hn]; rfl, kb _ _ hb hB, hB⟩
end Go.Proofs.Ytnoaahgjfknnlaa
