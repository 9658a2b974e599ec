/- The log as a whole: Release, Undo. -/
import Derived.Test.YtmclfbhcddcebaaU21
namespace Go.Proofs.Ytmclfbhcddcebaa
open Go.RowKit Go.Shelf
set_option linter.unusedSimpArgs false
set_option linter.unusedVariables false

/-- The first k elements of a row. -/
theorem own_take {w : World} {b e size n k c : Nat} {A : Option Addr} {xs : List Value} (h : w.ownsRow b e size (.slice A n c) n xs) (hk : k ≤ n) (hA : A = none → c = 0 ∧ n = 0) : w.ownsRow b e size (.slice A k c) k (xs.take (k * size)) := by
  have hl := h.1
  refine ⟨by rw [List.length_take, hl]; exact Nat.min_eq_left (Nat.mul_le_mul_right _ hk), ?_⟩
  rcases h.2 with ⟨hv, hn⟩ | ⟨g, cap, cur, hv, hb, hg, hnc, hcm, hcs, ht⟩
  · injection hv with h1 h2 h3
    subst h1 h3 h2
    obtain rfl : k = 0 := by omega
    exact .inl ⟨rfl, rfl⟩
  · injection hv with h1 _ h3
    subst h1 h3
    refine .inr ⟨g, c, cur, rfl, hb, hg, by omega, hcm, hcs, ?_⟩
    rw [← ht, List.take_take, Nat.min_eq_left (Nat.mul_le_mul_right _ hk)]
theorem own_none {w : World} {b e size n c : Nat} {A : Option Addr} {xs : List Value} (h : w.ownsRow b e size (.slice A n c) n xs) : A = none → c = 0 ∧ n = 0 := by
  rintro rfl
  rcases h.2 with ⟨hv, hn⟩ | ⟨g, cap, cur, hv, _⟩
  · injection hv with _ h2 h3; exact ⟨h3, h2⟩
  · simp at hv
theorem flatC_take : ∀ (R : List Raw) (k : Nat), (flatC R).take (k * 4) = flatC (R.take k)
  | [], k => by simp [flatC]
  | r :: R, 0 => by simp [flatC]
  | r :: R, k + 1 => by
    rw [show (k + 1) * 4 = k * 4 + 1 + 1 + 1 + 1 by omega]
    show _ :: _ :: _ :: _ :: (flatC R).take (k * 4) = _ :: _ :: _ :: _ :: flatC (R.take k)
    rw [flatC_take R k]
theorem flatP_take : ∀ (S : List Pnt) (k : Nat), (flatP S).take (k * 2) = flatP (S.take k)
  | [], k => by simp [flatP]
  | r :: S, 0 => by simp [flatP]
  | r :: S, k + 1 => by
    rw [show (k + 1) * 2 = k * 2 + 1 + 1 by omega]
    show _ :: _ :: (flatP S).take (k * 2) = _ :: _ :: flatP (S.take k)
    rw [flatP_take S k]
theorem RawsIs.take {w : World} {X : List Nat} {R : List Raw} {L : List Chg} (h : RawsIs w X R L) (k : Nat) : RawsIs w X (R.take k) (L.take k) := ⟨by rw [List.length_take, List.length_take, h.1], fun i r c h1 h2 => by
  rw [List.getElem?_take] at h1 h2
  split at h1
  · rename_i hi
    rw [if_pos hi] at h2
    exact h.2 i r c h1 h2
  · cases h1⟩
/-- A store of the savepoints' slice, cut. -/
theorem GLog.cut {tl ts : TypeId} {b : Nat} {w w' : World} {X F : List Nat} {gl k : Nat} {L : List Chg} {S : List Pnt} {A Ap : Option Addr} {c cp : Nat} {R : List Raw} (h : GLog tl ts b w X F gl L S) (hB : Blk w' gl tl #[.slice A L.length c, .slice Ap (min k S.length) cp])
    (hO : w'.ownsRow b 35 4 (.slice A L.length c) L.length (flatC R)) (hP : w'.ownsRow b ts 2 (.slice Ap (min k S.length) cp) (min k S.length) (flatP (S.take k))) (hR : RawsIs w' X R L) (hF : F = gl :: (fb A ++ fb Ap)) (hs : w.heap.size ≤ w'.heap.size) : GLog tl ts b w' X F gl L (S.take k) :=
  ⟨⟨A, c, Ap, cp, R, by rw [List.length_take]; exact hB, hO, by rw [List.length_take]; exact hP, hR, hF⟩, h.sub, h.lo, fun x hx => Nat.lt_of_lt_of_le (h.hi x hx) hs, h.sm⟩

/-- Release, in plain words. -/
def RelL (tl ts : TypeId) (b : Nat) (w : World) (X F : List Nat) (gl : Nat) (L : List Chg) (S : List Pnt) (nm : ByteArray) (e : Ending) (w' : World) : Prop :=
  e = .returned (.int .i64 (if findI S nm < 0 then 4 else 0)) ∧ Hid (GLog tl ts b w' X F gl L (if findI S nm < 0 then S else S.take (findI S nm).toNat)) ∧ Hid (Keeps F w w')
set_option maxRecDepth 100000 in
set_option maxHeartbeats 1600000 in
theorem release_log (b : Nat) (w : World) (X F : List Nat) (gl : Nat) (L : List Chg) (S : List Pnt) (nm : ByteArray) (h : PLog b w X F gl L S) (hS : S.length ≤ 1000000) :
    Calls Try.prog 23 #[.pointer (some ⟨gl, 0, none⟩), .string nm] w (RelL 64 82 b w X F gl L S nm) := by
  obtain ⟨A, cc, Ap, cp, R, hB, hO, hP, hR, hF⟩ := h.ex
  have HFI := Lib.hid (find_any w b gl S.length cp _ Ap nm S hB rfl hP hS)
  have h0 := Lib.hid h
  unfold RelL
  rcases findI_bd S nm with hi | ⟨hi1, hi2⟩
  · rw [hi] at HFI ⊢
    clear hB hO hP hR hF h
    go_enter Try.func23, Try.ntmps23
    go_wp2_with fail
    refine HFI.out.mono ?_
    rintro e w2 ⟨rfl, k2⟩
    replace k2 := Lib.hid k2
    clear HFI
    go_wp2_with fail
    go_ret
    exact ⟨rfl, Lib.hid (h0.out.keep k2.out), Lib.hid k2.out.nil⟩
  · obtain ⟨i, hi⟩ : ∃ i : Nat, findI S nm = (i : Int) := ⟨(findI S nm).toNat, by omega⟩
    rw [hi] at HFI hi1 hi2 ⊢
    obtain ⟨gp, hgp, _, _⟩ : ∃ gp, Ap = some ⟨gp, 0, none⟩ ∧ gp < w.heap.size ∧ S.length ≤ cp := by
      obtain ⟨g, c', hv, h1, _, _, h2, _⟩ := own_row3 hP (by omega)
      injection hv with hA _ hc
      exact ⟨g, hA, h2, by omega⟩
    subst hgp
    have hScp : S.length ≤ cp := by
      obtain ⟨g, c', hv, h1, _, _, h2, _⟩ := own_row3 hP (by omega)
      cases hv
      exact h1
    have hic : (i : Int) ≤ (cp : Int) := by omega
    have hn0 : ¬ ((i : Int) < 0) := by omega
    have hP1 : w.ownsRow b 82 2 (.slice (some ⟨gp, 0, none⟩) i cp) i (flatP (S.take i)) := by
      have := own_take hP (k := i) (by omega) (by simp)
      rw [flatP_take] at this
      exact this
    have hfin : Hid (∀ w2, Keeps [] w w2 → GLog 64 82 b (w2.setCell ⟨gl, 1, none⟩ (.slice (some ⟨gp, 0, none⟩) i cp)) X F gl L (S.take i) ∧ Keeps F w (w2.setCell ⟨gl, 1, none⟩ (.slice (some ⟨gp, 0, none⟩) i cp)) ∧ (∀ j, w2.cell? ⟨gl, j, none⟩ = (#[.slice A L.length cc, .slice (some ⟨gp, 0, none⟩) S.length cp] : Array Value)[j]?) ∧ ∀ j, w2.frozen? ⟨gl, j, none⟩ = false) := Lib.hid (fun w2 k2 => by
      have hB2 := hB.keep k2 (by simp)
      have ks : Keeps [gl] w2 (w2.setCell ⟨gl, 1, none⟩ (.slice (some ⟨gp, 0, none⟩) i cp)) := (Keeps.refl [gl] w2).setCell (p := ⟨gl, 1, none⟩) (.inl (by simp)) _
      have kall : Keeps [gl] w (w2.setCell ⟨gl, 1, none⟩ (.slice (some ⟨gp, 0, none⟩) i cp)) := k2.nil.trans ks
      have hne : ∀ {e : TypeId} {A : Option Addr} {n c s : Nat} {xs : List Value}, w.ownsRow b e s (.slice A n c) n xs → e ≠ 64 → ∀ g, (Value.slice A n c).ownBlock = some g → g ∉ [gl] := fun ho hee g hg hm => by
        obtain ⟨_, cur, hb⟩ := own_blk ho hg
        rw [List.mem_singleton.1 hm] at hb
        exact hb.ne_ hB hee rfl
      refine ⟨h0.out.cut (A := A) (c := cc) (Ap := some ⟨gp, 0, none⟩) (cp := cp) (R := R) (k := i) ?_ (own_keep hO kall (hne hO (by decide))) ?_ (hR.keep kall (fun y hy => .inl (h0.out.sub y (by rw [List.mem_singleton.1 hy, hF]; simp)))) hF kall.size, kall.mono (fun x hx => .inl (by rw [List.mem_singleton.1 hx, hF]; simp)), hB2.cell, hB2.frozen⟩
      · have := hB2.set_ 1 (.slice (some ⟨gp, 0, none⟩) i cp)
        rw [Nat.min_eq_left (by omega)]
        simpa using this
      · rw [Nat.min_eq_left (by omega)]
        exact own_keep hP1 kall (hne hP1 (by decide)))
    clear hB hO hP hR hF h hP1 hi
    go_enter Try.func23, Try.ntmps23
    go_wp2_with fail
    refine HFI.out.mono ?_
    rintro e w2 ⟨rfl, k2⟩
    obtain ⟨q1, q2, z0, z1⟩ := hfin.out w2 k2
    replace q1 := Lib.hid q1
    replace q2 := Lib.hid q2
    clear HFI hfin k2
    have z00 := z0 1
    have z11 := z1 1
    go_wp2_with fail
    go_ret
    refine ⟨?_, Lib.hid ?_, Lib.hid q2.out⟩
    · rfl
    · exact q1.out
end Go.Proofs.Ytmclfbhcddcebaa
