/- The reference's log: find, Release. -/
import Derived.Test.YtmclfbhcddcebaaU30
namespace Go.Proofs.Ytmclfbhcddcebaa
open Go.RowKit Go.Shelf
set_option linter.unusedSimpArgs false
set_option linter.unusedVariables false

theorem findI_cases (P : List Pnt) (nm : ByteArray) : (findI P nm = -1 ∧ ∀ x ∈ P, ¬ x.1 = nm) ∨ ∃ i x, findI P nm = ((i : Nat) : Int) ∧ P[i]? = some x ∧ x.1 = nm ∧ ∀ y ∈ P.take i, ¬ y.1 = nm := by
  rcases first_from (fun y : Pnt => decide (y.1 = nm)) default P 0 with ⟨h1, h2⟩ | ⟨i, h1, h2, h3, x, h4, h5⟩
  · exact .inl ⟨h1, fun x hx => by simpa using h2 x hx⟩
  · refine .inr ⟨i, x, ?_, h4, by simpa using h5, fun y hy => by simpa using h3 y hy⟩
    rw [Nat.zero_add] at h1
    exact h1
theorem findI_none {P : List Pnt} {nm : ByteArray} (h : ∀ x ∈ P, ¬ x.1 = nm) : findI P nm = -1 := by
  rcases findI_cases P nm with h1 | ⟨i, x, h1, h2, h3, _⟩
  · exact h1.1
  · exact absurd h3 (h x (List.mem_of_getElem? h2))
theorem findI_at {P : List Pnt} {nm : ByteArray} {k : Nat} {p : Pnt} (h : ∀ x ∈ P.take k, ¬ x.1 = nm) (hp : P[k]? = some p) (he : p.1 = nm) : findI P nm = (k : Int) := by
  rcases findI_cases P nm with h1 | ⟨i, x, h1, h2, h3, h4⟩
  · exact absurd he (h1.2 p (List.mem_of_getElem? hp))
  · rw [h1]
    rcases Nat.lt_trichotomy i k with hlt | rfl | hgt
    · exact absurd h3 (h x (List.mem_of_getElem? (i := i) (by rw [List.getElem?_take_of_lt hlt]; exact h2)))
    · rfl
    · exact absurd he (h4 p (List.mem_of_getElem? (i := k) (by rw [List.getElem?_take_of_lt hgt]; exact hp)))

set_option maxRecDepth 100000 in
set_option maxHeartbeats 1600000 in
theorem rfind_any (w : World) (base gl n c : Nat) (ch : Value) (A : Option Addr) (nm : ByteArray) (P : List Pnt) (hB : Blk w gl 31 #[ch, .slice A n c]) (hl : P.length = n) (hO : w.ownsRow base 99 2 (.slice A n c) n (flatP P)) (hn : n ≤ 1000000) :
    Calls Try.prog 57 #[.pointer (some ⟨gl, 0, none⟩), .string nm] w fun e w' => e = .returned (.int .i64 (findI P nm)) ∧ Keeps [] w w' := by
  have z0 := hB.cell 1
  have hz : Hid (∀ wr, Keeps [] w wr → wr.cell? ⟨gl, 1, none⟩ = some (.slice A n c)) := Lib.hid (fun wr k => k.cellEq z0 (by simp))
  have hA : Hid (∀ wr, Keeps [] w wr → ∀ k p, P[k]? = some p → ∃ g, A = some ⟨g, 0, none⟩ ∧ wr.cell? ⟨g, k * 2, none⟩ = some (.string p.1)) := Lib.hid (fun wr kw k p hp => by
    have hlt := (List.getElem?_eq_some_iff.1 hp).1
    obtain ⟨g, c', hv, _, _, _, _, hcell, _⟩ := own_row3 hO (by omega)
    injection hv with h1 _ _
    exact ⟨g, h1, kw.cellEq (hcell _ _ (flatP_get P k p hp).1) (by simp)⟩)
  replace hl := Lib.hid hl
  clear hB hO z0
  go_enter Try.func57, Try.ntmps57
  go_wp2_with fail
  go_loopw [5] (fun i wr => ∃ k : Nat, k ≤ n ∧ i = .int .i64 k ∧ Hid (∀ y ∈ P.take k, ¬ y.1 = nm) ∧ Hid (Keeps [] w wr)) (fun i _ => n - (intOf i).toNat)
  case atStart => exact ⟨0, Nat.zero_le _, rfl, Lib.hid (by simp), Lib.hid (Keeps.refl _ _)⟩
  case round =>
    obtain ⟨k, hk, rfl, hno, hkw⟩ := hrel
    have z1 := hz.out _ hkw.out
    by_cases hlt : k < n
    · obtain ⟨⟨pn, pm⟩, hp⟩ : ∃ p, P[k]? = some p := ⟨P[k]'(by rw [hl.out]; exact hlt), List.getElem?_eq_getElem _⟩
      obtain ⟨g, rfl, zc⟩ := hA.out _ hkw.out k _ hp
      have hkn : (k : Int) < (n : Int) := by omega
      dsimp only at zc
      by_cases he : pn = nm
      · have hf := Lib.hid (findI_at hno.out hp he)
        subst he
        go_wp2_with fail
        go_ret
        exact ⟨by rw [hf.out]; rfl, hkw.out⟩
      · have hno' : Hid (∀ y ∈ P.take (k + 1), ¬ y.1 = nm) := Lib.hid (fun y hy => by
          rw [take_snoc hp] at hy
          rcases List.mem_append.1 hy with hy | hy
          · exact hno.out y hy
          · rw [List.mem_singleton.1 hy]; exact he)
        have hb := bytes_ne he
        have hl1 : ¬ pn.toList = nm.toList := fun e => bytes_list he (by simpa [ByteArray.toList_eq] using e)
        have hl2 : (pn.toList == nm.toList) = false := by simpa using hl1
        replace hp := Lib.hid hp
        go_wp2_with fail
        go_roundw
        case rel => exact ⟨k + 1, by omega, by go_num, hno', hkw⟩
        case measure => simp [intOf]; omega
    · obtain rfl : k = n := by omega
      have hf := Lib.hid (findI_none (fun x hx => hno.out x (by rw [List.take_of_length_le (by rw [hl.out]; exact Nat.le_refl _)]; exact hx)))
      have hjf : ¬ (k : Int) < (k : Int) := by omega
      go_wp2_with fail
      go_ret
      exact ⟨by rw [hf.out]; rfl, hkw.out⟩
set_option maxRecDepth 100000 in
set_option maxHeartbeats 1600000 in
theorem rrelease_log (b : Nat) (w : World) (X F : List Nat) (gl : Nat) (L : List Chg) (S : List Pnt) (nm : ByteArray) (h : RLog b w X F gl L S) (hS : S.length ≤ 1000000) :
    Calls Try.prog 47 #[.pointer (some ⟨gl, 0, none⟩), .string nm] w (RelL 31 99 b w X F gl L S nm) := by
  obtain ⟨A, cc, Ap, cp, R, hB, hO, hP, hR, hF⟩ := h.ex
  have HFI := Lib.hid (rfind_any w b gl S.length cp _ Ap nm S hB rfl hP hS)
  have h0 := Lib.hid h
  unfold RelL
  rcases findI_bd S nm with hi | ⟨hi1, hi2⟩
  · rw [hi] at HFI ⊢
    clear hB hO hP hR hF h
    go_enter Try.func47, Try.ntmps47
    go_wp2_with fail
    refine HFI.out.mono ?_
    rintro e w2 ⟨rfl, k2⟩
    replace k2 := Lib.hid k2
    clear HFI
    go_wp2_with fail
    go_ret
    exact ⟨rfl, Lib.hid (h0.out.keep k2.out), Lib.hid k2.out.nil⟩
  · obtain ⟨i, hi⟩ : ∃ i : Nat, findI S nm = (i : Int) := ⟨(findI S nm).toNat, by omega⟩
    rw [hi] at HFI hi1 hi2 ⊢
    obtain ⟨gp, hgp, _, _⟩ : ∃ gp, Ap = some ⟨gp, 0, none⟩ ∧ gp < w.heap.size ∧ S.length ≤ cp := by
      obtain ⟨g, c', hv, h1, _, _, h2, _⟩ := own_row3 hP (by omega)
      injection hv with hA _ hc
      exact ⟨g, hA, h2, by omega⟩
    subst hgp
    have hScp : S.length ≤ cp := by
      obtain ⟨g, c', hv, h1, _, _, h2, _⟩ := own_row3 hP (by omega)
      cases hv
      exact h1
    have hic : (i : Int) ≤ (cp : Int) := by omega
    have hn0 : ¬ ((i : Int) < 0) := by omega
    have hP1 : w.ownsRow b 99 2 (.slice (some ⟨gp, 0, none⟩) i cp) i (flatP (S.take i)) := by
      have := own_take hP (k := i) (by omega) (by simp)
      rw [flatP_take] at this
      exact this
    have hfin : Hid (∀ w2, Keeps [] w w2 → GLog 31 99 b (w2.setCell ⟨gl, 1, none⟩ (.slice (some ⟨gp, 0, none⟩) i cp)) X F gl L (S.take i) ∧ Keeps F w (w2.setCell ⟨gl, 1, none⟩ (.slice (some ⟨gp, 0, none⟩) i cp)) ∧ (∀ j, w2.cell? ⟨gl, j, none⟩ = (#[.slice A L.length cc, .slice (some ⟨gp, 0, none⟩) S.length cp] : Array Value)[j]?) ∧ ∀ j, w2.frozen? ⟨gl, j, none⟩ = false) := Lib.hid (fun w2 k2 => by
      have hB2 := hB.keep k2 (by simp)
      have ks : Keeps [gl] w2 (w2.setCell ⟨gl, 1, none⟩ (.slice (some ⟨gp, 0, none⟩) i cp)) := (Keeps.refl [gl] w2).setCell (p := ⟨gl, 1, none⟩) (.inl (by simp)) _
      have kall : Keeps [gl] w (w2.setCell ⟨gl, 1, none⟩ (.slice (some ⟨gp, 0, none⟩) i cp)) := k2.nil.trans ks
      have hne : ∀ {e : TypeId} {A : Option Addr} {n c s : Nat} {xs : List Value}, w.ownsRow b e s (.slice A n c) n xs → e ≠ 31 → ∀ g, (Value.slice A n c).ownBlock = some g → g ∉ [gl] := fun ho hee g hg hm => by
        obtain ⟨_, cur, hb⟩ := own_blk ho hg
        rw [List.mem_singleton.1 hm] at hb
        exact hb.ne_ hB hee rfl
      refine ⟨h0.out.cut (A := A) (c := cc) (Ap := some ⟨gp, 0, none⟩) (cp := cp) (R := R) (k := i) ?_ (own_keep hO kall (hne hO (by decide))) ?_ (hR.keep kall (fun y hy => .inl (h0.out.sub y (by rw [List.mem_singleton.1 hy, hF]; simp)))) hF kall.size, kall.mono (fun x hx => .inl (by rw [List.mem_singleton.1 hx, hF]; simp)), hB2.cell, hB2.frozen⟩
      · have := hB2.set_ 1 (.slice (some ⟨gp, 0, none⟩) i cp)
        rw [Nat.min_eq_left (by omega)]
        simpa using this
      · rw [Nat.min_eq_left (by omega)]
        exact own_keep hP1 kall (hne hP1 (by decide)))
    clear hB hO hP hR hF h hP1 hi
    go_enter Try.func47, Try.ntmps47
    go_wp2_with fail
    refine HFI.out.mono ?_
    rintro e w2 ⟨rfl, k2⟩
    obtain ⟨q1, q2, z0, z1⟩ := hfin.out w2 k2
    replace q1 := Lib.hid q1
    replace q2 := Lib.hid q2
    clear HFI hfin k2
    have z00 := z0 1
    have z11 := z1 1
    go_wp2_with fail
    go_ret
    refine ⟨?_, Lib.hid ?_, Lib.hid q2.out⟩
    · rfl
    · exact q1.out
end Go.Proofs.Ytmclfbhcddcebaa
