/- The reference's log: Back, Undo. -/
import Derived.Test.YtmclfbhcddcebaaU32
namespace Go.Proofs.Ytmclfbhcddcebaa
open Go.RowKit Go.Shelf
set_option linter.unusedSimpArgs false
set_option linter.unusedVariables false

/-- What Undo and Back of the reference leave, and what they return. -/
def RCutL (b : Nat) (w : World) (X F : List Nat) (gl : Nat) (L' : List Chg) (S' : List Pnt) (M : List Chg) (err : Int) (e : Ending) (w' : World) : Prop :=
  ∃ A c, e = .returned (.tuple #[.slice A M.length c, .int .i64 err]) ∧ Hid (ChsAt w' X A M) ∧ Hid (RLog b w' X F gl L' S') ∧ Hid (Keeps F w w')
def RBackL (b : Nat) (w : World) (X F : List Nat) (gl : Nat) (L : List Chg) (S : List Pnt) (nm : ByteArray) (e : Ending) (w' : World) : Prop :=
  if findI S nm < 0 then RCutL b w X F gl L S [] 4 e w'
  else RCutL b w X F gl (L.take (markAt S (findI S nm).toNat)) (S.take ((findI S nm).toNat + 1)) ((L.drop (markAt S (findI S nm).toNat)).reverse.map inv) 0 e w'
set_option maxRecDepth 100000 in
set_option maxHeartbeats 3200000 in
theorem rback_log (b : Nat) (w : World) (X F : List Nat) (gl : Nat) (L : List Chg) (S : List Pnt) (nm : ByteArray) (h : RLog b w X F gl L S) (hmk : ∀ p ∈ S, p.2 ≤ L.length) (hL : L.length ≤ 1000000) (hS : S.length ≤ 1000000) :
    Calls Try.prog 46 #[.pointer (some ⟨gl, 0, none⟩), .string nm] w (RBackL b w X F gl L S nm) := by
  obtain ⟨A, cc, Ap, cp, R, hB, hO, hP, hR, hF⟩ := h.ex
  have HFI := Lib.hid (rfind_any w b gl S.length cp _ Ap nm S hB rfl hP hS)
  have h0 := Lib.hid h
  unfold RBackL
  rcases findI_bd S nm with hi | ⟨hi1, hi2⟩
  · rw [hi] at HFI ⊢
    simp only [show (-1 : Int) < 0 by omega, if_true]
    clear hB hO hP hR hF h hmk
    go_enter Try.func46, Try.ntmps46
    go_wp2_with fail
    refine HFI.out.mono ?_
    rintro e w2 ⟨rfl, k2⟩
    replace k2 := Lib.hid k2
    clear HFI
    go_wp2_with fail
    go_ret2
    exact ⟨none, 0, rfl, Lib.hid (fun i c h => by simp at h), Lib.hid (h0.out.keep k2.out), Lib.hid k2.out.nil⟩
  · obtain ⟨i, hi⟩ : ∃ i : Nat, findI S nm = (i : Int) := ⟨(findI S nm).toNat, by omega⟩
    rw [hi] at HFI hi1 hi2 ⊢
    simp only [show ¬ ((i : Int) < 0) by omega, if_false, Int.toNat_natCast]
    obtain ⟨⟨pn, mk⟩, hp⟩ : ∃ p, S[i]? = some p := ⟨S[i]'(by omega), List.getElem?_eq_getElem _⟩
    have hma : markAt S i = mk := by unfold markAt; rw [hp]; rfl
    rw [hma]
    have hmkl : mk ≤ L.length := hmk _ (List.mem_of_getElem? hp)
    obtain ⟨m, hm⟩ : ∃ m, mk + m = L.length := ⟨L.length - mk, by omega⟩
    obtain ⟨gp, rfl, hgp, hScp, hz⟩ : ∃ gp, Ap = some ⟨gp, 0, none⟩ ∧ gp < w.heap.size ∧ S.length ≤ cp ∧ w.cell? ⟨gp, i * 2 + 1, none⟩ = some (.int .i64 (mk : Int)) := by
      obtain ⟨g, c', hv, h1, _, _, h2, h3, _⟩ := own_row3 hP (by omega)
      cases hv
      exact ⟨g, rfl, h2, h1, h3 _ _ (flatP_get S i _ hp).2⟩
    have hic : (i : Int) + 1 ≤ (cp : Int) := by omega
    have hn0 : ¬ ((i : Int) < 0) := by omega
    have hii : (i : Int) < (i : Int) + 1 := by omega
    have hw1 : IntKind.i64.wrap ((i : Int) + 1) = (i : Int) + 1 := IntWalk.i64_in _ (by omega)
    have hw2 : IntKind.i64.wrap ((L.length : Int) - (mk : Int)) = (m : Int) := by rw [IntWalk.i64_in _ (by omega)]; omega
    have hP1 : w.ownsRow b 99 2 (.slice (some ⟨gp, 0, none⟩) (i + 1) cp) (i + 1) (flatP (S.take (i + 1))) := by
      have := own_take hP (k := i + 1) (by omega) (by simp)
      rw [flatP_take] at this
      exact this
    have hfin : Hid (∀ w2, Keeps [] w w2 → GLog 31 99 b (w2.setCell ⟨gl, 1, none⟩ (.slice (some ⟨gp, 0, none⟩) (i + 1) cp)) X F gl L (S.take (i + 1)) ∧ Keeps F w (w2.setCell ⟨gl, 1, none⟩ (.slice (some ⟨gp, 0, none⟩) (i + 1) cp)) ∧ (∀ j, w2.cell? ⟨gl, j, none⟩ = (#[.slice A L.length cc, .slice (some ⟨gp, 0, none⟩) S.length cp] : Array Value)[j]?) ∧ (∀ j, w2.frozen? ⟨gl, j, none⟩ = false) ∧
        (w2.setCell ⟨gl, 1, none⟩ (.slice (some ⟨gp, 0, none⟩) (i + 1) cp)).cell? ⟨gl, 0, none⟩ = some (.slice A L.length cc) ∧ (w2.setCell ⟨gl, 1, none⟩ (.slice (some ⟨gp, 0, none⟩) (i + 1) cp)).cell? ⟨gl, 1, none⟩ = some (.slice (some ⟨gp, 0, none⟩) (i + 1) cp) ∧ (w2.setCell ⟨gl, 1, none⟩ (.slice (some ⟨gp, 0, none⟩) (i + 1) cp)).cell? ⟨gp, i * 2 + 1, none⟩ = some (.int .i64 (mk : Int))) := Lib.hid (fun w2 k2 => by
      have hB2 := hB.keep k2 (by simp)
      have ks : Keeps [gl] w2 (w2.setCell ⟨gl, 1, none⟩ (.slice (some ⟨gp, 0, none⟩) (i + 1) cp)) := (Keeps.refl [gl] w2).setCell (p := ⟨gl, 1, none⟩) (.inl (by simp)) _
      have kall : Keeps [gl] w (w2.setCell ⟨gl, 1, none⟩ (.slice (some ⟨gp, 0, none⟩) (i + 1) cp)) := k2.nil.trans ks
      have hne : ∀ {e : TypeId} {A : Option Addr} {n c s : Nat} {xs : List Value}, w.ownsRow b e s (.slice A n c) n xs → e ≠ 31 → ∀ g, (Value.slice A n c).ownBlock = some g → g ∉ [gl] := fun ho hee g hg hm => by
        obtain ⟨_, cur, hb⟩ := own_blk ho hg
        rw [List.mem_singleton.1 hm] at hb
        exact hb.ne_ hB hee rfl
      have hBs := hB2.set_ 1 (.slice (some ⟨gp, 0, none⟩) (i + 1) cp)
      refine ⟨h0.out.cut (A := A) (c := cc) (Ap := some ⟨gp, 0, none⟩) (cp := cp) (R := R) (k := i + 1) ?_ (own_keep hO kall (hne hO (by decide))) ?_ (hR.keep kall (fun y hy => .inl (h0.out.sub y (by rw [List.mem_singleton.1 hy, hF]; simp)))) hF kall.size, kall.mono (fun x hx => .inl (by rw [List.mem_singleton.1 hx, hF]; simp)), hB2.cell, hB2.frozen, hBs.cell 0, hBs.cell 1, kall.cellEq hz (hne hP (by decide) gp rfl)⟩
      · rw [Nat.min_eq_left (by omega)]
        simpa using hBs
      · rw [Nat.min_eq_left (by omega)]
        exact own_keep hP1 kall (hne hP1 (by decide)))
    clear hB hO hP hR hF h hP1 hi hz hmk hma hp
    go_enter Try.func46, Try.ntmps46
    go_wp2_with fail
    refine HFI.out.mono ?_
    rintro e w2 ⟨rfl, k2⟩
    obtain ⟨q1, q2, z0, z1, y0, y1, y2⟩ := hfin.out w2 k2
    have z00 := z0 0
    have z01 := z0 1
    have f1 := z1 1
    have HR := Lib.hid (rcut_log b _ X F gl L (S.take (i + 1)) mk m q1 hm hL)
    replace q2 := Lib.hid q2
    clear HFI hfin k2 z0 z1 q1
    go_wp2_with fail
    refine HR.out.mono ?_
    rintro e w4 ⟨A4, c4, rfl, r4, p4, k4⟩
    have kw : Hid (Keeps F w w4) := Lib.hid (q2.out.trans k4.out)
    clear HR q2 y0 y1 y2
    go_wp2_with fail
    go_ret2
    refine ⟨A4, c4, ?_, r4, p4, kw⟩
    have : ((L.drop mk).reverse.map inv).length = m := by simp; omega
    rw [this]
    rfl
def RUndoL (b : Nat) (w : World) (X F : List Nat) (gl : Nat) (L : List Chg) (S : List Pnt) (n : Int) (e : Ending) (w' : World) : Prop :=
  if undoOk L S n then RCutL b w X F gl (L.take (L.length - n.toNat)) S ((L.drop (L.length - n.toNat)).reverse.map inv) 0 e w' else RCutL b w X F gl L S [] 1 e w'
theorem rundo_no {b : Nat} {w w' : World} {X F : List Nat} {gl : Nat} {L : List Chg} {S : List Pnt} {n : Int} (h : RLog b w X F gl L S) (hk : Keeps [] w w') (hno : undoOk L S n = false) : RUndoL b w X F gl L S n (.returned (.tuple #[.slice none 0 0, .int .i64 1])) w' := by
  unfold RUndoL
  rw [hno]
  exact ⟨none, 0, rfl, Lib.hid (fun i c h => by simp at h), Lib.hid (h.keep hk), Lib.hid hk.nil⟩
set_option maxRecDepth 100000 in
set_option maxHeartbeats 3200000 in
theorem rundo_log (b : Nat) (w : World) (X F : List Nat) (gl : Nat) (L : List Chg) (S : List Pnt) (n : Int) (h : RLog b w X F gl L S) (hmk : ∀ p ∈ S, p.2 ≤ L.length) (hL : L.length ≤ 1000000) (hS : S.length ≤ 1000000) :
    Calls Try.prog 48 #[.pointer (some ⟨gl, 0, none⟩), .int .i64 n] w (RUndoL b w X F gl L S n) := by
  have hh := Lib.hid h
  obtain ⟨A, cc, Ap, cp, R, hB, hO, hP, hR, hF⟩ := h.ex
  have z0 := hB.cell 0
  have z1 := hB.cell 1
  obtain ⟨lm, hlm⟩ : ∃ x, x = leastM S := ⟨_, rfl⟩
  obtain ⟨ln, hln⟩ : ∃ x, x = L.length := ⟨_, rfl⟩
  have hlml : lm ≤ ln := by
    rw [hlm, hln]
    unfold leastM
    cases hq : S.getLast? with
    | none => simp
    | some p => exact hmk p (List.mem_of_getLast? hq)
  have hsub : IntKind.i64.wrap ((ln : Int) - (lm : Int)) = (ln : Int) - (lm : Int) := IntWalk.i64_in _ (by omega)
  have hP' : S.length = 0 ∨ ∃ q pn gp, S.length = q + 1 ∧ Ap = some ⟨gp, 0, none⟩ ∧ S.length ≤ cp ∧ w.cell? ⟨gp, q * 2 + 1, none⟩ = some (.int .i64 (lm : Int)) ∧ w.cell? ⟨gp, q * 2, none⟩ = some (.string pn) := by
    cases hq : S.length with
    | zero => exact .inl rfl
    | succ q =>
      obtain ⟨⟨pn, pm⟩, hp, hlm'⟩ := last_of hq
      obtain ⟨g, c', hv, h1, _, _, h2, h3, _⟩ := own_row3 hP (by omega)
      cases hv
      obtain ⟨f1, f2⟩ := flatP_get S q _ hp
      exact .inr ⟨q, pn, g, rfl, rfl, by omega, by rw [hlm, hlm']; exact h3 _ _ f2, h3 _ _ f1⟩
  have hno : Hid (n < 0 ∨ (ln : Int) - (lm : Int) < n → ∀ w', Keeps [] w w' → RUndoL b w X F gl L S n (.returned (.tuple #[.slice none 0 0, .int .i64 1])) w') := Lib.hid (fun hc w' hk => rundo_no hh.out hk (by
    unfold undoOk
    rw [← hlm, ← hln]
    rcases hc with hc | hc
    · rw [decide_eq_false (by omega)]; rfl
    · rw [decide_eq_false (by omega : ¬ (n + (lm : Int) ≤ (ln : Int)))]; simp))
  have hyes : Hid (∀ (kp m : Nat), n = (m : Int) → kp + m = ln → (m : Int) + lm ≤ ln → IntKind.i64.wrap ((ln : Int) - n) = (kp : Int) ∧ (∀ w', Keeps [] w w' → Calls Try.prog 58 #[.pointer (some ⟨gl, 0, none⟩), .int .i64 kp] w' (RCutP b w' X F gl L S kp m)) ∧ ∀ e w' wm A c, Keeps [] w wm → RCutP b wm X F gl L S kp m (.returned (.slice A m c)) w' → e = Ending.returned (.tuple #[.slice A m c, .int .i64 0]) → RUndoL b w X F gl L S n e w') := Lib.hid (fun kp m hnm hkm hle => by
    subst hnm
    refine ⟨by rw [IntWalk.i64_in _ (by omega)]; omega, fun w' hk => rcut_log b w' X F gl L S kp m (hh.out.keep hk) (by omega) hL, ?_⟩
    rintro e w' wm A c kw ⟨A', c', he, h1, h2, h3⟩ rfl
    cases he
    unfold RUndoL
    have : undoOk L S (m : Int) = true := by
      unfold undoOk
      rw [← hlm, ← hln, decide_eq_true (by omega), decide_eq_true (by omega)]
      rfl
    rw [this]
    have e1 : L.length - ((m : Int)).toNat = kp := by simp; omega
    rw [e1]
    exact ⟨A, c, by simp; omega, h1, h2, Lib.hid (kw.nil.trans h3.out)⟩)
  rw [← hln] at z0
  replace hlm := Lib.hid hlm
  replace hln := Lib.hid hln
  clear hB hO hP hR hF h hmk hL
  rcases hP' with hq | ⟨q, pn, gp, hq, rfl, hcp, hz, _⟩
  · rw [hq] at z1
    obtain rfl : lm = 0 := by rw [hlm.out, List.eq_nil_of_length_eq_zero hq]; rfl
    clear hq hlm
    simp only [Int.natCast_zero, Int.sub_zero] at hsub hno
    by_cases hn0 : n < 0
    · have d0 := decide_eq_true hn0
      replace hno := Lib.hid (hno.out (.inl hn0))
      clear hyes
      go_enter Try.func48, Try.ntmps48
      go_wp2_with fail
      go_ret2
      exact hno.out _ (Keeps.refl [] w)
    · have d0 := decide_eq_false hn0
      by_cases hgt : (ln : Int) < n
      · have d1 := decide_eq_true hgt
        replace hno := Lib.hid (hno.out (.inr hgt))
        clear hyes
        go_enter Try.func48, Try.ntmps48
        go_wp2_with fail
        go_ret2
        exact hno.out _ (Keeps.refl [] w)
      · have d1 := decide_eq_false hgt
        obtain ⟨m, rfl⟩ : ∃ m : Nat, n = (m : Int) := ⟨n.toNat, by omega⟩
        obtain ⟨kp, hkp⟩ : ∃ kp, kp + m = ln := ⟨ln - m, by omega⟩
        obtain ⟨hw, hC, hfin⟩ := hyes.out kp m rfl hkp (by omega)
        replace hC := Lib.hid hC
        replace hfin := Lib.hid hfin
        clear hno hyes
        go_enter Try.func48, Try.ntmps48
        go_wp2_with fail
        refine (hC.out _ (Keeps.refl [] w)).mono ?_
        rintro e w2 hr
        have hr0 := hr
        obtain ⟨A2, c2, rfl, _⟩ := hr0
        have hend := Lib.hid (hfin.out _ w2 _ A2 c2 (Keeps.refl [] w) hr rfl)
        clear hfin hC hr
        go_wp2_with fail
        go_ret2
        exact hend.out
  · rw [hq] at z1
    have hqc : q + 1 ≤ cp := by omega
    have hw1 : IntKind.i64.wrap (q : Int) = (q : Int) := IntWalk.i64_in _ (by omega)
    clear hq
    by_cases hn0 : n < 0
    · have d0 := decide_eq_true hn0
      replace hno := Lib.hid (hno.out (.inl hn0))
      clear hyes
      go_enter Try.func48, Try.ntmps48
      go_wp2_with fail
      go_quiet (fail)
      go_wp2_with fail
      go_ret2
      exact hno.out _ (Keeps.drewN (Keeps.refl [] w) _)
    · have d0 := decide_eq_false hn0
      by_cases hgt : (ln : Int) - (lm : Int) < n
      · have d1 := decide_eq_true hgt
        replace hno := Lib.hid (hno.out (.inr hgt))
        clear hyes
        go_enter Try.func48, Try.ntmps48
        go_wp2_with fail
        go_quiet (fail)
        go_wp2_with fail
        go_ret2
        exact hno.out _ (Keeps.drewN (Keeps.refl [] w) _)
      · have d1 := decide_eq_false hgt
        obtain ⟨m, rfl⟩ : ∃ m : Nat, n = (m : Int) := ⟨n.toNat, by omega⟩
        obtain ⟨kp, hkp⟩ : ∃ kp, kp + m = ln := ⟨ln - m, by omega⟩
        obtain ⟨hw, hC, hfin⟩ := hyes.out kp m rfl hkp (by omega)
        replace hC := Lib.hid hC
        replace hfin := Lib.hid hfin
        clear hno hyes
        go_enter Try.func48, Try.ntmps48
        go_wp2_with fail
        go_quiet (fail)
        go_wp2_with fail
        refine (hC.out _ (Keeps.drewN (Keeps.refl [] w) _)).mono ?_
        rintro e w2 hr
        have hr0 := hr
        obtain ⟨A2, c2, rfl, _⟩ := hr0
        have hend := Lib.hid (hfin.out _ w2 _ A2 c2 (Keeps.drewN (Keeps.refl [] w) _) hr rfl)
        clear hfin hC hr
        go_wp2_with fail
        go_ret2
        exact hend.out
end Go.Proofs.Ytmclfbhcddcebaa
