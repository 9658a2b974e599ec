/- The log as a whole: Back. -/
import Derived.Test.YtmclfbhcddcebaaU24
namespace Go.Proofs.Ytmclfbhcddcebaa
open Go.RowKit Go.Shelf
set_option linter.unusedSimpArgs false
set_option linter.unusedVariables false

def markAt (S : List Pnt) (i : Nat) : Nat := ((S[i]?).map (·.2)).getD 0
def BackL (tl ts : TypeId) (b : Nat) (w : World) (X F : List Nat) (gl : Nat) (L : List Chg) (S : List Pnt) (nm : ByteArray) (e : Ending) (w' : World) : Prop :=
  if findI S nm < 0 then CutL tl ts b w X F gl L S [] 4 e w'
  else CutL tl ts b w X F gl (L.take (markAt S (findI S nm).toNat)) (S.take ((findI S nm).toNat + 1)) ((L.drop (markAt S (findI S nm).toNat)).reverse.map inv) 0 e w'
set_option maxRecDepth 100000 in
set_option maxHeartbeats 3200000 in
theorem back_log (b : Nat) (w : World) (X F : List Nat) (gl : Nat) (L : List Chg) (S : List Pnt) (nm : ByteArray) (h : PLog b w X F gl L S) (hmk : ∀ p ∈ S, p.2 ≤ L.length) (hL : L.length ≤ 1000000) (hS : S.length ≤ 1000000) :
    Calls Try.prog 24 #[.pointer (some ⟨gl, 0, none⟩), .string nm] w (BackL 64 82 b w X F gl L S nm) := by
  obtain ⟨A, cc, Ap, cp, R, hB, hO, hP, hR, hF⟩ := h.ex
  have HFI := Lib.hid (find_any w b gl S.length cp _ Ap nm S hB rfl hP hS)
  have h0 := Lib.hid h
  unfold BackL
  rcases findI_bd S nm with hi | ⟨hi1, hi2⟩
  · rw [hi] at HFI ⊢
    simp only [show (-1 : Int) < 0 by omega, if_true]
    clear hB hO hP hR hF h hmk
    go_enter Try.func24, Try.ntmps24
    go_wp2_with fail
    refine HFI.out.mono ?_
    rintro e w2 ⟨rfl, k2⟩
    replace k2 := Lib.hid k2
    clear HFI
    go_wp2_with fail
    go_ret2
    exact ⟨none, 0, rfl, Lib.hid (fun Y _ i c h => by simp at h), Lib.hid (h0.out.keep k2.out), Lib.hid k2.out.nil⟩
  · obtain ⟨i, hi⟩ : ∃ i : Nat, findI S nm = (i : Int) := ⟨(findI S nm).toNat, by omega⟩
    rw [hi] at HFI hi1 hi2 ⊢
    simp only [show ¬ ((i : Int) < 0) by omega, if_false, Int.toNat_natCast]
    obtain ⟨⟨pn, mk⟩, hp⟩ : ∃ p, S[i]? = some p := ⟨S[i]'(by omega), List.getElem?_eq_getElem _⟩
    have hma : markAt S i = mk := by unfold markAt; rw [hp]; rfl
    rw [hma]
    have hmkl : mk ≤ L.length := hmk _ (List.mem_of_getElem? hp)
    obtain ⟨m, hm⟩ : ∃ m, mk + m = L.length := ⟨L.length - mk, by omega⟩
    obtain ⟨gp, rfl, hgp, hScp, hz⟩ : ∃ gp, Ap = some ⟨gp, 0, none⟩ ∧ gp < w.heap.size ∧ S.length ≤ cp ∧ w.cell? ⟨gp, i * 2 + 1, none⟩ = some (.int .i64 (mk : Int)) := by
      obtain ⟨g, c', hv, h1, _, _, h2, h3, _⟩ := own_row3 hP (by omega)
      cases hv
      exact ⟨g, rfl, h2, h1, h3 _ _ (flatP_get S i _ hp).2⟩
    have hic : (i : Int) + 1 ≤ (cp : Int) := by omega
    have hn0 : ¬ ((i : Int) < 0) := by omega
    have hii : (i : Int) < (i : Int) + 1 := by omega
    have hw1 : IntKind.i64.wrap ((i : Int) + 1) = (i : Int) + 1 := IntWalk.i64_in _ (by omega)
    have hw2 : IntKind.i64.wrap ((L.length : Int) - (mk : Int)) = (m : Int) := by rw [IntWalk.i64_in _ (by omega)]; omega
    have hP1 : w.ownsRow b 82 2 (.slice (some ⟨gp, 0, none⟩) (i + 1) cp) (i + 1) (flatP (S.take (i + 1))) := by
      have := own_take hP (k := i + 1) (by omega) (by simp)
      rw [flatP_take] at this
      exact this
    have hfin : Hid (∀ w2, Keeps [] w w2 → GLog 64 82 b (w2.setCell ⟨gl, 1, none⟩ (.slice (some ⟨gp, 0, none⟩) (i + 1) cp)) X F gl L (S.take (i + 1)) ∧ Keeps F w (w2.setCell ⟨gl, 1, none⟩ (.slice (some ⟨gp, 0, none⟩) (i + 1) cp)) ∧ (∀ j, w2.cell? ⟨gl, j, none⟩ = (#[.slice A L.length cc, .slice (some ⟨gp, 0, none⟩) S.length cp] : Array Value)[j]?) ∧ (∀ j, w2.frozen? ⟨gl, j, none⟩ = false) ∧
        (w2.setCell ⟨gl, 1, none⟩ (.slice (some ⟨gp, 0, none⟩) (i + 1) cp)).cell? ⟨gl, 0, none⟩ = some (.slice A L.length cc) ∧ (w2.setCell ⟨gl, 1, none⟩ (.slice (some ⟨gp, 0, none⟩) (i + 1) cp)).cell? ⟨gl, 1, none⟩ = some (.slice (some ⟨gp, 0, none⟩) (i + 1) cp) ∧ (w2.setCell ⟨gl, 1, none⟩ (.slice (some ⟨gp, 0, none⟩) (i + 1) cp)).cell? ⟨gp, i * 2 + 1, none⟩ = some (.int .i64 (mk : Int))) := Lib.hid (fun w2 k2 => by
      have hB2 := hB.keep k2 (by simp)
      have ks : Keeps [gl] w2 (w2.setCell ⟨gl, 1, none⟩ (.slice (some ⟨gp, 0, none⟩) (i + 1) cp)) := (Keeps.refl [gl] w2).setCell (p := ⟨gl, 1, none⟩) (.inl (by simp)) _
      have kall : Keeps [gl] w (w2.setCell ⟨gl, 1, none⟩ (.slice (some ⟨gp, 0, none⟩) (i + 1) cp)) := k2.nil.trans ks
      have hne : ∀ {e : TypeId} {A : Option Addr} {n c s : Nat} {xs : List Value}, w.ownsRow b e s (.slice A n c) n xs → e ≠ 64 → ∀ g, (Value.slice A n c).ownBlock = some g → g ∉ [gl] := fun ho hee g hg hm => by
        obtain ⟨_, cur, hb⟩ := own_blk ho hg
        rw [List.mem_singleton.1 hm] at hb
        exact hb.ne_ hB hee rfl
      have hBs := hB2.set_ 1 (.slice (some ⟨gp, 0, none⟩) (i + 1) cp)
      refine ⟨h0.out.cut (A := A) (c := cc) (Ap := some ⟨gp, 0, none⟩) (cp := cp) (R := R) (k := i + 1) ?_ (own_keep hO kall (hne hO (by decide))) ?_ (hR.keep kall (fun y hy => .inl (h0.out.sub y (by rw [List.mem_singleton.1 hy, hF]; simp)))) hF kall.size, kall.mono (fun x hx => .inl (by rw [List.mem_singleton.1 hx, hF]; simp)), hB2.cell, hB2.frozen, hBs.cell 0, hBs.cell 1, kall.cellEq hz (hne hP (by decide) gp rfl)⟩
      · rw [Nat.min_eq_left (by omega)]
        simpa using hBs
      · rw [Nat.min_eq_left (by omega)]
        exact own_keep hP1 kall (hne hP1 (by decide)))
    clear hB hO hP hR hF h hP1 hi hz hmk hma hp
    go_enter Try.func24, Try.ntmps24
    go_wp2_with fail
    refine HFI.out.mono ?_
    rintro e w2 ⟨rfl, k2⟩
    obtain ⟨q1, q2, z0, z1, y0, y1, y2⟩ := hfin.out w2 k2
    have z00 := z0 0
    have z01 := z0 1
    have f1 := z1 1
    have HR := Lib.hid (fun q => remove_log b _ X F gl L (S.take (i + 1)) mk m (q1.keep (Keeps.drewN (Keeps.refl [] _) q)) hm hL)
    replace q2 := Lib.hid q2
    clear HFI hfin k2 z0 z1 q1
    go_wp2_with fail
    generalize w2.setCell ⟨gl, 1, none⟩ (.slice (some ⟨gp, 0, none⟩) (i + 1) cp) = w3 at *
    clear z00 z01 f1
    go_still_tail 15, (by kernel_rfl)
    change wpList _ _ _ _ _ w3.drew
    go_wp2_with fail
    refine (HR.out 1).mono ?_
    rintro e w4 ⟨A4, c4, rfl, r4, p4, k4⟩
    have kw : Hid (Keeps F w w4) := Lib.hid (q2.out.trans ((Keeps.refl F w3).drew.trans k4.out))
    have hsz : Hid (w.heap.size ≤ w3.drew.heap.size) := Lib.hid q2.out.size
    clear HR q2 y0 y1 y2
    go_wp2_with fail
    go_ret2
    refine ⟨A4, c4, ?_, Lib.hid (fun Y hY => r4.out Y (fun y hy => Nat.lt_of_lt_of_le (hY y hy) hsz.out)), p4, kw⟩
    have : ((L.drop mk).reverse.map inv).length = m := by simp; omega
    rw [this]
    rfl
end Go.Proofs.Ytmclfbhcddcebaa
