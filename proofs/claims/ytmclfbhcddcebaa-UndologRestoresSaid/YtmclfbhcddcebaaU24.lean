/- The log as a whole: Undo. -/
import Derived.Test.YtmclfbhcddcebaaU23
namespace Go.Proofs.Ytmclfbhcddcebaa
open Go.RowKit Go.Shelf
set_option linter.unusedSimpArgs false
set_option linter.unusedVariables false

/-- What Undo and Back leave, and what they return. -/
def CutL (tl ts : TypeId) (b : Nat) (w : World) (X F : List Nat) (gl : Nat) (L' : List Chg) (S' : List Pnt) (M : List Chg) (err : Int) (e : Ending) (w' : World) : Prop :=
  ∃ A c, e = .returned (.tuple #[.slice A M.length c, .int .i64 err]) ∧ Hid (∀ Y : List Nat, (∀ y ∈ Y, y < w.heap.size) → ChsAt w' Y A M) ∧ Hid (GLog tl ts b w' X F gl L' S') ∧ Hid (Keeps F w w')
/-- What remove leaves, over logs as a whole. -/
theorem remove_log (b : Nat) (w : World) (X F : List Nat) (gl : Nat) (L : List Chg) (S : List Pnt) (kp m : Nat) (h : PLog b w X F gl L S) (hkm : kp + m = L.length) (hL : L.length ≤ 1000000) :
    Calls Try.prog 42 #[.pointer (some ⟨gl, 0, none⟩), .int .i64 m] w fun e w' => ∃ A c, e = .returned (.slice A m c) ∧ Hid (∀ Y : List Nat, (∀ y ∈ Y, y < w.heap.size) → ChsAt w' Y A ((L.drop kp).reverse.map inv)) ∧ Hid (PLog b w' X F gl (L.take kp) S) ∧ Hid (Keeps F w w') := by
  obtain ⟨A, cc, Ap, cp, R, hB, hO, hP, hR, hF⟩ := h.ex
  refine (remove_any w b gl A L.length cc kp m _ R L X hB hO hR.1 hR (fun c hc => (h.sm c hc).1) hL hkm).mono ?_
  rintro e w' ⟨A', c', Rr, rfl, hown, hraw, hfr, hB', hk⟩
  have hlen : ((L.drop kp).reverse.map inv).length = m := by simp; omega
  have hkF : Keeps F w w' := hk.mono (fun x hx => .inl (by rw [List.mem_singleton.1 hx, hF]; simp))
  have hne : ∀ {e : TypeId} {A : Option Addr} {n c s : Nat} {xs : List Value}, w.ownsRow b e s (.slice A n c) n xs → e ≠ 64 → ∀ g, (Value.slice A n c).ownBlock = some g → g ∉ [gl] := fun ho hee g hg hm => by
    obtain ⟨_, cur, hb⟩ := own_blk ho hg
    rw [List.mem_singleton.1 hm] at hb
    exact hb.ne_ hB hee rfl
  refine ⟨A', c', rfl, Lib.hid (fun Y hY => ?_), Lib.hid ?_, Lib.hid hkF⟩
  · have hRr : RawsIs w' Y Rr ((L.drop kp).reverse.map inv) := ⟨hraw.1, fun i r c h1 h2 => by
      obtain ⟨a1, a2, a3, a4, a5, a6⟩ := hraw.2 i r c h1 h2
      obtain ⟨f1, f2⟩ := hfr i r h1
      exact ⟨a1, a2, a3, a4, a5.fresh f1 hY, a6.fresh f2 hY⟩⟩
    refine ChsAt.of hown (hraw.1.trans hlen) hRr (fun g hg hm => ?_)
    have := (own_lo hown hg).1
    have := hY g hm
    omega
  · have hO' := own_take (own_keep hO hk (hne hO (by decide))) (k := kp) (by omega) (own_none hO)
    rw [flatC_take] at hO'
    have hl : (L.take kp).length = kp := by rw [List.length_take]; omega
    have hR' := (hR.keep hk (fun y hy => .inl (h.sub y (by rw [List.mem_singleton.1 hy, hF]; simp)))).take kp
    exact ⟨⟨A, cc, Ap, cp, R.take kp, by rw [hl]; exact hB', by rw [hl]; exact hO', own_keep hP hk (hne hP (by decide)), hR', hF⟩, h.sub, h.lo, fun x hx => Nat.lt_of_lt_of_le (h.hi x hx) hk.size, fun c hc => h.sm c (List.mem_of_mem_take hc)⟩

def leastM (S : List Pnt) : Nat := (S.getLast?.map (·.2)).getD 0
/-- May n changes be undone? -/
def undoOk (L : List Chg) (S : List Pnt) (n : Int) : Bool := decide (0 ≤ n) && decide (n + (leastM S : Int) ≤ (L.length : Int))
def UndoL (tl ts : TypeId) (b : Nat) (w : World) (X F : List Nat) (gl : Nat) (L : List Chg) (S : List Pnt) (n : Int) (e : Ending) (w' : World) : Prop :=
  if undoOk L S n then CutL tl ts b w X F gl (L.take (L.length - n.toNat)) S ((L.drop (L.length - n.toNat)).reverse.map inv) 0 e w' else CutL tl ts b w X F gl L S [] 1 e w'
theorem undo_no {tl ts : TypeId} {b : Nat} {w w' : World} {X F : List Nat} {gl : Nat} {L : List Chg} {S : List Pnt} {n : Int} (h : GLog tl ts b w X F gl L S) (hk : Keeps [] w w') (hno : undoOk L S n = false) : UndoL tl ts b w X F gl L S n (.returned (.tuple #[.slice none 0 0, .int .i64 1])) w' := by
  unfold UndoL
  rw [hno]
  exact ⟨none, 0, rfl, Lib.hid (fun Y _ i c h => by simp at h), Lib.hid (h.keep hk), Lib.hid hk.nil⟩
theorem last_of {S : List Pnt} {q : Nat} (h : S.length = q + 1) : ∃ p, S[q]? = some p ∧ leastM S = p.2 := by
  obtain ⟨p, hp⟩ : ∃ p, S[q]? = some p := ⟨S[q]'(by omega), List.getElem?_eq_getElem _⟩
  refine ⟨p, hp, ?_⟩
  unfold leastM
  rw [List.getLast?_eq_getElem?, h]
  simp [hp]

set_option maxRecDepth 100000 in
set_option maxHeartbeats 3200000 in
theorem undo_log (b : Nat) (w : World) (X F : List Nat) (gl : Nat) (L : List Chg) (S : List Pnt) (n : Int) (h : PLog b w X F gl L S) (hmk : ∀ p ∈ S, p.2 ≤ L.length) (hL : L.length ≤ 1000000) (hS : S.length ≤ 1000000) :
    Calls Try.prog 21 #[.pointer (some ⟨gl, 0, none⟩), .int .i64 n] w (UndoL 64 82 b w X F gl L S n) := by
  have hh := Lib.hid h
  obtain ⟨A, cc, Ap, cp, R, hB, hO, hP, hR, hF⟩ := h.ex
  have z := hB.cell
  by_cases hn0 : n < 0
  · have hno := Lib.hid (undo_no hh.out (Keeps.refl [] w) (n := n) (by unfold undoOk; rw [decide_eq_false (by omega)]; rfl))
    have d0 := decide_eq_true hn0
    clear hB hO hP hR hF h hmk
    go_enter Try.func21, Try.ntmps21
    go_wp2_with fail
    go_ret2
    exact hno.out
  · have d0 := decide_eq_false hn0
    obtain ⟨m, rfl⟩ : ∃ m : Nat, n = (m : Int) := ⟨n.toNat, by omega⟩
    by_cases hm : (L.length : Int) < (m : Int)
    · have hno := Lib.hid (undo_no hh.out (Keeps.refl [] w) (n := (m : Int)) (by unfold undoOk; rw [decide_eq_false (by omega : ¬ ((m : Int) + (leastM S : Int) ≤ (L.length : Int)))]; simp))
      have d1 := decide_eq_true hm
      clear hB hO hP hR hF h hmk
      go_enter Try.func21, Try.ntmps21
      go_wp2_with fail
      go_ret2
      exact hno.out
    · have d1 := decide_eq_false hm
      obtain ⟨kp, hkp⟩ : ∃ kp, kp + m = L.length := ⟨L.length - m, by omega⟩
      have hyes : Hid (undoOk L S (m : Int) = true → ∀ e w', (∃ A c, e = .returned (.tuple #[.slice A m c, .int .i64 0]) ∧ Hid (∀ Y : List Nat, (∀ y ∈ Y, y < w.heap.size) → ChsAt w' Y A ((L.drop kp).reverse.map inv)) ∧ Hid (PLog b w' X F gl (L.take kp) S) ∧ Hid (Keeps F w w')) → UndoL 64 82 b w X F gl L S (m : Int) e w') := Lib.hid (by
        rintro hu e w' ⟨A, c, rfl, h1, h2, h3⟩
        unfold UndoL
        rw [hu]
        have e1 : L.length - ((m : Int)).toNat = kp := by simp; omega
        rw [e1]
        exact ⟨A, c, by simp; omega, h1, h2, h3⟩)
      have HR : Hid (∀ w', Keeps [] w w' → Calls Try.prog 42 #[.pointer (some ⟨gl, 0, none⟩), .int .i64 m] w' fun e w2 => ∃ A c, e = .returned (.slice A m c) ∧ Hid (∀ Y : List Nat, (∀ y ∈ Y, y < w.heap.size) → ChsAt w2 Y A ((L.drop kp).reverse.map inv)) ∧ Hid (PLog b w2 X F gl (L.take kp) S) ∧ Hid (Keeps F w w2)) := Lib.hid (fun w' hk => (remove_log b w' X F gl L S kp m (hh.out.keep hk) hkp hL).mono (by
        rintro e w2 ⟨A, c, rfl, h1, h2, h3⟩
        exact ⟨A, c, rfl, Lib.hid (fun Y hY => h1.out Y (fun y hy => Nat.lt_of_lt_of_le (hY y hy) hk.size)), h2, Lib.hid (hk.nil.trans h3.out)⟩))
      cases hq : S.length with
      | zero =>
        have hu : undoOk L S (m : Int) = true := by
          obtain rfl : S = [] := List.eq_nil_of_length_eq_zero hq
          unfold undoOk leastM
          simp
          omega
        rw [hq] at z
        clear hB hO hP hR hF h hmk hq
        replace hu := Lib.hid hu
        go_enter Try.func21, Try.ntmps21
        go_wp2_with fail
        go_quiet (fail)
        go_wp2_with fail
        refine (HR.out _ (Keeps.drewN (Keeps.refl [] w) _)).mono ?_
        rintro e w2 ⟨A2, c2, rfl, r2, p2, k2⟩
        have hfin := Lib.hid (hyes.out hu.out _ _ ⟨A2, c2, rfl, r2, p2, k2⟩)
        clear HR hyes r2 p2 k2
        go_wp2_with fail
        go_ret2
        exact hfin.out
      | succ q =>
        obtain ⟨⟨pn, pm⟩, hp, hlm⟩ := last_of hq
        obtain ⟨gp, rfl, hgp, hcp, hz⟩ : ∃ gp, Ap = some ⟨gp, 0, none⟩ ∧ gp < w.heap.size ∧ S.length ≤ cp ∧ w.cell? ⟨gp, q * 2 + 1, none⟩ = some (.int .i64 (pm : Int)) := by
          obtain ⟨g, c', hv, h1, _, _, h2, h3, _⟩ := own_row3 hP (by omega)
          cases hv
          exact ⟨g, rfl, h2, h1, h3 _ _ (flatP_get S q _ hp).2⟩
        have hpm : pm ≤ L.length := hmk _ (List.mem_of_getElem? hp)
        rw [hq] at z
        have hw1 : IntKind.i64.wrap (q : Int) = (q : Int) := IntWalk.i64_in _ (by omega)
        have hw2 : IntKind.i64.wrap ((L.length : Int) - (m : Int)) = (L.length : Int) - (m : Int) := IntWalk.i64_in _ (by omega)
        by_cases hlt : (L.length : Int) - (m : Int) < (pm : Int)
        · have hno := Lib.hid (fun w' (hk : Keeps [] w w') => undo_no hh.out hk (n := (m : Int)) (by unfold undoOk; rw [hlm, decide_eq_false (by dsimp only; omega : ¬ ((m : Int) + (((pn, pm) : Pnt).2 : Int) ≤ (L.length : Int)))]; simp))
          have d2 := decide_eq_true hlt
          clear hB hO hP hR hF h hmk hq HR hyes
          go_enter Try.func21, Try.ntmps21
          go_wp2_with fail
          go_quiet (fail)
          go_wp2_with fail
          go_ret2
          exact hno.out _ (Keeps.drewN (Keeps.refl [] w) _)
        · have d2 := decide_eq_false hlt
          have hu : Hid (undoOk L S (m : Int) = true) := Lib.hid (by unfold undoOk; rw [hlm]; simp; omega)
          clear hB hO hP hR hF h hmk hq
          go_enter Try.func21, Try.ntmps21
          go_wp2_with fail
          go_quiet (fail)
          go_wp2_with fail
          refine (HR.out _ (Keeps.drewN (Keeps.refl [] w) _)).mono ?_
          rintro e w2 ⟨A2, c2, rfl, r2, p2, k2⟩
          have hfin := Lib.hid (hyes.out hu.out _ _ ⟨A2, c2, rfl, r2, p2, k2⟩)
          clear HR hyes r2 p2 k2
          go_wp2_with fail
          go_ret2
          exact hfin.out
end Go.Proofs.Ytmclfbhcddcebaa
