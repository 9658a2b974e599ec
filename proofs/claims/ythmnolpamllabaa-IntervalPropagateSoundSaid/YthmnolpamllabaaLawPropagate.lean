/- The walk of the statement IntervalPropagate. -/
import Derived.Test.YthmnolpamllabaaIv18
import Derived.Test.YthmnolpamllabaaReg3
namespace Go.Proofs.Ythmnolpamllabaa
open Go.RowKit Go.Lib
set_option linter.unusedSimpArgs false
set_option linter.unusedVariables false

theorem ConsAt2.mono {w : World} {B C : Nat} {A : Option Addr} {l : List Con} (h : ConsAt2 w B A l) (hb : B ≤ C) : ConsAt2 w C A l := fun i f hf => by
  obtain ⟨g, off, Ac, cc, h1, h2, h3, h4, h5, h6, h7⟩ := h i f hf
  exact ⟨g, off, Ac, cc, h1, by omega, h3, h4, h5, h6.mono hb, h7⟩
def POut (e : TypeId) (w : World) (m : Nat) (r : Option (List Iv)) (en : Ending) (w' : World) : Prop := match r with
  | none => en = .returned (.tuple #[.slice none 0 0, .bool false]) ∧ Hid (Keeps [] w w')
  | some D' => ∃ A c, en = .returned (.tuple #[.slice A m c, .bool true]) ∧ Hid (D'.length = m) ∧ Hid (w'.ownsRow w.heap.size e 2 (.slice A m c) m (flat D')) ∧ Hid (Keeps [] w w')
theorem prop_out (w : World) (B b : Nat) (Al A : Option Addr) (l : List Con) (D : List Iv) (n cl m cA : Nat) (hn : l.length = n) (hm : D.length = m) (hL : ConsAt2 w B Al l) (ho : w.ownsRow b 39 2 (.slice A m cA) m (flat D)) (hB : B ≤ w.heap.size) (hA : GoodA D l) (hn6 : n ≤ 1000000) :
    Calls Try.prog 13 #[.slice Al n cl, .slice A m cA] w (POut 39 w m (propP l D)) := by
  have hm6 : m ≤ 64 := by have := hA.few; omega
  have h := prop_any w w.heap.size Al A l D n cl m cA hn hm (hL.mono hB).at_ (IvAt.of_own ho hm) (own_plain ho) (Nat.le_refl _) hA.lin hn6 (by omega)
  refine h.mono ?_
  rintro e w' (⟨hr, he, k⟩ | ⟨D', v, hr, hl, he, o, k⟩)
  · rw [hr]
    exact ⟨he, Lib.hid k⟩
  · rw [hr]
    obtain ⟨A', c', rfl, _⟩ := own_slice o
    exact ⟨A', c', he, Lib.hid hl, Lib.hid o, Lib.hid k⟩
theorem rprop_out (w : World) (B : Nat) (Al Ad : Option Addr) (l : List Con) (D : List Iv) (n cl m cd : Nat) (hn : l.length = n) (hm : D.length = m) (hL : ConsAt2 w B Al l) (hD : IvAt w B Ad D) (hB : B ≤ w.heap.size) (hA : GoodA D l) (hn6 : n ≤ 1000000) :
    Calls Try.prog 15 #[.slice Al n cl, .slice Ad m cd] w (POut 38 w m (propP l D)) := by
  refine (rprop_any w B Al Ad l D n cl m cd hn hm hL hD hB hA hn6).mono ?_
  rintro e w' (⟨hr, he, k⟩ | ⟨D', A, c, hr, hl, he, o, k⟩)
  · rw [hr]
    exact ⟨he, Lib.hid k⟩
  · rw [hr]
    exact ⟨A, c, he, Lib.hid hl, Lib.hid o, Lib.hid k⟩

set_option maxHeartbeats 6400000 in
set_option maxRecDepth 100000 in
theorem law_propagate (w : World) (l : List Con) (D : List Iv) (Al Ad : Option Addr) (cl cd : Nat) (hL : ConsAt2 w w.heap.size Al l) (hD : IvAt w w.heap.size Ad D) :
    Calls Try.prog 3 #[.agg #[.slice Al l.length cl, .slice Ad D.length cd]] w fun e w' => e = .returned (.bool true) ∧ Keeps [] w w' := by
  have ka : Keeps [] w (w.alloc (.cells #[.slice Al l.length cl, .slice Ad D.length cd] 25)) := (Keeps.refl [] w).alloc _
  have B1 := Lib.hid (Blk.new w 25 #[.slice Al l.length cl, .slice Ad D.length cd])
  obtain ⟨n, hn⟩ : ∃ n, l.length = n := ⟨_, rfl⟩
  obtain ⟨m, hm⟩ : ∃ m, D.length = m := ⟨_, rfl⟩
  rw [hn, hm] at ka B1
  rw [hn, hm]
  replace hn := Lib.hid hn
  replace hm := Lib.hid hm
  replace ka := Lib.hid ka
  replace hL := Lib.hid hL
  replace hD := Lib.hid hD
  go_enter Try.func3, Try.ntmps3
  go_wp2_with fail
  refine (awake_any _).mono ?_
  rintro e w1 ⟨rfl, k1⟩
  have B3 := Lib.hid (B1.out.keep k1 (by simp))
  have K1 := Lib.hid (ka.out.trans k1)
  clear k1 ka B1
  obtain ⟨g1, hg1e⟩ : ∃ g, g = w.heap.size := ⟨_, rfl⟩
  rw [← hg1e] at B3
  rw [← hg1e]
  clear hg1e
  have HG := Lib.hid (good12_any w1 w.heap.size Al Ad l D n cl m cd hn.out hm.out (hL.out.keep K1.out (by simp)).at_ (hD.out.keep K1.out (by simp)) K1.out.size hL.out.short)
  have z1 := B3.out.cell
  go_wp2_with fail
  refine HG.out.mono ?_
  rintro e w2 ⟨b, rfl, hb, k2⟩
  have B6 := Lib.hid (B3.out.keep k2.out (by simp))
  have K2 := Lib.hid (K1.out.trans k2.out)
  clear HG B3 k2 K1 z1
  cases b
  · go_wp2_with fail
    go_ret
    exact ⟨rfl, K2.out⟩
  · have hGA := Lib.hid (hb.out rfl).2
    have hn20 : Hid (n ≤ 20) := Lib.hid (hb.out rfl).1
    have hm64 : Hid (m ≤ 64) := Lib.hid (by have := hGA.out.few; rw [hm.out] at this; exact this)
    have HT : Hid (∀ w', Keeps [] w2.drew w' → Calls Try.prog 14 #[.slice Ad m cd] w' fun e w'' => ∃ A cA, e = .returned (.slice A m cA) ∧ Hid (w''.ownsRow w'.heap.size 39 2 (.slice A m cA) m (flat D)) ∧ Hid (Keeps [] w' w'')) := Lib.hid (fun w' hk => by
      have hkk := K2.out.drew.trans hk
      have := to_got w' w.heap.size Ad cd D hkk.size (hD.out.keep hkk (by simp)) (by rw [hm.out]; have := hm64.out; omega)
      rw [hm.out] at this
      refine this.mono ?_
      rintro e w'' ⟨A, cA, rfl, o, _, k⟩
      rw [hm.out] at o ⊢
      exact ⟨A, cA, rfl, o, k⟩)
    have HP : Hid (∀ (w' : World) (b : Nat) A cA, Keeps [] w2.drew w' → w'.ownsRow b 39 2 (.slice A m cA) m (flat D) → Calls Try.prog 13 #[.slice Al n cl, .slice A m cA] w' (POut 39 w' m (propP l D))) := Lib.hid (fun w' b A cA hk ho => by
      have hkk := K2.out.drew.trans hk
      exact prop_out w' w.heap.size b Al A l D n cl m cA hn.out hm.out (hL.out.keep hkk (by simp)) ho hkk.size hGA.out (by have := hn20.out; omega))
    have HSf : Hid (∀ w', Keeps [] w2.drew w' → w'.cell? ⟨g1, 0, none⟩ = some (.slice Al n cl) ∧ w'.cell? ⟨g1, 1, none⟩ = some (.slice Ad m cd)) := Lib.hid (fun w' hk => ⟨hk.cellEq (B6.out.drew.cell 0) (by simp), hk.cellEq (B6.out.drew.cell 1) (by simp)⟩)
    have h0 := HSf.out _ (Keeps.refl [] w2.drew)
    have K2d := Lib.hid K2.out.drew
    have B6d := Lib.hid B6.out.drew
    replace hb := Lib.hid hb
    clear K2 B6
    cases hq : propP l D
    · rw [hq] at HP
      replace hq := Lib.hid hq
      go_wp2_with fail
      refine wp_region_I (S := (fun w' : World => w'.cell? ⟨g1, 0, none⟩ = some (.slice Al n cl) ∧ w'.cell? ⟨g1, 1, none⟩ = some (.slice Ad m cd))) (n := 11) (by kernel_rfl) ?_
      generalize w2.drew = wd at *
      have HS := h0
      have Kx := Lib.hid (Keeps.refl [] wd)
      refine wpAnyI_takeN (i := 0) (v := ?_) (by kernel_rfl) rfl (by kernel_rfl) (by kernel_rfl) (by kernel_rfl) (fun _ _ _ h => h) HS (Or.inl ⟨by rfl, ?_⟩) ?_
      rotate_left
      · (intro w hSw; obtain ⟨y1, y2⟩ := hSw; go_simp; try with_reducible rfl)
      try simp only [Act.put, List.getElem_toArray, List.getElem_cons_succ, List.getElem_cons_zero, List.setIfInBounds_toArray, List.set_cons_zero, List.set_cons_succ]
      refine wpAnyI_takeN (i := 1) (v := ?_) (by kernel_rfl) rfl (by kernel_rfl) (by kernel_rfl) (by kernel_rfl) (fun _ _ _ h => h) HS (Or.inl ⟨by rfl, ?_⟩) ?_
      rotate_left
      · (intro w hSw; obtain ⟨y1, y2⟩ := hSw; go_simp; try with_reducible rfl)
      try simp only [Act.put, List.getElem_toArray, List.getElem_cons_succ, List.getElem_cons_zero, List.setIfInBounds_toArray, List.set_cons_zero, List.set_cons_succ]
      refine wpAnyI_takeN (i := 2) (v := ?_) (by kernel_rfl) rfl (by kernel_rfl) (by kernel_rfl) (by kernel_rfl) (fun _ _ _ h => h) HS (Or.inl ⟨by rfl, ?_⟩) ?_
      rotate_left
      · (intro w hSw; obtain ⟨y1, y2⟩ := hSw; go_simp; try with_reducible rfl)
      try simp only [Act.put, List.getElem_toArray, List.getElem_cons_succ, List.getElem_cons_zero, List.setIfInBounds_toArray, List.set_cons_zero, List.set_cons_succ]
      refine wpAnyI_takeN (i := 3) (v := ?_) (by kernel_rfl) rfl (by kernel_rfl) (by kernel_rfl) (by kernel_rfl) (fun _ _ _ h => h) HS (Or.inl ⟨by rfl, ?_⟩) ?_
      rotate_left
      · (intro w hSw; obtain ⟨y1, y2⟩ := hSw; go_simp; try with_reducible rfl)
      try simp only [Act.put, List.getElem_toArray, List.getElem_cons_succ, List.getElem_cons_zero, List.setIfInBounds_toArray, List.set_cons_zero, List.set_cons_succ]
      refine wpAnyI_one (i := 4) rfl (by kernel_rfl) (fun K hK => ?_)
      dsimp only [List.getElem_toArray, List.getElem_cons_succ, List.getElem_cons_zero]
      go_simp
      refine (HT.out _ Kx.out).mono ?_
      rintro e w14 ⟨A14, c14, rfl, o14, k14⟩
      replace Kx := Lib.hid (Kx.out.trans k14.out)
      have HS := HSf.out _ Kx.out
      clear k14
      refine hK _ _ (Or.inr HS) ?_
      clear hK K
      try simp only [Act.put, List.getElem_toArray, List.getElem_cons_succ, List.getElem_cons_zero, List.setIfInBounds_toArray, List.set_cons_zero, List.set_cons_succ]
      refine wpAnyI_one (i := 5) rfl (by kernel_rfl) (fun K hK => ?_)
      dsimp only [List.getElem_toArray, List.getElem_cons_succ, List.getElem_cons_zero]
      go_simp
      refine (HP.out _ _ A14 c14 Kx.out o14.out).mono ?_
      rintro e w13 ⟨rfl, k13⟩
      replace Kx := Lib.hid (Kx.out.trans k13.out)
      have HS := HSf.out _ Kx.out
      clear k13 o14
      refine hK _ _ (Or.inr HS) ?_
      clear hK K
      try simp only [Act.put, List.getElem_toArray, List.getElem_cons_succ, List.getElem_cons_zero, List.setIfInBounds_toArray, List.set_cons_zero, List.set_cons_succ]
      refine wpAnyI_takeN (i := 6) (v := ?_) (by kernel_rfl) rfl (by kernel_rfl) (by kernel_rfl) (by kernel_rfl) (fun _ _ _ h => h) HS (Or.inl ⟨by rfl, ?_⟩) ?_
      rotate_left
      · (intro w hSw; obtain ⟨y1, y2⟩ := hSw; go_simp; try with_reducible rfl)
      try simp only [Act.put, List.getElem_toArray, List.getElem_cons_succ, List.getElem_cons_zero, List.setIfInBounds_toArray, List.set_cons_zero, List.set_cons_succ]
      refine wpAnyI_takeN (i := 7) (v := ?_) (by kernel_rfl) rfl (by kernel_rfl) (by kernel_rfl) (by kernel_rfl) (fun _ _ _ h => h) HS (Or.inl ⟨by rfl, ?_⟩) ?_
      rotate_left
      · (intro w hSw; obtain ⟨y1, y2⟩ := hSw; go_simp; try with_reducible rfl)
      try simp only [Act.put, List.getElem_toArray, List.getElem_cons_succ, List.getElem_cons_zero, List.setIfInBounds_toArray, List.set_cons_zero, List.set_cons_succ]
      refine wpAnyI_takeN (i := 8) (v := ?_) (by kernel_rfl) rfl (by kernel_rfl) (by kernel_rfl) (by kernel_rfl) (fun _ _ _ h => h) HS (Or.inl ⟨by rfl, ?_⟩) ?_
      rotate_left
      · (intro w hSw; obtain ⟨y1, y2⟩ := hSw; go_simp; try with_reducible rfl)
      try simp only [Act.put, List.getElem_toArray, List.getElem_cons_succ, List.getElem_cons_zero, List.setIfInBounds_toArray, List.set_cons_zero, List.set_cons_succ]
      refine wpAnyI_takeN (i := 9) (v := ?_) (by kernel_rfl) rfl (by kernel_rfl) (by kernel_rfl) (by kernel_rfl) (fun _ _ _ h => h) HS (Or.inl ⟨by rfl, ?_⟩) ?_
      rotate_left
      · (intro w hSw; obtain ⟨y1, y2⟩ := hSw; go_simp; try with_reducible rfl)
      try simp only [Act.put, List.getElem_toArray, List.getElem_cons_succ, List.getElem_cons_zero, List.setIfInBounds_toArray, List.set_cons_zero, List.set_cons_succ]
      refine wpAnyI_takeN (i := 10) (v := ?_) (by kernel_rfl) rfl (by kernel_rfl) (by kernel_rfl) (by kernel_rfl) (fun _ _ _ h => h) HS (Or.inl ⟨by rfl, ?_⟩) ?_
      rotate_left
      · (intro w hSw; obtain ⟨y1, y2⟩ := hSw; go_simp; try with_reducible rfl)
      try simp only [Act.put, List.getElem_toArray, List.getElem_cons_succ, List.getElem_cons_zero, List.setIfInBounds_toArray, List.set_cons_zero, List.set_cons_succ]
      refine wpAnyI_done (by kernel_rfl) ?_ _
      have HR := Lib.hid (rprop_out w13 w.heap.size Al Ad l D n cl m cd hn.out hm.out (hL.out.keep (K2d.out.trans Kx.out) (by simp)) (hD.out.keep (K2d.out.trans Kx.out) (by simp)) (K2d.out.trans Kx.out).size hGA.out (by have := hn20.out; omega))
      rw [hq.out] at HR
      have K3 := Lib.hid (K2d.out.trans Kx.out)
      have z1 := HS.1
      have z2 := HS.2
      clear HT HP HSf h0 Kx HS B6d
      go_wp2_with fail
      refine HR.out.mono ?_
      rintro e w15 ⟨rfl, k15⟩
      have K4 := Lib.hid (K3.out.trans k15.out)
      clear HR K3 k15 z1 z2
      go_wp2_with fail
      refine (of_any w15 w15.heap.size none [] 0 0 rfl (Nat.le_refl _) (IvAt.nil _ _ _) (by omega)).mono ?_
      rintro e w17 ⟨A17, c17, rfl, _, _, k17⟩
      have K5 := Lib.hid (K4.out.trans k17)
      clear K4 k17
      go_wp2_with fail
      refine (same_any w17 0 0 A17 none [] [] 0 c17 0 0 rfl rfl (IvAt.nil _ _ _) (IvAt.nil _ _ _) (by omega)).mono ?_
      rintro e w18 ⟨rfl, k18⟩
      have K6 := Lib.hid (K5.out.trans k18)
      clear K5 k18
      rw [decide_eq_true (rfl : ([] : List Iv) = [])]
      go_wp2_with fail
      go_ret
      exact ⟨rfl, K6.out⟩
    · rename_i E
      rw [hq] at HP
      replace hq := Lib.hid hq
      go_wp2_with fail
      refine wp_region_I (S := (fun w' : World => w'.cell? ⟨g1, 0, none⟩ = some (.slice Al n cl) ∧ w'.cell? ⟨g1, 1, none⟩ = some (.slice Ad m cd))) (n := 11) (by kernel_rfl) ?_
      generalize w2.drew = wd at *
      have HS := h0
      have Kx := Lib.hid (Keeps.refl [] wd)
      refine wpAnyI_takeN (i := 0) (v := ?_) (by kernel_rfl) rfl (by kernel_rfl) (by kernel_rfl) (by kernel_rfl) (fun _ _ _ h => h) HS (Or.inl ⟨by rfl, ?_⟩) ?_
      rotate_left
      · (intro w hSw; obtain ⟨y1, y2⟩ := hSw; go_simp; try with_reducible rfl)
      try simp only [Act.put, List.getElem_toArray, List.getElem_cons_succ, List.getElem_cons_zero, List.setIfInBounds_toArray, List.set_cons_zero, List.set_cons_succ]
      refine wpAnyI_takeN (i := 1) (v := ?_) (by kernel_rfl) rfl (by kernel_rfl) (by kernel_rfl) (by kernel_rfl) (fun _ _ _ h => h) HS (Or.inl ⟨by rfl, ?_⟩) ?_
      rotate_left
      · (intro w hSw; obtain ⟨y1, y2⟩ := hSw; go_simp; try with_reducible rfl)
      try simp only [Act.put, List.getElem_toArray, List.getElem_cons_succ, List.getElem_cons_zero, List.setIfInBounds_toArray, List.set_cons_zero, List.set_cons_succ]
      refine wpAnyI_takeN (i := 2) (v := ?_) (by kernel_rfl) rfl (by kernel_rfl) (by kernel_rfl) (by kernel_rfl) (fun _ _ _ h => h) HS (Or.inl ⟨by rfl, ?_⟩) ?_
      rotate_left
      · (intro w hSw; obtain ⟨y1, y2⟩ := hSw; go_simp; try with_reducible rfl)
      try simp only [Act.put, List.getElem_toArray, List.getElem_cons_succ, List.getElem_cons_zero, List.setIfInBounds_toArray, List.set_cons_zero, List.set_cons_succ]
      refine wpAnyI_takeN (i := 3) (v := ?_) (by kernel_rfl) rfl (by kernel_rfl) (by kernel_rfl) (by kernel_rfl) (fun _ _ _ h => h) HS (Or.inl ⟨by rfl, ?_⟩) ?_
      rotate_left
      · (intro w hSw; obtain ⟨y1, y2⟩ := hSw; go_simp; try with_reducible rfl)
      try simp only [Act.put, List.getElem_toArray, List.getElem_cons_succ, List.getElem_cons_zero, List.setIfInBounds_toArray, List.set_cons_zero, List.set_cons_succ]
      refine wpAnyI_one (i := 4) rfl (by kernel_rfl) (fun K hK => ?_)
      dsimp only [List.getElem_toArray, List.getElem_cons_succ, List.getElem_cons_zero]
      go_simp
      refine (HT.out _ Kx.out).mono ?_
      rintro e w14 ⟨A14, c14, rfl, o14, k14⟩
      replace Kx := Lib.hid (Kx.out.trans k14.out)
      have HS := HSf.out _ Kx.out
      clear k14
      refine hK _ _ (Or.inr HS) ?_
      clear hK K
      try simp only [Act.put, List.getElem_toArray, List.getElem_cons_succ, List.getElem_cons_zero, List.setIfInBounds_toArray, List.set_cons_zero, List.set_cons_succ]
      refine wpAnyI_one (i := 5) rfl (by kernel_rfl) (fun K hK => ?_)
      dsimp only [List.getElem_toArray, List.getElem_cons_succ, List.getElem_cons_zero]
      go_simp
      refine (HP.out _ _ A14 c14 Kx.out o14.out).mono ?_
      rintro e w13 ⟨A13, c13, rfl, l13, o13, k13⟩
      replace Kx := Lib.hid (Kx.out.trans k13.out)
      have HS := HSf.out _ Kx.out
      clear k13 o14
      refine hK _ _ (Or.inr HS) ?_
      clear hK K
      try simp only [Act.put, List.getElem_toArray, List.getElem_cons_succ, List.getElem_cons_zero, List.setIfInBounds_toArray, List.set_cons_zero, List.set_cons_succ]
      refine wpAnyI_takeN (i := 6) (v := ?_) (by kernel_rfl) rfl (by kernel_rfl) (by kernel_rfl) (by kernel_rfl) (fun _ _ _ h => h) HS (Or.inl ⟨by rfl, ?_⟩) ?_
      rotate_left
      · (intro w hSw; obtain ⟨y1, y2⟩ := hSw; go_simp; try with_reducible rfl)
      try simp only [Act.put, List.getElem_toArray, List.getElem_cons_succ, List.getElem_cons_zero, List.setIfInBounds_toArray, List.set_cons_zero, List.set_cons_succ]
      refine wpAnyI_takeN (i := 7) (v := ?_) (by kernel_rfl) rfl (by kernel_rfl) (by kernel_rfl) (by kernel_rfl) (fun _ _ _ h => h) HS (Or.inl ⟨by rfl, ?_⟩) ?_
      rotate_left
      · (intro w hSw; obtain ⟨y1, y2⟩ := hSw; go_simp; try with_reducible rfl)
      try simp only [Act.put, List.getElem_toArray, List.getElem_cons_succ, List.getElem_cons_zero, List.setIfInBounds_toArray, List.set_cons_zero, List.set_cons_succ]
      refine wpAnyI_takeN (i := 8) (v := ?_) (by kernel_rfl) rfl (by kernel_rfl) (by kernel_rfl) (by kernel_rfl) (fun _ _ _ h => h) HS (Or.inl ⟨by rfl, ?_⟩) ?_
      rotate_left
      · (intro w hSw; obtain ⟨y1, y2⟩ := hSw; go_simp; try with_reducible rfl)
      try simp only [Act.put, List.getElem_toArray, List.getElem_cons_succ, List.getElem_cons_zero, List.setIfInBounds_toArray, List.set_cons_zero, List.set_cons_succ]
      refine wpAnyI_takeN (i := 9) (v := ?_) (by kernel_rfl) rfl (by kernel_rfl) (by kernel_rfl) (by kernel_rfl) (fun _ _ _ h => h) HS (Or.inl ⟨by rfl, ?_⟩) ?_
      rotate_left
      · (intro w hSw; obtain ⟨y1, y2⟩ := hSw; go_simp; try with_reducible rfl)
      try simp only [Act.put, List.getElem_toArray, List.getElem_cons_succ, List.getElem_cons_zero, List.setIfInBounds_toArray, List.set_cons_zero, List.set_cons_succ]
      refine wpAnyI_takeN (i := 10) (v := ?_) (by kernel_rfl) rfl (by kernel_rfl) (by kernel_rfl) (by kernel_rfl) (fun _ _ _ h => h) HS (Or.inl ⟨by rfl, ?_⟩) ?_
      rotate_left
      · (intro w hSw; obtain ⟨y1, y2⟩ := hSw; go_simp; try with_reducible rfl)
      try simp only [Act.put, List.getElem_toArray, List.getElem_cons_succ, List.getElem_cons_zero, List.setIfInBounds_toArray, List.set_cons_zero, List.set_cons_succ]
      refine wpAnyI_done (by kernel_rfl) ?_ _
      have HR := Lib.hid (rprop_out w13 w.heap.size Al Ad l D n cl m cd hn.out hm.out (hL.out.keep (K2d.out.trans Kx.out) (by simp)) (hD.out.keep (K2d.out.trans Kx.out) (by simp)) (K2d.out.trans Kx.out).size hGA.out (by have := hn20.out; omega))
      rw [hq.out] at HR
      have K3 := Lib.hid (K2d.out.trans Kx.out)
      have z1 := HS.1
      have z2 := HS.2
      have hE : Hid (E.length ≤ 1000000) := Lib.hid (by rw [l13.out]; have := hm64.out; omega)
      clear HT HP HSf h0 Kx HS B6d
      go_wp2_with fail
      refine HR.out.mono ?_
      rintro e w15 ⟨A15, c15, rfl, l15, o15, k15⟩
      have K4 := Lib.hid (K3.out.trans k15.out)
      replace o13 := Lib.hid (own_keep0 o13.out k15.out)
      clear HR K3 k15 z1 z2
      obtain ⟨m', hm'⟩ : ∃ m', m' = m := ⟨_, rfl⟩
      rw [← l13.out] at o13 o15 ⊢
      go_wp2_with fail
      refine (of_got w15 _ A13 c13 E o13.out hE.out).mono ?_
      rintro e w17 ⟨A17, c17, rfl, o17, _, k17⟩
      have K5 := Lib.hid (K4.out.trans k17.out)
      replace o15 := Lib.hid (own_keep0 o15.out k17.out)
      clear K4 k17 o13
      go_wp2_with fail
      refine (same_got w17 _ _ _ _ A17 A15 c17 c15 E E o17.out o15.out hE.out).mono ?_
      rintro e w18 ⟨rfl, k18⟩
      have K6 := Lib.hid (K5.out.trans k18.out)
      clear K5 k18
      rw [decide_eq_true (rfl : E = E)]
      go_wp2_with fail
      go_ret
      exact ⟨rfl, K6.out⟩
end Go.Proofs.Ythmnolpamllabaa
