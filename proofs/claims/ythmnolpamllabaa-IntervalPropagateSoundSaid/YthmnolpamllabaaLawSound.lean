/- The walk of the statement IntervalPropagateSound. -/
import Derived.Test.YthmnolpamllabaaLawPropagate
import Derived.Test.YthmnolpamllabaaReg3
import Derived.Test.YthmnolpamllabaaIv19
namespace Go.Proofs.Ythmnolpamllabaa
open Go.RowKit Go.Lib
set_option linter.unusedSimpArgs false
set_option linter.unusedVariables false

set_option maxHeartbeats 12800000 in
set_option maxRecDepth 100000 in
theorem law_sound (w : World) (l : List Con) (D : List Iv) (x : List Int) (Al Ad Ax : Option Addr) (cl cd cx : Nat) (hL : ConsAt2 w w.heap.size Al l) (hD : IvAt w w.heap.size Ad D) (hX : IntAt w w.heap.size Ax x) :
    Calls Try.prog 4 #[.agg #[.slice Al l.length cl, .slice Ad D.length cd], .slice Ax x.length cx] w fun e w' => e = .returned (.bool true) ∧ Keeps [] w w' := by
  have ka : Keeps [] w (w.alloc (.cells #[.slice Al l.length cl, .slice Ad D.length cd] 25)) := (Keeps.refl [] w).alloc _
  have B1 := Lib.hid (Blk.new w 25 #[.slice Al l.length cl, .slice Ad D.length cd])
  obtain ⟨n, hn⟩ : ∃ n, l.length = n := ⟨_, rfl⟩
  obtain ⟨m, hm⟩ : ∃ m, D.length = m := ⟨_, rfl⟩
  rw [hn, hm] at ka B1
  rw [hn, hm]
  replace hn := Lib.hid hn
  replace hm := Lib.hid hm
  replace ka := Lib.hid ka
  replace hL := Lib.hid hL
  replace hD := Lib.hid hD
  obtain ⟨lx, hp⟩ : ∃ lx, x.length = lx := ⟨_, rfl⟩
  rw [hp]
  replace hp := Lib.hid hp
  replace hX := Lib.hid hX
  go_enter Try.func4, Try.ntmps4
  go_wp2_with fail
  refine (awake_any _).mono ?_
  rintro e w1 ⟨rfl, k1⟩
  have B3 := Lib.hid (B1.out.keep k1 (by simp))
  have K1 := Lib.hid (ka.out.trans k1)
  clear k1 ka B1
  obtain ⟨g1, hg1e⟩ : ∃ g, g = w.heap.size := ⟨_, rfl⟩
  rw [← hg1e] at B3
  rw [← hg1e]
  clear hg1e
  have HG := Lib.hid (good12_any w1 w.heap.size Al Ad l D n cl m cd hn.out hm.out (hL.out.keep K1.out (by simp)).at_ (hD.out.keep K1.out (by simp)) K1.out.size hL.out.short)
  have z1 := B3.out.cell
  go_wp2_with fail
  refine HG.out.mono ?_
  rintro e w2 ⟨b, rfl, hb, k2⟩
  have B6 := Lib.hid (B3.out.keep k2.out (by simp))
  have K2 := Lib.hid (K1.out.trans k2.out)
  clear HG B3 k2 K1 z1
  cases b
  · go_wp2_with fail
    go_ret
    exact ⟨rfl, K2.out⟩
  · have z6 := B6.out.cell
    by_cases hpm : lx = m
    · subst hpm
      have hlx : lx ≤ 64 := by have := (hb.out (by first | trivial | rfl)).2.few; rw [hm.out] at this; exact this
      go_wp2_with fail
      go_loopw [28, 5] (fun i iv wr => ∃ (k : Nat) (ins : Bool), k ≤ lx ∧ i = .int .i64 k ∧ iv = .bool ins ∧ Hid (ins = true ↔ ∀ (i : Nat) (d : Iv) (v : Int), i < k → D[i]? = some d → x[i]? = some v → d.1 ≤ v ∧ v ≤ d.2) ∧ Hid (Blk wr g1 25 #[.slice Al n cl, .slice Ad lx cd]) ∧ Hid (Keeps [] w wr)) (fun i _ _ => lx - (intOf i).toNat)
      case atStart => exact ⟨0, true, Nat.zero_le _, rfl, rfl, Lib.hid ⟨fun _ i d v hi => by omega, fun _ => rfl⟩, B6, K2⟩
      case round =>
        obtain ⟨k, ins, hk, rfl, rfl, hins0, BL, KL⟩ := hrel
        clear B6 K2 z6
        obtain ⟨w5, hwX⟩ : ∃ x, x = wr := ⟨_, rfl⟩
        subst hwX
        by_cases hlt : k < lx
        · obtain ⟨⟨d1, d2⟩, hy⟩ : ∃ x, D[k]? = some x := ⟨D[k]'(by rw [hm.out]; exact hlt), List.getElem?_eq_getElem _⟩
          obtain ⟨v, hv⟩ : ∃ v, x[k]? = some v := ⟨x[k]'(by rw [hp.out]; exact hlt), List.getElem?_eq_getElem _⟩
          obtain ⟨gd, od, hAd, _, c0, c1⟩ := (hD.out.keep KL.out (by simp)) k _ hy
          obtain ⟨gx, ox, hAx, _, x0⟩ := (hX.out.keep KL.out (by simp)) k _ hv
          dsimp only at c0 c1
          subst hAd hAx
          have z6 := BL.out.cell
          have hki : (k : Int) < (lx : Int) := by omega
          have hstep : Hid ((∀ (i : Nat) (d : Iv) (v : Int), i < k + 1 → D[i]? = some d → x[i]? = some v → d.1 ≤ v ∧ v ≤ d.2) ↔ (∀ (i : Nat) (d : Iv) (v : Int), i < k → D[i]? = some d → x[i]? = some v → d.1 ≤ v ∧ v ≤ d.2) ∧ d1 ≤ v ∧ v ≤ d2) := Lib.hid ⟨fun h => ⟨fun i d u hi => h i d u (by omega), h k _ _ (by omega) hy hv⟩, fun h i d u hi hd hu => by
            by_cases hik : i < k
            · exact h.1 i d u hik hd hu
            · obtain rfl : i = k := by omega
              rw [hy] at hd
              rw [hv] at hu
              cases hd
              cases hu
              exact h.2⟩
          replace hy := Lib.hid hy
          replace hv := Lib.hid hv
          cases ins
          · have hnew : Hid (false = true ↔ ∀ (i : Nat) (d : Iv) (v : Int), i < k + 1 → D[i]? = some d → x[i]? = some v → d.1 ≤ v ∧ v ≤ d.2) := Lib.hid (by rw [hstep.out, ← hins0.out]; simp)
            go_wp2_with fail
            go_roundw
            case rel => exact ⟨k + 1, false, by omega, by go_num, rfl, hnew, BL, KL⟩
            case measure => simp [intOf]; omega
          · by_cases h1 : d1 ≤ v
            · by_cases h2 : v ≤ d2
              · have hnew : Hid (true = true ↔ ∀ (i : Nat) (d : Iv) (v : Int), i < k + 1 → D[i]? = some d → x[i]? = some v → d.1 ≤ v ∧ v ≤ d.2) := Lib.hid (by rw [hstep.out, ← hins0.out]; exact ⟨fun h => ⟨h, h1, h2⟩, fun h => h.1⟩)
                go_wp2_with fail
                go_roundw
                case rel => exact ⟨k + 1, true, by omega, by go_num, rfl, hnew, BL, KL⟩
                case measure => simp [intOf]; omega
              · have hnew : Hid (false = true ↔ ∀ (i : Nat) (d : Iv) (v : Int), i < k + 1 → D[i]? = some d → x[i]? = some v → d.1 ≤ v ∧ v ≤ d.2) := Lib.hid (by rw [hstep.out]; exact ⟨fun h => (by cases h), fun h => absurd h.2.2 h2⟩)
                go_wp2_with fail
                go_roundw
                case rel => exact ⟨k + 1, false, by omega, by go_num, rfl, hnew, BL, KL⟩
                case measure => simp [intOf]; omega
            · have hnew : Hid (false = true ↔ ∀ (i : Nat) (d : Iv) (v : Int), i < k + 1 → D[i]? = some d → x[i]? = some v → d.1 ≤ v ∧ v ≤ d.2) := Lib.hid (by rw [hstep.out]; exact ⟨fun h => (by cases h), fun h => absurd h.2.1 h1⟩)
              go_wp2_with fail
              go_roundw
              case rel => exact ⟨k + 1, false, by omega, by go_num, rfl, hnew, BL, KL⟩
              case measure => simp [intOf]; omega
        · obtain ⟨m, hmp⟩ : ∃ m, m = lx := ⟨_, rfl⟩
          obtain rfl : k = m := by omega
          subst hmp
          have hkf : ¬ (k : Int) < (k : Int) := by omega
          have hins : Hid (ins = true ↔ insD D x) := Lib.hid (by
            rw [hins0.out]
            constructor
            · intro h
              exact ⟨by rw [hm.out, hp.out], fun i d v hd hv => h i d v (by have := (List.getElem?_eq_some_iff.1 hd).1; rw [hm.out] at this; exact this) hd hv⟩
            · intro h i d v _ hd hv
              exact h.2 i d v hd hv)
          obtain ⟨m, hmk⟩ : ∃ m, m = k := ⟨_, rfl⟩
          subst hmk
          have K5 := KL
          have B5 := BL
          have hGA := Lib.hid (hb.out (by first | trivial | rfl)).2
          have hn20 : Hid (n ≤ 20) := Lib.hid (hb.out (by first | trivial | rfl)).1
          have hm64 : Hid (m ≤ 64) := Lib.hid (by have := hGA.out.few; rw [hm.out] at this; exact this)
          have HT : Hid (∀ w', Keeps [] w5.drew w' → Calls Try.prog 14 #[.slice Ad m cd] w' fun e w'' => ∃ A cA, e = .returned (.slice A m cA) ∧ Hid (w''.ownsRow w'.heap.size 39 2 (.slice A m cA) m (flat D)) ∧ Hid (Keeps [] w' w'')) := Lib.hid (fun w' hk => by
            have hkk := K5.out.drew.trans hk
            have := to_got w' w.heap.size Ad cd D hkk.size (hD.out.keep hkk (by simp)) (by rw [hm.out]; have := hm64.out; omega)
            rw [hm.out] at this
            refine this.mono ?_
            rintro e w'' ⟨A, cA, rfl, o, _, k⟩
            rw [hm.out] at o ⊢
            exact ⟨A, cA, rfl, o, k⟩)
          have HP : Hid (∀ (w' : World) (b : Nat) A cA, Keeps [] w5.drew w' → w'.ownsRow b 39 2 (.slice A m cA) m (flat D) → Calls Try.prog 13 #[.slice Al n cl, .slice A m cA] w' (POut 39 w' m (propP l D))) := Lib.hid (fun w' b A cA hk ho => by
            have hkk := K5.out.drew.trans hk
            exact prop_out w' w.heap.size b Al A l D n cl m cA hn.out hm.out (hL.out.keep hkk (by simp)) ho hkk.size hGA.out (by have := hn20.out; omega))
          have HSf : Hid (∀ w', Keeps [] w5.drew w' → w'.cell? ⟨g1, 0, none⟩ = some (.slice Al n cl) ∧ w'.cell? ⟨g1, 1, none⟩ = some (.slice Ad m cd)) := Lib.hid (fun w' hk => ⟨hk.cellEq (B5.out.drew.cell 0) (by simp), hk.cellEq (B5.out.drew.cell 1) (by simp)⟩)
          have h0 := HSf.out _ (Keeps.refl [] w5.drew)
          have K5d := Lib.hid K5.out.drew
          have B5d := Lib.hid B5.out.drew
          replace hb := Lib.hid hb
          clear K5 B5 KL BL hins0
          cases hq : propP l D
          · rw [hq] at HP
            replace hq := Lib.hid hq
            go_wp2_with fail
            refine wp_region_I (S := (fun w' : World => w'.cell? ⟨g1, 0, none⟩ = some (.slice Al n cl) ∧ w'.cell? ⟨g1, 1, none⟩ = some (.slice Ad m cd))) (n := 11) (by kernel_rfl) ?_
            generalize w5.drew = wd at *
            have HS := h0
            have Kx := Lib.hid (Keeps.refl [] wd)
            refine wpAnyI_takeN (i := 0) (v := ?_) (by kernel_rfl) rfl (by kernel_rfl) (by kernel_rfl) (by kernel_rfl) (fun _ _ _ h => h) HS (Or.inl ⟨by rfl, ?_⟩) ?_
            rotate_left
            · (intro w hSw; obtain ⟨y1, y2⟩ := hSw; go_simp; try with_reducible rfl)
            try simp only [Act.put, List.getElem_toArray, List.getElem_cons_succ, List.getElem_cons_zero, List.setIfInBounds_toArray, List.set_cons_zero, List.set_cons_succ]
            refine wpAnyI_takeN (i := 1) (v := ?_) (by kernel_rfl) rfl (by kernel_rfl) (by kernel_rfl) (by kernel_rfl) (fun _ _ _ h => h) HS (Or.inl ⟨by rfl, ?_⟩) ?_
            rotate_left
            · (intro w hSw; obtain ⟨y1, y2⟩ := hSw; go_simp; try with_reducible rfl)
            try simp only [Act.put, List.getElem_toArray, List.getElem_cons_succ, List.getElem_cons_zero, List.setIfInBounds_toArray, List.set_cons_zero, List.set_cons_succ]
            refine wpAnyI_takeN (i := 2) (v := ?_) (by kernel_rfl) rfl (by kernel_rfl) (by kernel_rfl) (by kernel_rfl) (fun _ _ _ h => h) HS (Or.inl ⟨by rfl, ?_⟩) ?_
            rotate_left
            · (intro w hSw; obtain ⟨y1, y2⟩ := hSw; go_simp; try with_reducible rfl)
            try simp only [Act.put, List.getElem_toArray, List.getElem_cons_succ, List.getElem_cons_zero, List.setIfInBounds_toArray, List.set_cons_zero, List.set_cons_succ]
            refine wpAnyI_takeN (i := 3) (v := ?_) (by kernel_rfl) rfl (by kernel_rfl) (by kernel_rfl) (by kernel_rfl) (fun _ _ _ h => h) HS (Or.inl ⟨by rfl, ?_⟩) ?_
            rotate_left
            · (intro w hSw; obtain ⟨y1, y2⟩ := hSw; go_simp; try with_reducible rfl)
            try simp only [Act.put, List.getElem_toArray, List.getElem_cons_succ, List.getElem_cons_zero, List.setIfInBounds_toArray, List.set_cons_zero, List.set_cons_succ]
            refine wpAnyI_one (i := 4) rfl (by kernel_rfl) (fun K hK => ?_)
            dsimp only [List.getElem_toArray, List.getElem_cons_succ, List.getElem_cons_zero]
            go_simp
            refine (HT.out _ Kx.out).mono ?_
            rintro e w14 ⟨A14, c14, rfl, o14, k14⟩
            replace Kx := Lib.hid (Kx.out.trans k14.out)
            have HS := HSf.out _ Kx.out
            clear k14
            refine hK _ _ (Or.inr HS) ?_
            clear hK K
            try simp only [Act.put, List.getElem_toArray, List.getElem_cons_succ, List.getElem_cons_zero, List.setIfInBounds_toArray, List.set_cons_zero, List.set_cons_succ]
            refine wpAnyI_one (i := 5) rfl (by kernel_rfl) (fun K hK => ?_)
            dsimp only [List.getElem_toArray, List.getElem_cons_succ, List.getElem_cons_zero]
            go_simp
            refine (HP.out _ _ A14 c14 Kx.out o14.out).mono ?_
            rintro e w13 ⟨rfl, k13⟩
            replace Kx := Lib.hid (Kx.out.trans k13.out)
            have HS := HSf.out _ Kx.out
            clear k13 o14
            refine hK _ _ (Or.inr HS) ?_
            clear hK K
            try simp only [Act.put, List.getElem_toArray, List.getElem_cons_succ, List.getElem_cons_zero, List.setIfInBounds_toArray, List.set_cons_zero, List.set_cons_succ]
            refine wpAnyI_takeN (i := 6) (v := ?_) (by kernel_rfl) rfl (by kernel_rfl) (by kernel_rfl) (by kernel_rfl) (fun _ _ _ h => h) HS (Or.inl ⟨by rfl, ?_⟩) ?_
            rotate_left
            · (intro w hSw; obtain ⟨y1, y2⟩ := hSw; go_simp; try with_reducible rfl)
            try simp only [Act.put, List.getElem_toArray, List.getElem_cons_succ, List.getElem_cons_zero, List.setIfInBounds_toArray, List.set_cons_zero, List.set_cons_succ]
            refine wpAnyI_takeN (i := 7) (v := ?_) (by kernel_rfl) rfl (by kernel_rfl) (by kernel_rfl) (by kernel_rfl) (fun _ _ _ h => h) HS (Or.inl ⟨by rfl, ?_⟩) ?_
            rotate_left
            · (intro w hSw; obtain ⟨y1, y2⟩ := hSw; go_simp; try with_reducible rfl)
            try simp only [Act.put, List.getElem_toArray, List.getElem_cons_succ, List.getElem_cons_zero, List.setIfInBounds_toArray, List.set_cons_zero, List.set_cons_succ]
            refine wpAnyI_takeN (i := 8) (v := ?_) (by kernel_rfl) rfl (by kernel_rfl) (by kernel_rfl) (by kernel_rfl) (fun _ _ _ h => h) HS (Or.inl ⟨by rfl, ?_⟩) ?_
            rotate_left
            · (intro w hSw; obtain ⟨y1, y2⟩ := hSw; go_simp; try with_reducible rfl)
            try simp only [Act.put, List.getElem_toArray, List.getElem_cons_succ, List.getElem_cons_zero, List.setIfInBounds_toArray, List.set_cons_zero, List.set_cons_succ]
            refine wpAnyI_takeN (i := 9) (v := ?_) (by kernel_rfl) rfl (by kernel_rfl) (by kernel_rfl) (by kernel_rfl) (fun _ _ _ h => h) HS (Or.inl ⟨by rfl, ?_⟩) ?_
            rotate_left
            · (intro w hSw; obtain ⟨y1, y2⟩ := hSw; go_simp; try with_reducible rfl)
            try simp only [Act.put, List.getElem_toArray, List.getElem_cons_succ, List.getElem_cons_zero, List.setIfInBounds_toArray, List.set_cons_zero, List.set_cons_succ]
            refine wpAnyI_takeN (i := 10) (v := ?_) (by kernel_rfl) rfl (by kernel_rfl) (by kernel_rfl) (by kernel_rfl) (fun _ _ _ h => h) HS (Or.inl ⟨by rfl, ?_⟩) ?_
            rotate_left
            · (intro w hSw; obtain ⟨y1, y2⟩ := hSw; go_simp; try with_reducible rfl)
            try simp only [Act.put, List.getElem_toArray, List.getElem_cons_succ, List.getElem_cons_zero, List.setIfInBounds_toArray, List.set_cons_zero, List.set_cons_succ]
            refine wpAnyI_done (by kernel_rfl) ?_ _
            have K3 := Lib.hid (K5d.out.trans Kx.out)
            have B3 := Lib.hid (B5d.out.keep Kx.out (by simp))
            have z1 := HS.1
            have z2 := HS.2
            clear HT HP HSf h0 Kx HS B5d K5d
            have hno : Hid (ins = true → (∀ f ∈ l, conH x f) → False) := Lib.hid (fun hi hc => by obtain ⟨D', h1, _⟩ := propP_sound hGA.out hc (hins.out.1 hi); rw [hq.out] at h1; cases h1)
            go_wp2_with fail
            go_loopw [75] (fun i wr => i = .int .i64 0 ∧ wr = w13) (fun _ _ => 0)
            case atStart => exact ⟨rfl, rfl⟩
            case round =>
              obtain ⟨rfl, hwr⟩ := hrel
              replace hwr := hwr.symm
              subst hwr
              have hx0 : ¬ ((0 : Int) < 0) := by omega
              cases ins
              · go_wp2_with fail
                go_ret
                exact ⟨rfl, K3.out⟩
              · have hsm : Small x := fun v hv => by
                  obtain ⟨i, hi⟩ := List.getElem?_of_mem hv
                  have hin := hins.out.1 rfl
                  have hil : i < D.length := by rw [hin.1]; exact (List.getElem?_eq_some_iff.1 hi).1
                  have h1 := hin.2 i _ _ (List.getElem?_eq_getElem hil) hi
                  have h2 := hGA.out.dm _ (List.getElem_mem hil)
                  unfold DmOk at h2
                  omega
                have HH := Lib.hid (holds_any w13 w.heap.size Al Ax D l x n cl m cx hn.out hp.out hm.out (hL.out.keep K3.out (by simp)).at_ (hX.out.keep K3.out (by simp)) hGA.out hsm (by have := hn20.out; omega))
                clear hsm
                go_wp2_with fail
                refine HH.out.mono ?_
                rintro e w18 ⟨b, rfl, hb18, k18⟩
                have K18 := Lib.hid (K3.out.trans k18.out)
                clear HH k18
                cases b
                · go_wp2_with fail
                  go_ret
                  exact ⟨rfl, K18.out⟩
                · exact absurd (hb18.out (by first | trivial | rfl)) (hno.out (by first | trivial | rfl))
          · rename_i E
            rw [hq] at HP
            replace hq := Lib.hid hq
            go_wp2_with fail
            refine wp_region_I (S := (fun w' : World => w'.cell? ⟨g1, 0, none⟩ = some (.slice Al n cl) ∧ w'.cell? ⟨g1, 1, none⟩ = some (.slice Ad m cd))) (n := 11) (by kernel_rfl) ?_
            generalize w5.drew = wd at *
            have HS := h0
            have Kx := Lib.hid (Keeps.refl [] wd)
            refine wpAnyI_takeN (i := 0) (v := ?_) (by kernel_rfl) rfl (by kernel_rfl) (by kernel_rfl) (by kernel_rfl) (fun _ _ _ h => h) HS (Or.inl ⟨by rfl, ?_⟩) ?_
            rotate_left
            · (intro w hSw; obtain ⟨y1, y2⟩ := hSw; go_simp; try with_reducible rfl)
            try simp only [Act.put, List.getElem_toArray, List.getElem_cons_succ, List.getElem_cons_zero, List.setIfInBounds_toArray, List.set_cons_zero, List.set_cons_succ]
            refine wpAnyI_takeN (i := 1) (v := ?_) (by kernel_rfl) rfl (by kernel_rfl) (by kernel_rfl) (by kernel_rfl) (fun _ _ _ h => h) HS (Or.inl ⟨by rfl, ?_⟩) ?_
            rotate_left
            · (intro w hSw; obtain ⟨y1, y2⟩ := hSw; go_simp; try with_reducible rfl)
            try simp only [Act.put, List.getElem_toArray, List.getElem_cons_succ, List.getElem_cons_zero, List.setIfInBounds_toArray, List.set_cons_zero, List.set_cons_succ]
            refine wpAnyI_takeN (i := 2) (v := ?_) (by kernel_rfl) rfl (by kernel_rfl) (by kernel_rfl) (by kernel_rfl) (fun _ _ _ h => h) HS (Or.inl ⟨by rfl, ?_⟩) ?_
            rotate_left
            · (intro w hSw; obtain ⟨y1, y2⟩ := hSw; go_simp; try with_reducible rfl)
            try simp only [Act.put, List.getElem_toArray, List.getElem_cons_succ, List.getElem_cons_zero, List.setIfInBounds_toArray, List.set_cons_zero, List.set_cons_succ]
            refine wpAnyI_takeN (i := 3) (v := ?_) (by kernel_rfl) rfl (by kernel_rfl) (by kernel_rfl) (by kernel_rfl) (fun _ _ _ h => h) HS (Or.inl ⟨by rfl, ?_⟩) ?_
            rotate_left
            · (intro w hSw; obtain ⟨y1, y2⟩ := hSw; go_simp; try with_reducible rfl)
            try simp only [Act.put, List.getElem_toArray, List.getElem_cons_succ, List.getElem_cons_zero, List.setIfInBounds_toArray, List.set_cons_zero, List.set_cons_succ]
            refine wpAnyI_one (i := 4) rfl (by kernel_rfl) (fun K hK => ?_)
            dsimp only [List.getElem_toArray, List.getElem_cons_succ, List.getElem_cons_zero]
            go_simp
            refine (HT.out _ Kx.out).mono ?_
            rintro e w14 ⟨A14, c14, rfl, o14, k14⟩
            replace Kx := Lib.hid (Kx.out.trans k14.out)
            have HS := HSf.out _ Kx.out
            clear k14
            refine hK _ _ (Or.inr HS) ?_
            clear hK K
            try simp only [Act.put, List.getElem_toArray, List.getElem_cons_succ, List.getElem_cons_zero, List.setIfInBounds_toArray, List.set_cons_zero, List.set_cons_succ]
            refine wpAnyI_one (i := 5) rfl (by kernel_rfl) (fun K hK => ?_)
            dsimp only [List.getElem_toArray, List.getElem_cons_succ, List.getElem_cons_zero]
            go_simp
            refine (HP.out _ _ A14 c14 Kx.out o14.out).mono ?_
            rintro e w13 ⟨A13, c13, rfl, l13, o13, k13⟩
            have K14 := Lib.hid (K5d.out.trans Kx.out)
            replace Kx := Lib.hid (Kx.out.trans k13.out)
            have HS := HSf.out _ Kx.out
            clear k13 o14
            refine hK _ _ (Or.inr HS) ?_
            clear hK K
            try simp only [Act.put, List.getElem_toArray, List.getElem_cons_succ, List.getElem_cons_zero, List.setIfInBounds_toArray, List.set_cons_zero, List.set_cons_succ]
            refine wpAnyI_takeN (i := 6) (v := ?_) (by kernel_rfl) rfl (by kernel_rfl) (by kernel_rfl) (by kernel_rfl) (fun _ _ _ h => h) HS (Or.inl ⟨by rfl, ?_⟩) ?_
            rotate_left
            · (intro w hSw; obtain ⟨y1, y2⟩ := hSw; go_simp; try with_reducible rfl)
            try simp only [Act.put, List.getElem_toArray, List.getElem_cons_succ, List.getElem_cons_zero, List.setIfInBounds_toArray, List.set_cons_zero, List.set_cons_succ]
            refine wpAnyI_takeN (i := 7) (v := ?_) (by kernel_rfl) rfl (by kernel_rfl) (by kernel_rfl) (by kernel_rfl) (fun _ _ _ h => h) HS (Or.inl ⟨by rfl, ?_⟩) ?_
            rotate_left
            · (intro w hSw; obtain ⟨y1, y2⟩ := hSw; go_simp; try with_reducible rfl)
            try simp only [Act.put, List.getElem_toArray, List.getElem_cons_succ, List.getElem_cons_zero, List.setIfInBounds_toArray, List.set_cons_zero, List.set_cons_succ]
            refine wpAnyI_takeN (i := 8) (v := ?_) (by kernel_rfl) rfl (by kernel_rfl) (by kernel_rfl) (by kernel_rfl) (fun _ _ _ h => h) HS (Or.inl ⟨by rfl, ?_⟩) ?_
            rotate_left
            · (intro w hSw; obtain ⟨y1, y2⟩ := hSw; go_simp; try with_reducible rfl)
            try simp only [Act.put, List.getElem_toArray, List.getElem_cons_succ, List.getElem_cons_zero, List.setIfInBounds_toArray, List.set_cons_zero, List.set_cons_succ]
            refine wpAnyI_takeN (i := 9) (v := ?_) (by kernel_rfl) rfl (by kernel_rfl) (by kernel_rfl) (by kernel_rfl) (fun _ _ _ h => h) HS (Or.inl ⟨by rfl, ?_⟩) ?_
            rotate_left
            · (intro w hSw; obtain ⟨y1, y2⟩ := hSw; go_simp; try with_reducible rfl)
            try simp only [Act.put, List.getElem_toArray, List.getElem_cons_succ, List.getElem_cons_zero, List.setIfInBounds_toArray, List.set_cons_zero, List.set_cons_succ]
            refine wpAnyI_takeN (i := 10) (v := ?_) (by kernel_rfl) rfl (by kernel_rfl) (by kernel_rfl) (by kernel_rfl) (fun _ _ _ h => h) HS (Or.inl ⟨by rfl, ?_⟩) ?_
            rotate_left
            · (intro w hSw; obtain ⟨y1, y2⟩ := hSw; go_simp; try with_reducible rfl)
            try simp only [Act.put, List.getElem_toArray, List.getElem_cons_succ, List.getElem_cons_zero, List.setIfInBounds_toArray, List.set_cons_zero, List.set_cons_succ]
            refine wpAnyI_done (by kernel_rfl) ?_ _
            have K3 := Lib.hid (K5d.out.trans Kx.out)
            have B3 := Lib.hid (B5d.out.keep Kx.out (by simp))
            have z1 := HS.1
            have z2 := HS.2
            clear HT HP HSf h0 Kx HS B5d K5d
            have hnar := Lib.hid (propP_nar hq.out)
            have hEin : Hid (ins = true → (∀ f ∈ l, conH x f) → insD E x) := Lib.hid (fun hi hc => by obtain ⟨D', h1, h2⟩ := propP_sound hGA.out hc (hins.out.1 hi); rw [hq.out] at h1; cases h1; exact h2)
            go_wp2_with fail
            go_loopw [75] (fun i wr => ∃ k : Nat, k ≤ m ∧ i = .int .i64 k ∧ Hid (wr.ownsRow w.heap.size 39 2 (.slice A13 m c13) m (flat E)) ∧ Hid (Blk wr g1 25 #[.slice Al n cl, .slice Ad m cd]) ∧ Hid (Keeps [] w wr)) (fun i _ => m - (intOf i).toNat)
            case atStart => exact ⟨0, Nat.zero_le _, rfl, Lib.hid (own_le2 o13.out (K14.out.size)), B3, K3⟩
            case round =>
              obtain ⟨k, hk, rfl, oE, BE, KE⟩ := hrel
              clear z1 z2 o13 B3 K3
              obtain ⟨wi, hwX⟩ : ∃ x, x = wr := ⟨_, rfl⟩
              subst hwX
              have z1 := BE.out.cell 0
              have z2 := BE.out.cell 1
              simp only [List.getElem?_toArray, List.getElem?_cons_succ, List.getElem?_cons_zero] at z1 z2
              by_cases hlt : k < m
              · obtain ⟨⟨e1, e2⟩, hx⟩ : ∃ x, E[k]? = some x := ⟨E[k]'(by rw [l13.out]; exact hlt), List.getElem?_eq_getElem _⟩
                obtain ⟨⟨d1, d2⟩, hy⟩ : ∃ x, D[k]? = some x := ⟨D[k]'(by rw [hm.out]; exact hlt), List.getElem?_eq_getElem _⟩
                obtain ⟨ge, oe, hAe, _, c0, c1⟩ := (IvAt.of_own oE.out l13.out) k _ hx
                obtain ⟨gd, od, hAd, _, d0, d1'⟩ := (hD.out.keep KE.out (by simp)) k _ hy
                dsimp only at c0 c1 d0 d1'
                subst hAe hAd
                have hki : (k : Int) < (m : Int) := by omega
                have hle := hnar.out.2 _ (List.mem_of_getElem? hx)
                have hna := hnar.out.1.2 k _ _ hy hx
                dsimp only at hle hna
                have p1 : ¬ e1 > e2 := by omega
                have p2 : ¬ e1 < d1 := by omega
                have p3 : ¬ e2 > d2 := by omega
                replace hx := Lib.hid hx
                replace hy := Lib.hid hy
                clear hle hna
                go_wp2_with fail
                go_quiet (fail)
                go_wp2_with fail
                go_roundw
                case rel => exact ⟨k + 1, by omega, by go_num, Lib.hid (own_keep0 oE.out ((Keeps.refl [] _).drewN _)), Lib.hid (BE.out.keep ((Keeps.refl [] _).drewN _) (by simp)), Lib.hid (KE.out.drewN _)⟩
                case measure => simp [intOf]; omega
              · obtain rfl : k = m := by omega
                have hkf : ¬ (k : Int) < (k : Int) := by omega
                cases ins
                · go_wp2_with fail
                  go_ret
                  exact ⟨rfl, KE.out⟩
                · have hsm : Small x := fun v hv => by
                    obtain ⟨i, hi⟩ := List.getElem?_of_mem hv
                    have hin := hins.out.1 rfl
                    have hil : i < D.length := by rw [hin.1]; exact (List.getElem?_eq_some_iff.1 hi).1
                    have h1 := hin.2 i _ _ (List.getElem?_eq_getElem hil) hi
                    have h2 := hGA.out.dm _ (List.getElem_mem hil)
                    unfold DmOk at h2
                    omega
                  have HH := Lib.hid (holds_any wi w.heap.size Al Ax D l x n cl k cx hn.out hp.out hm.out (hL.out.keep KE.out (by simp)).at_ (hX.out.keep KE.out (by simp)) hGA.out hsm (by have := hn20.out; omega))
                  clear hsm
                  go_wp2_with fail
                  refine HH.out.mono ?_
                  rintro e w18 ⟨b, rfl, hb18, k18⟩
                  have K18 := Lib.hid (KE.out.trans k18.out)
                  replace oE := Lib.hid (own_keep0 oE.out k18.out)
                  clear HH k18 BE z1 z2
                  cases b
                  · go_wp2_with fail
                    go_ret
                    exact ⟨rfl, K18.out⟩
                  · have hfin := Lib.hid (hEin.out (by first | trivial | rfl) (hb18.out (by first | trivial | rfl)))
                    go_wp2_with fail
                    go_loopw [129] (fun i wr => ∃ j : Nat, j ≤ k ∧ i = .int .i64 j ∧ Hid (wr.ownsRow w.heap.size 39 2 (.slice A13 k c13) k (flat E)) ∧ Hid (Keeps [] w wr)) (fun i _ => k - (intOf i).toNat)
                    case atStart => exact ⟨0, Nat.zero_le _, rfl, oE, K18⟩
                    case round =>
                      obtain ⟨j, hj, rfl, oF, KF⟩ := hrel
                      clear oE KE K18
                      obtain ⟨wj, hwX⟩ : ∃ x, x = wr := ⟨_, rfl⟩
                      subst hwX
                      by_cases hjl : j < k
                      · obtain ⟨⟨e1, e2⟩, hx⟩ : ∃ x, E[j]? = some x := ⟨E[j]'(by rw [l13.out]; exact hjl), List.getElem?_eq_getElem _⟩
                        obtain ⟨v, hv⟩ : ∃ v, x[j]? = some v := ⟨x[j]'(by rw [hp.out]; exact hjl), List.getElem?_eq_getElem _⟩
                        obtain ⟨ge, oe, hAe, _, c0, c1⟩ := (IvAt.of_own oF.out l13.out) j _ hx
                        obtain ⟨gx, ox, hAx, _, x0⟩ := (hX.out.keep KF.out (by simp)) j _ hv
                        dsimp only at c0 c1
                        subst hAe hAx
                        have hji : (j : Int) < (k : Int) := by omega
                        have hin := hfin.out.2 j _ _ hx hv
                        dsimp only at hin
                        have p1 : ¬ v < e1 := by omega
                        have p2 : ¬ v > e2 := by omega
                        replace hx := Lib.hid hx
                        replace hv := Lib.hid hv
                        clear hin
                        go_wp2_with fail
                        go_roundw
                        case rel => exact ⟨j + 1, by omega, by go_num, oF, KF⟩
                        case measure => simp [intOf]; omega
                      · obtain rfl : j = k := by omega
                        have hjf : ¬ (j : Int) < (j : Int) := by omega
                        go_wp2_with fail
                        go_ret
                        exact ⟨rfl, KF.out⟩
    · have hpb : ((lx : Int) != (m : Int)) = true := by simpa using (by omega : ¬ (lx : Int) = (m : Int))
      go_wp2_with fail
      go_ret
      exact ⟨rfl, K2.out⟩
end Go.Proofs.Ythmnolpamllabaa
