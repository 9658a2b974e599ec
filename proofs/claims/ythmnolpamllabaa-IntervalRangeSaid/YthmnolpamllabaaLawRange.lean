/- The walk of the statement IntervalRange. -/
import Derived.Test.YthmnolpamllabaaIvProb
import Derived.Test.YthmnolpamllabaaReg3
import Derived.Deep.DeepCutAuto
namespace Go.Proofs.Ythmnolpamllabaa
open Go.RowKit Go.Lib
set_option linter.unusedSimpArgs false
set_option linter.unusedVariables false

set_option maxHeartbeats 6400000 in
set_option maxRecDepth 100000 in
theorem law_range (w : World) (c : Int) (co : List Iv) (Ac Ad : Option Addr) (cc cd : Nat) (D : List Iv) (hC : IvAt w w.heap.size Ac co) (hcc : co.length ≤ cc) (hcm : cc ≤ maxLen) (hD : IvAt w w.heap.size Ad D) (h64 : All64 D) :
    Calls Try.prog 5 #[.agg #[.int .i64 c, .slice Ac co.length cc], .slice Ad D.length cd] w fun e w' => e = .returned (.bool true) ∧ Keeps [] w w' := by
  have hs : Hid (ConsShort [⟨c, co, false⟩]) := Lib.hid (fun f hf => by rw [List.mem_singleton.1 hf]; show co.length ≤ _; unfold maxLen at hcm; omega)
  have ka : Keeps [] w (w.alloc (.cells #[.int .i64 c, .slice Ac co.length cc] 44)) := (Keeps.refl [] w).alloc _
  have B2 := Lib.hid (Blk.new w 44 #[.int .i64 c, .slice Ac co.length cc])
  obtain ⟨n, hn⟩ : ∃ n, co.length = n := ⟨_, rfl⟩
  obtain ⟨m, hm⟩ : ∃ m, D.length = m := ⟨_, rfl⟩
  rw [hn] at hcc ka B2
  rw [hn, hm]
  replace hn := Lib.hid hn
  replace hm := Lib.hid hm
  replace ka := Lib.hid ka
  replace hC := Lib.hid hC
  replace hD := Lib.hid hD
  go_enter Try.func5, Try.ntmps5
  go_wp2_with fail
  refine (awake_any _).mono ?_
  rintro e w1 ⟨rfl, k1⟩
  have B3 := Lib.hid (B2.out.keep k1 (by simp))
  have K1 := Lib.hid (ka.out.trans k1)
  clear k1 ka B2
  have hg2 : Hid (w.heap.size < w1.heap.size) := Lib.hid B3.out.lt
  have hC1 := Lib.hid (hC.out.keep K1.out (by simp))
  have hD1 := Lib.hid (hD.out.keep K1.out (by simp))
  obtain ⟨g2, hg2e⟩ : ∃ g, g = w.heap.size := ⟨_, rfl⟩
  have hBl : Hid (w.heap.size ≤ w1.heap.size) := Lib.hid K1.out.size
  rw [← hg2e] at B3 hg2
  rw [← hg2e]
  clear hg2e
  have ka : Keeps [] w1 (w1.alloc (.cells #[.int .i64 c, .slice Ac n cc, .bool false] 46)) := (Keeps.refl [] w1).alloc _
  have B4 := Blk.new w1 46 #[.int .i64 c, .slice Ac n cc, .bool false]
  have HG := Lib.hid (good12_any (w1.alloc (.cells #[.int .i64 c, .slice Ac n cc, .bool false] 46)) (w1.heap.size + 1) (some ⟨w1.heap.size, 0, none⟩) Ad [⟨c, co, false⟩] D 1 1 m cd rfl hm.out (fun i f hf => by
    match i, hf with
    | 0, hf =>
      obtain rfl : (⟨c, co, false⟩ : Con) = f := by simpa using hf
      exact ⟨_, 0, Ac, cc, rfl, by omega, B4.cell 0, by rw [hn.out]; exact B4.cell 1, B4.cell 2, (hC1.out.keep ka (by simp)).mono (by have := hBl.out; omega)⟩
    | i + 1, hf => simp at hf) ((hD1.out.keep ka (by simp)).mono (by have := hBl.out; omega)) (by simp) hs.out)
  have B5 := Lib.hid (B3.out.keep ka (by simp))
  have z2 := B3.out.cell
  replace ka := Lib.hid ka
  clear B4
  go_wp2_with fail
  refine HG.out.mono ?_
  rintro e w2 ⟨b, rfl, hb, k2⟩
  have B6 := Lib.hid (B5.out.keep k2.out (by simp))
  have K2 := Lib.hid ((K1.out.trans ka.out).trans k2.out)
  clear HG B5 k2 K1 ka z2 B3 hC1 hD1 hs
  cases b
  · go_wp2_with fail
    go_ret
    exact ⟨rfl, K2.out⟩
  · have hGA := (hb.out rfl).2
    have hGL : Hid (GoodL D co c) := Lib.hid (hGA.lin _ (List.mem_singleton.2 rfl))
    have hm64 : Hid (m ≤ 64) := Lib.hid (by have := hGA.few; rw [hm.out] at this; exact this)
    obtain ⟨⟨⟨q1, q2⟩, qb⟩, hq⟩ : ∃ q, rngM D co c = q := ⟨_, rfl⟩
    have HT : Hid (∀ w', Keeps [] w2.drew w' → Calls Try.prog 14 #[.slice Ad m cd] w' fun e w'' => ∃ A cA, e = .returned (.slice A m cA) ∧ Hid (w''.ownsRow w'.heap.size 39 2 (.slice A m cA) m (flat D)) ∧ Hid (Keeps [] w' w'')) := Lib.hid (fun w' hk => by
      have hkk := K2.out.drew.trans hk
      have := to_got w' w.heap.size Ad cd D hkk.size (hD.out.keep hkk (by simp)) (by rw [hm.out]; have := hm64.out; omega)
      rw [hm.out] at this
      refine this.mono ?_
      rintro e w'' ⟨A, cA, rfl, o, _, k⟩
      rw [hm.out] at o ⊢
      exact ⟨A, cA, rfl, o, k⟩)
    have HR : Hid (∀ (w' : World) (b : Nat) A cA, Keeps [] w2.drew w' → w'.ownsRow b 39 2 (.slice A m cA) m (flat D) → Calls Try.prog 19 #[.agg #[.int .i64 c, .slice Ac n cc], .slice A m cA] w' fun e w'' => e = .returned (.tuple #[.agg #[.int .i64 q1, .int .i64 q2], .bool qb]) ∧ Hid (Keeps [] w' w'')) := Lib.hid (fun w' b A cA hk ho => by
      have hkk := K2.out.drew.trans hk
      have := range_any w' w'.heap.size Ac A D co c n cc m cA hn.out hm.out ((hC.out.keep hkk (by simp)).mono hkk.size) (IvAt.of_own ho hm.out) (Nat.le_refl _) hGL.out (by have := hm64.out; omega)
      rw [hq] at this
      refine this.mono ?_
      rintro e w'' ⟨rfl, k⟩
      exact ⟨rfl, Lib.hid k⟩)
    have HSf : Hid (∀ w', Keeps [] w2.drew w' → w'.cell? ⟨g2, 0, none⟩ = some (.int .i64 c) ∧ w'.cell? ⟨g2, 1, none⟩ = some (.slice Ac n cc)) := Lib.hid (fun w' hk => ⟨hk.cellEq (B6.out.drew.cell 0) (by simp), hk.cellEq (B6.out.drew.cell 1) (by simp)⟩)
    have h0 := HSf.out _ (Keeps.refl [] w2.drew)
    have B6d := Lib.hid B6.out.drew
    have K2d := Lib.hid K2.out.drew
    have hgd : Hid (g2 < w2.drew.heap.size) := Lib.hid B6d.out.lt
    replace hq := Lib.hid hq
    clear hb B6 K2 hGA
    go_wp2_with fail
    go_cut [5, 6] (fun s5 s6 wx => ∃ g, s5 = .pointer (some ⟨g, 0, none⟩) ∧ s6 = .bool qb ∧ Hid (Blk wx g 39 #[.int .i64 q1, .int .i64 q2]) ∧ Hid (w2.drew.heap.size ≤ g) ∧ Hid (Keeps [] w2.drew wx))
    case first =>
      refine wp_region_I (S := (fun w' : World => w'.cell? ⟨g2, 0, none⟩ = some (.int .i64 c) ∧ w'.cell? ⟨g2, 1, none⟩ = some (.slice Ac n cc))) (n := 10) (by kernel_rfl) ?_
      generalize w2.drew = wd at *
      have HS := h0
      have Kx := Lib.hid (Keeps.refl [] wd)
      refine wpAnyI_takeN (i := 0) (v := ?_) (by kernel_rfl) rfl (by kernel_rfl) (by kernel_rfl) (by kernel_rfl) (fun _ _ _ h => h) HS (Or.inl ⟨by rfl, ?_⟩) ?_
      rotate_left
      · (intro w hSw; obtain ⟨y1, y2⟩ := hSw; go_simp; try with_reducible rfl)
      try simp only [Act.put, List.getElem_toArray, List.getElem_cons_succ, List.getElem_cons_zero, List.setIfInBounds_toArray, List.set_cons_zero, List.set_cons_succ]
      refine wpAnyI_takeN (i := 1) (v := ?_) (by kernel_rfl) rfl (by kernel_rfl) (by kernel_rfl) (by kernel_rfl) (fun _ _ _ h => h) HS (Or.inl ⟨by rfl, ?_⟩) ?_
      rotate_left
      · (intro w hSw; obtain ⟨y1, y2⟩ := hSw; go_simp; try with_reducible rfl)
      try simp only [Act.put, List.getElem_toArray, List.getElem_cons_succ, List.getElem_cons_zero, List.setIfInBounds_toArray, List.set_cons_zero, List.set_cons_succ]
      refine wpAnyI_two (i := 2) (j := 7) rfl rfl (by kernel_rfl) (fun K hK => ?_) (fun K hK => ?_)
      · dsimp only [List.getElem_toArray, List.getElem_cons_succ, List.getElem_cons_zero]
        go_simp
        refine (HT.out _ Kx.out).mono ?_
        rintro e w14 ⟨A14, c14, rfl, o14, k14⟩
        try (replace Z := Lib.hid (Z.out.keep k14.out (by simp)))
        replace Kx := Lib.hid (Kx.out.trans k14.out)
        have HS := HSf.out _ Kx.out
        clear k14
        refine hK _ _ (Or.inr HS) ?_
        clear hK K
        try simp only [Act.put, List.getElem_toArray, List.getElem_cons_succ, List.getElem_cons_zero, List.setIfInBounds_toArray, List.set_cons_zero, List.set_cons_succ]
        refine wpAnyI_two (i := 3) (j := 7) rfl rfl (by kernel_rfl) (fun K hK => ?_) (fun K hK => ?_)
        · dsimp only [List.getElem_toArray, List.getElem_cons_succ, List.getElem_cons_zero]
          go_simp
          refine (HR.out _ _ A14 c14 Kx.out o14.out).mono ?_
          rintro e w19 ⟨rfl, k19⟩
          try (replace Z := Lib.hid (Z.out.keep k19.out (by simp)))
          replace Kx := Lib.hid (Kx.out.trans k19.out)
          have HS := HSf.out _ Kx.out
          clear k19 o14
          refine hK _ _ (Or.inr HS) ?_
          clear hK K
          try simp only [Act.put, List.getElem_toArray, List.getElem_cons_succ, List.getElem_cons_zero, List.setIfInBounds_toArray, List.set_cons_zero, List.set_cons_succ]
          refine wpAnyI_takeN (i := 4) (v := ?_) (by kernel_rfl) rfl (by kernel_rfl) (by kernel_rfl) (by kernel_rfl) (fun _ _ _ h => h) HS (Or.inl ⟨by rfl, ?_⟩) ?_
          rotate_left
          · (intro w hSw; obtain ⟨y1, y2⟩ := hSw; go_simp; try with_reducible rfl)
          try simp only [Act.put, List.getElem_toArray, List.getElem_cons_succ, List.getElem_cons_zero, List.setIfInBounds_toArray, List.set_cons_zero, List.set_cons_succ]
          refine wpAnyI_takeN (i := 5) (v := ?_) (by kernel_rfl) rfl (by kernel_rfl) (by kernel_rfl) (by kernel_rfl) (fun _ _ _ h => h) HS (Or.inl ⟨by rfl, ?_⟩) ?_
          rotate_left
          · (intro w hSw; obtain ⟨y1, y2⟩ := hSw; go_simp; try with_reducible rfl)
          try simp only [Act.put, List.getElem_toArray, List.getElem_cons_succ, List.getElem_cons_zero, List.setIfInBounds_toArray, List.set_cons_zero, List.set_cons_succ]
          refine wpAnyI_takeN (i := 6) (v := ?_) (by kernel_rfl) rfl (by kernel_rfl) (by kernel_rfl) (by kernel_rfl) (fun _ _ _ h => h) HS (Or.inl ⟨by rfl, ?_⟩) ?_
          rotate_left
          · (intro w hSw; obtain ⟨y1, y2⟩ := hSw; go_simp; try with_reducible rfl)
          try simp only [Act.put, List.getElem_toArray, List.getElem_cons_succ, List.getElem_cons_zero, List.setIfInBounds_toArray, List.set_cons_zero, List.set_cons_succ]
          refine wpAnyI_one (i := 7) rfl (by kernel_rfl) (fun K hK => ?_)
          dsimp only [List.getElem_toArray, List.getElem_cons_succ, List.getElem_cons_zero]
          go_simp
          obtain ⟨gz, hgzE⟩ : ∃ g, g = w19.heap.size := ⟨_, rfl⟩
          have hgz : Hid (wd.heap.size ≤ gz) := Lib.hid (by rw [hgzE]; exact Kx.out.size)
          have Z := Lib.hid (Blk.new w19 39 #[.int .i64 0, .int .i64 0])
          try (replace o14 := Lib.hid (own_keep0 o14.out ((Keeps.refl [] w19).alloc (.cells #[.int .i64 0, .int .i64 0] 39))))
          replace Kx := Lib.hid (Kx.out.alloc (.cells #[.int .i64 0, .int .i64 0] 39))
          have HS := HSf.out _ Kx.out
          refine hK _ _ (Or.inr HS) ?_
          clear hK K
          rw [← hgzE] at Z ⊢
          clear hgzE
          generalize w19.alloc (.cells #[.int .i64 0, .int .i64 0] 39) = wz at *
          try simp only [Act.put, List.getElem_toArray, List.getElem_cons_succ, List.getElem_cons_zero, List.setIfInBounds_toArray, List.set_cons_zero, List.set_cons_succ]
          refine wpAnyI_one (i := 8) rfl (by kernel_rfl) (fun K hK => ?_)
          dsimp only [List.getElem_toArray, List.getElem_cons_succ, List.getElem_cons_zero]
          rw [if_pos (by rfl)]
          refine wp_store_all 39 (.tmp 5) (.tmp 25) (by rfl) gz (by rfl) 39 [.int .i64 0, .int .i64 0] [.int .i64 q1, .int .i64 q2] (by rfl) Z.out (by kernel_rfl) (by rfl) (by simp [Value.oneCell']) ?_
          intro w8 C8 k8
          replace Kx := Lib.hid (keeps_via Kx.out hgz.out k8)
          have HS := HSf.out _ Kx.out
          clear k8 Z
          refine hK _ _ (Or.inr HS) ?_
          clear hK K
          try simp only [Act.put, List.getElem_toArray, List.getElem_cons_succ, List.getElem_cons_zero, List.setIfInBounds_toArray, List.set_cons_zero, List.set_cons_succ]
          refine wpAnyI_takeN (i := 9) (v := ?_) (by kernel_rfl) rfl (by kernel_rfl) (by kernel_rfl) (by kernel_rfl) (fun _ _ _ h => h) HS (Or.inl ⟨by rfl, ?_⟩) ?_
          rotate_left
          · (intro w hSw; obtain ⟨y1, y2⟩ := hSw; go_simp; try with_reducible rfl)
          try simp only [Act.put, List.getElem_toArray, List.getElem_cons_succ, List.getElem_cons_zero, List.setIfInBounds_toArray, List.set_cons_zero, List.set_cons_succ]
          refine wpAnyI_done (by kernel_rfl) ?_ _
          go_wp2_with fail
          go_meet
          exact ⟨gz, rfl, rfl, C8, hgz, Kx⟩
        · dsimp only [List.getElem_toArray, List.getElem_cons_succ, List.getElem_cons_zero]
          go_simp
          obtain ⟨gz, hgzE⟩ : ∃ g, g = w14.heap.size := ⟨_, rfl⟩
          have hgz : Hid (wd.heap.size ≤ gz) := Lib.hid (by rw [hgzE]; exact Kx.out.size)
          have Z := Lib.hid (Blk.new w14 39 #[.int .i64 0, .int .i64 0])
          try (replace o14 := Lib.hid (own_keep0 o14.out ((Keeps.refl [] w14).alloc (.cells #[.int .i64 0, .int .i64 0] 39))))
          replace Kx := Lib.hid (Kx.out.alloc (.cells #[.int .i64 0, .int .i64 0] 39))
          have HS := HSf.out _ Kx.out
          refine hK _ _ (Or.inr HS) ?_
          clear hK K
          rw [← hgzE] at Z ⊢
          clear hgzE
          generalize w14.alloc (.cells #[.int .i64 0, .int .i64 0] 39) = wz at *
          try simp only [Act.put, List.getElem_toArray, List.getElem_cons_succ, List.getElem_cons_zero, List.setIfInBounds_toArray, List.set_cons_zero, List.set_cons_succ]
          refine wpAnyI_one (i := 3) rfl (by kernel_rfl) (fun K hK => ?_)
          dsimp only [List.getElem_toArray, List.getElem_cons_succ, List.getElem_cons_zero]
          go_simp
          refine (HR.out _ _ A14 c14 Kx.out o14.out).mono ?_
          rintro e w19 ⟨rfl, k19⟩
          try (replace Z := Lib.hid (Z.out.keep k19.out (by simp)))
          replace Kx := Lib.hid (Kx.out.trans k19.out)
          have HS := HSf.out _ Kx.out
          clear k19 o14
          refine hK _ _ (Or.inr HS) ?_
          clear hK K
          try simp only [Act.put, List.getElem_toArray, List.getElem_cons_succ, List.getElem_cons_zero, List.setIfInBounds_toArray, List.set_cons_zero, List.set_cons_succ]
          refine wpAnyI_takeN (i := 4) (v := ?_) (by kernel_rfl) rfl (by kernel_rfl) (by kernel_rfl) (by kernel_rfl) (fun _ _ _ h => h) HS (Or.inl ⟨by rfl, ?_⟩) ?_
          rotate_left
          · (intro w hSw; obtain ⟨y1, y2⟩ := hSw; go_simp; try with_reducible rfl)
          try simp only [Act.put, List.getElem_toArray, List.getElem_cons_succ, List.getElem_cons_zero, List.setIfInBounds_toArray, List.set_cons_zero, List.set_cons_succ]
          refine wpAnyI_takeN (i := 5) (v := ?_) (by kernel_rfl) rfl (by kernel_rfl) (by kernel_rfl) (by kernel_rfl) (fun _ _ _ h => h) HS (Or.inl ⟨by rfl, ?_⟩) ?_
          rotate_left
          · (intro w hSw; obtain ⟨y1, y2⟩ := hSw; go_simp; try with_reducible rfl)
          try simp only [Act.put, List.getElem_toArray, List.getElem_cons_succ, List.getElem_cons_zero, List.setIfInBounds_toArray, List.set_cons_zero, List.set_cons_succ]
          refine wpAnyI_takeN (i := 6) (v := ?_) (by kernel_rfl) rfl (by kernel_rfl) (by kernel_rfl) (by kernel_rfl) (fun _ _ _ h => h) HS (Or.inl ⟨by rfl, ?_⟩) ?_
          rotate_left
          · (intro w hSw; obtain ⟨y1, y2⟩ := hSw; go_simp; try with_reducible rfl)
          try simp only [Act.put, List.getElem_toArray, List.getElem_cons_succ, List.getElem_cons_zero, List.setIfInBounds_toArray, List.set_cons_zero, List.set_cons_succ]
          refine wpAnyI_one (i := 8) rfl (by kernel_rfl) (fun K hK => ?_)
          dsimp only [List.getElem_toArray, List.getElem_cons_succ, List.getElem_cons_zero]
          rw [if_pos (by rfl)]
          refine wp_store_all 39 (.tmp 5) (.tmp 25) (by rfl) gz (by rfl) 39 [.int .i64 0, .int .i64 0] [.int .i64 q1, .int .i64 q2] (by rfl) Z.out (by kernel_rfl) (by rfl) (by simp [Value.oneCell']) ?_
          intro w8 C8 k8
          replace Kx := Lib.hid (keeps_via Kx.out hgz.out k8)
          have HS := HSf.out _ Kx.out
          clear k8 Z
          refine hK _ _ (Or.inr HS) ?_
          clear hK K
          try simp only [Act.put, List.getElem_toArray, List.getElem_cons_succ, List.getElem_cons_zero, List.setIfInBounds_toArray, List.set_cons_zero, List.set_cons_succ]
          refine wpAnyI_takeN (i := 9) (v := ?_) (by kernel_rfl) rfl (by kernel_rfl) (by kernel_rfl) (by kernel_rfl) (fun _ _ _ h => h) HS (Or.inl ⟨by rfl, ?_⟩) ?_
          rotate_left
          · (intro w hSw; obtain ⟨y1, y2⟩ := hSw; go_simp; try with_reducible rfl)
          try simp only [Act.put, List.getElem_toArray, List.getElem_cons_succ, List.getElem_cons_zero, List.setIfInBounds_toArray, List.set_cons_zero, List.set_cons_succ]
          refine wpAnyI_done (by kernel_rfl) ?_ _
          go_wp2_with fail
          go_meet
          exact ⟨gz, rfl, rfl, C8, hgz, Kx⟩
      · dsimp only [List.getElem_toArray, List.getElem_cons_succ, List.getElem_cons_zero]
        go_simp
        obtain ⟨gz, hgzE⟩ : ∃ g, g = wd.heap.size := ⟨_, rfl⟩
        have hgz : Hid (wd.heap.size ≤ gz) := Lib.hid (by rw [hgzE]; exact Kx.out.size)
        have Z := Lib.hid (Blk.new wd 39 #[.int .i64 0, .int .i64 0])
        try (replace o14 := Lib.hid (own_keep0 o14.out ((Keeps.refl [] wd).alloc (.cells #[.int .i64 0, .int .i64 0] 39))))
        replace Kx := Lib.hid (Kx.out.alloc (.cells #[.int .i64 0, .int .i64 0] 39))
        have HS := HSf.out _ Kx.out
        refine hK _ _ (Or.inr HS) ?_
        clear hK K
        rw [← hgzE] at Z ⊢
        clear hgzE
        generalize wd.alloc (.cells #[.int .i64 0, .int .i64 0] 39) = wz at *
        try simp only [Act.put, List.getElem_toArray, List.getElem_cons_succ, List.getElem_cons_zero, List.setIfInBounds_toArray, List.set_cons_zero, List.set_cons_succ]
        refine wpAnyI_one (i := 2) rfl (by kernel_rfl) (fun K hK => ?_)
        dsimp only [List.getElem_toArray, List.getElem_cons_succ, List.getElem_cons_zero]
        go_simp
        refine (HT.out _ Kx.out).mono ?_
        rintro e w14 ⟨A14, c14, rfl, o14, k14⟩
        try (replace Z := Lib.hid (Z.out.keep k14.out (by simp)))
        replace Kx := Lib.hid (Kx.out.trans k14.out)
        have HS := HSf.out _ Kx.out
        clear k14
        refine hK _ _ (Or.inr HS) ?_
        clear hK K
        try simp only [Act.put, List.getElem_toArray, List.getElem_cons_succ, List.getElem_cons_zero, List.setIfInBounds_toArray, List.set_cons_zero, List.set_cons_succ]
        refine wpAnyI_one (i := 3) rfl (by kernel_rfl) (fun K hK => ?_)
        dsimp only [List.getElem_toArray, List.getElem_cons_succ, List.getElem_cons_zero]
        go_simp
        refine (HR.out _ _ A14 c14 Kx.out o14.out).mono ?_
        rintro e w19 ⟨rfl, k19⟩
        try (replace Z := Lib.hid (Z.out.keep k19.out (by simp)))
        replace Kx := Lib.hid (Kx.out.trans k19.out)
        have HS := HSf.out _ Kx.out
        clear k19 o14
        refine hK _ _ (Or.inr HS) ?_
        clear hK K
        try simp only [Act.put, List.getElem_toArray, List.getElem_cons_succ, List.getElem_cons_zero, List.setIfInBounds_toArray, List.set_cons_zero, List.set_cons_succ]
        refine wpAnyI_takeN (i := 4) (v := ?_) (by kernel_rfl) rfl (by kernel_rfl) (by kernel_rfl) (by kernel_rfl) (fun _ _ _ h => h) HS (Or.inl ⟨by rfl, ?_⟩) ?_
        rotate_left
        · (intro w hSw; obtain ⟨y1, y2⟩ := hSw; go_simp; try with_reducible rfl)
        try simp only [Act.put, List.getElem_toArray, List.getElem_cons_succ, List.getElem_cons_zero, List.setIfInBounds_toArray, List.set_cons_zero, List.set_cons_succ]
        refine wpAnyI_takeN (i := 5) (v := ?_) (by kernel_rfl) rfl (by kernel_rfl) (by kernel_rfl) (by kernel_rfl) (fun _ _ _ h => h) HS (Or.inl ⟨by rfl, ?_⟩) ?_
        rotate_left
        · (intro w hSw; obtain ⟨y1, y2⟩ := hSw; go_simp; try with_reducible rfl)
        try simp only [Act.put, List.getElem_toArray, List.getElem_cons_succ, List.getElem_cons_zero, List.setIfInBounds_toArray, List.set_cons_zero, List.set_cons_succ]
        refine wpAnyI_takeN (i := 6) (v := ?_) (by kernel_rfl) rfl (by kernel_rfl) (by kernel_rfl) (by kernel_rfl) (fun _ _ _ h => h) HS (Or.inl ⟨by rfl, ?_⟩) ?_
        rotate_left
        · (intro w hSw; obtain ⟨y1, y2⟩ := hSw; go_simp; try with_reducible rfl)
        try simp only [Act.put, List.getElem_toArray, List.getElem_cons_succ, List.getElem_cons_zero, List.setIfInBounds_toArray, List.set_cons_zero, List.set_cons_succ]
        refine wpAnyI_one (i := 8) rfl (by kernel_rfl) (fun K hK => ?_)
        dsimp only [List.getElem_toArray, List.getElem_cons_succ, List.getElem_cons_zero]
        rw [if_pos (by rfl)]
        refine wp_store_all 39 (.tmp 5) (.tmp 25) (by rfl) gz (by rfl) 39 [.int .i64 0, .int .i64 0] [.int .i64 q1, .int .i64 q2] (by rfl) Z.out (by kernel_rfl) (by rfl) (by simp [Value.oneCell']) ?_
        intro w8 C8 k8
        replace Kx := Lib.hid (keeps_via Kx.out hgz.out k8)
        have HS := HSf.out _ Kx.out
        clear k8 Z
        refine hK _ _ (Or.inr HS) ?_
        clear hK K
        try simp only [Act.put, List.getElem_toArray, List.getElem_cons_succ, List.getElem_cons_zero, List.setIfInBounds_toArray, List.set_cons_zero, List.set_cons_succ]
        refine wpAnyI_takeN (i := 9) (v := ?_) (by kernel_rfl) rfl (by kernel_rfl) (by kernel_rfl) (by kernel_rfl) (fun _ _ _ h => h) HS (Or.inl ⟨by rfl, ?_⟩) ?_
        rotate_left
        · (intro w hSw; obtain ⟨y1, y2⟩ := hSw; go_simp; try with_reducible rfl)
        try simp only [Act.put, List.getElem_toArray, List.getElem_cons_succ, List.getElem_cons_zero, List.setIfInBounds_toArray, List.set_cons_zero, List.set_cons_succ]
        refine wpAnyI_done (by kernel_rfl) ?_ _
        go_wp2_with fail
        go_meet
        exact ⟨gz, rfl, rfl, C8, hgz, Kx⟩
    case rest =>
      obtain ⟨g5, rfl, rfl, B5, hg5, K5⟩ := hcut
      have B2 := Lib.hid (B6d.out.keep K5.out (by simp))
      have K := Lib.hid (K2d.out.trans K5.out)
      clear HT HR HSf h0 B6d K2d K5 hg5
      have z2 := B2.out.cell
      have hgm := hm64.out
      have hn63 : n ≤ 64 := by have := hGL.out.few; rw [hn.out] at this; exact this
      go_wp2_with fail
      go_loopw [30] (fun i wr => ∃ k : Nat, k ≤ n ∧ i = .int .i64 k ∧ Hid ((co.take k).any (hole D) = false) ∧ Hid (Blk wr g5 39 #[.int .i64 q1, .int .i64 q2]) ∧ Hid (Blk wr g2 44 #[.int .i64 c, .slice Ac n cc]) ∧ Hid (Keeps [] w wr)) (fun i _ => n - (intOf i).toNat)
      case atStart => exact ⟨0, Nat.zero_le _, rfl, Lib.hid rfl, B5, B2, K⟩
      case round =>
        obtain ⟨k, hk, rfl, hno, B5', B2', hkw⟩ := hrel
        clear B5 B2 K z2
        obtain ⟨wi, hwX⟩ : ∃ x, x = wr := ⟨_, rfl⟩
        subst hwX
        by_cases hlt : k < n
        · obtain ⟨⟨V, N⟩, hx⟩ : ∃ x, co[k]? = some x := ⟨co[k]'(by rw [hn.out]; exact hlt), List.getElem?_eq_getElem _⟩
          have hxm := List.mem_of_getElem? hx
          obtain ⟨g, off, rfl, _, c0, c1⟩ := (hC.out.keep hkw.out (by simp)) k _ hx
          obtain ⟨Vn, ⟨d1, d2⟩, hV, hdv, hdg, _, _⟩ := dom_get hGL.out hxm
          dsimp only at c0 c1 hV
          subst hV
          obtain ⟨gd, offd, rfl, _, e0, e1⟩ := (hD.out.keep hkw.out (by simp)) Vn _ hdv
          dsimp only at e0 e1 hdg
          have hki : (k : Int) < (n : Int) := by omega
          have hVm : (Vn : Int) < (m : Int) := by have := (hGL.out.var _ hxm).2; dsimp only at this; rw [hm.out] at this; exact this
          have hh : hole D ((Vn : Int), N) = (decide (N ≠ 0) && !full (d1, d2)) := by unfold hole; dsimp only; rw [hdg]
          have hst : (co.take (k + 1)).any (hole D) = (decide (N ≠ 0) && !full (d1, d2)) := by
            rw [List.take_add_one, hx, List.any_append, hno.out]
            simp [hh]
          have hex : Hid (∃ x ∈ co, hole D x = (decide (N ≠ 0) && !full (d1, d2))) := Lib.hid ⟨_, hxm, hh⟩
          have kA : Keeps [] wi ((wi.alloc (.cells #[.int .i64 (Vn : Nat), .int .i64 N] 50)).alloc (.cells #[.int .i64 d1, .int .i64 d2] 38)) := ((Keeps.refl [] wi).alloc _).alloc _
          have e0' := ((Keeps.refl [] wi).alloc (.cells #[.int .i64 (Vn : Nat), .int .i64 N] 50)).cellEq e0 (by simp)
          have e1' := ((Keeps.refl [] wi).alloc (.cells #[.int .i64 (Vn : Nat), .int .i64 N] 50)).cellEq e1 (by simp)
          have B5a := Lib.hid (B5'.out.keep kA (by simp))
          have B2a := Lib.hid (B2'.out.keep kA (by simp))
          have Ka := Lib.hid (hkw.out.trans kA)
          have z5 := B5a.out.cell
          replace hx := Lib.hid hx
          replace hxm := Lib.hid hxm
          replace hdv := Lib.hid hdv
          clear hdg hh kA e0 e1
          by_cases hN : N = 0
          · have hst2 : Hid ((co.take (k + 1)).any (hole D) = false) := Lib.hid (by rw [hst]; simp [hN])
            subst hN
            clear hst
            go_wp2_with fail
            go_roundw
            case rel => exact ⟨k + 1, by omega, by go_num, hst2, B5a, B2a, Ka⟩
            case measure => simp [intOf]; omega
          · have hb : (N != 0) = true := by simpa using hN
            by_cases hf : d1 > d2
            · have hqv : Hid (((q1, q2), qb) = (((0, 0), false) : Iv × Bool)) := Lib.hid (by
                rw [← hq.out]
                unfold rngM
                rw [if_pos]
                obtain ⟨x, hx1, hx2⟩ := hex.out
                refine List.any_eq_true.2 ⟨x, hx1, ?_⟩
                rw [hx2]
                unfold full
                simp [hN]
                omega)
              have h1 := hqv.out
              simp only [Prod.mk.injEq] at h1
              obtain ⟨⟨rfl, rfl⟩, rfl⟩ := h1
              clear hst
              replace hN := Lib.hid hN
              go_wp2_with fail
              go_ret
              exact ⟨rfl, Ka.out⟩
            · have hst2 : Hid ((co.take (k + 1)).any (hole D) = false) := Lib.hid (by rw [hst]; unfold full; simp; intro; omega)
              clear hst
              replace hN := Lib.hid hN
              go_wp2_with fail
              go_roundw
              case rel => exact ⟨k + 1, by omega, by go_num, hst2, B5a, B2a, Ka⟩
              case measure => simp [intOf]; omega
        · obtain rfl : k = n := by omega
          have hkf : ¬ (k : Int) < (k : Int) := by omega
          have hno' := hno.out
          rw [List.take_of_length_le (by rw [hn.out]; exact Nat.le_refl _)] at hno'
          have hqv : Hid (((q1, q2), qb) = (woM D (-1) co c, true)) := Lib.hid (by
            rw [← hq.out]
            unfold rngM
            rw [if_neg (by rw [hno']; simp)])
          have hrr : Hid (rrM D co c = (q1, q2)) := Lib.hid (by
            have h1 := hqv.out
            simp only [Prod.mk.injEq] at h1
            rw [rrM_woM (v := -1) (fun x hx => by have := List.any_eq_false.1 hno' x hx; simpa using this) (fun x hx => by have := (hGL.out.var x hx).1; omega)]
            exact h1.1.symm)
          have hqt : qb = true := by have h1 := hqv.out; simp only [Prod.mk.injEq] at h1; exact h1.2
          subst hqt
          have HRR := rrange_any wi w.heap.size Ac Ad D co c k cc m cd hn.out hm.out (hC.out.keep hkw.out (by simp)) (hD.out.keep hkw.out (by simp)) hkw.out.size hGL.out (by omega)
          rw [hrr.out] at HRR
          unfold NarPost at HRR
          dsimp only at HRR
          replace HRR := Lib.hid HRR
          have z2 := B2'.out.cell
          clear hno'
          go_wp2_with fail
          refine HRR.out.mono ?_
          rintro e w9 ⟨rfl, k9⟩
          have z5 := ((B5'.out.keep k9 (by simp)).keep ((Keeps.refl [] w9).alloc (.cells #[.int .i64 q1, .int .i64 q2] 38)) (by simp)).cell
          have K9 := Lib.hid ((hkw.out.trans k9).alloc (.cells #[.int .i64 q1, .int .i64 q2] 38))
          clear HRR k9 z2
          go_wp2_with fail
          go_ret
          exact ⟨rfl, K9.out⟩
end Go.Proofs.Ythmnolpamllabaa
