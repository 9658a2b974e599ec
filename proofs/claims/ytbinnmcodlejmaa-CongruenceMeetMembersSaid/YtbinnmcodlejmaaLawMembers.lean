/- The walk of the law CongruenceMeetMembers: it returns true, and of what was there nothing has turned. -/
import Derived.Test.YtbinnmcodlejmaaCong10
import Derived.Test.YtbinnmcodlejmaaCong11
import Derived.Test.YtbinnmcodlejmaaReg
namespace Go.Proofs.Ytbinnmcodlejmaa
open Go.RowKit
set_option linter.unusedSimpArgs false
set_option linter.unusedVariables false

set_option maxHeartbeats 3200000 in
set_option maxRecDepth 100000 in
theorem law_members (aR aM bR bM n : Int) (w : World) (h0 : -9223372036854775808 ≤ n) (h1 : n ≤ 9223372036854775807) :
    Calls Try.prog 11 #[.agg #[.int .i64 aR, .int .i64 aM], .agg #[.int .i64 bR, .int .i64 bM], .int .i64 n] w (Gives (.bool true) w) := by
  go_enter Try.func11, Try.ntmps11
  go_wp2_with fail
  refine (awake_any _).mono ?_
  rintro e w1 ⟨rfl, k1⟩
  have A := ((Blk.new w 28 #[.int .i64 aR, .int .i64 aM]).alloc (.cells #[.int .i64 bR, .int .i64 bM] 28)).keep k1 (by simp)
  have B := Blk.new (w.alloc (.cells #[.int .i64 aR, .int .i64 aM] 28)) 28 #[.int .i64 bR, .int .i64 bM]
  rw [World.size_alloc] at B
  replace B := B.keep k1 (by simp)
  replace k1 := Lib.hid ((((Keeps.refl [] w).alloc _).alloc _).trans k1)
  have a0 : w1.cell? ⟨w.heap.size, 0, none⟩ = some (.int .i64 aR) := by have := A.cell 0; simpa using this
  have a1 : w1.cell? ⟨w.heap.size, 1, none⟩ = some (.int .i64 aM) := by have := A.cell 1; simpa using this
  have b0 : w1.cell? ⟨w.heap.size + 1, 0, none⟩ = some (.int .i64 bR) := by have := B.cell 0; simpa using this
  have b1 : w1.cell? ⟨w.heap.size + 1, 1, none⟩ = some (.int .i64 bM) := by have := B.cell 1; simpa using this
  have HK : Hid (Keeps [] w1 w1.drew) := Lib.hid (Keeps.refl _ _).drew
  replace A := Lib.hid A
  replace B := Lib.hid B
  have tok1 : True := trivial
  go_upto_region 3 with fail
  go_cut [7, 8, 9] (fun s5 s6 s7 wx => ∃ g cR cM ok er, s5 = .pointer (some ⟨g, 0, none⟩) ∧ s6 = .bool ok ∧ s7 = .int .i64 er ∧ wx.cell? ⟨g, 0, none⟩ = some (.int .i64 cR) ∧ wx.cell? ⟨g, 1, none⟩ = some (.int .i64 cM) ∧ Hid (MeetRes aR aM bR bM cR cM ok er) ∧ Hid (Keeps [] w1 wx))
  case first =>
    go_region_held3 (fun w' => w'.cell? ⟨w.heap.size, 0, none⟩ = some (.int .i64 aR) ∧ w'.cell? ⟨w.heap.size, 1, none⟩ = some (.int .i64 aM) ∧ w'.cell? ⟨w.heap.size + 1, 0, none⟩ = some (.int .i64 bR) ∧ w'.cell? ⟨w.heap.size + 1, 1, none⟩ = some (.int .i64 bM))
      ((refine (fun (kk : Keeps [] w1 _) => ⟨kk.cellEq a0 (by simp), kk.cellEq a1 (by simp), kk.cellEq b0 (by simp), kk.cellEq b1 (by simp)⟩) ?_; first | exact HK.out | exact HK.out.alloc _ | exact (HK.out.setCell (.inr (by dsimp only; omega)) _).setCell (.inr (by dsimp only; omega)) _ | exact ((HK.out.alloc _).setCell (.inr (by dsimp only; omega)) _).setCell (.inr (by dsimp only; omega)) _))
      (first
        | (go_at_call 17; have _t := tok1; refine (to_keeps _ _ _).mono ?_; rintro e wA ⟨rfl, hk⟩; obtain ⟨hcA, hfA⟩ := bcell hk.below; have zA := hk.size; have yA := fun b h => Nat.lt_of_lt_of_le (n := b) h hk.size; (try simp only [World.size_alloc, World.size_drew] at zA yA); replace HK : Hid (Keeps [] w1 wA) := Lib.hid (by first | exact HK.out.trans hk | exact (HK.out.alloc _).trans hk); clear hk tok1 _t)
        | (go_at_call 17; refine (to_keeps _ _ _).mono ?_; rintro e wB ⟨rfl, hk⟩; obtain ⟨hcB, hfB⟩ := bcell hk.below; have zB := hk.size; have yB := fun b h => Nat.lt_of_lt_of_le (n := b) h hk.size; (try simp only [World.size_alloc, World.size_drew] at zB yB); (try have yAB := fun b h => yB b (yA b h)); replace HK : Hid (Keeps [] w1 wB) := Lib.hid (by first | exact HK.out.trans hk | exact (HK.out.alloc _).trans hk); clear hk)
        | (go_at_call 16; refine (meet2 _ _ _ _ _).mono ?_; rintro e wC ⟨cR, cM, ok, er, rfl, hS, hk⟩; replace hS := Lib.hid hS; obtain ⟨hcC, hfC⟩ := bcell hk.below; have zC := hk.size; (try simp only [World.size_alloc, World.size_drew] at zC); replace HK : Hid (Keeps [] w1 wC) := Lib.hid (by first | exact HK.out.trans hk | exact (HK.out.alloc _).trans hk); clear hk))
    all_goals
      go_wp2_with fail
      go_meet
      refine ⟨_, cR, cM, ok, er, rfl, rfl, rfl, ?_, ?_, hS, Lib.hid ?_⟩
      · first
          | (simp [World.cell?_alloc_new]; done)
          | exact (two_set (u0 := .int .i64 0) (u1 := .int .i64 0) (by refine (hcC _ _ ?_).trans ?_; (focus (first | omega | (simp; done) | (simp; omega))); first | exact new_zero _ 0 (by omega) | (refine (hcB _ _ ?_).trans ?_; (focus (first | omega | (simp; done) | (simp; omega))); first | exact new_zero _ 0 (by omega) | (refine (hcA _ _ ?_).trans ?_; (focus (first | omega | (simp; done) | (simp; omega))); first | exact new_zero' _ 0 (.inl rfl) | (simp; done)))) (by refine (hcC _ _ ?_).trans ?_; (focus (first | omega | (simp; done) | (simp; omega))); first | exact new_zero _ 1 (by omega) | (refine (hcB _ _ ?_).trans ?_; (focus (first | omega | (simp; done) | (simp; omega))); first | exact new_zero _ 1 (by omega) | (refine (hcA _ _ ?_).trans ?_; (focus (first | omega | (simp; done) | (simp; omega))); first | exact new_zero' _ 1 (.inr rfl) | (simp; done))))).1
      · first
          | (simp [World.cell?_alloc_new]; done)
          | exact (two_set (u0 := .int .i64 0) (u1 := .int .i64 0) (by refine (hcC _ _ ?_).trans ?_; (focus (first | omega | (simp; done) | (simp; omega))); first | exact new_zero _ 0 (by omega) | (refine (hcB _ _ ?_).trans ?_; (focus (first | omega | (simp; done) | (simp; omega))); first | exact new_zero _ 0 (by omega) | (refine (hcA _ _ ?_).trans ?_; (focus (first | omega | (simp; done) | (simp; omega))); first | exact new_zero' _ 0 (.inl rfl) | (simp; done)))) (by refine (hcC _ _ ?_).trans ?_; (focus (first | omega | (simp; done) | (simp; omega))); first | exact new_zero _ 1 (by omega) | (refine (hcB _ _ ?_).trans ?_; (focus (first | omega | (simp; done) | (simp; omega))); first | exact new_zero _ 1 (by omega) | (refine (hcA _ _ ?_).trans ?_; (focus (first | omega | (simp; done) | (simp; omega))); first | exact new_zero' _ 1 (.inr rfl) | (simp; done))))).2
      · first | exact HK.out.alloc _ | exact (HK.out.setCell (.inr (by dsimp only; omega)) _).setCell (.inr (by dsimp only; omega)) _
  case rest =>
    obtain ⟨g, cR, cM, ok, er, rfl, rfl, rfl, g0, g1, hS, HK'⟩ := hcut
    have SX : Six wc w.heap.size (w.heap.size + 1) g aR aM bR bM cR cM :=
      ⟨HK'.out.cellEq a0 (by simp), HK'.out.cellEq a1 (by simp), HK'.out.cellEq b0 (by simp), HK'.out.cellEq b1 (by simp), g0, g1⟩
    replace HK' := Lib.hid (k1.out.trans HK'.out)
    clear a0 a1 b0 b1 g0 g1 HK A B tok1 k1
    have KK := HK'
    clear HK'
    obtain ⟨a0, a1, b0, b1, g0, g1⟩ := SX
    by_cases he : er = 0
    · have hbool : (ok && memB cR cM n) = (memB aR aM n && memB bR bM n) := by
        rcases hS.out with ⟨_, _, _, _, h⟩ | ⟨ha, hb, ⟨hd, _, _, h, _⟩ | ⟨_, _, _, _, _, h⟩ | ⟨_, hcM, hV, h4, h5, h, _⟩⟩
        · omega
        · rw [h, mem_no ha hb hd]; rfl
        · omega
        · rw [h, mem_yes (n := n) ha hb hV hcM h4 h5]; rfl
      have R0 := fun w => contains_any cR cM n w h0 h1
      have R1 := fun w => rcontains_any aR aM n w h0 h1
      have R2 := fun w => rcontains_any bR bM n w h0 h1
      subst he
      generalize memB cR cM n = xc at *
      generalize memB aR aM n = xa at *
      generalize memB bR bM n = xb at *
      replace R0 := Lib.hid R0
      replace R1 := Lib.hid R1
      replace R2 := Lib.hid R2
      clear hS
      go_wp2_with fail
      have HK : Hid (Keeps [] wc wc.drew) := Lib.hid (Keeps.refl _ _).drew
      cases ok <;> cases xa
      · replace hbool := Lib.hid hbool
        refine wp_region_I (S := (fun w' => w'.cell? ⟨w.heap.size, 0, none⟩ = some (.int .i64 aR) ∧ w'.cell? ⟨w.heap.size, 1, none⟩ = some (.int .i64 aM) ∧ w'.cell? ⟨w.heap.size + 1, 0, none⟩ = some (.int .i64 bR) ∧ w'.cell? ⟨w.heap.size + 1, 1, none⟩ = some (.int .i64 bM) ∧ w'.cell? ⟨g, 0, none⟩ = some (.int .i64 cR) ∧ w'.cell? ⟨g, 1, none⟩ = some (.int .i64 cM))) (n := 15) (by kernel_rfl) ?_
        have HS := (⟨HK.out.cellEq a0 (by simp), HK.out.cellEq a1 (by simp), HK.out.cellEq b0 (by simp), HK.out.cellEq b1 (by simp), HK.out.cellEq g0 (by simp), HK.out.cellEq g1 (by simp)⟩ : _ ∧ _ ∧ _ ∧ _ ∧ _ ∧ _)
        refine wpAnyI_take (i := 0) (v := ?_) (by kernel_rfl) rfl (by kernel_rfl) (by kernel_rfl) (by kernel_rfl) (fun _ _ _ h => h) HS (Or.inl ⟨by rfl, ?_⟩) ?_
        rotate_left
        · (intro w hSw; obtain ⟨q1, q2, q3, q4, q5, q6⟩ := hSw; go_simp; try with_reducible rfl)
        try simp only [Act.put, List.getElem_toArray, List.getElem_cons_succ, List.getElem_cons_zero, List.setIfInBounds_toArray, List.set_cons_zero, List.set_cons_succ]
        refine wpAnyI_take (i := 1) (v := ?_) (by kernel_rfl) rfl (by kernel_rfl) (by kernel_rfl) (by kernel_rfl) (fun _ _ _ h => h) HS (Or.inl ⟨by rfl, ?_⟩) ?_
        rotate_left
        · (intro w hSw; obtain ⟨q1, q2, q3, q4, q5, q6⟩ := hSw; go_simp; try with_reducible rfl)
        try simp only [Act.put, List.getElem_toArray, List.getElem_cons_succ, List.getElem_cons_zero, List.setIfInBounds_toArray, List.set_cons_zero, List.set_cons_succ]
        refine wpAnyI_take (i := 2) (v := undef) (by kernel_rfl) rfl (by kernel_rfl) (by kernel_rfl) (by kernel_rfl) (fun _ _ _ h => h) HS (Or.inr ⟨by rfl, rfl⟩) ?_
        try simp only [Act.put, List.getElem_toArray, List.getElem_cons_succ, List.getElem_cons_zero, List.setIfInBounds_toArray, List.set_cons_zero, List.set_cons_succ]
        refine wpAnyI_take (i := 3) (v := undef) (by kernel_rfl) rfl (by kernel_rfl) (by kernel_rfl) (by kernel_rfl) (fun _ _ _ h => h) HS (Or.inr ⟨by rfl, rfl⟩) ?_
        try simp only [Act.put, List.getElem_toArray, List.getElem_cons_succ, List.getElem_cons_zero, List.setIfInBounds_toArray, List.set_cons_zero, List.set_cons_succ]
        refine wpAnyI_take (i := 4) (v := undef) (by kernel_rfl) rfl (by kernel_rfl) (by kernel_rfl) (by kernel_rfl) (fun _ _ _ h => h) HS (Or.inr ⟨by rfl, rfl⟩) ?_
        try simp only [Act.put, List.getElem_toArray, List.getElem_cons_succ, List.getElem_cons_zero, List.setIfInBounds_toArray, List.set_cons_zero, List.set_cons_succ]
        refine wpAnyI_take (i := 5) (v := ?_) (by kernel_rfl) rfl (by kernel_rfl) (by kernel_rfl) (by kernel_rfl) (fun _ _ _ h => h) HS (Or.inl ⟨by rfl, ?_⟩) ?_
        rotate_left
        · (intro w hSw; obtain ⟨q1, q2, q3, q4, q5, q6⟩ := hSw; go_simp; try with_reducible rfl)
        try simp only [Act.put, List.getElem_toArray, List.getElem_cons_succ, List.getElem_cons_zero, List.setIfInBounds_toArray, List.set_cons_zero, List.set_cons_succ]
        refine wpAnyI_take (i := 6) (v := ?_) (by kernel_rfl) rfl (by kernel_rfl) (by kernel_rfl) (by kernel_rfl) (fun _ _ _ h => h) HS (Or.inl ⟨by rfl, ?_⟩) ?_
        rotate_left
        · (intro w hSw; obtain ⟨q1, q2, q3, q4, q5, q6⟩ := hSw; go_simp; try with_reducible rfl)
        try simp only [Act.put, List.getElem_toArray, List.getElem_cons_succ, List.getElem_cons_zero, List.setIfInBounds_toArray, List.set_cons_zero, List.set_cons_succ]
        refine wpAnyI_take (i := 7) (v := ?_) (by kernel_rfl) rfl (by kernel_rfl) (by kernel_rfl) (by kernel_rfl) (fun _ _ _ h => h) HS (Or.inl ⟨by rfl, ?_⟩) ?_
        rotate_left
        · (intro w hSw; obtain ⟨q1, q2, q3, q4, q5, q6⟩ := hSw; go_simp; try with_reducible rfl)
        try simp only [Act.put, List.getElem_toArray, List.getElem_cons_succ, List.getElem_cons_zero, List.setIfInBounds_toArray, List.set_cons_zero, List.set_cons_succ]
        refine wpAnyI_one (i := 8) rfl (by kernel_rfl) (fun K hK => ?_)
        dsimp only [List.getElem_toArray, List.getElem_cons_succ, List.getElem_cons_zero]
        go_simp
        go_wp2_with ((refine (R1.out _).mono ?_); rintro e w' ⟨rfl, hk⟩)
        replace HK := Lib.hid (HK.out.trans hk)
        clear hk
        have HS := (⟨HK.out.cellEq a0 (by simp), HK.out.cellEq a1 (by simp), HK.out.cellEq b0 (by simp), HK.out.cellEq b1 (by simp), HK.out.cellEq g0 (by simp), HK.out.cellEq g1 (by simp)⟩ : _ ∧ _ ∧ _ ∧ _ ∧ _ ∧ _)
        refine hK _ _ (Or.inr HS) ?_
        clear hK K
        try simp only [Act.put, List.getElem_toArray, List.getElem_cons_succ, List.getElem_cons_zero, List.setIfInBounds_toArray, List.set_cons_zero, List.set_cons_succ]
        refine wpAnyI_take (i := 9) (v := ?_) (by kernel_rfl) rfl (by kernel_rfl) (by kernel_rfl) (by kernel_rfl) (fun _ _ _ h => h) HS (Or.inl ⟨by rfl, ?_⟩) ?_
        rotate_left
        · (intro w hSw; obtain ⟨q1, q2, q3, q4, q5, q6⟩ := hSw; go_simp; try with_reducible rfl)
        try simp only [Act.put, List.getElem_toArray, List.getElem_cons_succ, List.getElem_cons_zero, List.setIfInBounds_toArray, List.set_cons_zero, List.set_cons_succ]
        refine wpAnyI_take (i := 10) (v := undef) (by kernel_rfl) rfl (by kernel_rfl) (by kernel_rfl) (by kernel_rfl) (fun _ _ _ h => h) HS (Or.inr ⟨by rfl, rfl⟩) ?_
        try simp only [Act.put, List.getElem_toArray, List.getElem_cons_succ, List.getElem_cons_zero, List.setIfInBounds_toArray, List.set_cons_zero, List.set_cons_succ]
        refine wpAnyI_take (i := 11) (v := undef) (by kernel_rfl) rfl (by kernel_rfl) (by kernel_rfl) (by kernel_rfl) (fun _ _ _ h => h) HS (Or.inr ⟨by rfl, rfl⟩) ?_
        try simp only [Act.put, List.getElem_toArray, List.getElem_cons_succ, List.getElem_cons_zero, List.setIfInBounds_toArray, List.set_cons_zero, List.set_cons_succ]
        refine wpAnyI_take (i := 12) (v := undef) (by kernel_rfl) rfl (by kernel_rfl) (by kernel_rfl) (by kernel_rfl) (fun _ _ _ h => h) HS (Or.inr ⟨by rfl, rfl⟩) ?_
        try simp only [Act.put, List.getElem_toArray, List.getElem_cons_succ, List.getElem_cons_zero, List.setIfInBounds_toArray, List.set_cons_zero, List.set_cons_succ]
        refine wpAnyI_take (i := 13) (v := ?_) (by kernel_rfl) rfl (by kernel_rfl) (by kernel_rfl) (by kernel_rfl) (fun _ _ _ h => h) HS (Or.inl ⟨by rfl, ?_⟩) ?_
        rotate_left
        · (intro w hSw; obtain ⟨q1, q2, q3, q4, q5, q6⟩ := hSw; go_simp; try with_reducible rfl)
        try simp only [Act.put, List.getElem_toArray, List.getElem_cons_succ, List.getElem_cons_zero, List.setIfInBounds_toArray, List.set_cons_zero, List.set_cons_succ]
        refine wpAnyI_take (i := 14) (v := ?_) (by kernel_rfl) rfl (by kernel_rfl) (by kernel_rfl) (by kernel_rfl) (fun _ _ _ h => h) HS (Or.inl ⟨by rfl, ?_⟩) ?_
        rotate_left
        · (intro w hSw; obtain ⟨q1, q2, q3, q4, q5, q6⟩ := hSw; go_simp; try with_reducible rfl)
        try simp only [Act.put, List.getElem_toArray, List.getElem_cons_succ, List.getElem_cons_zero, List.setIfInBounds_toArray, List.set_cons_zero, List.set_cons_succ]
        refine wpAnyI_one (i := 15) rfl (by kernel_rfl) (fun K hK => ?_)
        dsimp only [List.getElem_toArray, List.getElem_cons_succ, List.getElem_cons_zero]
        go_simp
        refine hK _ _ (Or.inl rfl) ?_
        clear hK K
        try simp only [Act.put, List.getElem_toArray, List.getElem_cons_succ, List.getElem_cons_zero, List.setIfInBounds_toArray, List.set_cons_zero, List.set_cons_succ]
        refine wpAnyI_done (by kernel_rfl) ?_ _
        go_wp2_with fail
        go_ret
        have hb := hbool.out
        exact ⟨by simp at hb ⊢; try exact hb, KK.out.trans HK.out⟩
      · replace hbool := Lib.hid hbool
        refine wp_region_I (S := (fun w' => w'.cell? ⟨w.heap.size, 0, none⟩ = some (.int .i64 aR) ∧ w'.cell? ⟨w.heap.size, 1, none⟩ = some (.int .i64 aM) ∧ w'.cell? ⟨w.heap.size + 1, 0, none⟩ = some (.int .i64 bR) ∧ w'.cell? ⟨w.heap.size + 1, 1, none⟩ = some (.int .i64 bM) ∧ w'.cell? ⟨g, 0, none⟩ = some (.int .i64 cR) ∧ w'.cell? ⟨g, 1, none⟩ = some (.int .i64 cM))) (n := 15) (by kernel_rfl) ?_
        have HS := (⟨HK.out.cellEq a0 (by simp), HK.out.cellEq a1 (by simp), HK.out.cellEq b0 (by simp), HK.out.cellEq b1 (by simp), HK.out.cellEq g0 (by simp), HK.out.cellEq g1 (by simp)⟩ : _ ∧ _ ∧ _ ∧ _ ∧ _ ∧ _)
        refine wpAnyI_take (i := 0) (v := ?_) (by kernel_rfl) rfl (by kernel_rfl) (by kernel_rfl) (by kernel_rfl) (fun _ _ _ h => h) HS (Or.inl ⟨by rfl, ?_⟩) ?_
        rotate_left
        · (intro w hSw; obtain ⟨q1, q2, q3, q4, q5, q6⟩ := hSw; go_simp; try with_reducible rfl)
        try simp only [Act.put, List.getElem_toArray, List.getElem_cons_succ, List.getElem_cons_zero, List.setIfInBounds_toArray, List.set_cons_zero, List.set_cons_succ]
        refine wpAnyI_take (i := 1) (v := ?_) (by kernel_rfl) rfl (by kernel_rfl) (by kernel_rfl) (by kernel_rfl) (fun _ _ _ h => h) HS (Or.inl ⟨by rfl, ?_⟩) ?_
        rotate_left
        · (intro w hSw; obtain ⟨q1, q2, q3, q4, q5, q6⟩ := hSw; go_simp; try with_reducible rfl)
        try simp only [Act.put, List.getElem_toArray, List.getElem_cons_succ, List.getElem_cons_zero, List.setIfInBounds_toArray, List.set_cons_zero, List.set_cons_succ]
        refine wpAnyI_take (i := 2) (v := undef) (by kernel_rfl) rfl (by kernel_rfl) (by kernel_rfl) (by kernel_rfl) (fun _ _ _ h => h) HS (Or.inr ⟨by rfl, rfl⟩) ?_
        try simp only [Act.put, List.getElem_toArray, List.getElem_cons_succ, List.getElem_cons_zero, List.setIfInBounds_toArray, List.set_cons_zero, List.set_cons_succ]
        refine wpAnyI_take (i := 3) (v := undef) (by kernel_rfl) rfl (by kernel_rfl) (by kernel_rfl) (by kernel_rfl) (fun _ _ _ h => h) HS (Or.inr ⟨by rfl, rfl⟩) ?_
        try simp only [Act.put, List.getElem_toArray, List.getElem_cons_succ, List.getElem_cons_zero, List.setIfInBounds_toArray, List.set_cons_zero, List.set_cons_succ]
        refine wpAnyI_take (i := 4) (v := undef) (by kernel_rfl) rfl (by kernel_rfl) (by kernel_rfl) (by kernel_rfl) (fun _ _ _ h => h) HS (Or.inr ⟨by rfl, rfl⟩) ?_
        try simp only [Act.put, List.getElem_toArray, List.getElem_cons_succ, List.getElem_cons_zero, List.setIfInBounds_toArray, List.set_cons_zero, List.set_cons_succ]
        refine wpAnyI_take (i := 5) (v := ?_) (by kernel_rfl) rfl (by kernel_rfl) (by kernel_rfl) (by kernel_rfl) (fun _ _ _ h => h) HS (Or.inl ⟨by rfl, ?_⟩) ?_
        rotate_left
        · (intro w hSw; obtain ⟨q1, q2, q3, q4, q5, q6⟩ := hSw; go_simp; try with_reducible rfl)
        try simp only [Act.put, List.getElem_toArray, List.getElem_cons_succ, List.getElem_cons_zero, List.setIfInBounds_toArray, List.set_cons_zero, List.set_cons_succ]
        refine wpAnyI_take (i := 6) (v := ?_) (by kernel_rfl) rfl (by kernel_rfl) (by kernel_rfl) (by kernel_rfl) (fun _ _ _ h => h) HS (Or.inl ⟨by rfl, ?_⟩) ?_
        rotate_left
        · (intro w hSw; obtain ⟨q1, q2, q3, q4, q5, q6⟩ := hSw; go_simp; try with_reducible rfl)
        try simp only [Act.put, List.getElem_toArray, List.getElem_cons_succ, List.getElem_cons_zero, List.setIfInBounds_toArray, List.set_cons_zero, List.set_cons_succ]
        refine wpAnyI_take (i := 7) (v := ?_) (by kernel_rfl) rfl (by kernel_rfl) (by kernel_rfl) (by kernel_rfl) (fun _ _ _ h => h) HS (Or.inl ⟨by rfl, ?_⟩) ?_
        rotate_left
        · (intro w hSw; obtain ⟨q1, q2, q3, q4, q5, q6⟩ := hSw; go_simp; try with_reducible rfl)
        try simp only [Act.put, List.getElem_toArray, List.getElem_cons_succ, List.getElem_cons_zero, List.setIfInBounds_toArray, List.set_cons_zero, List.set_cons_succ]
        refine wpAnyI_one (i := 8) rfl (by kernel_rfl) (fun K hK => ?_)
        dsimp only [List.getElem_toArray, List.getElem_cons_succ, List.getElem_cons_zero]
        go_simp
        go_wp2_with ((refine (R1.out _).mono ?_); rintro e w' ⟨rfl, hk⟩)
        replace HK := Lib.hid (HK.out.trans hk)
        clear hk
        have HS := (⟨HK.out.cellEq a0 (by simp), HK.out.cellEq a1 (by simp), HK.out.cellEq b0 (by simp), HK.out.cellEq b1 (by simp), HK.out.cellEq g0 (by simp), HK.out.cellEq g1 (by simp)⟩ : _ ∧ _ ∧ _ ∧ _ ∧ _ ∧ _)
        refine hK _ _ (Or.inr HS) ?_
        clear hK K
        try simp only [Act.put, List.getElem_toArray, List.getElem_cons_succ, List.getElem_cons_zero, List.setIfInBounds_toArray, List.set_cons_zero, List.set_cons_succ]
        refine wpAnyI_take (i := 9) (v := ?_) (by kernel_rfl) rfl (by kernel_rfl) (by kernel_rfl) (by kernel_rfl) (fun _ _ _ h => h) HS (Or.inl ⟨by rfl, ?_⟩) ?_
        rotate_left
        · (intro w hSw; obtain ⟨q1, q2, q3, q4, q5, q6⟩ := hSw; go_simp; try with_reducible rfl)
        try simp only [Act.put, List.getElem_toArray, List.getElem_cons_succ, List.getElem_cons_zero, List.setIfInBounds_toArray, List.set_cons_zero, List.set_cons_succ]
        refine wpAnyI_take (i := 10) (v := ?_) (by kernel_rfl) rfl (by kernel_rfl) (by kernel_rfl) (by kernel_rfl) (fun _ _ _ h => h) HS (Or.inl ⟨by rfl, ?_⟩) ?_
        rotate_left
        · (intro w hSw; obtain ⟨q1, q2, q3, q4, q5, q6⟩ := hSw; go_simp; try with_reducible rfl)
        try simp only [Act.put, List.getElem_toArray, List.getElem_cons_succ, List.getElem_cons_zero, List.setIfInBounds_toArray, List.set_cons_zero, List.set_cons_succ]
        refine wpAnyI_take (i := 11) (v := ?_) (by kernel_rfl) rfl (by kernel_rfl) (by kernel_rfl) (by kernel_rfl) (fun _ _ _ h => h) HS (Or.inl ⟨by rfl, ?_⟩) ?_
        rotate_left
        · (intro w hSw; obtain ⟨q1, q2, q3, q4, q5, q6⟩ := hSw; go_simp; try with_reducible rfl)
        try simp only [Act.put, List.getElem_toArray, List.getElem_cons_succ, List.getElem_cons_zero, List.setIfInBounds_toArray, List.set_cons_zero, List.set_cons_succ]
        refine wpAnyI_one (i := 12) rfl (by kernel_rfl) (fun K hK => ?_)
        dsimp only [List.getElem_toArray, List.getElem_cons_succ, List.getElem_cons_zero]
        go_simp
        go_wp2_with ((refine (R2.out _).mono ?_); rintro e w' ⟨rfl, hk⟩)
        replace HK := Lib.hid (HK.out.trans hk)
        clear hk
        have HS := (⟨HK.out.cellEq a0 (by simp), HK.out.cellEq a1 (by simp), HK.out.cellEq b0 (by simp), HK.out.cellEq b1 (by simp), HK.out.cellEq g0 (by simp), HK.out.cellEq g1 (by simp)⟩ : _ ∧ _ ∧ _ ∧ _ ∧ _ ∧ _)
        refine hK _ _ (Or.inr HS) ?_
        clear hK K
        try simp only [Act.put, List.getElem_toArray, List.getElem_cons_succ, List.getElem_cons_zero, List.setIfInBounds_toArray, List.set_cons_zero, List.set_cons_succ]
        refine wpAnyI_take (i := 13) (v := ?_) (by kernel_rfl) rfl (by kernel_rfl) (by kernel_rfl) (by kernel_rfl) (fun _ _ _ h => h) HS (Or.inl ⟨by rfl, ?_⟩) ?_
        rotate_left
        · (intro w hSw; obtain ⟨q1, q2, q3, q4, q5, q6⟩ := hSw; go_simp; try with_reducible rfl)
        try simp only [Act.put, List.getElem_toArray, List.getElem_cons_succ, List.getElem_cons_zero, List.setIfInBounds_toArray, List.set_cons_zero, List.set_cons_succ]
        refine wpAnyI_take (i := 14) (v := ?_) (by kernel_rfl) rfl (by kernel_rfl) (by kernel_rfl) (by kernel_rfl) (fun _ _ _ h => h) HS (Or.inl ⟨by rfl, ?_⟩) ?_
        rotate_left
        · (intro w hSw; obtain ⟨q1, q2, q3, q4, q5, q6⟩ := hSw; go_simp; try with_reducible rfl)
        try simp only [Act.put, List.getElem_toArray, List.getElem_cons_succ, List.getElem_cons_zero, List.setIfInBounds_toArray, List.set_cons_zero, List.set_cons_succ]
        refine wpAnyI_one (i := 15) rfl (by kernel_rfl) (fun K hK => ?_)
        dsimp only [List.getElem_toArray, List.getElem_cons_succ, List.getElem_cons_zero]
        go_simp
        refine hK _ _ (Or.inl rfl) ?_
        clear hK K
        try simp only [Act.put, List.getElem_toArray, List.getElem_cons_succ, List.getElem_cons_zero, List.setIfInBounds_toArray, List.set_cons_zero, List.set_cons_succ]
        refine wpAnyI_done (by kernel_rfl) ?_ _
        go_wp2_with fail
        go_ret
        have hb := hbool.out
        exact ⟨by simp at hb ⊢; try exact hb, KK.out.trans HK.out⟩
      · replace hbool := Lib.hid hbool
        refine wp_region_I (S := (fun w' => w'.cell? ⟨w.heap.size, 0, none⟩ = some (.int .i64 aR) ∧ w'.cell? ⟨w.heap.size, 1, none⟩ = some (.int .i64 aM) ∧ w'.cell? ⟨w.heap.size + 1, 0, none⟩ = some (.int .i64 bR) ∧ w'.cell? ⟨w.heap.size + 1, 1, none⟩ = some (.int .i64 bM) ∧ w'.cell? ⟨g, 0, none⟩ = some (.int .i64 cR) ∧ w'.cell? ⟨g, 1, none⟩ = some (.int .i64 cM))) (n := 15) (by kernel_rfl) ?_
        have HS := (⟨HK.out.cellEq a0 (by simp), HK.out.cellEq a1 (by simp), HK.out.cellEq b0 (by simp), HK.out.cellEq b1 (by simp), HK.out.cellEq g0 (by simp), HK.out.cellEq g1 (by simp)⟩ : _ ∧ _ ∧ _ ∧ _ ∧ _ ∧ _)
        refine wpAnyI_take (i := 0) (v := ?_) (by kernel_rfl) rfl (by kernel_rfl) (by kernel_rfl) (by kernel_rfl) (fun _ _ _ h => h) HS (Or.inl ⟨by rfl, ?_⟩) ?_
        rotate_left
        · (intro w hSw; obtain ⟨q1, q2, q3, q4, q5, q6⟩ := hSw; go_simp; try with_reducible rfl)
        try simp only [Act.put, List.getElem_toArray, List.getElem_cons_succ, List.getElem_cons_zero, List.setIfInBounds_toArray, List.set_cons_zero, List.set_cons_succ]
        refine wpAnyI_take (i := 1) (v := ?_) (by kernel_rfl) rfl (by kernel_rfl) (by kernel_rfl) (by kernel_rfl) (fun _ _ _ h => h) HS (Or.inl ⟨by rfl, ?_⟩) ?_
        rotate_left
        · (intro w hSw; obtain ⟨q1, q2, q3, q4, q5, q6⟩ := hSw; go_simp; try with_reducible rfl)
        try simp only [Act.put, List.getElem_toArray, List.getElem_cons_succ, List.getElem_cons_zero, List.setIfInBounds_toArray, List.set_cons_zero, List.set_cons_succ]
        refine wpAnyI_take (i := 2) (v := ?_) (by kernel_rfl) rfl (by kernel_rfl) (by kernel_rfl) (by kernel_rfl) (fun _ _ _ h => h) HS (Or.inl ⟨by rfl, ?_⟩) ?_
        rotate_left
        · (intro w hSw; obtain ⟨q1, q2, q3, q4, q5, q6⟩ := hSw; go_simp; try with_reducible rfl)
        try simp only [Act.put, List.getElem_toArray, List.getElem_cons_succ, List.getElem_cons_zero, List.setIfInBounds_toArray, List.set_cons_zero, List.set_cons_succ]
        refine wpAnyI_take (i := 3) (v := ?_) (by kernel_rfl) rfl (by kernel_rfl) (by kernel_rfl) (by kernel_rfl) (fun _ _ _ h => h) HS (Or.inl ⟨by rfl, ?_⟩) ?_
        rotate_left
        · (intro w hSw; obtain ⟨q1, q2, q3, q4, q5, q6⟩ := hSw; go_simp; try with_reducible rfl)
        try simp only [Act.put, List.getElem_toArray, List.getElem_cons_succ, List.getElem_cons_zero, List.setIfInBounds_toArray, List.set_cons_zero, List.set_cons_succ]
        refine wpAnyI_take (i := 6) (v := ?_) (by kernel_rfl) rfl (by kernel_rfl) (by kernel_rfl) (by kernel_rfl) (fun _ _ _ h => h) HS (Or.inl ⟨by rfl, ?_⟩) ?_
        rotate_left
        · (intro w hSw; obtain ⟨q1, q2, q3, q4, q5, q6⟩ := hSw; go_simp; try with_reducible rfl)
        try simp only [Act.put, List.getElem_toArray, List.getElem_cons_succ, List.getElem_cons_zero, List.setIfInBounds_toArray, List.set_cons_zero, List.set_cons_succ]
        refine wpAnyI_take (i := 7) (v := ?_) (by kernel_rfl) rfl (by kernel_rfl) (by kernel_rfl) (by kernel_rfl) (fun _ _ _ h => h) HS (Or.inl ⟨by rfl, ?_⟩) ?_
        rotate_left
        · (intro w hSw; obtain ⟨q1, q2, q3, q4, q5, q6⟩ := hSw; go_simp; try with_reducible rfl)
        try simp only [Act.put, List.getElem_toArray, List.getElem_cons_succ, List.getElem_cons_zero, List.setIfInBounds_toArray, List.set_cons_zero, List.set_cons_succ]
        refine wpAnyI_one (i := 4) rfl (by kernel_rfl) (fun K hK => ?_)
        dsimp only [List.getElem_toArray, List.getElem_cons_succ, List.getElem_cons_zero]
        go_simp
        go_wp2_with ((refine (R0.out _).mono ?_); rintro e w' ⟨rfl, hk⟩)
        replace HK := Lib.hid (HK.out.trans hk)
        clear hk
        have HS := (⟨HK.out.cellEq a0 (by simp), HK.out.cellEq a1 (by simp), HK.out.cellEq b0 (by simp), HK.out.cellEq b1 (by simp), HK.out.cellEq g0 (by simp), HK.out.cellEq g1 (by simp)⟩ : _ ∧ _ ∧ _ ∧ _ ∧ _ ∧ _)
        refine hK _ _ (Or.inr HS) ?_
        clear hK K
        try simp only [Act.put, List.getElem_toArray, List.getElem_cons_succ, List.getElem_cons_zero, List.setIfInBounds_toArray, List.set_cons_zero, List.set_cons_succ]
        refine wpAnyI_take (i := 5) (v := ?_) (by kernel_rfl) rfl (by kernel_rfl) (by kernel_rfl) (by kernel_rfl) (fun _ _ _ h => h) HS (Or.inl ⟨by rfl, ?_⟩) ?_
        rotate_left
        · (intro w hSw; obtain ⟨q1, q2, q3, q4, q5, q6⟩ := hSw; go_simp; try with_reducible rfl)
        try simp only [Act.put, List.getElem_toArray, List.getElem_cons_succ, List.getElem_cons_zero, List.setIfInBounds_toArray, List.set_cons_zero, List.set_cons_succ]
        refine wpAnyI_one (i := 8) rfl (by kernel_rfl) (fun K hK => ?_)
        dsimp only [List.getElem_toArray, List.getElem_cons_succ, List.getElem_cons_zero]
        go_simp
        go_wp2_with ((refine (R1.out _).mono ?_); rintro e w' ⟨rfl, hk⟩)
        replace HK := Lib.hid (HK.out.trans hk)
        clear hk
        have HS := (⟨HK.out.cellEq a0 (by simp), HK.out.cellEq a1 (by simp), HK.out.cellEq b0 (by simp), HK.out.cellEq b1 (by simp), HK.out.cellEq g0 (by simp), HK.out.cellEq g1 (by simp)⟩ : _ ∧ _ ∧ _ ∧ _ ∧ _ ∧ _)
        refine hK _ _ (Or.inr HS) ?_
        clear hK K
        try simp only [Act.put, List.getElem_toArray, List.getElem_cons_succ, List.getElem_cons_zero, List.setIfInBounds_toArray, List.set_cons_zero, List.set_cons_succ]
        refine wpAnyI_take (i := 9) (v := ?_) (by kernel_rfl) rfl (by kernel_rfl) (by kernel_rfl) (by kernel_rfl) (fun _ _ _ h => h) HS (Or.inl ⟨by rfl, ?_⟩) ?_
        rotate_left
        · (intro w hSw; obtain ⟨q1, q2, q3, q4, q5, q6⟩ := hSw; go_simp; try with_reducible rfl)
        try simp only [Act.put, List.getElem_toArray, List.getElem_cons_succ, List.getElem_cons_zero, List.setIfInBounds_toArray, List.set_cons_zero, List.set_cons_succ]
        refine wpAnyI_take (i := 10) (v := undef) (by kernel_rfl) rfl (by kernel_rfl) (by kernel_rfl) (by kernel_rfl) (fun _ _ _ h => h) HS (Or.inr ⟨by rfl, rfl⟩) ?_
        try simp only [Act.put, List.getElem_toArray, List.getElem_cons_succ, List.getElem_cons_zero, List.setIfInBounds_toArray, List.set_cons_zero, List.set_cons_succ]
        refine wpAnyI_take (i := 11) (v := undef) (by kernel_rfl) rfl (by kernel_rfl) (by kernel_rfl) (by kernel_rfl) (fun _ _ _ h => h) HS (Or.inr ⟨by rfl, rfl⟩) ?_
        try simp only [Act.put, List.getElem_toArray, List.getElem_cons_succ, List.getElem_cons_zero, List.setIfInBounds_toArray, List.set_cons_zero, List.set_cons_succ]
        refine wpAnyI_take (i := 12) (v := undef) (by kernel_rfl) rfl (by kernel_rfl) (by kernel_rfl) (by kernel_rfl) (fun _ _ _ h => h) HS (Or.inr ⟨by rfl, rfl⟩) ?_
        try simp only [Act.put, List.getElem_toArray, List.getElem_cons_succ, List.getElem_cons_zero, List.setIfInBounds_toArray, List.set_cons_zero, List.set_cons_succ]
        refine wpAnyI_take (i := 13) (v := ?_) (by kernel_rfl) rfl (by kernel_rfl) (by kernel_rfl) (by kernel_rfl) (fun _ _ _ h => h) HS (Or.inl ⟨by rfl, ?_⟩) ?_
        rotate_left
        · (intro w hSw; obtain ⟨q1, q2, q3, q4, q5, q6⟩ := hSw; go_simp; try with_reducible rfl)
        try simp only [Act.put, List.getElem_toArray, List.getElem_cons_succ, List.getElem_cons_zero, List.setIfInBounds_toArray, List.set_cons_zero, List.set_cons_succ]
        refine wpAnyI_take (i := 14) (v := ?_) (by kernel_rfl) rfl (by kernel_rfl) (by kernel_rfl) (by kernel_rfl) (fun _ _ _ h => h) HS (Or.inl ⟨by rfl, ?_⟩) ?_
        rotate_left
        · (intro w hSw; obtain ⟨q1, q2, q3, q4, q5, q6⟩ := hSw; go_simp; try with_reducible rfl)
        try simp only [Act.put, List.getElem_toArray, List.getElem_cons_succ, List.getElem_cons_zero, List.setIfInBounds_toArray, List.set_cons_zero, List.set_cons_succ]
        refine wpAnyI_one (i := 15) rfl (by kernel_rfl) (fun K hK => ?_)
        dsimp only [List.getElem_toArray, List.getElem_cons_succ, List.getElem_cons_zero]
        go_simp
        refine hK _ _ (Or.inl rfl) ?_
        clear hK K
        try simp only [Act.put, List.getElem_toArray, List.getElem_cons_succ, List.getElem_cons_zero, List.setIfInBounds_toArray, List.set_cons_zero, List.set_cons_succ]
        refine wpAnyI_done (by kernel_rfl) ?_ _
        go_wp2_with fail
        go_ret
        have hb := hbool.out
        exact ⟨by simp at hb ⊢; try exact hb, KK.out.trans HK.out⟩
      · replace hbool := Lib.hid hbool
        refine wp_region_I (S := (fun w' => w'.cell? ⟨w.heap.size, 0, none⟩ = some (.int .i64 aR) ∧ w'.cell? ⟨w.heap.size, 1, none⟩ = some (.int .i64 aM) ∧ w'.cell? ⟨w.heap.size + 1, 0, none⟩ = some (.int .i64 bR) ∧ w'.cell? ⟨w.heap.size + 1, 1, none⟩ = some (.int .i64 bM) ∧ w'.cell? ⟨g, 0, none⟩ = some (.int .i64 cR) ∧ w'.cell? ⟨g, 1, none⟩ = some (.int .i64 cM))) (n := 15) (by kernel_rfl) ?_
        have HS := (⟨HK.out.cellEq a0 (by simp), HK.out.cellEq a1 (by simp), HK.out.cellEq b0 (by simp), HK.out.cellEq b1 (by simp), HK.out.cellEq g0 (by simp), HK.out.cellEq g1 (by simp)⟩ : _ ∧ _ ∧ _ ∧ _ ∧ _ ∧ _)
        refine wpAnyI_take (i := 0) (v := ?_) (by kernel_rfl) rfl (by kernel_rfl) (by kernel_rfl) (by kernel_rfl) (fun _ _ _ h => h) HS (Or.inl ⟨by rfl, ?_⟩) ?_
        rotate_left
        · (intro w hSw; obtain ⟨q1, q2, q3, q4, q5, q6⟩ := hSw; go_simp; try with_reducible rfl)
        try simp only [Act.put, List.getElem_toArray, List.getElem_cons_succ, List.getElem_cons_zero, List.setIfInBounds_toArray, List.set_cons_zero, List.set_cons_succ]
        refine wpAnyI_take (i := 1) (v := ?_) (by kernel_rfl) rfl (by kernel_rfl) (by kernel_rfl) (by kernel_rfl) (fun _ _ _ h => h) HS (Or.inl ⟨by rfl, ?_⟩) ?_
        rotate_left
        · (intro w hSw; obtain ⟨q1, q2, q3, q4, q5, q6⟩ := hSw; go_simp; try with_reducible rfl)
        try simp only [Act.put, List.getElem_toArray, List.getElem_cons_succ, List.getElem_cons_zero, List.setIfInBounds_toArray, List.set_cons_zero, List.set_cons_succ]
        refine wpAnyI_take (i := 2) (v := ?_) (by kernel_rfl) rfl (by kernel_rfl) (by kernel_rfl) (by kernel_rfl) (fun _ _ _ h => h) HS (Or.inl ⟨by rfl, ?_⟩) ?_
        rotate_left
        · (intro w hSw; obtain ⟨q1, q2, q3, q4, q5, q6⟩ := hSw; go_simp; try with_reducible rfl)
        try simp only [Act.put, List.getElem_toArray, List.getElem_cons_succ, List.getElem_cons_zero, List.setIfInBounds_toArray, List.set_cons_zero, List.set_cons_succ]
        refine wpAnyI_take (i := 3) (v := ?_) (by kernel_rfl) rfl (by kernel_rfl) (by kernel_rfl) (by kernel_rfl) (fun _ _ _ h => h) HS (Or.inl ⟨by rfl, ?_⟩) ?_
        rotate_left
        · (intro w hSw; obtain ⟨q1, q2, q3, q4, q5, q6⟩ := hSw; go_simp; try with_reducible rfl)
        try simp only [Act.put, List.getElem_toArray, List.getElem_cons_succ, List.getElem_cons_zero, List.setIfInBounds_toArray, List.set_cons_zero, List.set_cons_succ]
        refine wpAnyI_take (i := 6) (v := ?_) (by kernel_rfl) rfl (by kernel_rfl) (by kernel_rfl) (by kernel_rfl) (fun _ _ _ h => h) HS (Or.inl ⟨by rfl, ?_⟩) ?_
        rotate_left
        · (intro w hSw; obtain ⟨q1, q2, q3, q4, q5, q6⟩ := hSw; go_simp; try with_reducible rfl)
        try simp only [Act.put, List.getElem_toArray, List.getElem_cons_succ, List.getElem_cons_zero, List.setIfInBounds_toArray, List.set_cons_zero, List.set_cons_succ]
        refine wpAnyI_take (i := 7) (v := ?_) (by kernel_rfl) rfl (by kernel_rfl) (by kernel_rfl) (by kernel_rfl) (fun _ _ _ h => h) HS (Or.inl ⟨by rfl, ?_⟩) ?_
        rotate_left
        · (intro w hSw; obtain ⟨q1, q2, q3, q4, q5, q6⟩ := hSw; go_simp; try with_reducible rfl)
        try simp only [Act.put, List.getElem_toArray, List.getElem_cons_succ, List.getElem_cons_zero, List.setIfInBounds_toArray, List.set_cons_zero, List.set_cons_succ]
        refine wpAnyI_one (i := 4) rfl (by kernel_rfl) (fun K hK => ?_)
        dsimp only [List.getElem_toArray, List.getElem_cons_succ, List.getElem_cons_zero]
        go_simp
        go_wp2_with ((refine (R0.out _).mono ?_); rintro e w' ⟨rfl, hk⟩)
        replace HK := Lib.hid (HK.out.trans hk)
        clear hk
        have HS := (⟨HK.out.cellEq a0 (by simp), HK.out.cellEq a1 (by simp), HK.out.cellEq b0 (by simp), HK.out.cellEq b1 (by simp), HK.out.cellEq g0 (by simp), HK.out.cellEq g1 (by simp)⟩ : _ ∧ _ ∧ _ ∧ _ ∧ _ ∧ _)
        refine hK _ _ (Or.inr HS) ?_
        clear hK K
        try simp only [Act.put, List.getElem_toArray, List.getElem_cons_succ, List.getElem_cons_zero, List.setIfInBounds_toArray, List.set_cons_zero, List.set_cons_succ]
        refine wpAnyI_take (i := 5) (v := ?_) (by kernel_rfl) rfl (by kernel_rfl) (by kernel_rfl) (by kernel_rfl) (fun _ _ _ h => h) HS (Or.inl ⟨by rfl, ?_⟩) ?_
        rotate_left
        · (intro w hSw; obtain ⟨q1, q2, q3, q4, q5, q6⟩ := hSw; go_simp; try with_reducible rfl)
        try simp only [Act.put, List.getElem_toArray, List.getElem_cons_succ, List.getElem_cons_zero, List.setIfInBounds_toArray, List.set_cons_zero, List.set_cons_succ]
        refine wpAnyI_one (i := 8) rfl (by kernel_rfl) (fun K hK => ?_)
        dsimp only [List.getElem_toArray, List.getElem_cons_succ, List.getElem_cons_zero]
        go_simp
        go_wp2_with ((refine (R1.out _).mono ?_); rintro e w' ⟨rfl, hk⟩)
        replace HK := Lib.hid (HK.out.trans hk)
        clear hk
        have HS := (⟨HK.out.cellEq a0 (by simp), HK.out.cellEq a1 (by simp), HK.out.cellEq b0 (by simp), HK.out.cellEq b1 (by simp), HK.out.cellEq g0 (by simp), HK.out.cellEq g1 (by simp)⟩ : _ ∧ _ ∧ _ ∧ _ ∧ _ ∧ _)
        refine hK _ _ (Or.inr HS) ?_
        clear hK K
        try simp only [Act.put, List.getElem_toArray, List.getElem_cons_succ, List.getElem_cons_zero, List.setIfInBounds_toArray, List.set_cons_zero, List.set_cons_succ]
        refine wpAnyI_take (i := 9) (v := ?_) (by kernel_rfl) rfl (by kernel_rfl) (by kernel_rfl) (by kernel_rfl) (fun _ _ _ h => h) HS (Or.inl ⟨by rfl, ?_⟩) ?_
        rotate_left
        · (intro w hSw; obtain ⟨q1, q2, q3, q4, q5, q6⟩ := hSw; go_simp; try with_reducible rfl)
        try simp only [Act.put, List.getElem_toArray, List.getElem_cons_succ, List.getElem_cons_zero, List.setIfInBounds_toArray, List.set_cons_zero, List.set_cons_succ]
        refine wpAnyI_take (i := 10) (v := ?_) (by kernel_rfl) rfl (by kernel_rfl) (by kernel_rfl) (by kernel_rfl) (fun _ _ _ h => h) HS (Or.inl ⟨by rfl, ?_⟩) ?_
        rotate_left
        · (intro w hSw; obtain ⟨q1, q2, q3, q4, q5, q6⟩ := hSw; go_simp; try with_reducible rfl)
        try simp only [Act.put, List.getElem_toArray, List.getElem_cons_succ, List.getElem_cons_zero, List.setIfInBounds_toArray, List.set_cons_zero, List.set_cons_succ]
        refine wpAnyI_take (i := 11) (v := ?_) (by kernel_rfl) rfl (by kernel_rfl) (by kernel_rfl) (by kernel_rfl) (fun _ _ _ h => h) HS (Or.inl ⟨by rfl, ?_⟩) ?_
        rotate_left
        · (intro w hSw; obtain ⟨q1, q2, q3, q4, q5, q6⟩ := hSw; go_simp; try with_reducible rfl)
        try simp only [Act.put, List.getElem_toArray, List.getElem_cons_succ, List.getElem_cons_zero, List.setIfInBounds_toArray, List.set_cons_zero, List.set_cons_succ]
        refine wpAnyI_one (i := 12) rfl (by kernel_rfl) (fun K hK => ?_)
        dsimp only [List.getElem_toArray, List.getElem_cons_succ, List.getElem_cons_zero]
        go_simp
        go_wp2_with ((refine (R2.out _).mono ?_); rintro e w' ⟨rfl, hk⟩)
        replace HK := Lib.hid (HK.out.trans hk)
        clear hk
        have HS := (⟨HK.out.cellEq a0 (by simp), HK.out.cellEq a1 (by simp), HK.out.cellEq b0 (by simp), HK.out.cellEq b1 (by simp), HK.out.cellEq g0 (by simp), HK.out.cellEq g1 (by simp)⟩ : _ ∧ _ ∧ _ ∧ _ ∧ _ ∧ _)
        refine hK _ _ (Or.inr HS) ?_
        clear hK K
        try simp only [Act.put, List.getElem_toArray, List.getElem_cons_succ, List.getElem_cons_zero, List.setIfInBounds_toArray, List.set_cons_zero, List.set_cons_succ]
        refine wpAnyI_take (i := 13) (v := ?_) (by kernel_rfl) rfl (by kernel_rfl) (by kernel_rfl) (by kernel_rfl) (fun _ _ _ h => h) HS (Or.inl ⟨by rfl, ?_⟩) ?_
        rotate_left
        · (intro w hSw; obtain ⟨q1, q2, q3, q4, q5, q6⟩ := hSw; go_simp; try with_reducible rfl)
        try simp only [Act.put, List.getElem_toArray, List.getElem_cons_succ, List.getElem_cons_zero, List.setIfInBounds_toArray, List.set_cons_zero, List.set_cons_succ]
        refine wpAnyI_take (i := 14) (v := ?_) (by kernel_rfl) rfl (by kernel_rfl) (by kernel_rfl) (by kernel_rfl) (fun _ _ _ h => h) HS (Or.inl ⟨by rfl, ?_⟩) ?_
        rotate_left
        · (intro w hSw; obtain ⟨q1, q2, q3, q4, q5, q6⟩ := hSw; go_simp; try with_reducible rfl)
        try simp only [Act.put, List.getElem_toArray, List.getElem_cons_succ, List.getElem_cons_zero, List.setIfInBounds_toArray, List.set_cons_zero, List.set_cons_succ]
        refine wpAnyI_one (i := 15) rfl (by kernel_rfl) (fun K hK => ?_)
        dsimp only [List.getElem_toArray, List.getElem_cons_succ, List.getElem_cons_zero]
        go_simp
        refine hK _ _ (Or.inl rfl) ?_
        clear hK K
        try simp only [Act.put, List.getElem_toArray, List.getElem_cons_succ, List.getElem_cons_zero, List.setIfInBounds_toArray, List.set_cons_zero, List.set_cons_succ]
        refine wpAnyI_done (by kernel_rfl) ?_ _
        go_wp2_with fail
        go_ret
        have hb := hbool.out
        exact ⟨by simp at hb ⊢; try exact hb, KK.out.trans HK.out⟩
    · have he2 : (er == 0) = false := by simpa using he
      have he3 : (er != 0) = true := by simpa using he
      go_wp2_with fail
      go_ret
      exact ⟨rfl, KK.out⟩
end Go.Proofs.Ytbinnmcodlejmaa
