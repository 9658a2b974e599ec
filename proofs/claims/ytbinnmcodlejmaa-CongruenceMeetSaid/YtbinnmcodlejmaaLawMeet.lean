/- The walk of the law CongruenceMeet: it returns true, and of what was there nothing has turned. -/
import Derived.Test.YtbinnmcodlejmaaCong10
namespace Go.Proofs.Ytbinnmcodlejmaa
open Go.RowKit
set_option linter.unusedSimpArgs false
set_option linter.unusedVariables false

set_option maxHeartbeats 3200000 in
set_option maxRecDepth 100000 in
theorem law_meet (aR aM bR bM : Int) (w : World) :
    Calls Try.prog 4 #[.agg #[.int .i64 aR, .int .i64 aM], .agg #[.int .i64 bR, .int .i64 bM]] w (Gives (.bool true) w) := by
  go_enter Try.func4, Try.ntmps4
  go_wp2_with fail
  refine (awake_any _).mono ?_
  rintro e w1 ⟨rfl, k1⟩
  have A := ((Blk.new w 28 #[.int .i64 aR, .int .i64 aM]).alloc (.cells #[.int .i64 bR, .int .i64 bM] 28)).keep k1 (by simp)
  have B := Blk.new (w.alloc (.cells #[.int .i64 aR, .int .i64 aM] 28)) 28 #[.int .i64 bR, .int .i64 bM]
  rw [World.size_alloc] at B
  replace B := B.keep k1 (by simp)
  replace k1 := Lib.hid ((((Keeps.refl [] w).alloc _).alloc _).trans k1)
  have a0 : w1.cell? ⟨w.heap.size, 0, none⟩ = some (.int .i64 aR) := by have := A.cell 0; simpa using this
  have a1 : w1.cell? ⟨w.heap.size, 1, none⟩ = some (.int .i64 aM) := by have := A.cell 1; simpa using this
  have b0 : w1.cell? ⟨w.heap.size + 1, 0, none⟩ = some (.int .i64 bR) := by have := B.cell 0; simpa using this
  have b1 : w1.cell? ⟨w.heap.size + 1, 1, none⟩ = some (.int .i64 bM) := by have := B.cell 1; simpa using this
  have HK : Hid (Keeps [] w1 w1.drew) := Lib.hid (Keeps.refl _ _).drew
  replace A := Lib.hid A
  replace B := Lib.hid B
  have tok1 : True := trivial
  go_upto_region 3 with fail
  go_cut [5, 6, 7] (fun s5 s6 s7 wx => ∃ g cR cM ok er, s5 = .pointer (some ⟨g, 0, none⟩) ∧ s6 = .bool ok ∧ s7 = .int .i64 er ∧ wx.cell? ⟨g, 0, none⟩ = some (.int .i64 cR) ∧ wx.cell? ⟨g, 1, none⟩ = some (.int .i64 cM) ∧ Hid (MeetRes aR aM bR bM cR cM ok er) ∧ Hid (Keeps [] w1 wx))
  case first =>
    go_region_held3 (fun w' => w'.cell? ⟨w.heap.size, 0, none⟩ = some (.int .i64 aR) ∧ w'.cell? ⟨w.heap.size, 1, none⟩ = some (.int .i64 aM) ∧ w'.cell? ⟨w.heap.size + 1, 0, none⟩ = some (.int .i64 bR) ∧ w'.cell? ⟨w.heap.size + 1, 1, none⟩ = some (.int .i64 bM))
      ((refine (fun (kk : Keeps [] w1 _) => ⟨kk.cellEq a0 (by simp), kk.cellEq a1 (by simp), kk.cellEq b0 (by simp), kk.cellEq b1 (by simp)⟩) ?_; first | exact HK.out | exact HK.out.alloc _ | exact (HK.out.setCell (.inr (by dsimp only; omega)) _).setCell (.inr (by dsimp only; omega)) _ | exact ((HK.out.alloc _).setCell (.inr (by dsimp only; omega)) _).setCell (.inr (by dsimp only; omega)) _))
      (first
        | (go_at_call 17; have _t := tok1; refine (to_keeps _ _ _).mono ?_; rintro e wA ⟨rfl, hk⟩; obtain ⟨hcA, hfA⟩ := bcell hk.below; have zA := hk.size; have yA := fun b h => Nat.lt_of_lt_of_le (n := b) h hk.size; (try simp only [World.size_alloc, World.size_drew] at zA yA); replace HK : Hid (Keeps [] w1 wA) := Lib.hid (by first | exact HK.out.trans hk | exact (HK.out.alloc _).trans hk); clear hk tok1 _t)
        | (go_at_call 17; refine (to_keeps _ _ _).mono ?_; rintro e wB ⟨rfl, hk⟩; obtain ⟨hcB, hfB⟩ := bcell hk.below; have zB := hk.size; have yB := fun b h => Nat.lt_of_lt_of_le (n := b) h hk.size; (try simp only [World.size_alloc, World.size_drew] at zB yB); (try have yAB := fun b h => yB b (yA b h)); replace HK : Hid (Keeps [] w1 wB) := Lib.hid (by first | exact HK.out.trans hk | exact (HK.out.alloc _).trans hk); clear hk)
        | (go_at_call 16; refine (meet2 _ _ _ _ _).mono ?_; rintro e wC ⟨cR, cM, ok, er, rfl, hS, hk⟩; replace hS := Lib.hid hS; obtain ⟨hcC, hfC⟩ := bcell hk.below; have zC := hk.size; (try simp only [World.size_alloc, World.size_drew] at zC); replace HK : Hid (Keeps [] w1 wC) := Lib.hid (by first | exact HK.out.trans hk | exact (HK.out.alloc _).trans hk); clear hk))
    all_goals
      go_wp2_with fail
      go_meet
      refine ⟨_, cR, cM, ok, er, rfl, rfl, rfl, ?_, ?_, hS, Lib.hid ?_⟩
      · first
          | (simp [World.cell?_alloc_new]; done)
          | exact (two_set (u0 := .int .i64 0) (u1 := .int .i64 0) (by refine (hcC _ _ ?_).trans ?_; (focus (first | omega | (simp; done) | (simp; omega))); first | exact new_zero _ 0 (by omega) | (refine (hcB _ _ ?_).trans ?_; (focus (first | omega | (simp; done) | (simp; omega))); first | exact new_zero _ 0 (by omega) | (refine (hcA _ _ ?_).trans ?_; (focus (first | omega | (simp; done) | (simp; omega))); first | exact new_zero' _ 0 (.inl rfl) | (simp; done)))) (by refine (hcC _ _ ?_).trans ?_; (focus (first | omega | (simp; done) | (simp; omega))); first | exact new_zero _ 1 (by omega) | (refine (hcB _ _ ?_).trans ?_; (focus (first | omega | (simp; done) | (simp; omega))); first | exact new_zero _ 1 (by omega) | (refine (hcA _ _ ?_).trans ?_; (focus (first | omega | (simp; done) | (simp; omega))); first | exact new_zero' _ 1 (.inr rfl) | (simp; done))))).1
      · first
          | (simp [World.cell?_alloc_new]; done)
          | exact (two_set (u0 := .int .i64 0) (u1 := .int .i64 0) (by refine (hcC _ _ ?_).trans ?_; (focus (first | omega | (simp; done) | (simp; omega))); first | exact new_zero _ 0 (by omega) | (refine (hcB _ _ ?_).trans ?_; (focus (first | omega | (simp; done) | (simp; omega))); first | exact new_zero _ 0 (by omega) | (refine (hcA _ _ ?_).trans ?_; (focus (first | omega | (simp; done) | (simp; omega))); first | exact new_zero' _ 0 (.inl rfl) | (simp; done)))) (by refine (hcC _ _ ?_).trans ?_; (focus (first | omega | (simp; done) | (simp; omega))); first | exact new_zero _ 1 (by omega) | (refine (hcB _ _ ?_).trans ?_; (focus (first | omega | (simp; done) | (simp; omega))); first | exact new_zero _ 1 (by omega) | (refine (hcA _ _ ?_).trans ?_; (focus (first | omega | (simp; done) | (simp; omega))); first | exact new_zero' _ 1 (.inr rfl) | (simp; done))))).2
      · first | exact HK.out.alloc _ | exact (HK.out.setCell (.inr (by dsimp only; omega)) _).setCell (.inr (by dsimp only; omega)) _
  case rest =>
    obtain ⟨g, cR, cM, ok, er, rfl, rfl, rfl, g0, g1, hS, HK'⟩ := hcut
    have SX : Six wc w.heap.size (w.heap.size + 1) g aR aM bR bM cR cM :=
      ⟨HK'.out.cellEq a0 (by simp), HK'.out.cellEq a1 (by simp), HK'.out.cellEq b0 (by simp), HK'.out.cellEq b1 (by simp), g0, g1⟩
    replace HK' := Lib.hid (k1.out.trans HK'.out)
    clear a0 a1 b0 b1 g0 g1 HK A B tok1 k1
    have KK := HK'
    clear HK'
    by_cases ha : Val aR aM
    · by_cases hb : Val bR bM
      · have hM := met_iff (aR := aR) (bR := bR) (bM := bM) ha.1
        have MT := fun w => met_any aR aM bR bM w ha hb
        have LC := fun w => lcm_any aM bM w ha.1 ha.2.1 hb.1 hb.2.1
        rcases hS.out with ⟨h, _⟩ | ⟨_, _, hS'⟩
        · exact absurd ⟨ha, hb⟩ h
        replace ha := Lib.hid ha
        replace hb := Lib.hid hb
        clear hS
        generalize (Int.gcd aM bM : Int) = gg at *
        generalize bM / gg = n at *
        rcases hS' with ⟨hd, rfl, rfl, rfl, rfl⟩ | ⟨hd, hL, rfl, rfl, rfl, rfl⟩ | ⟨hd, hcM, hV, h4, h5, rfl, rfl⟩
        · rw [hM, decide_eq_false hd] at MT
          replace MT := Lib.hid MT
          clear hM hd LC
          obtain ⟨a0, a1, b0, b1, g0, g1⟩ := SX
          replace SX := Lib.hid (Six.mk a0 a1 b0 b1 g0 g1)
          go_wp2_with fail
          refine (rvalid_yes' _ _ _ ha.out).mono ?_
          rintro e w5 ⟨rfl, k5⟩
          clear a0 a1 b0 b1 g0 g1
          replace SX := Lib.hid (SX.out.keep k5)
          obtain ⟨a0, a1, b0, b1, g0, g1⟩ := id SX.out
          replace KK := Lib.hid (KK.out.trans k5)
          clear k5
          go_wp2_with fail
          refine (rvalid_yes' _ _ _ hb.out).mono ?_
          rintro e w6 ⟨rfl, k6⟩
          clear a0 a1 b0 b1 g0 g1
          replace SX := Lib.hid (SX.out.keep k6)
          obtain ⟨a0, a1, b0, b1, g0, g1⟩ := id SX.out
          replace KK := Lib.hid (KK.out.trans k6)
          clear k6
          go_wp2_with fail
          refine (MT.out _).mono ?_
          rintro e w7 ⟨rfl, k7⟩
          clear a0 a1 b0 b1 g0 g1
          replace SX := Lib.hid (SX.out.keep k7)
          obtain ⟨a0, a1, b0, b1, g0, g1⟩ := id SX.out
          replace KK := Lib.hid (KK.out.trans k7)
          clear k7
          go_wp2_with fail
          go_ret
          refine ⟨rfl, ?_⟩
          repeat first | exact KK.out | exact Keeps.refl _ _ | apply Keeps.drewN | apply Keeps.drew | apply Keeps.alloc | refine Keeps.setCell ?_ (.inr (by simp <;> omega)) _
        · rw [hM, decide_eq_true hd] at MT
          rw [show lcmV aM n = .tuple #[.int .i64 0, .bool false] from if_neg (by omega)] at LC
          replace MT := Lib.hid MT
          replace LC := Lib.hid LC
          clear hM hd hL
          obtain ⟨a0, a1, b0, b1, g0, g1⟩ := SX
          replace SX := Lib.hid (Six.mk a0 a1 b0 b1 g0 g1)
          go_wp2_with fail
          refine (rvalid_yes' _ _ _ ha.out).mono ?_
          rintro e w5 ⟨rfl, k5⟩
          clear a0 a1 b0 b1 g0 g1
          replace SX := Lib.hid (SX.out.keep k5)
          obtain ⟨a0, a1, b0, b1, g0, g1⟩ := id SX.out
          replace KK := Lib.hid (KK.out.trans k5)
          clear k5
          go_wp2_with fail
          refine (rvalid_yes' _ _ _ hb.out).mono ?_
          rintro e w6 ⟨rfl, k6⟩
          clear a0 a1 b0 b1 g0 g1
          replace SX := Lib.hid (SX.out.keep k6)
          obtain ⟨a0, a1, b0, b1, g0, g1⟩ := id SX.out
          replace KK := Lib.hid (KK.out.trans k6)
          clear k6
          go_wp2_with fail
          refine (MT.out _).mono ?_
          rintro e w7 ⟨rfl, k7⟩
          clear a0 a1 b0 b1 g0 g1
          replace SX := Lib.hid (SX.out.keep k7)
          obtain ⟨a0, a1, b0, b1, g0, g1⟩ := id SX.out
          replace KK := Lib.hid (KK.out.trans k7)
          clear k7
          go_wp2_with fail
          refine (LC.out _).mono ?_
          rintro e w8 ⟨rfl, nl, rfl⟩
          clear a0 a1 b0 b1 g0 g1
          replace SX := Lib.hid (SX.out.keep ((Keeps.refl [] _).drewN nl))
          obtain ⟨a0, a1, b0, b1, g0, g1⟩ := id SX.out
          replace KK := Lib.hid (KK.out.drewN nl)
          go_wp2_with fail
          go_ret
          refine ⟨rfl, ?_⟩
          repeat first | exact KK.out | exact Keeps.refl _ _ | apply Keeps.drewN | apply Keeps.drew | apply Keeps.alloc | refine Keeps.setCell ?_ (.inr (by simp <;> omega)) _
        · rw [hM, decide_eq_true hd] at MT
          rw [show lcmV aM n = .tuple #[.int .i64 (aM * n), .bool true] from if_pos (by have := hV.2.1; omega), ← hcM] at LC
          have ma : memB aR aM cR = true := by unfold memB; rw [valB_true ha.out]; simpa using h4
          have mb : memB bR bM cR = true := by unfold memB; rw [valB_true hb.out]; simpa using h5
          have c0 := hV.2.2.1
          have c1 := hV.2.2.2
          have c2 := hV.2.1
          have R1 := fun w => rcontains_any aR aM cR w (by omega) (by omega)
          have R2 := fun w => rcontains_any bR bM cR w (by omega) (by omega)
          rw [ma] at R1
          rw [mb] at R2
          replace R1 := Lib.hid R1
          replace R2 := Lib.hid R2
          replace MT := Lib.hid MT
          replace LC := Lib.hid LC
          replace hV := Lib.hid hV
          clear hM hd hcM ma mb h4 h5
          obtain ⟨a0, a1, b0, b1, g0, g1⟩ := SX
          replace SX := Lib.hid (Six.mk a0 a1 b0 b1 g0 g1)
          go_wp2_with fail
          refine (rvalid_yes' _ _ _ ha.out).mono ?_
          rintro e w5 ⟨rfl, k5⟩
          clear a0 a1 b0 b1 g0 g1
          replace SX := Lib.hid (SX.out.keep k5)
          obtain ⟨a0, a1, b0, b1, g0, g1⟩ := id SX.out
          replace KK := Lib.hid (KK.out.trans k5)
          clear k5
          go_wp2_with fail
          refine (rvalid_yes' _ _ _ hb.out).mono ?_
          rintro e w6 ⟨rfl, k6⟩
          clear a0 a1 b0 b1 g0 g1
          replace SX := Lib.hid (SX.out.keep k6)
          obtain ⟨a0, a1, b0, b1, g0, g1⟩ := id SX.out
          replace KK := Lib.hid (KK.out.trans k6)
          clear k6
          go_wp2_with fail
          refine (MT.out _).mono ?_
          rintro e w7 ⟨rfl, k7⟩
          clear a0 a1 b0 b1 g0 g1
          replace SX := Lib.hid (SX.out.keep k7)
          obtain ⟨a0, a1, b0, b1, g0, g1⟩ := id SX.out
          replace KK := Lib.hid (KK.out.trans k7)
          clear k7
          go_wp2_with fail
          refine (LC.out _).mono ?_
          rintro e w8 ⟨rfl, nl, rfl⟩
          clear a0 a1 b0 b1 g0 g1
          replace SX := Lib.hid (SX.out.keep ((Keeps.refl [] _).drewN nl))
          obtain ⟨a0, a1, b0, b1, g0, g1⟩ := id SX.out
          replace KK := Lib.hid (KK.out.drewN nl)
          go_wp2_with fail
          refine (of_keeps _ _ _).mono ?_
          rintro e w9 ⟨rfl, k9⟩
          clear a0 a1 b0 b1 g0 g1
          replace SX := Lib.hid (SX.out.keep k9)
          obtain ⟨a0, a1, b0, b1, g0, g1⟩ := id SX.out
          replace KK := Lib.hid (KK.out.trans k9)
          clear k9
          go_wp2_with fail
          refine (rvalid_yes' _ _ _ hV.out).mono ?_
          rintro e w10 ⟨rfl, k10⟩
          clear a0 a1 b0 b1 g0 g1
          replace SX := Lib.hid (SX.out.keep k10)
          obtain ⟨a0, a1, b0, b1, g0, g1⟩ := id SX.out
          replace KK := Lib.hid (KK.out.trans k10)
          clear k10
          go_wp2_with fail
          refine (R1.out _).mono ?_
          rintro e w11 ⟨rfl, k11⟩
          clear a0 a1 b0 b1 g0 g1
          replace SX := Lib.hid (SX.out.keep k11)
          obtain ⟨a0, a1, b0, b1, g0, g1⟩ := id SX.out
          replace KK := Lib.hid (KK.out.trans k11)
          clear k11
          go_wp2_with fail
          refine (R2.out _).mono ?_
          rintro e w12 ⟨rfl, k12⟩
          clear a0 a1 b0 b1 g0 g1
          replace SX := Lib.hid (SX.out.keep k12)
          obtain ⟨a0, a1, b0, b1, g0, g1⟩ := id SX.out
          replace KK := Lib.hid (KK.out.trans k12)
          clear k12
          go_wp2_with fail
          go_ret
          refine ⟨rfl, ?_⟩
          repeat first | exact KK.out | exact Keeps.refl _ _ | apply Keeps.drewN | apply Keeps.drew | apply Keeps.alloc | refine Keeps.setCell ?_ (.inr (by simp <;> omega)) _
      · have hS' : cR = 0 ∧ cM = 0 ∧ ok = false ∧ er = 1 := by
          rcases hS.out with ⟨_, h⟩ | ⟨_, h, _⟩
          · exact h
          · exact absurd h hb
        obtain ⟨rfl, rfl, rfl, rfl⟩ := hS'
        clear hS
        replace ha := Lib.hid ha
        replace hb := Lib.hid hb
        obtain ⟨a0, a1, b0, b1, g0, g1⟩ := SX
        replace SX := Lib.hid (Six.mk a0 a1 b0 b1 g0 g1)
        go_wp2_with fail
        refine (rvalid_yes' _ _ _ ha.out).mono ?_
        rintro e w5 ⟨rfl, k5⟩
        clear a0 a1 b0 b1 g0 g1
        replace SX := Lib.hid (SX.out.keep k5)
        obtain ⟨a0, a1, b0, b1, g0, g1⟩ := id SX.out
        replace KK := Lib.hid (KK.out.trans k5)
        clear k5
        go_wp2_with fail
        refine (rvalid_no' _ _ _ hb.out).mono ?_
        rintro e w6 ⟨rfl, k6⟩
        clear a0 a1 b0 b1 g0 g1
        replace SX := Lib.hid (SX.out.keep k6)
        obtain ⟨a0, a1, b0, b1, g0, g1⟩ := id SX.out
        replace KK := Lib.hid (KK.out.trans k6)
        clear k6
        go_wp2_with fail
        go_ret
        refine ⟨rfl, ?_⟩
        repeat first | exact KK.out | exact Keeps.refl _ _ | apply Keeps.drewN | apply Keeps.drew | apply Keeps.alloc | refine Keeps.setCell ?_ (.inr (by simp <;> omega)) _
    · have hS' : cR = 0 ∧ cM = 0 ∧ ok = false ∧ er = 1 := by
        rcases hS.out with ⟨_, h⟩ | ⟨h, _⟩
        · exact h
        · exact absurd h ha
      obtain ⟨rfl, rfl, rfl, rfl⟩ := hS'
      clear hS
      replace ha := Lib.hid ha
      obtain ⟨a0, a1, b0, b1, g0, g1⟩ := SX
      replace SX := Lib.hid (Six.mk a0 a1 b0 b1 g0 g1)
      go_wp2_with fail
      refine (rvalid_no' _ _ _ ha.out).mono ?_
      rintro e w5 ⟨rfl, k5⟩
      clear a0 a1 b0 b1 g0 g1
      replace SX := Lib.hid (SX.out.keep k5)
      obtain ⟨a0, a1, b0, b1, g0, g1⟩ := id SX.out
      replace KK := Lib.hid (KK.out.trans k5)
      clear k5
      go_wp2_with fail
      go_ret
      refine ⟨rfl, ?_⟩
      repeat first | exact KK.out | exact Keeps.refl _ _ | apply Keeps.drewN | apply Keeps.drew | apply Keeps.alloc | refine Keeps.setCell ?_ (.inr (by simp <;> omega)) _
end Go.Proofs.Ytbinnmcodlejmaa
