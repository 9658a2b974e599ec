/- The walk of the law CongruenceMeetOrder: it returns true, and of what was there nothing has turned. -/
import Derived.Test.YtbinnmcodlejmaaCong10
import Derived.Test.YtbinnmcodlejmaaCong11
namespace Go.Proofs.Ytbinnmcodlejmaa
open Go.RowKit
set_option linter.unusedSimpArgs false
set_option linter.unusedVariables false

/-- A class that lies in memory. -/
structure Two (w : World) (g : Nat) (r m : Int) : Prop where
  c0 : w.cell? ⟨g, 0, none⟩ = some (.int .i64 r)
  c1 : w.cell? ⟨g, 1, none⟩ = some (.int .i64 m)
theorem Two.keep {w w' : World} {g : Nat} {r m : Int} (h : Two w g r m) (k : Keeps [] w w') : Two w' g r m :=
  ⟨k.cellEq h.c0 (by simp), k.cellEq h.c1 (by simp)⟩
theorem Two.of {w : World} {g : Nat} {t : TypeId} {r m : Int} (h : Blk w g t #[.int .i64 r, .int .i64 m]) : Two w g r m :=
  ⟨by have := h.cell 0; simpa using this, by have := h.cell 1; simpa using this⟩

set_option maxHeartbeats 16000000 in
set_option maxRecDepth 100000 in
theorem law_order (aR aM bR bM cR0 cM0 : Int) (w : World) :
    Calls Try.prog 5 #[.agg #[.int .i64 aR, .int .i64 aM], .agg #[.int .i64 bR, .int .i64 bM], .agg #[.int .i64 cR0, .int .i64 cM0]] w (Gives (.bool true) w) := by
  go_enter Try.func5, Try.ntmps5
  go_wp2_with fail
  refine (awake_any _).mono ?_
  rintro e w1 ⟨rfl, k1⟩
  have A := (((Blk.new w 28 #[.int .i64 aR, .int .i64 aM]).alloc (.cells #[.int .i64 bR, .int .i64 bM] 28)).alloc (.cells #[.int .i64 cR0, .int .i64 cM0] 28)).keep k1 (by simp)
  have B := Blk.new (w.alloc (.cells #[.int .i64 aR, .int .i64 aM] 28)) 28 #[.int .i64 bR, .int .i64 bM]
  rw [World.size_alloc] at B
  replace B := (B.alloc (.cells #[.int .i64 cR0, .int .i64 cM0] 28)).keep k1 (by simp)
  have C := Blk.new ((w.alloc (.cells #[.int .i64 aR, .int .i64 aM] 28)).alloc (.cells #[.int .i64 bR, .int .i64 bM] 28)) 28 #[.int .i64 cR0, .int .i64 cM0]
  rw [World.size_alloc, World.size_alloc] at C
  replace C := C.keep k1 (by simp)
  have Ta := Lib.hid (Two.of A)
  have Tb := Lib.hid (Two.of B)
  have Tc := Lib.hid (Two.of C)
  have KK := Lib.hid (((((Keeps.refl [] w).alloc _).alloc _).alloc _).trans k1)
  clear A B C k1
  obtain ⟨p0, p1⟩ := id Ta.out
  obtain ⟨q0, q1⟩ := id Tb.out
  have HK : Hid (Keeps [] w1 w1.drew) := Lib.hid (Keeps.refl _ _).drew
  have tok1 : True := trivial
  go_upto_region 3 with fail
  go_cut [7, 8, 9] (fun s1 s2 s3 wx => ∃ gg cR cM ok er, s1 = .pointer (some ⟨gg, 0, none⟩) ∧ s2 = .bool ok ∧ s3 = .int .i64 er ∧ wx.cell? ⟨gg, 0, none⟩ = some (.int .i64 cR) ∧ wx.cell? ⟨gg, 1, none⟩ = some (.int .i64 cM) ∧ Hid (MeetRes aR aM bR bM cR cM ok er) ∧ Hid (Keeps [] w1 wx))
  case first =>
    go_region_held3 (fun w' => w'.cell? ⟨w.heap.size, 0, none⟩ = some (.int .i64 aR) ∧ w'.cell? ⟨w.heap.size, 1, none⟩ = some (.int .i64 aM) ∧ w'.cell? ⟨w.heap.size + 1, 0, none⟩ = some (.int .i64 bR) ∧ w'.cell? ⟨w.heap.size + 1, 1, none⟩ = some (.int .i64 bM))
      ((refine (fun (kk : Keeps [] w1 _) => ⟨kk.cellEq p0 (by simp), kk.cellEq p1 (by simp), kk.cellEq q0 (by simp), kk.cellEq q1 (by simp)⟩) ?_; first | exact HK.out | exact HK.out.alloc _ | exact (HK.out.setCell (.inr (by dsimp only; omega)) _).setCell (.inr (by dsimp only; omega)) _ | exact ((HK.out.alloc _).setCell (.inr (by dsimp only; omega)) _).setCell (.inr (by dsimp only; omega)) _))
      (first
        | (go_at_call 17; have _t := tok1; refine (to_keeps _ _ _).mono ?_; rintro e wA ⟨rfl, hk⟩; obtain ⟨hcA, hfA⟩ := bcell hk.below; have zA := hk.size; have yA := fun b h => Nat.lt_of_lt_of_le (n := b) h hk.size; (try simp only [World.size_alloc, World.size_drew] at zA yA); replace HK : Hid (Keeps [] w1 wA) := Lib.hid (by first | exact HK.out.trans hk | exact (HK.out.alloc _).trans hk); clear hk tok1 _t)
        | (go_at_call 17; refine (to_keeps _ _ _).mono ?_; rintro e wB ⟨rfl, hk⟩; obtain ⟨hcB, hfB⟩ := bcell hk.below; have zB := hk.size; have yB := fun b h => Nat.lt_of_lt_of_le (n := b) h hk.size; (try simp only [World.size_alloc, World.size_drew] at zB yB); (try have yAB := fun b h => yB b (yA b h)); replace HK : Hid (Keeps [] w1 wB) := Lib.hid (by first | exact HK.out.trans hk | exact (HK.out.alloc _).trans hk); clear hk)
        | (go_at_call 16; refine (meet2 _ _ _ _ _).mono ?_; rintro e wC ⟨cR, cM, ok, er, rfl, hS, hk⟩; replace hS := Lib.hid hS; obtain ⟨hcC, hfC⟩ := bcell hk.below; have zC := hk.size; (try simp only [World.size_alloc, World.size_drew] at zC); replace HK : Hid (Keeps [] w1 wC) := Lib.hid (by first | exact HK.out.trans hk | exact (HK.out.alloc _).trans hk); clear hk))
    all_goals
      go_wp2_with fail
      go_meet
      refine ⟨_, cR, cM, ok, er, rfl, rfl, rfl, ?_, ?_, hS, Lib.hid ?_⟩
      · first
        | (simp [World.cell?_alloc_new]; done)
        | exact (two_set (u0 := .int .i64 0) (u1 := .int .i64 0) (by refine (hcC _ _ ?_).trans ?_; (focus (first | omega | (simp; done) | (simp; omega))); first | exact new_zero _ 0 (by omega) | (refine (hcB _ _ ?_).trans ?_; (focus (first | omega | (simp; done) | (simp; omega))); first | exact new_zero _ 0 (by omega) | (refine (hcA _ _ ?_).trans ?_; (focus (first | omega | (simp; done) | (simp; omega))); first | exact new_zero _ 0 (by omega) | exact new_zero' _ 0 (by omega)))) (by refine (hcC _ _ ?_).trans ?_; (focus (first | omega | (simp; done) | (simp; omega))); first | exact new_zero _ 1 (by omega) | (refine (hcB _ _ ?_).trans ?_; (focus (first | omega | (simp; done) | (simp; omega))); first | exact new_zero _ 1 (by omega) | (refine (hcA _ _ ?_).trans ?_; (focus (first | omega | (simp; done) | (simp; omega))); first | exact new_zero _ 1 (by omega) | exact new_zero' _ 1 (by omega))))).1
      · first
        | (simp [World.cell?_alloc_new]; done)
        | exact (two_set (u0 := .int .i64 0) (u1 := .int .i64 0) (by refine (hcC _ _ ?_).trans ?_; (focus (first | omega | (simp; done) | (simp; omega))); first | exact new_zero _ 0 (by omega) | (refine (hcB _ _ ?_).trans ?_; (focus (first | omega | (simp; done) | (simp; omega))); first | exact new_zero _ 0 (by omega) | (refine (hcA _ _ ?_).trans ?_; (focus (first | omega | (simp; done) | (simp; omega))); first | exact new_zero _ 0 (by omega) | exact new_zero' _ 0 (by omega)))) (by refine (hcC _ _ ?_).trans ?_; (focus (first | omega | (simp; done) | (simp; omega))); first | exact new_zero _ 1 (by omega) | (refine (hcB _ _ ?_).trans ?_; (focus (first | omega | (simp; done) | (simp; omega))); first | exact new_zero _ 1 (by omega) | (refine (hcA _ _ ?_).trans ?_; (focus (first | omega | (simp; done) | (simp; omega))); first | exact new_zero _ 1 (by omega) | exact new_zero' _ 1 (by omega))))).2
      · first | exact HK.out.alloc _ | exact (HK.out.setCell (.inr (by dsimp only; omega)) _).setCell (.inr (by dsimp only; omega)) _
  case rest =>
    obtain ⟨gx, xR, xM, px, ex, rfl, rfl, rfl, g0, g1, Mx, HK'⟩ := hcut
    have Tx := Lib.hid (Two.mk g0 g1)
    replace Ta := Lib.hid (Ta.out.keep HK'.out)
    replace Tb := Lib.hid (Tb.out.keep HK'.out)
    replace Tc := Lib.hid (Tc.out.keep HK'.out)
    replace KK := Lib.hid (KK.out.trans HK'.out)
    clear HK HK' tok1 p0 p1 q0 q1 g0 g1
    obtain ⟨w2, rfl⟩ : ∃ w2, w2 = wc := ⟨_, rfl⟩
    obtain ⟨p0, p1⟩ := id Tb.out
    obtain ⟨q0, q1⟩ := id Ta.out
    have HK : Hid (Keeps [] w2 w2.drew) := Lib.hid (Keeps.refl _ _).drew
    have tok1 : True := trivial
    go_upto_region 4 with fail
    go_cut [10, 11, 12] (fun s1 s2 s3 wx => ∃ gg cR cM ok er, s1 = .pointer (some ⟨gg, 0, none⟩) ∧ s2 = .bool ok ∧ s3 = .int .i64 er ∧ wx.cell? ⟨gg, 0, none⟩ = some (.int .i64 cR) ∧ wx.cell? ⟨gg, 1, none⟩ = some (.int .i64 cM) ∧ Hid (MeetRes bR bM aR aM cR cM ok er) ∧ Hid (Keeps [] w2 wx))
    case first =>
      go_region_held3 (fun w' => w'.cell? ⟨w.heap.size + 1, 0, none⟩ = some (.int .i64 bR) ∧ w'.cell? ⟨w.heap.size + 1, 1, none⟩ = some (.int .i64 bM) ∧ w'.cell? ⟨w.heap.size, 0, none⟩ = some (.int .i64 aR) ∧ w'.cell? ⟨w.heap.size, 1, none⟩ = some (.int .i64 aM))
        ((refine (fun (kk : Keeps [] w2 _) => ⟨kk.cellEq p0 (by simp), kk.cellEq p1 (by simp), kk.cellEq q0 (by simp), kk.cellEq q1 (by simp)⟩) ?_; first | exact HK.out | exact HK.out.alloc _ | exact (HK.out.setCell (.inr (by dsimp only; omega)) _).setCell (.inr (by dsimp only; omega)) _ | exact ((HK.out.alloc _).setCell (.inr (by dsimp only; omega)) _).setCell (.inr (by dsimp only; omega)) _))
        (first
          | (go_at_call 17; have _t := tok1; refine (to_keeps _ _ _).mono ?_; rintro e wA ⟨rfl, hk⟩; obtain ⟨hcA, hfA⟩ := bcell hk.below; have zA := hk.size; have yA := fun b h => Nat.lt_of_lt_of_le (n := b) h hk.size; (try simp only [World.size_alloc, World.size_drew] at zA yA); replace HK : Hid (Keeps [] w2 wA) := Lib.hid (by first | exact HK.out.trans hk | exact (HK.out.alloc _).trans hk); clear hk tok1 _t)
          | (go_at_call 17; refine (to_keeps _ _ _).mono ?_; rintro e wB ⟨rfl, hk⟩; obtain ⟨hcB, hfB⟩ := bcell hk.below; have zB := hk.size; have yB := fun b h => Nat.lt_of_lt_of_le (n := b) h hk.size; (try simp only [World.size_alloc, World.size_drew] at zB yB); (try have yAB := fun b h => yB b (yA b h)); replace HK : Hid (Keeps [] w2 wB) := Lib.hid (by first | exact HK.out.trans hk | exact (HK.out.alloc _).trans hk); clear hk)
          | (go_at_call 16; refine (meet2 _ _ _ _ _).mono ?_; rintro e wC ⟨cR, cM, ok, er, rfl, hS, hk⟩; replace hS := Lib.hid hS; obtain ⟨hcC, hfC⟩ := bcell hk.below; have zC := hk.size; (try simp only [World.size_alloc, World.size_drew] at zC); replace HK : Hid (Keeps [] w2 wC) := Lib.hid (by first | exact HK.out.trans hk | exact (HK.out.alloc _).trans hk); clear hk))
      all_goals
        go_wp2_with fail
        go_meet
        refine ⟨_, cR, cM, ok, er, rfl, rfl, rfl, ?_, ?_, hS, Lib.hid ?_⟩
        · first
          | (simp [World.cell?_alloc_new]; done)
          | exact (two_set (u0 := .int .i64 0) (u1 := .int .i64 0) (by refine (hcC _ _ ?_).trans ?_; (focus (first | omega | (simp; done) | (simp; omega))); first | exact new_zero _ 0 (by omega) | (refine (hcB _ _ ?_).trans ?_; (focus (first | omega | (simp; done) | (simp; omega))); first | exact new_zero _ 0 (by omega) | (refine (hcA _ _ ?_).trans ?_; (focus (first | omega | (simp; done) | (simp; omega))); first | exact new_zero _ 0 (by omega) | exact new_zero' _ 0 (by omega)))) (by refine (hcC _ _ ?_).trans ?_; (focus (first | omega | (simp; done) | (simp; omega))); first | exact new_zero _ 1 (by omega) | (refine (hcB _ _ ?_).trans ?_; (focus (first | omega | (simp; done) | (simp; omega))); first | exact new_zero _ 1 (by omega) | (refine (hcA _ _ ?_).trans ?_; (focus (first | omega | (simp; done) | (simp; omega))); first | exact new_zero _ 1 (by omega) | exact new_zero' _ 1 (by omega))))).1
        · first
          | (simp [World.cell?_alloc_new]; done)
          | exact (two_set (u0 := .int .i64 0) (u1 := .int .i64 0) (by refine (hcC _ _ ?_).trans ?_; (focus (first | omega | (simp; done) | (simp; omega))); first | exact new_zero _ 0 (by omega) | (refine (hcB _ _ ?_).trans ?_; (focus (first | omega | (simp; done) | (simp; omega))); first | exact new_zero _ 0 (by omega) | (refine (hcA _ _ ?_).trans ?_; (focus (first | omega | (simp; done) | (simp; omega))); first | exact new_zero _ 0 (by omega) | exact new_zero' _ 0 (by omega)))) (by refine (hcC _ _ ?_).trans ?_; (focus (first | omega | (simp; done) | (simp; omega))); first | exact new_zero _ 1 (by omega) | (refine (hcB _ _ ?_).trans ?_; (focus (first | omega | (simp; done) | (simp; omega))); first | exact new_zero _ 1 (by omega) | (refine (hcA _ _ ?_).trans ?_; (focus (first | omega | (simp; done) | (simp; omega))); first | exact new_zero _ 1 (by omega) | exact new_zero' _ 1 (by omega))))).2
        · first | exact HK.out.alloc _ | exact (HK.out.setCell (.inr (by dsimp only; omega)) _).setCell (.inr (by dsimp only; omega)) _
    case rest =>
      obtain ⟨gy, yR, yM, py, ey, rfl, rfl, rfl, g0, g1, My, HK'⟩ := hcut
      have Ty := Lib.hid (Two.mk g0 g1)
      replace Ta := Lib.hid (Ta.out.keep HK'.out)
      replace Tb := Lib.hid (Tb.out.keep HK'.out)
      replace Tc := Lib.hid (Tc.out.keep HK'.out)
      replace Tx := Lib.hid (Tx.out.keep HK'.out)
      replace KK := Lib.hid (KK.out.trans HK'.out)
      clear HK HK' tok1 p0 p1 q0 q1 g0 g1
      obtain ⟨w3, rfl⟩ : ∃ w3, w3 = wc := ⟨_, rfl⟩
      obtain ⟨rfl, rfl, rfl, rfl⟩ := Mx.out.comm My.out
      obtain ⟨x0, x1⟩ := id Tx.out
      obtain ⟨y0, y1⟩ := id Ty.out
      obtain ⟨p0, p1⟩ := id Tb.out
      obtain ⟨q0, q1⟩ := id Tc.out
      go_upto_region 7 with fail
      clear x0 x1 y0 y1 p0 p1 q0 q1
      obtain ⟨p0, p1⟩ := id Tb.out
      obtain ⟨q0, q1⟩ := id Tc.out
      have HK : Hid (Keeps [] w3 w3.drew) := Lib.hid (Keeps.refl _ _).drew
      have tok1 : True := trivial
      go_upto_region 7 with fail
      go_cut [13, 14, 15] (fun s1 s2 s3 wx => ∃ gg cR cM ok er, s1 = .pointer (some ⟨gg, 0, none⟩) ∧ s2 = .bool ok ∧ s3 = .int .i64 er ∧ wx.cell? ⟨gg, 0, none⟩ = some (.int .i64 cR) ∧ wx.cell? ⟨gg, 1, none⟩ = some (.int .i64 cM) ∧ Hid (MeetRes bR bM cR0 cM0 cR cM ok er) ∧ Hid (Keeps [] w3 wx))
      case first =>
        go_region_held3 (fun w' => w'.cell? ⟨w.heap.size + 1, 0, none⟩ = some (.int .i64 bR) ∧ w'.cell? ⟨w.heap.size + 1, 1, none⟩ = some (.int .i64 bM) ∧ w'.cell? ⟨w.heap.size + 1 + 1, 0, none⟩ = some (.int .i64 cR0) ∧ w'.cell? ⟨w.heap.size + 1 + 1, 1, none⟩ = some (.int .i64 cM0))
          ((refine (fun (kk : Keeps [] w3 _) => ⟨kk.cellEq p0 (by simp), kk.cellEq p1 (by simp), kk.cellEq q0 (by simp), kk.cellEq q1 (by simp)⟩) ?_; first | exact HK.out | exact HK.out.alloc _ | exact (HK.out.setCell (.inr (by dsimp only; omega)) _).setCell (.inr (by dsimp only; omega)) _ | exact ((HK.out.alloc _).setCell (.inr (by dsimp only; omega)) _).setCell (.inr (by dsimp only; omega)) _))
          (first
            | (go_at_call 17; have _t := tok1; refine (to_keeps _ _ _).mono ?_; rintro e wA ⟨rfl, hk⟩; obtain ⟨hcA, hfA⟩ := bcell hk.below; have zA := hk.size; have yA := fun b h => Nat.lt_of_lt_of_le (n := b) h hk.size; (try simp only [World.size_alloc, World.size_drew] at zA yA); replace HK : Hid (Keeps [] w3 wA) := Lib.hid (by first | exact HK.out.trans hk | exact (HK.out.alloc _).trans hk); clear hk tok1 _t)
            | (go_at_call 17; refine (to_keeps _ _ _).mono ?_; rintro e wB ⟨rfl, hk⟩; obtain ⟨hcB, hfB⟩ := bcell hk.below; have zB := hk.size; have yB := fun b h => Nat.lt_of_lt_of_le (n := b) h hk.size; (try simp only [World.size_alloc, World.size_drew] at zB yB); (try have yAB := fun b h => yB b (yA b h)); replace HK : Hid (Keeps [] w3 wB) := Lib.hid (by first | exact HK.out.trans hk | exact (HK.out.alloc _).trans hk); clear hk)
            | (go_at_call 16; refine (meet2 _ _ _ _ _).mono ?_; rintro e wC ⟨cR, cM, ok, er, rfl, hS, hk⟩; replace hS := Lib.hid hS; obtain ⟨hcC, hfC⟩ := bcell hk.below; have zC := hk.size; (try simp only [World.size_alloc, World.size_drew] at zC); replace HK : Hid (Keeps [] w3 wC) := Lib.hid (by first | exact HK.out.trans hk | exact (HK.out.alloc _).trans hk); clear hk))
        all_goals
          go_wp2_with fail
          go_meet
          refine ⟨_, cR, cM, ok, er, rfl, rfl, rfl, ?_, ?_, hS, Lib.hid ?_⟩
          · first
            | (simp [World.cell?_alloc_new]; done)
            | exact (two_set (u0 := .int .i64 0) (u1 := .int .i64 0) (by refine (hcC _ _ ?_).trans ?_; (focus (first | omega | (simp; done) | (simp; omega))); first | exact new_zero _ 0 (by omega) | (refine (hcB _ _ ?_).trans ?_; (focus (first | omega | (simp; done) | (simp; omega))); first | exact new_zero _ 0 (by omega) | (refine (hcA _ _ ?_).trans ?_; (focus (first | omega | (simp; done) | (simp; omega))); first | exact new_zero _ 0 (by omega) | exact new_zero' _ 0 (by omega)))) (by refine (hcC _ _ ?_).trans ?_; (focus (first | omega | (simp; done) | (simp; omega))); first | exact new_zero _ 1 (by omega) | (refine (hcB _ _ ?_).trans ?_; (focus (first | omega | (simp; done) | (simp; omega))); first | exact new_zero _ 1 (by omega) | (refine (hcA _ _ ?_).trans ?_; (focus (first | omega | (simp; done) | (simp; omega))); first | exact new_zero _ 1 (by omega) | exact new_zero' _ 1 (by omega))))).1
          · first
            | (simp [World.cell?_alloc_new]; done)
            | exact (two_set (u0 := .int .i64 0) (u1 := .int .i64 0) (by refine (hcC _ _ ?_).trans ?_; (focus (first | omega | (simp; done) | (simp; omega))); first | exact new_zero _ 0 (by omega) | (refine (hcB _ _ ?_).trans ?_; (focus (first | omega | (simp; done) | (simp; omega))); first | exact new_zero _ 0 (by omega) | (refine (hcA _ _ ?_).trans ?_; (focus (first | omega | (simp; done) | (simp; omega))); first | exact new_zero _ 0 (by omega) | exact new_zero' _ 0 (by omega)))) (by refine (hcC _ _ ?_).trans ?_; (focus (first | omega | (simp; done) | (simp; omega))); first | exact new_zero _ 1 (by omega) | (refine (hcB _ _ ?_).trans ?_; (focus (first | omega | (simp; done) | (simp; omega))); first | exact new_zero _ 1 (by omega) | (refine (hcA _ _ ?_).trans ?_; (focus (first | omega | (simp; done) | (simp; omega))); first | exact new_zero _ 1 (by omega) | exact new_zero' _ 1 (by omega))))).2
          · first | exact HK.out.alloc _ | exact (HK.out.setCell (.inr (by dsimp only; omega)) _).setCell (.inr (by dsimp only; omega)) _
      case rest =>
        obtain ⟨gz, zR, zM, pz, ez, rfl, rfl, rfl, g0, g1, Mz, HK'⟩ := hcut
        have Tz := Lib.hid (Two.mk g0 g1)
        replace Ta := Lib.hid (Ta.out.keep HK'.out)
        replace Tb := Lib.hid (Tb.out.keep HK'.out)
        replace Tc := Lib.hid (Tc.out.keep HK'.out)
        replace Tx := Lib.hid (Tx.out.keep HK'.out)
        replace Ty := Lib.hid (Ty.out.keep HK'.out)
        replace KK := Lib.hid (KK.out.trans HK'.out)
        clear HK HK' tok1 p0 p1 q0 q1 g0 g1
        obtain ⟨w4, rfl⟩ : ∃ w4, w4 = wc := ⟨_, rfl⟩
        by_cases h1 : ex = 0
        · subst h1
          by_cases h2 : ez = 0
          · subst h2
            cases px
            · go_wp2_with fail
              go_ret
              exact ⟨rfl, KK.out⟩
            · cases pz
              · go_wp2_with fail
                go_ret
                exact ⟨rfl, KK.out⟩
              · have hdone : True := trivial
                obtain ⟨p0, p1⟩ := id Tx.out
                obtain ⟨q0, q1⟩ := id Tc.out
                have HK : Hid (Keeps [] w4 w4.drew) := Lib.hid (Keeps.refl _ _).drew
                have tok1 : True := trivial
                go_upto_region 10 with fail
                go_cut [16, 17, 18] (fun s1 s2 s3 wx => ∃ gg cR cM ok er, s1 = .pointer (some ⟨gg, 0, none⟩) ∧ s2 = .bool ok ∧ s3 = .int .i64 er ∧ wx.cell? ⟨gg, 0, none⟩ = some (.int .i64 cR) ∧ wx.cell? ⟨gg, 1, none⟩ = some (.int .i64 cM) ∧ Hid (MeetRes xR xM cR0 cM0 cR cM ok er) ∧ Hid (Keeps [] w4 wx))
                case first =>
                  go_region_held3 (fun w' => w'.cell? ⟨gx, 0, none⟩ = some (.int .i64 xR) ∧ w'.cell? ⟨gx, 1, none⟩ = some (.int .i64 xM) ∧ w'.cell? ⟨w.heap.size + 1 + 1, 0, none⟩ = some (.int .i64 cR0) ∧ w'.cell? ⟨w.heap.size + 1 + 1, 1, none⟩ = some (.int .i64 cM0))
                    ((refine (fun (kk : Keeps [] w4 _) => ⟨kk.cellEq p0 (by simp), kk.cellEq p1 (by simp), kk.cellEq q0 (by simp), kk.cellEq q1 (by simp)⟩) ?_; first | exact HK.out | exact HK.out.alloc _ | exact (HK.out.setCell (.inr (by dsimp only; omega)) _).setCell (.inr (by dsimp only; omega)) _ | exact ((HK.out.alloc _).setCell (.inr (by dsimp only; omega)) _).setCell (.inr (by dsimp only; omega)) _))
                    (first
                      | (go_at_call 17; have _t := tok1; refine (to_keeps _ _ _).mono ?_; rintro e wA ⟨rfl, hk⟩; obtain ⟨hcA, hfA⟩ := bcell hk.below; have zA := hk.size; have yA := fun b h => Nat.lt_of_lt_of_le (n := b) h hk.size; (try simp only [World.size_alloc, World.size_drew] at zA yA); replace HK : Hid (Keeps [] w4 wA) := Lib.hid (by first | exact HK.out.trans hk | exact (HK.out.alloc _).trans hk); clear hk tok1 _t)
                      | (go_at_call 16; refine (meet2 _ _ _ _ _).mono ?_; rintro e wC ⟨cR, cM, ok, er, rfl, hS, hk⟩; replace hS := Lib.hid hS; obtain ⟨hcC, hfC⟩ := bcell hk.below; have zC := hk.size; (try simp only [World.size_alloc, World.size_drew] at zC); replace HK : Hid (Keeps [] w4 wC) := Lib.hid (by first | exact HK.out.trans hk | exact (HK.out.alloc _).trans hk); clear hk))
                  all_goals
                    go_wp2_with fail
                    go_meet
                    refine ⟨_, cR, cM, ok, er, rfl, rfl, rfl, ?_, ?_, hS, Lib.hid ?_⟩
                    · first
                      | (simp [World.cell?_alloc_new]; done)
                      | exact (two_set (u0 := .int .i64 0) (u1 := .int .i64 0) (by refine (hcC _ _ ?_).trans ?_; (focus (first | omega | (simp; done) | (simp; omega))); first | exact new_zero _ 0 (by omega) | (refine (hcA _ _ ?_).trans ?_; (focus (first | omega | (simp; done) | (simp; omega))); first | exact new_zero _ 0 (by omega) | exact new_zero' _ 0 (by omega))) (by refine (hcC _ _ ?_).trans ?_; (focus (first | omega | (simp; done) | (simp; omega))); first | exact new_zero _ 1 (by omega) | (refine (hcA _ _ ?_).trans ?_; (focus (first | omega | (simp; done) | (simp; omega))); first | exact new_zero _ 1 (by omega) | exact new_zero' _ 1 (by omega)))).1
                    · first
                      | (simp [World.cell?_alloc_new]; done)
                      | exact (two_set (u0 := .int .i64 0) (u1 := .int .i64 0) (by refine (hcC _ _ ?_).trans ?_; (focus (first | omega | (simp; done) | (simp; omega))); first | exact new_zero _ 0 (by omega) | (refine (hcA _ _ ?_).trans ?_; (focus (first | omega | (simp; done) | (simp; omega))); first | exact new_zero _ 0 (by omega) | exact new_zero' _ 0 (by omega))) (by refine (hcC _ _ ?_).trans ?_; (focus (first | omega | (simp; done) | (simp; omega))); first | exact new_zero _ 1 (by omega) | (refine (hcA _ _ ?_).trans ?_; (focus (first | omega | (simp; done) | (simp; omega))); first | exact new_zero _ 1 (by omega) | exact new_zero' _ 1 (by omega)))).2
                    · first | exact HK.out.alloc _ | exact (HK.out.setCell (.inr (by dsimp only; omega)) _).setCell (.inr (by dsimp only; omega)) _
                case rest =>
                  obtain ⟨gl, lR, lM, pl, el, rfl, rfl, rfl, g0, g1, Ml, HK'⟩ := hcut
                  have Tl := Lib.hid (Two.mk g0 g1)
                  replace Ta := Lib.hid (Ta.out.keep HK'.out)
                  replace Tb := Lib.hid (Tb.out.keep HK'.out)
                  replace Tc := Lib.hid (Tc.out.keep HK'.out)
                  replace Tx := Lib.hid (Tx.out.keep HK'.out)
                  replace Ty := Lib.hid (Ty.out.keep HK'.out)
                  replace Tz := Lib.hid (Tz.out.keep HK'.out)
                  replace KK := Lib.hid (KK.out.trans HK'.out)
                  clear HK HK' tok1 p0 p1 q0 q1 g0 g1
                  obtain ⟨w5, rfl⟩ : ∃ w5, w5 = wc := ⟨_, rfl⟩
                  obtain ⟨p0, p1⟩ := id Ta.out
                  obtain ⟨q0, q1⟩ := id Tz.out
                  have HK : Hid (Keeps [] w5 w5.drew) := Lib.hid (Keeps.refl _ _).drew
                  have tok1 : True := trivial
                  go_upto_region 11 with fail
                  go_cut [19, 20, 21] (fun s1 s2 s3 wx => ∃ gg cR cM ok er, s1 = .pointer (some ⟨gg, 0, none⟩) ∧ s2 = .bool ok ∧ s3 = .int .i64 er ∧ wx.cell? ⟨gg, 0, none⟩ = some (.int .i64 cR) ∧ wx.cell? ⟨gg, 1, none⟩ = some (.int .i64 cM) ∧ Hid (MeetRes aR aM zR zM cR cM ok er) ∧ Hid (Keeps [] w5 wx))
                  case first =>
                    go_region_held3 (fun w' => w'.cell? ⟨w.heap.size, 0, none⟩ = some (.int .i64 aR) ∧ w'.cell? ⟨w.heap.size, 1, none⟩ = some (.int .i64 aM) ∧ w'.cell? ⟨gz, 0, none⟩ = some (.int .i64 zR) ∧ w'.cell? ⟨gz, 1, none⟩ = some (.int .i64 zM))
                      ((refine (fun (kk : Keeps [] w5 _) => ⟨kk.cellEq p0 (by simp), kk.cellEq p1 (by simp), kk.cellEq q0 (by simp), kk.cellEq q1 (by simp)⟩) ?_; first | exact HK.out | exact HK.out.alloc _ | exact (HK.out.setCell (.inr (by dsimp only; omega)) _).setCell (.inr (by dsimp only; omega)) _ | exact ((HK.out.alloc _).setCell (.inr (by dsimp only; omega)) _).setCell (.inr (by dsimp only; omega)) _))
                      (first
                        | (go_at_call 17; have _t := tok1; refine (to_keeps _ _ _).mono ?_; rintro e wA ⟨rfl, hk⟩; obtain ⟨hcA, hfA⟩ := bcell hk.below; have zA := hk.size; have yA := fun b h => Nat.lt_of_lt_of_le (n := b) h hk.size; (try simp only [World.size_alloc, World.size_drew] at zA yA); replace HK : Hid (Keeps [] w5 wA) := Lib.hid (by first | exact HK.out.trans hk | exact (HK.out.alloc _).trans hk); clear hk tok1 _t)
                        | (go_at_call 16; refine (meet2 _ _ _ _ _).mono ?_; rintro e wC ⟨cR, cM, ok, er, rfl, hS, hk⟩; replace hS := Lib.hid hS; obtain ⟨hcC, hfC⟩ := bcell hk.below; have zC := hk.size; (try simp only [World.size_alloc, World.size_drew] at zC); replace HK : Hid (Keeps [] w5 wC) := Lib.hid (by first | exact HK.out.trans hk | exact (HK.out.alloc _).trans hk); clear hk))
                    all_goals
                      go_wp2_with fail
                      go_meet
                      refine ⟨_, cR, cM, ok, er, rfl, rfl, rfl, ?_, ?_, hS, Lib.hid ?_⟩
                      · first
                        | (simp [World.cell?_alloc_new]; done)
                        | exact (two_set (u0 := .int .i64 0) (u1 := .int .i64 0) (by refine (hcC _ _ ?_).trans ?_; (focus (first | omega | (simp; done) | (simp; omega))); first | exact new_zero _ 0 (by omega) | (refine (hcA _ _ ?_).trans ?_; (focus (first | omega | (simp; done) | (simp; omega))); first | exact new_zero _ 0 (by omega) | exact new_zero' _ 0 (by omega))) (by refine (hcC _ _ ?_).trans ?_; (focus (first | omega | (simp; done) | (simp; omega))); first | exact new_zero _ 1 (by omega) | (refine (hcA _ _ ?_).trans ?_; (focus (first | omega | (simp; done) | (simp; omega))); first | exact new_zero _ 1 (by omega) | exact new_zero' _ 1 (by omega)))).1
                      · first
                        | (simp [World.cell?_alloc_new]; done)
                        | exact (two_set (u0 := .int .i64 0) (u1 := .int .i64 0) (by refine (hcC _ _ ?_).trans ?_; (focus (first | omega | (simp; done) | (simp; omega))); first | exact new_zero _ 0 (by omega) | (refine (hcA _ _ ?_).trans ?_; (focus (first | omega | (simp; done) | (simp; omega))); first | exact new_zero _ 0 (by omega) | exact new_zero' _ 0 (by omega))) (by refine (hcC _ _ ?_).trans ?_; (focus (first | omega | (simp; done) | (simp; omega))); first | exact new_zero _ 1 (by omega) | (refine (hcA _ _ ?_).trans ?_; (focus (first | omega | (simp; done) | (simp; omega))); first | exact new_zero _ 1 (by omega) | exact new_zero' _ 1 (by omega)))).2
                      · first | exact HK.out.alloc _ | exact (HK.out.setCell (.inr (by dsimp only; omega)) _).setCell (.inr (by dsimp only; omega)) _
                  case rest =>
                    obtain ⟨gr, rR, rM, pr, er2, rfl, rfl, rfl, g0, g1, Mr, HK'⟩ := hcut
                    have Tr := Lib.hid (Two.mk g0 g1)
                    replace Ta := Lib.hid (Ta.out.keep HK'.out)
                    replace Tb := Lib.hid (Tb.out.keep HK'.out)
                    replace Tc := Lib.hid (Tc.out.keep HK'.out)
                    replace Tx := Lib.hid (Tx.out.keep HK'.out)
                    replace Ty := Lib.hid (Ty.out.keep HK'.out)
                    replace Tz := Lib.hid (Tz.out.keep HK'.out)
                    replace Tl := Lib.hid (Tl.out.keep HK'.out)
                    replace KK := Lib.hid (KK.out.trans HK'.out)
                    clear HK HK' tok1 p0 p1 q0 q1 g0 g1
                    obtain ⟨w6, rfl⟩ : ∃ w6, w6 = wc := ⟨_, rfl⟩
                    obtain ⟨p0, p1⟩ := id Tl.out
                    obtain ⟨q0, q1⟩ := id Tr.out
                    by_cases f1 : el = 0
                    · subst f1
                      by_cases f2 : er2 = 0
                      · subst f2
                        obtain ⟨rfl, rfl, rfl⟩ := Mx.out.assoc Mz.out Ml.out Mr.out
                        go_wp2_with fail
                        go_ret
                        exact ⟨by simp, KK.out⟩
                      · have f3 : (er2 == 0) = false := by simpa using f2
                        have f4 : (er2 != 0) = true := by simpa using f2
                        go_wp2_with fail
                        go_ret
                        exact ⟨by simp, KK.out⟩
                    · have f3 : (el == 0) = false := by simpa using f1
                      have f4 : (el != 0) = true := by simpa using f1
                      go_wp2_with fail
                      go_ret
                      exact ⟨by simp, KK.out⟩
          · have f3 : (ez == 0) = false := by simpa using h2
            have f4 : (ez != 0) = true := by simpa using h2
            go_wp2_with fail
            go_ret
            exact ⟨rfl, KK.out⟩
        · have f3 : (ex == 0) = false := by simpa using h1
          have f4 : (ex != 0) = true := by simpa using h1
          go_wp2_with fail
          go_ret
          exact ⟨rfl, KK.out⟩
end Go.Proofs.Ytbinnmcodlejmaa
