/- The reference's session: Done, Transaction, Next, Do. -/
import Derived.Test.YtbhdangjafokaaaSess8
import Derived.Deep.RegionWith
import Derived.Deep.RegionHeld3
import Derived.Deep.DeepCutAuto
namespace Go.Proofs.Ytbhdangjafokaaa
open Go.RowKit
set_option linter.unusedSimpArgs false
set_option linter.unusedVariables false

theorem bcell {W w1 : World} (hb : Below W.heap.size W w1) : (∀ b o, b < W.heap.size → w1.cell? ⟨b, o, none⟩ = W.cell? ⟨b, o, none⟩) ∧ (∀ b o, b < W.heap.size → w1.frozen? ⟨b, o, none⟩ = W.frozen? ⟨b, o, none⟩) :=
  ⟨fun b o h => hb.cell (p := ⟨b, o, none⟩) h, fun b o h => hb.frozen (p := ⟨b, o, none⟩) h⟩

set_option maxHeartbeats 1600000 in
theorem rtrans_any (w : World) (A : Option Addr) (num : Int) (n c cur dn : Nat) (h0 : 0 ≤ num) (h8 : num < 8) (hc : cur ≤ 1048576) :
    Calls Try.prog 28 #[.agg #[.int .i64 num, .slice A n c, .int .i64 cur, .int .i64 dn]] w fun e w' => e = .returned (.int .i64 (1 + cur * 8 + num)) ∧ Keeps [] w w' := by
  have e1 : IntKind.i64.wrap ((cur : Int) * 8) = (cur : Int) * 8 := IntWalk.i64_in _ (by omega)
  have e2 : IntKind.i64.wrap (1 + (cur : Int) * 8) = 1 + (cur : Int) * 8 := IntWalk.i64_in _ (by omega)
  have e3 : IntKind.i64.wrap (1 + (cur : Int) * 8 + num) = 1 + (cur : Int) * 8 + num := IntWalk.i64_in _ (by omega)
  go_enter Try.func28, Try.ntmps28
  go_wp2_with fail
  go_ret
  exact ⟨rfl, (Keeps.refl _ _).alloc _⟩

set_option maxHeartbeats 1600000 in
theorem rdone_any (w : World) (B : Nat) (A : Option Addr) (ks : List Int) (num : Int) (n c cur dn : Nat) (hn : ks.length = n) (hnc : n ≤ c) (hO : IntsAt w B A ks) (hB : B ≤ w.heap.size) (h60 : n ≤ 1048576) :
    Calls Try.prog 27 #[.agg #[.int .i64 num, .slice A n c, .int .i64 cur, .int .i64 dn]] w fun e w' => e = .returned (.bool (decide ((split ks).length ≤ cur))) ∧ Keeps [] w w' := by
  have HS : Hid (∀ w', Keeps [] w w' → Calls Try.prog 13 #[.slice A n c] w' (fun en w2 => ∃ A2 c2, en = .returned (.slice A2 (split ks).length c2) ∧ Keeps [] w w2 ∧ Keeps [] w' w2)) := Lib.hid (fun w' k => by
    refine (rsplit_any w' B A ks n c hn hnc (hO.keep k (by simp)) (Nat.le_trans hB k.size) h60).mono ?_
    rintro e w2 ⟨v, rfl, o2, k2⟩
    obtain ⟨A2, c2, rfl, _, _⟩ := own_slice o2
    exact ⟨A2, c2, rfl, k.trans k2, k2⟩)
  clear hO
  generalize hm : (split ks).length = m at *
  go_enter Try.func27, Try.ntmps27
  go_wp2_with fail
  have bk := Blk.new w 62 #[.int .i64 num, .slice A n c, .int .i64 cur, .int .i64 dn]
  have kk : Keeps [] w (w.alloc (.cells #[.int .i64 num, .slice A n c, .int .i64 cur, .int .i64 dn] 62)) := (Keeps.refl _ _).alloc _
  replace bk := Lib.hid bk
  replace kk := Lib.hid kk
  go_region_with (go_at_call 13; refine (HS.out _ kk.out.drew).mono ?_; rintro e w1 ⟨A2, c2, rfl, k1, k2⟩; have s2 : w1.cell? ⟨w.heap.size, 2, none⟩ = some (.int .i64 cur) := (bk.out.drew.keep k2 (by simp)).cell 2; replace k1 := Lib.hid k1; replace k2 := Lib.hid k2)
  all_goals
    go_wp2_with fail
    go_ret
    exact ⟨rfl, k1.out⟩
set_option maxHeartbeats 3200000 in
theorem rnext_any (w : World) (B : Nat) (A : Option Addr) (ks : List Int) (num : Int) (n c cur dn : Nat) (hn : ks.length = n) (hnc : n ≤ c) (hO : IntsAt w B A ks) (hB : B ≤ w.heap.size) (h60 : n ≤ 1048576) (hdn : dn ≤ n) :
    Calls Try.prog 26 #[.agg #[.int .i64 num, .slice A n c, .int .i64 cur, .int .i64 dn]] w fun e w' => e = .returned (.tuple #[.int .i64 ((nx ks cur dn).1 : Nat), .bool (nx ks cur dn).2]) ∧ Keeps [] w w' := by
  have HD : Hid (∀ w', Keeps [] w w' → Calls Try.prog 27 #[.agg #[.int .i64 num, .slice A n c, .int .i64 cur, .int .i64 dn]] w' fun e w2 => e = .returned (.bool (decide ((split ks).length ≤ cur))) ∧ Keeps [] w w2 ∧ Keeps [] w' w2) := Lib.hid (fun w' k => by
    refine (rdone_any w' B A ks num n c cur dn hn hnc (hO.keep k (by simp)) (Nat.le_trans hB k.size) h60).mono ?_
    rintro e w2 ⟨rfl, k2⟩
    exact ⟨rfl, k.trans k2, k2⟩)
  have bk := Blk.new w 62 #[.int .i64 num, .slice A n c, .int .i64 cur, .int .i64 dn]
  have kk : Keeps [] w (w.alloc (.cells #[.int .i64 num, .slice A n c, .int .i64 cur, .int .i64 dn] 62)) := (Keeps.refl _ _).alloc _
  replace bk := Lib.hid bk
  replace kk := Lib.hid kk
  by_cases hlt : cur < (split ks).length
  · obtain ⟨p, hp⟩ : ∃ p, (split ks)[cur]? = some p := ⟨_, List.getElem?_eq_getElem hlt⟩
    have hpb := split_mem hp
    have HS : Hid (∀ w', Keeps [] w w' → Calls Try.prog 13 #[.slice A n c] w' (fun en w2 => ∃ g2 c2, en = .returned (.slice (some ⟨g2, 0, none⟩) (split ks).length c2) ∧ (split ks).length ≤ c2 ∧ c2 ≤ 2 ^ 63 - 1 ∧ w2.cell? ⟨g2, cur * 2, none⟩ = some (.int .i64 p.1) ∧ w2.cell? ⟨g2, cur * 2 + 1, none⟩ = some (.int .i64 p.2) ∧ Keeps [] w w2 ∧ Keeps [] w' w2)) := Lib.hid (fun w' k => by
      refine (rsplit_any w' B A ks n c hn hnc (hO.keep k (by simp)) (Nat.le_trans hB k.size) h60).mono ?_
      rintro e w2 ⟨v, rfl, o2, k2⟩
      obtain ⟨g2, c2, rfl, h1, h2, _, _, hcc⟩ := own_row o2 (by omega)
      have hf := flat_get _ _ _ hp
      exact ⟨g2, c2, rfl, h1, h2, hcc _ _ hf.1, hcc _ _ hf.2, k.trans k2, k2⟩)
    have hsl := split_len ks
    have hk0 : (0 : Int) ≤ (cur : Int) := by omega
    have hk1 : (cur : Int) < ((split ks).length : Int) := by omega
    have hdd : decide ((split ks).length ≤ cur) = false := by simp; omega
    rw [nx_in hp]
    have hpn : p.2 < n := by omega
    clear hO hp
    by_cases hle : p.1 + dn ≤ p.2
    all_goals
      first | rw [if_pos hle] | rw [if_neg hle]
      go_enter Try.func26, Try.ntmps26
      go_wp2_with fail
      refine (HD.out _ kk.out).mono ?_
      rintro e w1 ⟨rfl, k1, k2⟩
      rw [hdd]
      replace bk := Lib.hid (bk.out.keep k2 (by simp))
      have s1 : w1.cell? ⟨w.heap.size, 1, none⟩ = some (.slice A n c) := bk.out.cell 1
      have s2 : w1.cell? ⟨w.heap.size, 2, none⟩ = some (.int .i64 cur) := bk.out.cell 2
      replace k1 := Lib.hid k1
      clear k2 kk HD
      have HK : Hid (Keeps [] w1 w1.drew) := Lib.hid (Keeps.refl _ _).drew
      go_upto_region 3 with fail
      go_cut [4] from 5 to 14 (fun s4 wx => ∃ g, s4 = .pointer (some ⟨g, 0, none⟩) ∧ Hid (Blk wx g 31 #[.int .i64 p.1, .int .i64 p.2]) ∧ Hid (Keeps [] w1 wx))
      case first =>
        have s6 := fun o => ((Keeps.refl [] w1).alloc o).cellEq s1 (by simp)
        have s7 := fun o => ((Keeps.refl [] w1).alloc o).cellEq s2 (by simp)
        go_region_with (go_at_call 13; refine (HS.out _ (k1.out.trans (by first | exact HK.out | exact HK.out.alloc _))).mono ?_; rintro e w2 ⟨g2, c2, rfl, hc2, hm2, f0, f1, _, k2⟩; have f2 := fun o => ((Keeps.refl [] w2).alloc o).cellEq f0 (by simp); have f3 := fun o => ((Keeps.refl [] w2).alloc o).cellEq f1 (by simp); have s4 : w2.cell? ⟨w.heap.size, 2, none⟩ = some (.int .i64 cur) := k2.cellEq (by first | exact HK.out.cellEq s2 (by simp) | exact (HK.out.alloc _).cellEq s2 (by simp)) (by simp); have s5 := fun o => ((Keeps.refl [] w2).alloc o).cellEq s4 (by simp); obtain ⟨hcA, hfA⟩ := bcell k2.below; have zA := k2.size; (try simp only [World.size_alloc, World.size_drew] at zA); replace HK : Hid (Keeps [] w1 w2) := Lib.hid (by first | exact HK.out.trans k2 | exact (HK.out.alloc _).trans k2); replace k2 := Lib.hid k2)
        all_goals
          go_wp2_with fail
          go_meet
          first
            | exact ⟨_, rfl, Lib.hid (Blk.new _ _ _), Lib.hid (HK.out.alloc _)⟩
            | exact ⟨_, rfl, Lib.hid (((Blk.new w1 31 #[.int .i64 0, .int .i64 0]).drew.keep k2.out (by simp)).set_ 0 (.int .i64 p.1) |>.set_ 1 (.int .i64 p.2)), Lib.hid ((HK.out.setCell (.inr (by dsimp only; omega)) _).setCell (.inr (by dsimp only; omega)) _)⟩
      case rest =>
        obtain ⟨g, rfl, hG, HK'⟩ := hcut
        have g0 : wc.cell? ⟨g, 0, none⟩ = some (.int .i64 p.1) := hG.out.cell 0
        have g1 : wc.cell? ⟨g, 1, none⟩ = some (.int .i64 p.2) := hG.out.cell 1
        have s3 : wc.cell? ⟨w.heap.size, 3, none⟩ = some (.int .i64 dn) := (bk.out.keep HK'.out (by simp)).cell 3
        have e1 : IntKind.i64.wrap ((p.1 : Int) + dn) = (p.1 : Int) + dn := IntWalk.i64_in _ (by omega)
        go_wp2_with fail
        go_ret2
        exact ⟨by simp, k1.out.trans HK'.out⟩
  · have hdd : decide ((split ks).length ≤ cur) = true := by simp; omega
    rw [nx_end (by omega)]
    go_enter Try.func26, Try.ntmps26
    go_wp2_with fail
    refine (HD.out _ kk.out).mono ?_
    rintro e w1 ⟨rfl, k1, k2⟩
    rw [hdd]
    replace k1 := Lib.hid k1
    clear k2 kk HD bk
    go_wp2_with fail
    go_ret2
    exact ⟨rfl, k1.out⟩
end Go.Proofs.Ytbhdangjafokaaa
