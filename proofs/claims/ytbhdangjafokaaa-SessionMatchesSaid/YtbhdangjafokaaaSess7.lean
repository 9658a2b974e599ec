/- The contracts of example and awake. -/
import Derived.Test.YtbhdangjafokaaaSess6
namespace Go.Proofs.Ytbhdangjafokaaa
open Go.RowKit
set_option linter.unusedSimpArgs false
set_option linter.unusedVariables false

/-- The kinds of the example. -/
def exs : List Int := [5, 6, 3, 6, 7, 8, 6, 5]
theorem exs_split : split exs = [(0, 0), (1, 4), (5, 5), (6, 7)] := by decide

/-- A session over the kinds ks, and what has turned since w0. -/
structure St (w0 w : World) (b : Nat) (num : Int) (ks : List Int) (cur dn : Nat) : Prop where
  rep : SRep w b num ks cur dn
  keep : Keeps [b] w0 w

theorem st_trans {w0 w : World} {b : Nat} {num : Int} {ks : List Int} {cur dn : Nat} (h : St w0 w b num ks cur dn) {t : Int} (ht : 1 + (cur : Int) * 8 + num = t) :
    Calls Try.prog 15 #[.pointer (some ⟨b, 0, none⟩)] w fun e w' => e = .returned (.int .i64 t) ∧ Hid (St w0 w' b num ks cur dn) := by
  refine (trans_any w b num ks cur dn h.rep).mono ?_
  rintro e w' ⟨rfl, k⟩
  rw [ht]
  exact ⟨rfl, Lib.hid ⟨h.rep.keep k, h.keep.trans k.nil⟩⟩
theorem st_finish {w0 w : World} {b : Nat} {num : Int} {ks : List Int} {cur dn : Nat} (h : St w0 w b num ks cur dn) {c' d' : Nat} (hf : fin ks cur dn = (c', d')) :
    Calls Try.prog 16 #[.pointer (some ⟨b, 0, none⟩)] w fun e w' => e = .returned (.tuple #[]) ∧ Hid (St w0 w' b num ks c' d') := by
  refine (finish_any w b num ks cur dn h.rep).mono ?_
  rw [hf]
  rintro e w' ⟨rfl, r, k⟩
  exact ⟨rfl, Lib.hid ⟨r, h.keep.trans k⟩⟩
theorem st_advance {w0 w : World} {b : Nat} {num : Int} {ks : List Int} {cur dn : Nat} (h : St w0 w b num ks cur dn) {d' : Nat} (hf : adv ks cur dn = d') :
    Calls Try.prog 18 #[.pointer (some ⟨b, 0, none⟩)] w fun e w' => e = .returned (.tuple #[]) ∧ Hid (St w0 w' b num ks cur d') := by
  refine (advance_any w b num ks cur dn h.rep).mono ?_
  rw [hf]
  rintro e w' ⟨rfl, r, k⟩
  exact ⟨rfl, Lib.hid ⟨r, h.keep.trans k⟩⟩
theorem st_restart {w0 w : World} {b : Nat} {num : Int} {ks : List Int} {cur dn : Nat} (h : St w0 w b num ks cur dn) :
    Calls Try.prog 19 #[.pointer (some ⟨b, 0, none⟩)] w fun e w' => e = .returned (.tuple #[]) ∧ Hid (St w0 w' b num ks cur 0) := by
  refine (restart_any w b num ks cur dn h.rep).mono ?_
  rintro e w' ⟨rfl, r, k⟩
  exact ⟨rfl, Lib.hid ⟨r, h.keep.trans k⟩⟩
theorem st_next {w0 w : World} {b : Nat} {num : Int} {ks : List Int} {cur dn : Nat} (h : St w0 w b num ks cur dn) {a : Int} {ok : Bool} (hf : (((nx ks cur dn).1 : Int), (nx ks cur dn).2) = (a, ok)) :
    Calls Try.prog 17 #[.pointer (some ⟨b, 0, none⟩)] w fun e w' => e = .returned (.tuple #[.int .i64 a, .bool ok]) ∧ Hid (St w0 w' b num ks cur dn) := by
  refine (next_any w b num ks cur dn h.rep).mono ?_
  rintro e w' ⟨rfl, k⟩
  injection hf with h1 h2
  rw [h1, h2]
  exact ⟨rfl, Lib.hid ⟨h.rep.keep k, h.keep.trans k.nil⟩⟩
theorem st_done {w0 w : World} {b : Nat} {num : Int} {ks : List Int} {cur dn : Nat} (h : St w0 w b num ks cur dn) {d : Bool} (hd : decide ((split ks).length ≤ cur) = d) :
    Calls Try.prog 20 #[.pointer (some ⟨b, 0, none⟩)] w fun e w' => e = .returned (.bool d) ∧ Hid (St w0 w' b num ks cur dn) := by
  refine (done_any w b num ks cur dn h.rep).mono ?_
  rintro e w' ⟨rfl, k⟩
  rw [hd]
  exact ⟨rfl, Lib.hid ⟨h.rep.keep k, h.keep.trans k.nil⟩⟩
theorem St.keep_ {w0 w w' : World} {b : Nat} {num : Int} {ks : List Int} {cur dn : Nat} (h : St w0 w b num ks cur dn) (k : Keeps [] w w') : St w0 w' b num ks cur dn :=
  ⟨h.rep.keep k, h.keep.trans k.nil⟩

set_option maxHeartbeats 800000 in
theorem example_any (w : World) : Calls Try.prog 24 #[] w fun e w' => ∃ g, e = .returned (.slice (some ⟨g, 0, none⟩) 8 8) ∧ IntsAt w' w'.heap.size (some ⟨g, 0, none⟩) exs ∧ Keeps [] w w' := by
  go_enter Try.func24, Try.ntmps24
  go_wp2_with fail
  go_ret
  refine ⟨w.heap.size, rfl, ?_, (Keeps.refl _ _).alloc _⟩
  intro i k hi
  have hb := Blk.new w 3 #[.int .i64 5, .int .i64 6, .int .i64 3, .int .i64 6, .int .i64 7, .int .i64 8, .int .i64 6, .int .i64 5]
  refine ⟨_, 0, rfl, hb.lt, ?_⟩
  rw [hb.cell]
  rcases i with _ | _ | _ | _ | _ | _ | _ | _ | i
  all_goals first | (cases hi; done) | (cases hi; rfl)

set_option maxHeartbeats 3200000 in
theorem awake_any (w : World) : Calls Try.prog 9 #[] w fun e w' => e = .returned (.bool true) ∧ Keeps [] w w' := by
  go_enter Try.func9, Try.ntmps9
  go_wp2_with fail
  refine (example_any w).mono ?_
  rintro e w1 ⟨g, rfl, i1, k1⟩
  replace i1 := Lib.hid i1
  replace k1 := Lib.hid k1
  go_wp2_with fail
  refine (script_any w1 w1.heap.size _ exs 8 8 rfl (Nat.le_refl _) (Nat.le_refl _) i1.out (by decide)).mono ?_
  rintro e w2 ⟨v, rfl, o2, n2, k2⟩
  replace o2 := Lib.hid o2
  replace n2 := Lib.hid n2
  replace k2 := Lib.hid (k1.out.trans k2)
  clear i1 k1
  go_wp2_with fail
  refine (new_ok w2 2 v _ exs 8 rfl o2.out n2.out (by decide) (by decide) (by decide)).mono ?_
  rintro e w3 ⟨b, rfl, r3, hb, k3⟩
  have h3 : Hid (St w w3 b 2 exs 0 0) := Lib.hid ⟨r3, (k2.out.trans k3).nil⟩
  replace hb : w.heap.size ≤ b := Nat.le_trans k2.out.size hb
  clear o2 n2 k2 k3 r3
  go_wp2_with fail
  refine (new_bad w3 8 none 0 0 (.inr (by decide))).mono ?_
  rintro e w4 ⟨rfl, rfl⟩
  go_wp2_with fail
  refine (new_bad w3 (-1) none 0 0 (.inl (by decide))).mono ?_
  rintro e w4 ⟨rfl, rfl⟩
  go_wp2_with fail
  refine (st_trans h3.out (t := 3) (by decide)).mono ?_
  rintro e w4 ⟨rfl, h4⟩
  clear h3
  go_wp2_with fail
  refine (st_finish h4.out (c' := 1) (d' := 0) (by decide)).mono ?_
  rintro e w5 ⟨rfl, h5⟩
  clear h4
  go_wp2_with fail
  refine (st_trans h5.out (t := 11) (by decide)).mono ?_
  rintro e w6 ⟨rfl, h6⟩
  clear h5
  go_wp2_with fail
  refine (st_advance h6.out (d' := 1) (by decide)).mono ?_
  rintro e w7 ⟨rfl, h7⟩
  clear h6
  go_wp2_with fail
  refine (st_next h7.out (a := 2) (ok := true) (by decide)).mono ?_
  rintro e w8 ⟨rfl, h8⟩
  clear h7
  go_wp2_with fail
  refine (st_finish h8.out (c' := 2) (d' := 0) (by decide)).mono ?_
  rintro e w9 ⟨rfl, h9⟩
  clear h8
  go_wp2_with fail
  refine (st_finish h9.out (c' := 3) (d' := 0) (by decide)).mono ?_
  rintro e wa ⟨rfl, ha⟩
  clear h9
  go_wp2_with fail
  refine (st_advance ha.out (d' := 1) (by decide)).mono ?_
  rintro e wb ⟨rfl, hb_⟩
  clear ha
  go_wp2_with fail
  refine (st_advance hb_.out (d' := 2) (by decide)).mono ?_
  rintro e wc ⟨rfl, hc⟩
  clear hb_
  go_wp2_with fail
  refine (st_next hc.out (a := 7) (ok := false) (by decide)).mono ?_
  rintro e wd ⟨rfl, hd⟩
  clear hc
  go_wp2_with fail
  refine (st_trans hd.out (t := 27) (by decide)).mono ?_
  rintro e we ⟨rfl, he⟩
  clear hd
  go_wp2_with fail
  refine (example_any we).mono ?_
  rintro e wf ⟨g', rfl, i1, k1⟩
  have hf := Lib.hid (he.out.keep_ k1)
  replace i1 := Lib.hid i1
  clear k1 he
  go_wp2_with fail
  refine (script_any wf wf.heap.size _ exs 8 8 rfl (Nat.le_refl _) (Nat.le_refl _) i1.out (by decide)).mono ?_
  rintro e wg ⟨v', rfl, o2, n2, k2⟩
  have hg := Lib.hid (hf.out.keep_ k2)
  obtain ⟨A, c, rfl, _, _⟩ := own_slice o2
  have ka := KindsAt.of_own o2 rfl
  replace ka := Lib.hid ka
  clear i1 k2 hf o2 n2
  go_wp2_with fail
  refine (split_any wg A exs 8 c rfl ka.out (by decide)).mono ?_
  rintro e wh ⟨v'', rfl, o3, n3, k3⟩
  rw [exs_split] at o3
  have hh := Lib.hid (hg.out.keep_ k3)
  obtain ⟨A', c', rfl, _, _⟩ := own_slice o3
  have kb := PairsAt.of_own o3 rfl
  replace kb := Lib.hid kb
  clear n3 k3 o3 ka hg
  go_wp2_with fail
  have kl : Hid (PairsAt (wh.alloc (.cells #[.int .i64 0, .int .i64 0, .int .i64 1, .int .i64 4, .int .i64 5, .int .i64 5, .int .i64 6, .int .i64 7] 31)) (some ⟨wh.heap.size, 0, none⟩) [(0, 0), (1, 4), (5, 5), (6, 7)]) := by
    refine Lib.hid ?_
    intro i p hi
    have hb := Blk.new wh 31 #[.int .i64 0, .int .i64 0, .int .i64 1, .int .i64 4, .int .i64 5, .int .i64 5, .int .i64 6, .int .i64 7]
    refine ⟨_, rfl, ?_, ?_⟩
    all_goals
      rw [hb.cell]
      rcases i with _ | _ | _ | _ | i
      all_goals first | (cases hi; done) | (cases hi; rfl)
  have kc := Lib.hid (kb.out.keep ((Keeps.refl [] wh).alloc (.cells #[.int .i64 0, .int .i64 0, .int .i64 1, .int .i64 4, .int .i64 5, .int .i64 5, .int .i64 6, .int .i64 7] 31)))
  have hi := Lib.hid (hh.out.keep_ ((Keeps.refl [] wh).alloc (.cells #[.int .i64 0, .int .i64 0, .int .i64 1, .int .i64 4, .int .i64 5, .int .i64 5, .int .i64 6, .int .i64 7] 31)))
  clear kb hh
  refine (same_yes _ A' _ [(0, 0), (1, 4), (5, 5), (6, 7)] 4 c' 4 rfl kc.out kl.out (by decide)).mono ?_
  rintro e wj ⟨rfl, kj⟩
  have hj := Lib.hid (hi.out.keep_ kj)
  clear kc kl hi kj
  go_wp2_with fail
  refine (st_done hj.out (d := false) (by decide)).mono ?_
  rintro e wk ⟨rfl, hk⟩
  clear hj
  go_wp2_with fail
  go_ret
  exact ⟨rfl, hk.out.keep.mono (by intro x hx; simp at hx; subst hx; exact .inr hb)⟩
end Go.Proofs.Ytbhdangjafokaaa
