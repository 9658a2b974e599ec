/- The state of a session, in plain Lean and in memory; the contracts of its methods. -/
import Derived.Test.YtbhdangjafokaaaSess4
import Derived.IntWalk
namespace Go.Proofs.Ytbhdangjafokaaa
open Go.RowKit
set_option linter.unusedSimpArgs false
set_option linter.unusedVariables false

/-- Next's results. -/
def nx (ks : List Int) (cur dn : Nat) : Nat × Bool :=
  match (split ks)[cur]? with
  | none => (0, false)
  | some p => if p.1 + dn ≤ p.2 then (p.1 + dn, true) else (p.2, false)

/-- The session at block b. -/
structure SRep (w : World) (b : Nat) (num : Int) (ks : List Int) (cur dn : Nat) : Prop where
  ex : ∃ sv pv, Blk w b 69 #[.int .i64 num, sv, pv, .int .i64 cur, .int .i64 dn] ∧ w.ownsRow 0 57 22 sv ks.length (stms ks) ∧ w.ownsRow 0 31 2 pv (split ks).length (flat (split ks))
  n0 : 0 ≤ num
  n1 : num < 8
  len : ks.length ≤ 1048576
  cur : cur ≤ (split ks).length
  dn : dn ≤ ks.length

theorem SRep.keep {w w' : World} {b : Nat} {num : Int} {ks : List Int} {cur dn : Nat} (h : SRep w b num ks cur dn) (hk : Keeps [] w w') : SRep w' b num ks cur dn := by
  obtain ⟨sv, pv, h1, h2, h3⟩ := h.ex
  exact ⟨⟨sv, pv, h1.keep hk (by simp), own_keep0 h2 hk, own_keep0 h3 hk⟩, h.n0, h.n1, h.len, h.cur, h.dn⟩

theorem split_len (ks : List Int) : (split ks).length ≤ ks.length := from_len _ _ _

/-- A step that turns the numbers of the session alone. -/
theorem SRep.turn {w w' : World} {b : Nat} {num : Int} {ks : List Int} {cur dn cur' dn' : Nat} (h : SRep w b num ks cur dn) (hk : Keeps [b] w w')
    (hb : ∀ sv pv, Blk w b 69 #[.int .i64 num, sv, pv, .int .i64 cur, .int .i64 dn] → Blk w' b 69 #[.int .i64 num, sv, pv, .int .i64 cur', .int .i64 dn']) (hc : cur' ≤ (split ks).length) (hd : dn' ≤ ks.length) : SRep w' b num ks cur' dn' := by
  obtain ⟨sv, pv, h1, h2, h3⟩ := h.ex
  refine ⟨⟨sv, pv, hb sv pv h1, own_keep h2 hk ?_, own_keep h3 hk ?_⟩, h.n0, h.n1, h.len, hc, hd⟩
  · intro g hg hx
    obtain ⟨_, cur, hB⟩ := own_blk h2 hg
    simp at hx; subst hx
    exact hB.ne_ h1 (by decide) rfl
  · intro g hg hx
    obtain ⟨_, cur, hB⟩ := own_blk h3 hg
    simp at hx; subst hx
    exact hB.ne_ h1 (by decide) rfl

set_option maxHeartbeats 800000 in
theorem done_any (w : World) (b : Nat) (num : Int) (ks : List Int) (cur dn : Nat) (h : SRep w b num ks cur dn) :
    Calls Try.prog 20 #[.pointer (some ⟨b, 0, none⟩)] w fun e w' => e = .returned (.bool (decide ((split ks).length ≤ cur))) ∧ Keeps [] w w' := by
  obtain ⟨sv, pv, hB, h2, h3⟩ := h.ex
  obtain ⟨A, c, rfl, _, _⟩ := own_slice h3
  have hc := hB.cell
  have hl := h.len
  have hsl := split_len ks
  clear h h2 h3 hB
  generalize (split ks).length = m at *
  go_enter Try.func20, Try.ntmps20
  go_wp2_with fail
  go_quiet (fail)
  go_wp2_with fail
  go_ret
  refine ⟨by simp, (Keeps.refl _ _).drewN _⟩

set_option maxHeartbeats 800000 in
theorem trans_any (w : World) (b : Nat) (num : Int) (ks : List Int) (cur dn : Nat) (h : SRep w b num ks cur dn) :
    Calls Try.prog 15 #[.pointer (some ⟨b, 0, none⟩)] w fun e w' => e = .returned (.int .i64 (1 + cur * 8 + num)) ∧ Keeps [] w w' := by
  obtain ⟨sv, pv, hB, h2, h3⟩ := h.ex
  have hc := hB.cell
  have hl := h.len
  have hsl := split_len ks
  have hcu := h.cur
  have hn0 := h.n0
  have hn1 := h.n1
  clear h h2 h3 hB
  have e1 : IntKind.i64.wrap ((cur : Int) * 8) = (cur : Int) * 8 := IntWalk.i64_in _ (by omega)
  have e2 : IntKind.i64.wrap (1 + (cur : Int) * 8) = 1 + (cur : Int) * 8 := IntWalk.i64_in _ (by omega)
  have e3 : IntKind.i64.wrap (1 + (cur : Int) * 8 + num) = 1 + (cur : Int) * 8 + num := IntWalk.i64_in _ (by omega)
  go_enter Try.func15, Try.ntmps15
  go_wp2_with fail
  go_quiet (fail)
  go_wp2_with fail
  go_ret
  exact ⟨rfl, (Keeps.refl _ _).drewN _⟩

theorem spl_mem : ∀ (f : Nat) (ks : List Int) (i n : Nat) (p : Nat × Nat), (spl ks f i)[n]? = some p → i ≤ p.1 ∧ p.1 ≤ p.2 ∧ p.2 < ks.length
  | 0, ks, i, n, p, h => by simp [spl] at h
  | f + 1, ks, i, n, p, h => by
    unfold spl at h
    by_cases hi : i < ks.length
    · rw [if_pos hi] at h
      have hg := stop_ge ks hi
      cases n with
      | zero =>
        have : (i, stop ks i) = p := by simpa using h
        subst this
        exact ⟨Nat.le_refl _, hg.1, hg.2⟩
      | succ n =>
        have := spl_mem f ks (stop ks i + 1) n p (by simpa using h)
        omega
    · rw [if_neg hi] at h
      cases h
theorem split_mem {ks : List Int} {n : Nat} {p : Nat × Nat} (h : (split ks)[n]? = some p) : p.1 ≤ p.2 ∧ p.2 < ks.length := (spl_mem _ _ _ _ _ h).2

theorem nx_end {ks : List Int} {cur dn : Nat} (h : (split ks).length ≤ cur) : nx ks cur dn = (0, false) := by
  unfold nx; rw [List.getElem?_eq_none h]
theorem nx_in {ks : List Int} {cur dn : Nat} {p : Nat × Nat} (h : (split ks)[cur]? = some p) : nx ks cur dn = if p.1 + dn ≤ p.2 then (p.1 + dn, true) else (p.2, false) := by
  unfold nx; rw [h]

set_option maxHeartbeats 1600000 in
theorem next_any (w : World) (b : Nat) (num : Int) (ks : List Int) (cur dn : Nat) (h : SRep w b num ks cur dn) :
    Calls Try.prog 17 #[.pointer (some ⟨b, 0, none⟩)] w fun e w' => e = .returned (.tuple #[.int .i64 ((nx ks cur dn).1 : Nat), .bool (nx ks cur dn).2]) ∧ Keeps [] w w' := by
  have HD := done_any w b num ks cur dn h
  have hl := h.len
  have hdn := h.dn
  have hsl := split_len ks
  by_cases hlt : cur < (split ks).length
  · obtain ⟨p, hp⟩ : ∃ p, (split ks)[cur]? = some p := ⟨_, List.getElem?_eq_getElem hlt⟩
    have hpb := split_mem hp
    rw [show decide ((split ks).length ≤ cur) = false by simp; omega] at HD
    rw [nx_in hp]
    replace HD := Lib.hid HD
    replace h := Lib.hid h
    replace hp := Lib.hid hp
    by_cases hle : p.1 + dn ≤ p.2
    all_goals
      first | rw [if_pos hle] | rw [if_neg hle]
      go_enter Try.func17, Try.ntmps17
      go_wp2_with fail
      refine HD.out.mono ?_
      rintro e w1 ⟨rfl, k1⟩
      obtain ⟨sv, pv, hB, h2, h3⟩ := (h.out.keep k1).ex
      obtain ⟨g, c, rfl, hnc, hcm, _, _, hcc⟩ := own_row h3 (by omega)
      have hf := flat_get _ _ _ hp.out
      have f0 := hcc _ _ hf.1
      have f1 := hcc _ _ hf.2
      have hc := hB.cell
      replace k1 := Lib.hid k1
      have hk0 : (0 : Int) ≤ (cur : Int) := by omega
      have hk1 : (cur : Int) < ((split ks).length : Int) := by omega
      have s2 : w1.cell? ⟨b, 2, none⟩ = some (.slice (some ⟨g, 0, none⟩) (split ks).length c) := by rw [hc]; rfl
      have s3 : w1.cell? ⟨b, 3, none⟩ = some (.int .i64 cur) := by rw [hc]; rfl
      have HK : Hid (Keeps [] w1 w1.drew) := Lib.hid (Keeps.refl _ _).drew
      clear h2 h3 hB hcc hf
      go_wp2_with fail
      go_region_held3 (fun w' => w'.cell? ⟨b, 2, none⟩ = some (.slice (some ⟨g, 0, none⟩) (split ks).length c) ∧ w'.cell? ⟨b, 3, none⟩ = some (.int .i64 cur) ∧ w'.cell? ⟨g, cur * 2, none⟩ = some (.int .i64 p.1) ∧ w'.cell? ⟨g, cur * 2 + 1, none⟩ = some (.int .i64 p.2))
        ((refine (fun (kk : Keeps [] w1 _) => ⟨kk.cellEq s2 (by simp), kk.cellEq s3 (by simp), kk.cellEq f0 (by simp), kk.cellEq f1 (by simp)⟩) ?_; first | exact HK.out | exact HK.out.alloc _ | exact ((HK.out.alloc _).setCell (.inr (by simp)) _).setCell (.inr (by simp)) _))
        (first | fail)
      go_wp2_with fail
      have B2 : Blk ((w1.alloc (.cells #[.int .i64 p.1, .int .i64 p.2] 31)).drew) w1.heap.size 31 #[.int .i64 p.1, .int .i64 p.2] := (Blk.new _ _ _).drew
      have K2 : Keeps [] w1 ((w1.alloc (.cells #[.int .i64 p.1, .int .i64 p.2] 31)).drew) := ((Keeps.refl _ _).alloc _).drew
      have s4 := K2.cellEq (p := ⟨b, 4, none⟩) (v := .int .i64 dn) (by rw [hc]; rfl) (by simp)
      generalize ((w1.alloc (.cells #[.int .i64 p.1, .int .i64 p.2] 31)).drew) = w2 at *
      have t0 : w2.cell? ⟨w1.heap.size, 0, none⟩ = some (.int .i64 p.1) := by have := B2.cell 0; simpa using this
      have t1 : w2.cell? ⟨w1.heap.size, 1, none⟩ = some (.int .i64 p.2) := by have := B2.cell 1; simpa using this
      replace K2 := Lib.hid (k1.out.trans K2)
      have e1 : IntKind.i64.wrap ((p.1 : Int) + dn) = (p.1 : Int) + dn := IntWalk.i64_in _ (by omega)
      clear B2 HK s2 s3 f0 f1 hc k1
      go_quiet (fail)
      clear e1
      go_wp2_with fail
      go_ret2
      refine ⟨by simp, ?_⟩
      repeat first | exact K2.out | apply Keeps.drewN | apply Keeps.drew
  · rw [show decide ((split ks).length ≤ cur) = true by simp; omega] at HD
    rw [nx_end (by omega)]
    replace HD := Lib.hid HD
    clear h
    go_enter Try.func17, Try.ntmps17
    go_wp2_with fail
    refine HD.out.mono ?_
    rintro e w1 ⟨rfl, k1⟩
    replace k1 := Lib.hid k1
    go_wp2_with fail
    go_ret2
    exact ⟨rfl, k1.out⟩

/-- The state behind Advance. -/
def adv (ks : List Int) (cur dn : Nat) : Nat := if (nx ks cur dn).2 = true then dn + 1 else dn

theorem nx_true {ks : List Int} {cur dn : Nat} (h : (nx ks cur dn).2 = true) : cur < (split ks).length ∧ dn + 1 ≤ ks.length := by
  rcases Nat.lt_or_ge cur (split ks).length with hlt | hge
  · obtain ⟨p, hp⟩ : ∃ p, (split ks)[cur]? = some p := ⟨_, List.getElem?_eq_getElem hlt⟩
    have hm := split_mem hp
    rw [nx_in hp] at h
    by_cases hle : p.1 + dn ≤ p.2
    · exact ⟨hlt, by omega⟩
    · rw [if_neg hle] at h; cases h
  · rw [nx_end hge] at h; cases h

set_option maxHeartbeats 1600000 in
theorem advance_any (w : World) (b : Nat) (num : Int) (ks : List Int) (cur dn : Nat) (h : SRep w b num ks cur dn) :
    Calls Try.prog 18 #[.pointer (some ⟨b, 0, none⟩)] w fun e w' => e = .returned (.tuple #[]) ∧ SRep w' b num ks cur (adv ks cur dn) ∧ Keeps [b] w w' := by
  have HN := next_any w b num ks cur dn h
  have hdn := h.dn
  have hl := h.len
  have hx := nx_true (ks := ks) (cur := cur) (dn := dn)
  unfold adv
  replace h := Lib.hid h
  generalize nx ks cur dn = r at *
  obtain ⟨at_, ok⟩ := r
  cases ok
  all_goals
    simp only [if_true, Bool.false_eq_true, if_false] at hx ⊢
    replace HN := Lib.hid HN
    go_enter Try.func18, Try.ntmps18
    go_wp2_with fail
    refine HN.out.mono ?_
    rintro e w1 ⟨rfl, k1⟩
    have h1 := h.out.keep k1
    obtain ⟨sv, pv, hB, h2, h3⟩ := h1.ex
    have hc := hB.cell
    have hf := hB.frozen
    clear h2 h3
    replace h1 := Lib.hid h1
    replace k1 := Lib.hid k1
    replace hB := Lib.hid hB
    go_wp2_with fail
    go_end0
    first
      | exact ⟨rfl, h1.out, k1.out.nil⟩
      | (have hk : Keeps [b] w1 (w1.setCell ⟨b, 4, none⟩ (.int .i64 ((dn : Int) + 1))) := (Keeps.refl _ _).setCell (by simp) _
         exact ⟨rfl, h1.out.turn hk (fun sv pv hB => by have := hB.set_ 4 (.int .i64 ((dn : Int) + 1)); simpa using this) h1.out.cur (hx trivial).2, k1.out.nil.trans hk⟩)

set_option maxHeartbeats 1600000 in
theorem restart_any (w : World) (b : Nat) (num : Int) (ks : List Int) (cur dn : Nat) (h : SRep w b num ks cur dn) :
    Calls Try.prog 19 #[.pointer (some ⟨b, 0, none⟩)] w fun e w' => e = .returned (.tuple #[]) ∧ SRep w' b num ks cur 0 ∧ Keeps [b] w w' := by
  obtain ⟨sv, pv, hB, h2, h3⟩ := h.ex
  have hc := hB.cell
  have hf := hB.frozen
  clear h2 h3
  replace h := Lib.hid h
  replace hB := Lib.hid hB
  go_enter Try.func19, Try.ntmps19
  go_wp2_with fail
  go_end0
  have hk : Keeps [b] w (w.setCell ⟨b, 4, none⟩ (.int .i64 0)) := (Keeps.refl _ _).setCell (by simp) _
  exact ⟨rfl, h.out.turn hk (fun sv pv hB => hB.set_ 4 _) h.out.cur (by omega), hk⟩

/-- The state behind Finish. -/
def fin (ks : List Int) (cur dn : Nat) : Nat × Nat := if cur < (split ks).length then (cur + 1, 0) else (cur, dn)

set_option maxHeartbeats 1600000 in
theorem finish_any (w : World) (b : Nat) (num : Int) (ks : List Int) (cur dn : Nat) (h : SRep w b num ks cur dn) :
    Calls Try.prog 16 #[.pointer (some ⟨b, 0, none⟩)] w fun e w' => e = .returned (.tuple #[]) ∧ SRep w' b num ks (fin ks cur dn).1 (fin ks cur dn).2 ∧ Keeps [b] w w' := by
  have HN := done_any w b num ks cur dn h
  have hcu := h.cur
  have hl := h.len
  have hsl := split_len ks
  unfold fin
  by_cases hlt : cur < (split ks).length
  · rw [show decide ((split ks).length ≤ cur) = false by simp; omega] at HN
    rw [if_pos hlt]
    replace h := Lib.hid h
    replace HN := Lib.hid HN
    go_enter Try.func16, Try.ntmps16
    go_wp2_with fail
    refine HN.out.mono ?_
    rintro e w1 ⟨rfl, k1⟩
    have h1 := h.out.keep k1
    obtain ⟨sv, pv, hB, h2, h3⟩ := h1.ex
    have hc := hB.cell
    have hf := hB.frozen
    clear h2 h3
    replace h1 := Lib.hid h1
    replace k1 := Lib.hid k1
    replace hB := Lib.hid hB
    go_wp2_with fail
    go_end0
    have hk : Keeps [b] w1 ((w1.setCell ⟨b, 3, none⟩ (.int .i64 ((cur : Int) + 1))).setCell ⟨b, 4, none⟩ (.int .i64 0)) := ((Keeps.refl _ _).setCell (by simp) _).setCell (by simp) _
    exact ⟨rfl, h1.out.turn hk (fun sv pv hB => by have := (hB.set_ 3 (.int .i64 ((cur : Int) + 1))).set_ 4 (.int .i64 0); simpa using this) hlt (by omega), k1.out.nil.trans hk⟩
  · rw [show decide ((split ks).length ≤ cur) = true by simp; omega] at HN
    rw [if_neg hlt]
    replace h := Lib.hid h
    replace HN := Lib.hid HN
    go_enter Try.func16, Try.ntmps16
    go_wp2_with fail
    refine HN.out.mono ?_
    rintro e w1 ⟨rfl, k1⟩
    have h1 := Lib.hid (h.out.keep k1)
    replace k1 := Lib.hid k1
    go_wp2_with fail
    go_end0
    exact ⟨rfl, h1.out, k1.out.nil⟩
end Go.Proofs.Ytbhdangjafokaaa
