/- The contract of Add. -/
import Derived.Test.YtmclfbhcddcebaaU6
import Derived.Test.YtmclfbhcddcebaaReg5
namespace Go.Proofs.Ytmclfbhcddcebaa
open Go.RowKit Go.Shelf
set_option linter.unusedSimpArgs false
set_option linter.unusedVariables false

attribute [local go_sem] Oper.semAt_some

theorem keepsFrom_of {X : List Nat} {B : Nat} {W W' : World} (h : Keeps X W W') (hX : ∀ x ∈ X, x < B) : KeepsFrom B W W' :=
  ⟨h.size, fun k o hB hk ho => by
    have hlt : k < W.heap.size := by
      rcases Nat.lt_or_ge k W.heap.size with h1 | h1
      · exact h1
      · rw [Array.getElem?_eq_none h1] at hk; cases hk
    rw [h.block k hlt (fun hm => by have := hX k hm; omega)]
    exact hk⟩
def Miss (c : Chg) (L : List Chg) (pre : List Nat) : Prop := ∀ k ∈ pre, hits c (cAt L k) = false
theorem Miss.snoc {c : Chg} {L : List Chg} {pre : List Nat} {k : Nat} (h : Miss c L pre) (hk : hits c (cAt L k) = false) : Miss c L (pre ++ [k]) := fun j hj => by
  rcases List.mem_append.1 hj with hj | hj
  · exact h j hj
  · rw [List.mem_singleton.1 hj]; exact hk
def IAdd (c : Chg) (L : List Chg) (W0 : World) (pre : List Nat) (W : World) : Prop := Miss c L pre ∧ Keeps [] W0 W
def Hit (c : Chg) (L : List Chg) (pre : List Nat) (b : Bool) : Prop := ∃ p k, pre = p ++ [k] ∧ Miss c L p ∧ hits c (cAt L k) = true ∧ decide ((cAt L k).new = c.old) = b
def XAdd (c : Chg) (L : List Chg) (W0 : World) (g4 : Nat) (cd : Code) (pre : List Nat) (W : World) : Prop :=
  (cd = .ret ∧ Hit c L pre false ∧ W.cell? ⟨g4, 0, none⟩ = some (.int .i64 1) ∧ Keeps [g4] W0 W) ∨ (cd = .exit 0 ∧ Hit c L pre true ∧ Keeps [] W0 W)
theorem xadd_own (c : Chg) (L : List Chg) (W0 : World) (g4 : Nat) (cd : Code) : OwnFrom W0.heap.size (XAdd c L W0 g4 cd) := by
  intro s W W' row hs hg hr
  rcases hs with ⟨h1, h2, h3, h4⟩ | ⟨h1, h2, h3⟩
  · exact .inl ⟨h1, h2, cell_kept h3 hg (fun r e => (hr r e).2), own_keeps (β := Unit) () W W' row h4 hg hr⟩
  · exact .inr ⟨h1, h2, own_keeps (β := Unit) () W W' row h3 hg hr⟩
theorem iadd_own (c : Chg) (L : List Chg) (W0 : World) : OwnFrom W0.heap.size (IAdd c L W0) := fun s W W' row hs hg hr => ⟨hs.1, own_keeps (β := Unit) () W W' row hs.2 hg hr⟩

theorem fits_miss {c : Chg} : ∀ {l : List Chg}, (∀ b ∈ l, hits c b = false) → fits c l = true
  | [], _ => rfl
  | b :: r, h => by
    unfold fits
    rw [if_neg (by rw [h b List.mem_cons_self]; simp)]
    exact fits_miss (fun x hx => h x (List.mem_cons_of_mem _ hx))
theorem fits_hit {c b : Chg} : ∀ {p s : List Chg}, (∀ x ∈ p, hits c x = false) → hits c b = true → fits c (p ++ b :: s) = decide (b.new = c.old)
  | [], s, _, hb => by
    show fits c (b :: s) = _
    unfold fits
    rw [if_pos hb]
  | x :: p, s, h, hb => by
    show fits c (x :: (p ++ b :: s)) = _
    unfold fits
    rw [if_neg (by rw [h x List.mem_cons_self]; simp)]
    exact fits_hit (fun y hy => h y (List.mem_cons_of_mem _ hy)) hb
theorem rev_at {L : List Chg} {j : Nat} (hj : j < L.length) : L.reverse[j]? = some (cAt L (L.length - 1 - j)) := by
  unfold cAt
  rw [List.getElem?_reverse hj, List.getElem?_eq_getElem (by omega)]
  rfl
theorem miss_all {c : Chg} {L : List Chg} (h : Miss c L (upto (fun j => L.length - 1 - j) L.length)) : fits c L.reverse = true := by
  refine fits_miss (fun b hb => ?_)
  obtain ⟨j, hj⟩ := List.getElem?_of_mem hb
  have hjl : j < L.length := by have := (List.getElem?_eq_some_iff.1 hj).1; simpa using this
  rw [rev_at hjl] at hj
  cases hj
  exact h _ (by unfold upto; exact List.mem_map.2 ⟨j, List.mem_range.2 hjl, rfl⟩)
theorem hit_fits {c : Chg} {L : List Chg} {pre : List Nat} {b : Bool} (h : Hit c L pre b) {k : Nat} (hk : k ≤ L.length) (hp : pre = upto (fun j => L.length - 1 - j) k) : fits c L.reverse = b := by
  obtain ⟨p, m, e, h1, h2, h3⟩ := h
  rw [hp] at e
  obtain ⟨k', rfl⟩ : ∃ k', k = k' + 1 := by
    cases k with
    | zero => simp [upto] at e
    | succ k' => exact ⟨k', rfl⟩
  rw [upto_succ] at e
  obtain ⟨rfl, e5⟩ := List.append_inj' e rfl
  obtain rfl : L.length - 1 - k' = m := by simpa using e5
  have hkl : k' < L.reverse.length := by simp; omega
  have e6 : L.reverse = L.reverse.take k' ++ cAt L (L.length - 1 - k') :: L.reverse.drop (k' + 1) := by
    have h7 := rev_at (L := L) (j := k') (by omega)
    have h8 : L.reverse[k'] = cAt L (L.length - 1 - k') := by rw [List.getElem?_eq_getElem hkl] at h7; exact Option.some.inj h7
    rw [← h8, List.getElem_cons_drop, List.take_append_drop]
  rw [e6, fits_hit (fun x hx => ?_) h2]
  · exact h3
  · obtain ⟨j, hj⟩ := List.getElem?_of_mem hx
    have hjk : j < k' := by have := (List.getElem?_eq_some_iff.1 hj).1; rw [List.length_take] at this; omega
    rw [List.getElem?_take_of_lt hjk, rev_at (by omega)] at hj
    cases hj
    exact h1 _ (by unfold upto; exact List.mem_map.2 ⟨j, List.mem_range.2 hjk, rfl⟩)
theorem info35 : (Try.prog.info? 35).map (fun i => (i.zero, i.size, i.bytes)) = some (some (.agg #[.int .i64 0, .int .i64 0, .slice none 0 0, .slice none 0 0]), 4, 64) := by kernel_rfl
theorem src_raw {w : World} {g : Nat} {r : Raw} (h : Blk w g 35 r.cells.toArray) : SrcAt w (some ⟨g, 0, none⟩) 1 r.cells := .inr ⟨g, 0, rfl, fun j u hj => by rw [Nat.zero_add, h.cell]; simpa using hj⟩
theorem raw_one (r : Raw) : ∀ u ∈ r.cells, u.oneCell' = true := by unfold Raw.cells; simp [Value.oneCell']
theorem flatC_one (r : Raw) : flatC [r] = r.cells := rfl

theorem RowAt.both {w : World} {X Y : List Nat} {A : Option Addr} {l : List Val} (h : RowAt w X A l) (k : RowAt w Y A l) : RowAt w (X ++ Y) A l := by
  intro i v hi
  obtain ⟨g, off, rfl, hg, q⟩ := h i v hi
  obtain ⟨g', off', he, hg', _⟩ := k i v hi
  cases he
  exact ⟨g, off, rfl, fun hm => (List.mem_append.1 hm).elim hg hg', q⟩
def AddPost (w : World) (base gl nc : Nat) (A : Option Addr) (cc : Nat) (sv : Value) (R : List Raw) (L : List Chg) (c : Chg) (e : Ending) (w' : World) : Prop :=
  (addOk L c = false ∧ e = .returned (.int .i64 1) ∧ Keeps [] w w') ∨
  (addOk L c = true ∧ e = .returned (.int .i64 0) ∧ ∃ A' cc' r', Blk w' gl 64 #[.slice A' (nc + 1) cc', sv] ∧ w'.ownsRow base 35 4 (.slice A' (nc + 1) cc') (nc + 1) (flatC (R ++ [r'])) ∧ RawIs w' (Value.slice A' (nc + 1) cc').ownBlock.toList r' c ∧ (Fresh w.heap.size r'.Ao ∧ Fresh w.heap.size r'.An) ∧
    (∀ g, (Value.slice A' (nc + 1) cc').ownBlock = some g → (Value.slice A nc cc).ownBlock = some g ∨ w.heap.size ≤ g) ∧ Keeps (gl :: (Value.slice A nc cc).ownBlock.toList) w w')

set_option maxRecDepth 100000 in
set_option maxHeartbeats 8000000 in
theorem add_ok (w : World) (base gl : Nat) (A : Option Addr) (nc cc : Nat) (sv : Value) (R : List Raw) (L : List Chg) (r : Raw) (c : Chg) (X : List Nat) (hB : Blk w gl 64 #[.slice A nc cc, sv]) (hO : w.ownsRow base 35 4 (.slice A nc cc) nc (flatC R)) (hn : R.length = nc) (hR : RawsIs w X R L) (hc : RawIs w X r c) (hs : Small c)
    (hsL : ∀ b ∈ L, Small b) (hnc : nc ≤ 1000000) (hbase : base ≤ w.heap.size) (hv : valid c = true) :
    Calls Try.prog 13 #[.pointer (some ⟨gl, 0, none⟩), .agg r.cells.toArray] w (AddPost w base gl nc A cc sv R L c) := by
  refine (callsIn_wide (n := 5)).1 ?_
  obtain ⟨t, id, Ao, no, co, An, nn, cn⟩ := r
  have hcr := Lib.hid hc
  obtain ⟨ht, hid, hno, hnn, hcO, hcN⟩ := hc
  dsimp only at ht hid hno hnn hcO hcN
  have hv1 : ¬ t < 0 ∧ ¬ id < 1 ∧ (no = 0 → ¬ nn = 0) := by
    have hv := hv
    unfold valid at hv
    simp only [Bool.not_eq_true', Bool.or_eq_false_iff, decide_eq_false_iff_not, Bool.and_eq_false_imp, decide_eq_true_eq] at hv
    rw [← hno, ← hnn, ht, hid]
    exact ⟨hv.1.1, hv.1.2, hv.2⟩
  obtain ⟨v1, v2, v3⟩ := hv1
  have d1 := decide_eq_false v1
  have d2 := decide_eq_false v2
  unfold Raw.cells
  dsimp only
  have k0 : Keeps [] w (((w.alloc (.cells #[.int .i64 t, .int .i64 id, .slice Ao no co, .slice An nn cn] 35)).alloc (.cells #[.int .i64 0] 38)).alloc (.cells #[.slice A nc cc] 28)) := (((Keeps.refl [] w).alloc _).alloc _).alloc _
  have B3 : Blk (((w.alloc (.cells #[.int .i64 t, .int .i64 id, .slice Ao no co, .slice An nn cn] 35)).alloc (.cells #[.int .i64 0] 38)).alloc (.cells #[.slice A nc cc] 28)) w.heap.size 35 #[.int .i64 t, .int .i64 id, .slice Ao no co, .slice An nn cn] := ((Blk.new w 35 _).alloc _).alloc _
  have B4 : Blk (((w.alloc (.cells #[.int .i64 t, .int .i64 id, .slice Ao no co, .slice An nn cn] 35)).alloc (.cells #[.int .i64 0] 38)).alloc (.cells #[.slice A nc cc] 28)) (w.heap.size + 1) 38 #[.int .i64 0] := by
    have := (Blk.new (w.alloc (.cells #[.int .i64 t, .int .i64 id, .slice Ao no co, .slice An nn cn] 35)) 38 #[.int .i64 0]).alloc (.cells #[.slice A nc cc] 28)
    simpa using this
  have BB : Blk (((w.alloc (.cells #[.int .i64 t, .int .i64 id, .slice Ao no co, .slice An nn cn] 35)).alloc (.cells #[.int .i64 0] 38)).alloc (.cells #[.slice A nc cc] 28)) (w.heap.size + 1 + 1) 28 #[.slice A nc cc] := by
    have := Blk.new ((w.alloc (.cells #[.int .i64 t, .int .i64 id, .slice Ao no co, .slice An nn cn] 35)).alloc (.cells #[.int .i64 0] 38)) 28 #[.slice A nc cc]
    simpa using this
  have z1 := (hB.keep (((Keeps.refl [] w).alloc (.cells #[.int .i64 t, .int .i64 id, .slice Ao no co, .slice An nn cn] 35)).alloc (.cells #[.int .i64 0] 38)) (by simp)).cell
  have hB0 := Lib.hid (hB.keep k0 (by simp))
  have hO0 := Lib.hid (own_keep0 hO k0)
  have hR0 := Lib.hid (hR.keep k0 (by simp))
  have hc0 := Lib.hid (hcr.out.keep k0 (by simp))
  obtain ⟨g3, hg3⟩ : ∃ g, g = w.heap.size := ⟨_, rfl⟩
  obtain ⟨g4, hg4⟩ : ∃ g, g = w.heap.size + 1 := ⟨_, rfl⟩
  obtain ⟨gB, hgB⟩ : ∃ g, g = w.heap.size + 1 + 1 := ⟨_, rfl⟩
  have hgl := Lib.hid hB.lt
  rw [← hg3] at B3
  rw [← hg4] at B4
  rw [← hgB] at BB
  have hgg := Lib.hid (show w.heap.size ≤ g3 ∧ w.heap.size ≤ g4 ∧ w.heap.size ≤ gB ∧ gB ≠ g4 ∧ g3 ≠ g4 by omega)
  replace k0 := Lib.hid k0
  replace B3 := Lib.hid B3
  replace B4 := Lib.hid B4
  replace BB := Lib.hid BB
  replace hB := Lib.hid hB
  replace hO := Lib.hid hO
  replace hR := Lib.hid hR
  replace hn := Lib.hid hn
  replace hno := Lib.hid hno
  replace hnn := Lib.hid hnn
  replace hcO := Lib.hid hcO
  replace hcN := Lib.hid hcN
  replace ht := Lib.hid ht
  replace hid := Lib.hid hid
  replace hs := Lib.hid hs
  replace hsL := Lib.hid hsL
  replace hv := Lib.hid hv
  replace hbase := Lib.hid hbase
  clear v1 v2
  refine callsIn_of_wp_marks Try.func13 rfl trivial ?_ rfl
  refine wpIn_wide.2 ?_
  simp only [Try.ntmps13, List.size_toArray, List.length_cons, List.length_nil, Nat.reduceAdd, Nat.reduceSub, Array.replicate_succ, Array.replicate_zero, List.push_toArray, List.append_toArray, List.nil_append, List.cons_append]
  by_cases hz : no = 0
  · have v4 := v3 hz
    have d3 : ((no : Int) == 0) = true := by simpa using (by omega : (no : Int) = 0)
    have d4 : ((nn : Int) == 0) = false := by simpa using (by omega : ¬ (nn : Int) = 0)
    clear v3 hz v4
    go_wp2_with fail
    refine (callsIn_wide.1 (back_in Fence.wide 4 trivial rfl _ _ _ _)).mono ?_
    rintro e w' ⟨rfl, rfl⟩
    clear z1
    go_wp2_with fail
    generalize (((w.alloc (.cells #[.int .i64 t, .int .i64 id, .slice Ao no co, .slice An nn cn] 35)).alloc (.cells #[.int .i64 0] 38)).alloc (.cells #[.slice A nc cc] 28)) = W0 at *
    rw [← hgB, ← hg4, ← hg3]
    replace hg3 := Lib.hid hg3
    replace hg4 := Lib.hid hg4
    replace hgB := Lib.hid hgB
    obtain ⟨ga, hga⟩ : ∃ ga, R = [] ∨ (A = some ⟨ga, 0, none⟩ ∧ ga < W0.heap.size ∧ RawsAt W0 ga 0 R) := by
      rcases Nat.eq_zero_or_pos nc with h0 | h0
      · exact ⟨0, .inl (List.eq_nil_of_length_eq_zero (by rw [hn.out, h0]))⟩
      · obtain ⟨g, h1, h2, _, h3⟩ := raws_of_own hO0.out hn.out h0
        exact ⟨g, .inr ⟨h1, h2, h3⟩⟩
    refine (wpIn_wide (n := 5)).1 (loop_back (px := 6) gB ga 0 cc A R (by rw [hn.out]; exact hnc) (by rfl) BB.out.lt (by rw [hn.out]; exact BB.out.cell 0) hga (IAdd c L W0) (XAdd c L W0 g4) (iadd_own c L W0) (xadd_own c L W0 g4) ⟨(fun k hk => by cases hk), Keeps.refl _ _⟩ (fun pre W h => h.2.size) ?_ ?_ ?_ ?_)
    · intro l k W K hK
      unfold slotsB at hK
      generalize rAt R k = rr at *
      obtain ⟨t', id', Ao', no', co', An', nn', cn'⟩ := rr
      unfold Raw.cells at *
      dsimp only at *
      gi_wp2
      exact hK
    · intro l pre k Bx W hl hI hBx bX _
      obtain ⟨hm, hk⟩ := hI
      have raw := hR0.out.at_ k
      have hsb : (cAt L k).new.length ≤ 1000000 := by
        unfold cAt
        cases hq : L[k]? with
        | none => exact Nat.zero_le _
        | some b => exact (hsL.out b (List.mem_of_getElem? hq)).2
      have hsc := hs.out
      unfold slotsB
      generalize rAt R k = rr at *
      obtain ⟨t', id', Ao', no', co', An', nn', cn'⟩ := rr
      obtain ⟨ht', hid', _, hnn', _, hN'⟩ := raw
      unfold Raw.cells at *
      dsimp only at ht' hid' hnn' hN' bX ⊢
      have HE := Lib.hid (equal_any W X X An' Ao (cAt L k).new c.old nn' cn' no co hnn' hno.out (hN'.keep hk (by simp)) (hc0.out.old.keep hk (by simp)) (by omega))
      have x0 := bX.out.cell
      have y3 := (B3.out.keep hk (by simp)).cell
      have B4W := Lib.hid (B4.out.keep hk (by simp))
      have hm' := Lib.hid hm
      have hk' := Lib.hid hk
      have hhit : Hid (hits c (cAt L k) = (decide (t' = t) && decide (id' = id))) := Lib.hid (by unfold hits; rw [← ht', ← hid', ← ht.out, ← hid.out])
      replace ht' := Lib.hid ht'
      replace hid' := Lib.hid hid'
      replace hnn' := Lib.hid hnn'
      replace hN' := Lib.hid hN'
      replace hsc := Lib.hid hsc
      have hg4W : Hid (g4 < W0.heap.size) := Lib.hid B4.out.lt
      have hkp : Hid (∀ {W' : World}, Keeps [] W W' → Kp2 gB ga W W') := Lib.hid (fun h => Kp2.of_keeps h (by simp) (by simp))
      clear hm hk hga hO0 hB0
      by_cases e1 : t' = t
      · by_cases e2 : id' = id
        · have hh : Hid (hits c (cAt L k) = true) := Lib.hid (by rw [hhit.out, decide_eq_true e1, decide_eq_true e2]; rfl)
          subst e1 e2
          by_cases hq : (cAt L k).new = c.old
          · have hb := Lib.hid (decide_eq_true hq)
            replace hq := Lib.hid hq
            gi_wp2_with (refine ⟨trivial, ?_⟩; gi_at_call 30; refine (CallsIn.inRound l (callsIn_wide.2 HE.out)).mono ?_; rintro e w2 ⟨rfl, k2⟩; rw [hb.out])
            exact ⟨keepsFrom_of k2 (by simp), .inr ⟨rfl, ⟨pre, k, rfl, hm'.out, hh.out, hb.out⟩, hk'.out.trans k2⟩⟩
          · have hb := Lib.hid (decide_eq_false hq)
            replace hq := Lib.hid hq
            gi_wp2_with (refine ⟨trivial, ?_⟩; gi_at_call 30; refine (CallsIn.inRound l (callsIn_wide.2 HE.out)).mono ?_; rintro e w2 ⟨rfl, k2⟩; rw [hb.out]; have B4v := B4W.out.keep k2 (by simp); have c4 := B4v.cell; have f4 := B4v.frozen)
            have hk3 : Keeps [g4] W0 (w2.setCell ⟨g4, 0, none⟩ (.int .i64 1)) := (hk'.out.trans k2).nil.setCell (p := ⟨g4, 0, none⟩) (.inl (List.mem_singleton.2 rfl)) _
            have hk4 : Keeps [g4] W (w2.setCell ⟨g4, 0, none⟩ (.int .i64 1)) := k2.nil.setCell (p := ⟨g4, 0, none⟩) (.inl (List.mem_singleton.2 rfl)) _
            exact ⟨keepsFrom_of hk4 (by intro x hx; rw [List.mem_singleton.1 hx]; exact hg4W.out), .inl ⟨rfl, ⟨pre, k, rfl, hm'.out, hh.out, hb.out⟩, (B4v.set_ 0 (.int .i64 1)).cell 0, hk3⟩⟩
        · have hh : Hid (hits c (cAt L k) = false) := Lib.hid (by rw [hhit.out, decide_eq_false e2]; simp)
          have hb : (id' == id) = false := by simpa using e2
          subst e1
          replace e2 := Lib.hid e2
          gi_wp2
          exact ⟨KeepsFrom.refl _ _, Kp2.refl _ _ _, hm'.out.snoc hh.out, hk'.out⟩
      · have hh : Hid (hits c (cAt L k) = false) := Lib.hid (by rw [hhit.out, decide_eq_false e1]; rfl)
        have hb : (t' == t) = false := by simpa using e1
        replace e1 := Lib.hid e1
        gi_wp2
        exact ⟨KeepsFrom.refl _ _, Kp2.refl _ _ _, hm'.out.snoc hh.out, hk'.out⟩
    · intro D xs W hD hx hI hd
      obtain ⟨hm, hk⟩ := hI
      have hlen : R.length = L.length := hR0.out.1
      have hok : Hid (addOk L c = true) := Lib.hid (by unfold addOk; rw [hv.out, miss_all (by rw [← hlen, ← hx]; exact hm)]; rfl)
      replace hk := Lib.hid hk
      clear hm hx hlen
      have B64 := Lib.hid (hB0.out.keep hk.out (by simp))
      have B3W := Lib.hid (B3.out.keep hk.out (by simp))
      have B4W := Lib.hid (B4.out.keep hk.out (by simp))
      have OW := Lib.hid (own_keep0 hO0.out hk.out)
      have Kw := Lib.hid (k0.out.trans hk.out)
      have HC : Hid (∀ w', Keeps [] W.drew w' → Calls Try.prog 31 #[.agg #[.int .i64 t, .int .i64 id, .slice Ao no co, .slice An nn cn]] w' (ChgCopy w' c)) := Lib.hid (fun w' hk' => clonec_any w' X ⟨t, id, Ao, no, co, An, nn, cn⟩ c (hc0.out.keep (hk.out.drew.trans hk') (by simp)) hs.out)
      have HSf : Hid (∀ w', Keeps [] W.drew w' → w'.cell? ⟨gl, 0, none⟩ = some (.slice A nc cc) ∧ w'.cell? ⟨g3, 0, none⟩ = some (.int .i64 t) ∧ w'.cell? ⟨g3, 1, none⟩ = some (.int .i64 id) ∧ w'.cell? ⟨g3, 2, none⟩ = some (.slice Ao no co) ∧ w'.cell? ⟨g3, 3, none⟩ = some (.slice An nn cn)) := Lib.hid (fun w' hk' => ⟨hk'.cellEq (B64.out.drew.cell 0) (by simp), hk'.cellEq (B3W.out.drew.cell 0) (by simp), hk'.cellEq (B3W.out.drew.cell 1) (by simp), hk'.cellEq (B3W.out.drew.cell 2) (by simp), hk'.cellEq (B3W.out.drew.cell 3) (by simp)⟩)
      have h0 := HSf.out _ (Keeps.refl [] W.drew)
      have B64d := Lib.hid B64.out.drew
      have B4d := Lib.hid B4W.out.drew
      have OWd : Hid (W.drew.ownsRow base 35 4 (.slice A nc cc) nc (flatC R)) := Lib.hid OW.out
      have Kwd := Lib.hid Kw.out.drew
      have hwW : Hid (w.heap.size ≤ W.drew.heap.size) := Lib.hid Kw.out.size
      have hdd : Hid (W.drew.heap[D]? = some (.deferred (some []))) := Lib.hid hd
      have hDd : Hid (D < W.drew.heap.size ∧ w.heap.size ≤ D ∧ W0.heap.size ≤ D) := Lib.hid ⟨(Array.getElem?_eq_some_iff.1 hd).1, Nat.le_trans k0.out.size hD, hD⟩
      have hg40 : Hid (g4 < W0.heap.size ∧ gl < w.heap.size) := Lib.hid ⟨B4.out.lt, hB.out.lt⟩
      obtain ⟨i5, hi5, hy0, hy1, hy2⟩ := info_parts info35
      replace hi5 := Lib.hid hi5
      replace hy0 := Lib.hid hy0
      replace hy1 := Lib.hid hy1
      replace hy2 := Lib.hid hy2
      clear hD hd B64 B3W B4W OW Kw hga hB0 hO0
      go_wp2_with fail
      refine wp_onlyN ?_
      refine wp_region_J (S := (fun w' : World => w'.cell? ⟨gl, 0, none⟩ = some (.slice A nc cc) ∧ w'.cell? ⟨g3, 0, none⟩ = some (.int .i64 t) ∧ w'.cell? ⟨g3, 1, none⟩ = some (.int .i64 id) ∧ w'.cell? ⟨g3, 2, none⟩ = some (.slice Ao no co) ∧ w'.cell? ⟨g3, 3, none⟩ = some (.slice An nn cn))) (n := 11) (by kernel_rfl) ?_
      generalize W.drew = wd at *
      have HS := h0
      have Kx := Lib.hid (Keeps.refl [] wd)
      refine wpAnyJ_take (i := 0) (v := ?_) (by kernel_rfl) rfl (by kernel_rfl) (by kernel_rfl) (by kernel_rfl) (fun _ _ _ h => h) HS (Or.inl ⟨by rfl, ?_⟩) ?_
      rotate_left
      · (intro w hSw; obtain ⟨y1, y2, y3, y4, y5⟩ := hSw; go_simp; try with_reducible rfl)
      try simp only [Act.put, List.getElem_toArray, List.getElem_cons_succ, List.getElem_cons_zero, List.setIfInBounds_toArray, List.set_cons_zero, List.set_cons_succ]
      refine wpAnyJ_take (i := 1) (v := ?_) (by kernel_rfl) rfl (by kernel_rfl) (by kernel_rfl) (by kernel_rfl) (fun _ _ _ h => h) HS (Or.inl ⟨by rfl, ?_⟩) ?_
      rotate_left
      · (intro w hSw; obtain ⟨y1, y2, y3, y4, y5⟩ := hSw; go_simp; try with_reducible rfl)
      try simp only [Act.put, List.getElem_toArray, List.getElem_cons_succ, List.getElem_cons_zero, List.setIfInBounds_toArray, List.set_cons_zero, List.set_cons_succ]
      refine wpAnyJ_take (i := 2) (v := ?_) (by kernel_rfl) rfl (by kernel_rfl) (by kernel_rfl) (by kernel_rfl) (fun _ _ _ h => h) HS (Or.inl ⟨by rfl, ?_⟩) ?_
      rotate_left
      · (intro w hSw; obtain ⟨y1, y2, y3, y4, y5⟩ := hSw; go_simp; try with_reducible rfl)
      try simp only [Act.put, List.getElem_toArray, List.getElem_cons_succ, List.getElem_cons_zero, List.setIfInBounds_toArray, List.set_cons_zero, List.set_cons_succ]
      refine wpAnyJ_take (i := 3) (v := ?_) (by kernel_rfl) rfl (by kernel_rfl) (by kernel_rfl) (by kernel_rfl) (fun _ _ _ h => h) HS (Or.inl ⟨by rfl, ?_⟩) ?_
      rotate_left
      · (intro w hSw; obtain ⟨y1, y2, y3, y4, y5⟩ := hSw; go_simp; try with_reducible rfl)
      try simp only [Act.put, List.getElem_toArray, List.getElem_cons_succ, List.getElem_cons_zero, List.setIfInBounds_toArray, List.set_cons_zero, List.set_cons_succ]
      refine wpAnyJ_take (i := 4) (v := ?_) (by kernel_rfl) rfl (by kernel_rfl) (by kernel_rfl) (by kernel_rfl) (fun _ _ _ h => h) HS (Or.inl ⟨by rfl, ?_⟩) ?_
      rotate_left
      · (intro w hSw; obtain ⟨y1, y2, y3, y4, y5⟩ := hSw; go_simp; try with_reducible rfl)
      try simp only [Act.put, List.getElem_toArray, List.getElem_cons_succ, List.getElem_cons_zero, List.setIfInBounds_toArray, List.set_cons_zero, List.set_cons_succ]
      refine wpAnyJ_take (i := 5) (v := ?_) (by kernel_rfl) rfl (by kernel_rfl) (by kernel_rfl) (by kernel_rfl) (fun _ _ _ h => h) HS (Or.inl ⟨by rfl, ?_⟩) ?_
      rotate_left
      · (intro w hSw; obtain ⟨y1, y2, y3, y4, y5⟩ := hSw; go_simp; try with_reducible rfl)
      try simp only [Act.put, List.getElem_toArray, List.getElem_cons_succ, List.getElem_cons_zero, List.setIfInBounds_toArray, List.set_cons_zero, List.set_cons_succ]
      refine wpAnyJ_one (i := 6) rfl (by kernel_rfl) (fun K hK => ?_)
      dsimp only [List.getElem_toArray, List.getElem_cons_succ, List.getElem_cons_zero]
      go_simp
      refine (HC.out _ Kx.out).mono ?_
      rintro e w6 ⟨⟨t6, i6, Ao6, no6, co6, An6, nn6, cn6⟩, rfl, ri6, fr6, k6⟩
      dsimp only [Raw.cells]
      have h6s : Hid (wd.heap.size ≤ w6.heap.size) := Lib.hid (Kx.out.trans k6.out).size
      have h6f : Hid (Fresh wd.heap.size Ao6 ∧ Fresh wd.heap.size An6) := Lib.hid ⟨fr6.out.1.mono Kx.out.size, fr6.out.2.mono Kx.out.size⟩
      replace Kx := Lib.hid (Kx.out.trans k6.out)
      have HS := HSf.out _ Kx.out
      clear k6 fr6
      refine hK _ _ (Or.inr HS) ?_
      clear hK K
      try simp only [Act.put, List.getElem_toArray, List.getElem_cons_succ, List.getElem_cons_zero, List.setIfInBounds_toArray, List.set_cons_zero, List.set_cons_succ]
      refine wpAnyJ_one (i := 7) rfl (by kernel_rfl) (fun K hK => ?_)
      dsimp only [List.getElem_toArray, List.getElem_cons_succ, List.getElem_cons_zero]
      go_simp
      have ka7 : Keeps [] w6 (w6.alloc (.cells #[.int .i64 t6, .int .i64 i6, .slice Ao6 no6 co6, .slice An6 nn6 cn6] 35)) := (Keeps.refl [] w6).alloc _
      have Bn := Lib.hid (Blk.new w6 35 #[.int .i64 t6, .int .i64 i6, .slice Ao6 no6 co6, .slice An6 nn6 cn6])
      replace ri6 := Lib.hid (ri6.out.keep ka7 (by simp))
      have HS := HSf.out _ (Kx.out.trans ka7)
      replace Kx := Lib.hid (Kx.out.trans ka7)
      refine hK _ _ (Or.inr HS) ?_
      clear hK K ka7
      obtain ⟨g7, hg7⟩ : ∃ g, g = w6.heap.size := ⟨_, rfl⟩
      rw [← hg7] at Bn ⊢
      clear hg7 h6s
      generalize w6.alloc (.cells #[.int .i64 t6, .int .i64 i6, .slice Ao6 no6 co6, .slice An6 nn6 cn6] 35) = w7 at *
      try simp only [Act.put, List.getElem_toArray, List.getElem_cons_succ, List.getElem_cons_zero, List.setIfInBounds_toArray, List.set_cons_zero, List.set_cons_succ]
      refine wpAnyJ_one (i := 8) rfl (by kernel_rfl) (fun K hK => ?_)
      dsimp only [List.getElem_toArray, List.getElem_cons_succ, List.getElem_cons_zero]
      rw [if_pos (by rfl)]
      have ow7 := Lib.hid (own_keep0 OWd.out Kx.out)
      have hb7 : base ≤ w7.heap.size := Nat.le_trans hbase.out (Nat.le_trans hwW.out Kx.out.size)
      refine wp_append_row (.tmp 56) (.tmp 59) 28 (by rfl) base 35 i5 (.agg #[.int .i64 0, .int .i64 0, .slice none 0 0, .slice none 0 0]) 4 64 Try.underlying28 hi5.out hy0.out hy1.out hy2.out rfl (by decide) (.slice A nc cc) nc (flatC R) (by rfl) ow7.out (some ⟨g7, 0, none⟩) 1 1 [.int .i64 t6, .int .i64 i6, .slice Ao6 no6 co6, .slice An6 nn6 cn6] (by rfl) rfl (src_raw (r := ⟨t6, i6, Ao6, no6, co6, An6, nn6, cn6⟩) Bn.out) (by simp [Value.oneCell']) (by unfold maxLen; omega) (by omega) hb7 ?_
      intro v8 w8 q1 q2 q3 q4
      obtain ⟨A8, c8, rfl, _⟩ := own_slice q1.out
      have k8 : Hid (Keeps (Value.slice A nc cc).ownBlock.toList w7 w8) := Lib.hid (Keeps.grown q2.out (fun g hg => Option.mem_toList.2 hg))
      have hn64 : Hid (∀ g, (Value.slice A nc cc).ownBlock = some g → g ≠ gl ∧ g < w.heap.size) := Lib.hid (fun g hg => by
        obtain ⟨_, cur, h1⟩ := own_blk hO.out hg
        exact ⟨Blk.ne_ h1 hB.out (by decide), h1.lt⟩)
      have hnl : Hid (gl ∉ (Value.slice A nc cc).ownBlock.toList ∧ g3 ∉ (Value.slice A nc cc).ownBlock.toList) := Lib.hid ⟨fun hx => (hn64.out gl (Option.mem_toList.1 hx)).1 rfl, fun hx => by have := (hn64.out g3 (Option.mem_toList.1 hx)).2; have := hgg.out.1; omega⟩
      have B8 := Lib.hid ((B64d.out.keep Kx.out (by simp)).keep k8.out hnl.out.1)
      have fz := B8.out.frozen 0
      have HS : _ ∧ _ ∧ _ ∧ _ ∧ _ := ⟨k8.out.cellEq HS.1 hnl.out.1, k8.out.cellEq HS.2.1 hnl.out.2, k8.out.cellEq HS.2.2.1 hnl.out.2, k8.out.cellEq HS.2.2.2.1 hnl.out.2, k8.out.cellEq HS.2.2.2.2 hnl.out.2⟩
      refine hK _ _ (Or.inr HS) ?_
      clear hK K
      try simp only [Act.put, List.getElem_toArray, List.getElem_cons_succ, List.getElem_cons_zero, List.setIfInBounds_toArray, List.set_cons_zero, List.set_cons_succ]
      refine wpAnyJ_one (i := 9) rfl (by kernel_rfl) (fun K hK => ?_)
      dsimp only [List.getElem_toArray, List.getElem_cons_succ, List.getElem_cons_zero]
      go_simp
      refine hK _ _ (Or.inr HS) ?_
      clear hK K
      try simp only [Act.put, List.getElem_toArray, List.getElem_cons_succ, List.getElem_cons_zero, List.setIfInBounds_toArray, List.set_cons_zero, List.set_cons_succ]
      refine wpAnyJ_one (i := 10) rfl (by kernel_rfl) (fun K hK => ?_)
      dsimp only [List.getElem_toArray, List.getElem_cons_succ, List.getElem_cons_zero]
      go_simp
      refine hK _ _ (Or.inr HS) ?_
      clear hK K
      try simp only [Act.put, List.getElem_toArray, List.getElem_cons_succ, List.getElem_cons_zero, List.setIfInBounds_toArray, List.set_cons_zero, List.set_cons_succ]
      refine wpAnyJ_one (i := 11) rfl (by kernel_rfl) (fun K hK => ?_)
      dsimp only [List.getElem_toArray, List.getElem_cons_succ, List.getElem_cons_zero]
      go_simp
      refine hK _ _ (Or.inl (by omega)) ?_
      clear hK K
      try simp only [Act.put, List.getElem_toArray, List.getElem_cons_succ, List.getElem_cons_zero, List.setIfInBounds_toArray, List.set_cons_zero, List.set_cons_succ]
      refine wpAnyJ_done (by kernel_rfl) ?_ _

      dsimp only [OnlyN]
      have B8f := Lib.hid (B8.out.set_ 0 (.slice A8 (nc + 1) c8))
      have Ka : Hid (Keeps (Value.slice A nc cc).ownBlock.toList w w8) := Lib.hid ((Kwd.out.trans Kx.out).nil.trans (k8.out.mono (fun x hx => .inl hx)))
      have Kf : Hid (Keeps (gl :: (Value.slice A nc cc).ownBlock.toList) w (w8.setCell ⟨gl, 0, none⟩ (.slice A8 (nc + 1) c8))) := Lib.hid ((Ka.out.mono (fun x hx => .inl (List.mem_cons_of_mem _ hx))).setCell (p := ⟨gl, 0, none⟩) (.inl List.mem_cons_self) _)
      have Kd : Hid (Keeps (gl :: (Value.slice A nc cc).ownBlock.toList) wd (w8.setCell ⟨gl, 0, none⟩ (.slice A8 (nc + 1) c8))) := Lib.hid ((((Kx.out.nil (X := (Value.slice A nc cc).ownBlock.toList)).trans k8.out).mono (fun x hx => .inl (List.mem_cons_of_mem _ hx))).setCell (p := ⟨gl, 0, none⟩) (.inl List.mem_cons_self) _)
      have hno8 : Hid (∀ g, (Value.slice A8 (nc + 1) c8).ownBlock = some g → ((Value.slice A nc cc).ownBlock = some g ∨ wd.heap.size ≤ g)) := Lib.hid (fun g hg => by
        rcases q4.out with h | h
        · exact .inl (h.symm.trans hg)
        · right
          rw [h] at hg
          cases hg
          exact Kx.out.size)
      have ow8 : Hid ((w8.setCell ⟨gl, 0, none⟩ (.slice A8 (nc + 1) c8)).ownsRow base 35 4 (.slice A8 (nc + 1) c8) (nc + 1) (flatC (R ++ [⟨t6, i6, Ao6, no6, co6, An6, nn6, cn6⟩]))) := Lib.hid (by
        rw [flatC_append]
        exact own_keep q1.out ((Keeps.refl [gl] w8).setCell (p := ⟨gl, 0, none⟩) (.inl (List.mem_singleton.2 rfl)) _) (fun g hg hx => by
          rw [List.mem_singleton.1 hx] at hg
          rcases hno8.out gl hg with h | h
          · exact (hn64.out gl h).1 rfl
          · have := hg40.out.2; have := hwW.out; omega))
      have hX8 : Hid (∀ y ∈ gl :: (Value.slice A nc cc).ownBlock.toList, y < w.heap.size) := Lib.hid (fun y hy => by
        rcases List.mem_cons.1 hy with rfl | hy
        · exact hg40.out.2
        · exact (hn64.out y (Option.mem_toList.1 hy)).2)
      have k78 : Hid (Keeps (gl :: (Value.slice A nc cc).ownBlock.toList) w7 (w8.setCell ⟨gl, 0, none⟩ (.slice A8 (nc + 1) c8))) := Lib.hid ((k8.out.mono (fun x hx => .inl (List.mem_cons_of_mem _ hx))).setCell (p := ⟨gl, 0, none⟩) (.inl List.mem_cons_self) _)
      have hri : Hid (RawIs (w8.setCell ⟨gl, 0, none⟩ (.slice A8 (nc + 1) c8)) ((gl :: (Value.slice A nc cc).ownBlock.toList) ++ (Value.slice A8 (nc + 1) c8).ownBlock.toList) ⟨t6, i6, Ao6, no6, co6, An6, nn6, cn6⟩ c) := Lib.hid (by
        obtain ⟨a1, a2, a3, a4, a5, a6⟩ := ri6.out
        have hw := hwW.out
        have hy : ∀ y ∈ (gl :: (Value.slice A nc cc).ownBlock.toList) ++ (Value.slice A8 (nc + 1) c8).ownBlock.toList, y ∈ gl :: (Value.slice A nc cc).ownBlock.toList ∨ w7.heap.size ≤ y := fun y hy => by
          rcases List.mem_append.1 hy with hy | hy
          · exact .inl hy
          · rcases q4.out with h | h
            · rw [h] at hy; exact .inl (List.mem_cons_of_mem _ hy)
            · rw [h] at hy; right; simp at hy; omega
        exact RawIs.keep ⟨a1, a2, a3, a4, (a5.fresh h6f.out.1 (fun y hy => by have := hX8.out y hy; omega)).other hy, (a6.fresh h6f.out.2 (fun y hy => by have := hX8.out y hy; omega)).other hy⟩ k78.out (fun y hy => .inl (List.mem_append_left _ hy)))
      have hdf : Hid ((w8.setCell ⟨gl, 0, none⟩ (.slice A8 (nc + 1) c8)).heap[D]? = some (.deferred (some []))) := Lib.hid ((Kd.out.block D hDd.out.1 (fun hx => by have := hX8.out D hx; have := hDd.out.2.1; omega)).trans hdd.out)
      have B4f := Lib.hid (B4d.out.keep Kd.out (fun hx => by have := hX8.out g4 hx; have := hgg.out.2.1; omega))
      have hfin8 : Hid (wd.heap.size ≤ (w8.setCell ⟨gl, 0, none⟩ (.slice A8 (nc + 1) c8)).heap.size) := Lib.hid Kd.out.size
      clear q1 q2 q3 q4 k8 HS fz B8 Kx Bn ow7 hb7 HC HSf h0 B64d B4d OWd Kwd Ka Kd k78 ri6 hdd
      generalize w8.setCell ⟨gl, 0, none⟩ (.slice A8 (nc + 1) c8) = wf at *
      have c4 := B4f.out.cell
      have f4 := B4f.out.frozen
      go_wp2_with fail
      have Kz : Keeps [g4, D] wf ((wf.setCell ⟨g4, 0, none⟩ (.int .i64 0)).putObj D (.deferred none)) := ((Keeps.refl [g4, D] wf).setCell (p := ⟨g4, 0, none⟩) (.inl (by simp)) _).trans (Keeps.grown (grownBy_putObj' _ D _) (fun k e => by cases e; simp))
      have hK' : (wf.setCell ⟨g4, 0, none⟩ (.int .i64 0)).heap[D]? = some (.deferred (some [])) := by
        have hDn : D ≠ g4 := by have := hDd.out.2.2; have := hg40.out.1; omega
        exact (Below.heap_setCell wf ⟨g4, 0, none⟩ (.int .i64 0) D hDn).trans hdf.out
      have hc5 : ((wf.setCell ⟨g4, 0, none⟩ (.int .i64 0)).putObj D (.deferred none)).cell? ⟨g4, 0, none⟩ = some (.int .i64 0) := cell_kept ((B4f.out.set_ 0 (.int .i64 0)).cell 0) (grownBy_putObj' _ D (.deferred none)) (fun r e => by cases e; exact ⟨_, hK', rfl⟩)
      have hgw : w.heap.size ≤ g4 ∧ w.heap.size ≤ D := ⟨hgg.out.2.1, hDd.out.2.1⟩
      have hgf : g4 < wd.heap.size ∧ D < wd.heap.size := ⟨by have := hg40.out.1; have := hDd.out; omega, hDd.out.1⟩
      refine ⟨by simp, .inl ⟨_, _, rfl, run_takeDeferred hK', ?_⟩⟩
      refine ⟨.int .i64 0, by simp [results, Try.f13, go_sem, hc5], .inr ⟨hok.out, rfl, A8, c8, ⟨t6, i6, Ao6, no6, co6, An6, nn6, cn6⟩, B8f.out.keep Kz (by have := hg40.out.2; simp; omega), own_keep ow8.out Kz (fun g hg hx => ?_), ?_, ⟨h6f.out.1.mono hwW.out, h6f.out.2.mono hwW.out⟩, ?_, ?_⟩⟩
      · have h35 : ∃ cur, Blk wf g 35 cur := (own_blk ow8.out hg).2
        obtain ⟨cur, h35⟩ := h35
        simp at hx
        rcases hx with rfl | rfl
        · exact Blk.ne_ h35 B4f.out (by decide) rfl
        · have h1 : wf.heap[g]? = some (.cells cur 35 (0, 0)) := h35
          rw [hdf.out] at h1
          cases h1
      · obtain ⟨a1, a2, a3, a4, a5, a6⟩ := hri.out
        exact RawIs.other (RawIs.keep ⟨a1, a2, a3, a4, a5.both (a5.fresh (Y := [g4, D]) h6f.out.1 (fun y hy => by simp at hy; omega)), a6.both (a6.fresh (Y := [g4, D]) h6f.out.2 (fun y hy => by simp at hy; omega))⟩ Kz (fun y hy => .inl (List.mem_append_right _ hy))) (fun y hy => .inl (List.mem_append_left _ (List.mem_append_right _ hy)))
      · intro g hg
        rcases hno8.out g hg with h | h
        · exact .inl h
        · exact .inr (Nat.le_trans hwW.out h)
      · refine ((Kf.out.mono (Y := gl :: (Value.slice A nc cc).ownBlock.toList ++ [g4, D]) (fun x hx => .inl (List.mem_append_left _ hx))).trans (Kz.mono (fun x hx => .inl (List.mem_append_right _ hx)))).mono (fun x hx => ?_)
        rcases List.mem_append.1 hx with h | h
        · exact .inl h
        · right
          simp at h
          omega
    · intro D cd pre W hD hpre hX hd
      obtain ⟨kp, hkp, hpre⟩ := hpre
      have hlen : R.length = L.length := hR0.out.1
      rcases hX with ⟨rfl, hit, hcell, hk⟩ | ⟨rfl, hit, hk⟩
      · have hok : Hid (addOk L c = false) := Lib.hid (by unfold addOk; rw [hit_fits hit (k := kp) (by omega) (by rw [← hlen]; exact hpre)]; simp)
        have hK' := hd
        have hc5 : (W.putObj D (.deferred none)).cell? ⟨g4, 0, none⟩ = some (.int .i64 1) := cell_kept hcell (grownBy_putObj' _ D (.deferred none)) (fun r e => by cases e; exact ⟨_, hK', rfl⟩)
        have hKf : Keeps [] w (W.putObj D (.deferred none)) := by
          refine (((k0.out.nil.trans hk).mono (Y := [g4, D]) (fun x hx => .inl (by simp at hx; simp [hx]))).trans (Keeps.grown (grownBy_putObj' _ D _) (fun k e => by cases e; simp))).mono (fun x hx => .inr ?_)
          have h1 := hgg.out.2.1
          have h2 := k0.out.size
          simp at hx
          omega
        refine wpIn_wide.2 ?_
        clear hpre hit hk hcell hga hd
        replace hKf := Lib.hid hKf
        go_wp2_with fail
        refine ⟨by simp, .inl ⟨_, _, rfl, run_takeDeferred hK', ?_⟩⟩
        exact ⟨.int .i64 1, by simp [results, Try.f13, go_sem, hc5], .inl ⟨hok.out, rfl, hKf.out⟩⟩
      · have hok : Hid (addOk L c = true) := Lib.hid (by unfold addOk; rw [hv.out, hit_fits hit (k := kp) (by omega) (by rw [← hlen]; exact hpre)]; rfl)
        replace hk := Lib.hid hk
        refine wpIn_wide.2 ?_
        clear hpre hit hlen hkp
        have B64 := Lib.hid (hB0.out.keep hk.out (by simp))
        have B3W := Lib.hid (B3.out.keep hk.out (by simp))
        have B4W := Lib.hid (B4.out.keep hk.out (by simp))
        have OW := Lib.hid (own_keep0 hO0.out hk.out)
        have Kw := Lib.hid (k0.out.trans hk.out)
        have HC : Hid (∀ w', Keeps [] W.drew w' → Calls Try.prog 31 #[.agg #[.int .i64 t, .int .i64 id, .slice Ao no co, .slice An nn cn]] w' (ChgCopy w' c)) := Lib.hid (fun w' hk' => clonec_any w' X ⟨t, id, Ao, no, co, An, nn, cn⟩ c (hc0.out.keep (hk.out.drew.trans hk') (by simp)) hs.out)
        have HSf : Hid (∀ w', Keeps [] W.drew w' → w'.cell? ⟨gl, 0, none⟩ = some (.slice A nc cc) ∧ w'.cell? ⟨g3, 0, none⟩ = some (.int .i64 t) ∧ w'.cell? ⟨g3, 1, none⟩ = some (.int .i64 id) ∧ w'.cell? ⟨g3, 2, none⟩ = some (.slice Ao no co) ∧ w'.cell? ⟨g3, 3, none⟩ = some (.slice An nn cn)) := Lib.hid (fun w' hk' => ⟨hk'.cellEq (B64.out.drew.cell 0) (by simp), hk'.cellEq (B3W.out.drew.cell 0) (by simp), hk'.cellEq (B3W.out.drew.cell 1) (by simp), hk'.cellEq (B3W.out.drew.cell 2) (by simp), hk'.cellEq (B3W.out.drew.cell 3) (by simp)⟩)
        have h0 := HSf.out _ (Keeps.refl [] W.drew)
        have B64d := Lib.hid B64.out.drew
        have B4d := Lib.hid B4W.out.drew
        have OWd : Hid (W.drew.ownsRow base 35 4 (.slice A nc cc) nc (flatC R)) := Lib.hid OW.out
        have Kwd := Lib.hid Kw.out.drew
        have hwW : Hid (w.heap.size ≤ W.drew.heap.size) := Lib.hid Kw.out.size
        have hdd : Hid (W.drew.heap[D]? = some (.deferred (some []))) := Lib.hid hd
        have hDd : Hid (D < W.drew.heap.size ∧ w.heap.size ≤ D ∧ W0.heap.size ≤ D) := Lib.hid ⟨(Array.getElem?_eq_some_iff.1 hd).1, Nat.le_trans k0.out.size hD, hD⟩
        have hg40 : Hid (g4 < W0.heap.size ∧ gl < w.heap.size) := Lib.hid ⟨B4.out.lt, hB.out.lt⟩
        obtain ⟨i5, hi5, hy0, hy1, hy2⟩ := info_parts info35
        replace hi5 := Lib.hid hi5
        replace hy0 := Lib.hid hy0
        replace hy1 := Lib.hid hy1
        replace hy2 := Lib.hid hy2
        clear hD hd B64 B3W B4W OW Kw hga hB0 hO0
        go_wp2_with fail
        refine wp_onlyN ?_
        refine wp_region_J (S := (fun w' : World => w'.cell? ⟨gl, 0, none⟩ = some (.slice A nc cc) ∧ w'.cell? ⟨g3, 0, none⟩ = some (.int .i64 t) ∧ w'.cell? ⟨g3, 1, none⟩ = some (.int .i64 id) ∧ w'.cell? ⟨g3, 2, none⟩ = some (.slice Ao no co) ∧ w'.cell? ⟨g3, 3, none⟩ = some (.slice An nn cn))) (n := 11) (by kernel_rfl) ?_
        generalize W.drew = wd at *
        have HS := h0
        have Kx := Lib.hid (Keeps.refl [] wd)
        refine wpAnyJ_take (i := 0) (v := ?_) (by kernel_rfl) rfl (by kernel_rfl) (by kernel_rfl) (by kernel_rfl) (fun _ _ _ h => h) HS (Or.inl ⟨by rfl, ?_⟩) ?_
        rotate_left
        · (intro w hSw; obtain ⟨y1, y2, y3, y4, y5⟩ := hSw; go_simp; try with_reducible rfl)
        try simp only [Act.put, List.getElem_toArray, List.getElem_cons_succ, List.getElem_cons_zero, List.setIfInBounds_toArray, List.set_cons_zero, List.set_cons_succ]
        refine wpAnyJ_take (i := 1) (v := ?_) (by kernel_rfl) rfl (by kernel_rfl) (by kernel_rfl) (by kernel_rfl) (fun _ _ _ h => h) HS (Or.inl ⟨by rfl, ?_⟩) ?_
        rotate_left
        · (intro w hSw; obtain ⟨y1, y2, y3, y4, y5⟩ := hSw; go_simp; try with_reducible rfl)
        try simp only [Act.put, List.getElem_toArray, List.getElem_cons_succ, List.getElem_cons_zero, List.setIfInBounds_toArray, List.set_cons_zero, List.set_cons_succ]
        refine wpAnyJ_take (i := 2) (v := ?_) (by kernel_rfl) rfl (by kernel_rfl) (by kernel_rfl) (by kernel_rfl) (fun _ _ _ h => h) HS (Or.inl ⟨by rfl, ?_⟩) ?_
        rotate_left
        · (intro w hSw; obtain ⟨y1, y2, y3, y4, y5⟩ := hSw; go_simp; try with_reducible rfl)
        try simp only [Act.put, List.getElem_toArray, List.getElem_cons_succ, List.getElem_cons_zero, List.setIfInBounds_toArray, List.set_cons_zero, List.set_cons_succ]
        refine wpAnyJ_take (i := 3) (v := ?_) (by kernel_rfl) rfl (by kernel_rfl) (by kernel_rfl) (by kernel_rfl) (fun _ _ _ h => h) HS (Or.inl ⟨by rfl, ?_⟩) ?_
        rotate_left
        · (intro w hSw; obtain ⟨y1, y2, y3, y4, y5⟩ := hSw; go_simp; try with_reducible rfl)
        try simp only [Act.put, List.getElem_toArray, List.getElem_cons_succ, List.getElem_cons_zero, List.setIfInBounds_toArray, List.set_cons_zero, List.set_cons_succ]
        refine wpAnyJ_take (i := 4) (v := ?_) (by kernel_rfl) rfl (by kernel_rfl) (by kernel_rfl) (by kernel_rfl) (fun _ _ _ h => h) HS (Or.inl ⟨by rfl, ?_⟩) ?_
        rotate_left
        · (intro w hSw; obtain ⟨y1, y2, y3, y4, y5⟩ := hSw; go_simp; try with_reducible rfl)
        try simp only [Act.put, List.getElem_toArray, List.getElem_cons_succ, List.getElem_cons_zero, List.setIfInBounds_toArray, List.set_cons_zero, List.set_cons_succ]
        refine wpAnyJ_take (i := 5) (v := ?_) (by kernel_rfl) rfl (by kernel_rfl) (by kernel_rfl) (by kernel_rfl) (fun _ _ _ h => h) HS (Or.inl ⟨by rfl, ?_⟩) ?_
        rotate_left
        · (intro w hSw; obtain ⟨y1, y2, y3, y4, y5⟩ := hSw; go_simp; try with_reducible rfl)
        try simp only [Act.put, List.getElem_toArray, List.getElem_cons_succ, List.getElem_cons_zero, List.setIfInBounds_toArray, List.set_cons_zero, List.set_cons_succ]
        refine wpAnyJ_one (i := 6) rfl (by kernel_rfl) (fun K hK => ?_)
        dsimp only [List.getElem_toArray, List.getElem_cons_succ, List.getElem_cons_zero]
        go_simp
        refine (HC.out _ Kx.out).mono ?_
        rintro e w6 ⟨⟨t6, i6, Ao6, no6, co6, An6, nn6, cn6⟩, rfl, ri6, fr6, k6⟩
        dsimp only [Raw.cells]
        have h6s : Hid (wd.heap.size ≤ w6.heap.size) := Lib.hid (Kx.out.trans k6.out).size
        have h6f : Hid (Fresh wd.heap.size Ao6 ∧ Fresh wd.heap.size An6) := Lib.hid ⟨fr6.out.1.mono Kx.out.size, fr6.out.2.mono Kx.out.size⟩
        replace Kx := Lib.hid (Kx.out.trans k6.out)
        have HS := HSf.out _ Kx.out
        clear k6 fr6
        refine hK _ _ (Or.inr HS) ?_
        clear hK K
        try simp only [Act.put, List.getElem_toArray, List.getElem_cons_succ, List.getElem_cons_zero, List.setIfInBounds_toArray, List.set_cons_zero, List.set_cons_succ]
        refine wpAnyJ_one (i := 7) rfl (by kernel_rfl) (fun K hK => ?_)
        dsimp only [List.getElem_toArray, List.getElem_cons_succ, List.getElem_cons_zero]
        go_simp
        have ka7 : Keeps [] w6 (w6.alloc (.cells #[.int .i64 t6, .int .i64 i6, .slice Ao6 no6 co6, .slice An6 nn6 cn6] 35)) := (Keeps.refl [] w6).alloc _
        have Bn := Lib.hid (Blk.new w6 35 #[.int .i64 t6, .int .i64 i6, .slice Ao6 no6 co6, .slice An6 nn6 cn6])
        replace ri6 := Lib.hid (ri6.out.keep ka7 (by simp))
        have HS := HSf.out _ (Kx.out.trans ka7)
        replace Kx := Lib.hid (Kx.out.trans ka7)
        refine hK _ _ (Or.inr HS) ?_
        clear hK K ka7
        obtain ⟨g7, hg7⟩ : ∃ g, g = w6.heap.size := ⟨_, rfl⟩
        rw [← hg7] at Bn ⊢
        clear hg7 h6s
        generalize w6.alloc (.cells #[.int .i64 t6, .int .i64 i6, .slice Ao6 no6 co6, .slice An6 nn6 cn6] 35) = w7 at *
        try simp only [Act.put, List.getElem_toArray, List.getElem_cons_succ, List.getElem_cons_zero, List.setIfInBounds_toArray, List.set_cons_zero, List.set_cons_succ]
        refine wpAnyJ_one (i := 8) rfl (by kernel_rfl) (fun K hK => ?_)
        dsimp only [List.getElem_toArray, List.getElem_cons_succ, List.getElem_cons_zero]
        rw [if_pos (by rfl)]
        have ow7 := Lib.hid (own_keep0 OWd.out Kx.out)
        have hb7 : base ≤ w7.heap.size := Nat.le_trans hbase.out (Nat.le_trans hwW.out Kx.out.size)
        refine wp_append_row (.tmp 56) (.tmp 59) 28 (by rfl) base 35 i5 (.agg #[.int .i64 0, .int .i64 0, .slice none 0 0, .slice none 0 0]) 4 64 Try.underlying28 hi5.out hy0.out hy1.out hy2.out rfl (by decide) (.slice A nc cc) nc (flatC R) (by rfl) ow7.out (some ⟨g7, 0, none⟩) 1 1 [.int .i64 t6, .int .i64 i6, .slice Ao6 no6 co6, .slice An6 nn6 cn6] (by rfl) rfl (src_raw (r := ⟨t6, i6, Ao6, no6, co6, An6, nn6, cn6⟩) Bn.out) (by simp [Value.oneCell']) (by unfold maxLen; omega) (by omega) hb7 ?_
        intro v8 w8 q1 q2 q3 q4
        obtain ⟨A8, c8, rfl, _⟩ := own_slice q1.out
        have k8 : Hid (Keeps (Value.slice A nc cc).ownBlock.toList w7 w8) := Lib.hid (Keeps.grown q2.out (fun g hg => Option.mem_toList.2 hg))
        have hn64 : Hid (∀ g, (Value.slice A nc cc).ownBlock = some g → g ≠ gl ∧ g < w.heap.size) := Lib.hid (fun g hg => by
          obtain ⟨_, cur, h1⟩ := own_blk hO.out hg
          exact ⟨Blk.ne_ h1 hB.out (by decide), h1.lt⟩)
        have hnl : Hid (gl ∉ (Value.slice A nc cc).ownBlock.toList ∧ g3 ∉ (Value.slice A nc cc).ownBlock.toList) := Lib.hid ⟨fun hx => (hn64.out gl (Option.mem_toList.1 hx)).1 rfl, fun hx => by have := (hn64.out g3 (Option.mem_toList.1 hx)).2; have := hgg.out.1; omega⟩
        have B8 := Lib.hid ((B64d.out.keep Kx.out (by simp)).keep k8.out hnl.out.1)
        have fz := B8.out.frozen 0
        have HS : _ ∧ _ ∧ _ ∧ _ ∧ _ := ⟨k8.out.cellEq HS.1 hnl.out.1, k8.out.cellEq HS.2.1 hnl.out.2, k8.out.cellEq HS.2.2.1 hnl.out.2, k8.out.cellEq HS.2.2.2.1 hnl.out.2, k8.out.cellEq HS.2.2.2.2 hnl.out.2⟩
        refine hK _ _ (Or.inr HS) ?_
        clear hK K
        try simp only [Act.put, List.getElem_toArray, List.getElem_cons_succ, List.getElem_cons_zero, List.setIfInBounds_toArray, List.set_cons_zero, List.set_cons_succ]
        refine wpAnyJ_one (i := 9) rfl (by kernel_rfl) (fun K hK => ?_)
        dsimp only [List.getElem_toArray, List.getElem_cons_succ, List.getElem_cons_zero]
        go_simp
        refine hK _ _ (Or.inr HS) ?_
        clear hK K
        try simp only [Act.put, List.getElem_toArray, List.getElem_cons_succ, List.getElem_cons_zero, List.setIfInBounds_toArray, List.set_cons_zero, List.set_cons_succ]
        refine wpAnyJ_one (i := 10) rfl (by kernel_rfl) (fun K hK => ?_)
        dsimp only [List.getElem_toArray, List.getElem_cons_succ, List.getElem_cons_zero]
        go_simp
        refine hK _ _ (Or.inr HS) ?_
        clear hK K
        try simp only [Act.put, List.getElem_toArray, List.getElem_cons_succ, List.getElem_cons_zero, List.setIfInBounds_toArray, List.set_cons_zero, List.set_cons_succ]
        refine wpAnyJ_one (i := 11) rfl (by kernel_rfl) (fun K hK => ?_)
        dsimp only [List.getElem_toArray, List.getElem_cons_succ, List.getElem_cons_zero]
        go_simp
        refine hK _ _ (Or.inl (by omega)) ?_
        clear hK K
        try simp only [Act.put, List.getElem_toArray, List.getElem_cons_succ, List.getElem_cons_zero, List.setIfInBounds_toArray, List.set_cons_zero, List.set_cons_succ]
        refine wpAnyJ_done (by kernel_rfl) ?_ _

        dsimp only [OnlyN]
        have B8f := Lib.hid (B8.out.set_ 0 (.slice A8 (nc + 1) c8))
        have Ka : Hid (Keeps (Value.slice A nc cc).ownBlock.toList w w8) := Lib.hid ((Kwd.out.trans Kx.out).nil.trans (k8.out.mono (fun x hx => .inl hx)))
        have Kf : Hid (Keeps (gl :: (Value.slice A nc cc).ownBlock.toList) w (w8.setCell ⟨gl, 0, none⟩ (.slice A8 (nc + 1) c8))) := Lib.hid ((Ka.out.mono (fun x hx => .inl (List.mem_cons_of_mem _ hx))).setCell (p := ⟨gl, 0, none⟩) (.inl List.mem_cons_self) _)
        have Kd : Hid (Keeps (gl :: (Value.slice A nc cc).ownBlock.toList) wd (w8.setCell ⟨gl, 0, none⟩ (.slice A8 (nc + 1) c8))) := Lib.hid ((((Kx.out.nil (X := (Value.slice A nc cc).ownBlock.toList)).trans k8.out).mono (fun x hx => .inl (List.mem_cons_of_mem _ hx))).setCell (p := ⟨gl, 0, none⟩) (.inl List.mem_cons_self) _)
        have hno8 : Hid (∀ g, (Value.slice A8 (nc + 1) c8).ownBlock = some g → ((Value.slice A nc cc).ownBlock = some g ∨ wd.heap.size ≤ g)) := Lib.hid (fun g hg => by
          rcases q4.out with h | h
          · exact .inl (h.symm.trans hg)
          · right
            rw [h] at hg
            cases hg
            exact Kx.out.size)
        have ow8 : Hid ((w8.setCell ⟨gl, 0, none⟩ (.slice A8 (nc + 1) c8)).ownsRow base 35 4 (.slice A8 (nc + 1) c8) (nc + 1) (flatC (R ++ [⟨t6, i6, Ao6, no6, co6, An6, nn6, cn6⟩]))) := Lib.hid (by
          rw [flatC_append]
          exact own_keep q1.out ((Keeps.refl [gl] w8).setCell (p := ⟨gl, 0, none⟩) (.inl (List.mem_singleton.2 rfl)) _) (fun g hg hx => by
            rw [List.mem_singleton.1 hx] at hg
            rcases hno8.out gl hg with h | h
            · exact (hn64.out gl h).1 rfl
            · have := hg40.out.2; have := hwW.out; omega))
        have hX8 : Hid (∀ y ∈ gl :: (Value.slice A nc cc).ownBlock.toList, y < w.heap.size) := Lib.hid (fun y hy => by
          rcases List.mem_cons.1 hy with rfl | hy
          · exact hg40.out.2
          · exact (hn64.out y (Option.mem_toList.1 hy)).2)
        have k78 : Hid (Keeps (gl :: (Value.slice A nc cc).ownBlock.toList) w7 (w8.setCell ⟨gl, 0, none⟩ (.slice A8 (nc + 1) c8))) := Lib.hid ((k8.out.mono (fun x hx => .inl (List.mem_cons_of_mem _ hx))).setCell (p := ⟨gl, 0, none⟩) (.inl List.mem_cons_self) _)
        have hri : Hid (RawIs (w8.setCell ⟨gl, 0, none⟩ (.slice A8 (nc + 1) c8)) ((gl :: (Value.slice A nc cc).ownBlock.toList) ++ (Value.slice A8 (nc + 1) c8).ownBlock.toList) ⟨t6, i6, Ao6, no6, co6, An6, nn6, cn6⟩ c) := Lib.hid (by
          obtain ⟨a1, a2, a3, a4, a5, a6⟩ := ri6.out
          have hw := hwW.out
          have hy : ∀ y ∈ (gl :: (Value.slice A nc cc).ownBlock.toList) ++ (Value.slice A8 (nc + 1) c8).ownBlock.toList, y ∈ gl :: (Value.slice A nc cc).ownBlock.toList ∨ w7.heap.size ≤ y := fun y hy => by
            rcases List.mem_append.1 hy with hy | hy
            · exact .inl hy
            · rcases q4.out with h | h
              · rw [h] at hy; exact .inl (List.mem_cons_of_mem _ hy)
              · rw [h] at hy; right; simp at hy; omega
          exact RawIs.keep ⟨a1, a2, a3, a4, (a5.fresh h6f.out.1 (fun y hy => by have := hX8.out y hy; omega)).other hy, (a6.fresh h6f.out.2 (fun y hy => by have := hX8.out y hy; omega)).other hy⟩ k78.out (fun y hy => .inl (List.mem_append_left _ hy)))
        have hdf : Hid ((w8.setCell ⟨gl, 0, none⟩ (.slice A8 (nc + 1) c8)).heap[D]? = some (.deferred (some []))) := Lib.hid ((Kd.out.block D hDd.out.1 (fun hx => by have := hX8.out D hx; have := hDd.out.2.1; omega)).trans hdd.out)
        have B4f := Lib.hid (B4d.out.keep Kd.out (fun hx => by have := hX8.out g4 hx; have := hgg.out.2.1; omega))
        have hfin8 : Hid (wd.heap.size ≤ (w8.setCell ⟨gl, 0, none⟩ (.slice A8 (nc + 1) c8)).heap.size) := Lib.hid Kd.out.size
        clear q1 q2 q3 q4 k8 HS fz B8 Kx Bn ow7 hb7 HC HSf h0 B64d B4d OWd Kwd Ka Kd k78 ri6 hdd
        generalize w8.setCell ⟨gl, 0, none⟩ (.slice A8 (nc + 1) c8) = wf at *
        have c4 := B4f.out.cell
        have f4 := B4f.out.frozen
        go_wp2_with fail
        have Kz : Keeps [g4, D] wf ((wf.setCell ⟨g4, 0, none⟩ (.int .i64 0)).putObj D (.deferred none)) := ((Keeps.refl [g4, D] wf).setCell (p := ⟨g4, 0, none⟩) (.inl (by simp)) _).trans (Keeps.grown (grownBy_putObj' _ D _) (fun k e => by cases e; simp))
        have hK' : (wf.setCell ⟨g4, 0, none⟩ (.int .i64 0)).heap[D]? = some (.deferred (some [])) := by
          have hDn : D ≠ g4 := by have := hDd.out.2.2; have := hg40.out.1; omega
          exact (Below.heap_setCell wf ⟨g4, 0, none⟩ (.int .i64 0) D hDn).trans hdf.out
        have hc5 : ((wf.setCell ⟨g4, 0, none⟩ (.int .i64 0)).putObj D (.deferred none)).cell? ⟨g4, 0, none⟩ = some (.int .i64 0) := cell_kept ((B4f.out.set_ 0 (.int .i64 0)).cell 0) (grownBy_putObj' _ D (.deferred none)) (fun r e => by cases e; exact ⟨_, hK', rfl⟩)
        have hgw : w.heap.size ≤ g4 ∧ w.heap.size ≤ D := ⟨hgg.out.2.1, hDd.out.2.1⟩
        have hgf : g4 < wd.heap.size ∧ D < wd.heap.size := ⟨by have := hg40.out.1; have := hDd.out; omega, hDd.out.1⟩
        refine ⟨by simp, .inl ⟨_, _, rfl, run_takeDeferred hK', ?_⟩⟩
        refine ⟨.int .i64 0, by simp [results, Try.f13, go_sem, hc5], .inr ⟨hok.out, rfl, A8, c8, ⟨t6, i6, Ao6, no6, co6, An6, nn6, cn6⟩, B8f.out.keep Kz (by have := hg40.out.2; simp; omega), own_keep ow8.out Kz (fun g hg hx => ?_), ?_, ⟨h6f.out.1.mono hwW.out, h6f.out.2.mono hwW.out⟩, ?_, ?_⟩⟩
        · have h35 : ∃ cur, Blk wf g 35 cur := (own_blk ow8.out hg).2
          obtain ⟨cur, h35⟩ := h35
          simp at hx
          rcases hx with rfl | rfl
          · exact Blk.ne_ h35 B4f.out (by decide) rfl
          · have h1 : wf.heap[g]? = some (.cells cur 35 (0, 0)) := h35
            rw [hdf.out] at h1
            cases h1
        · obtain ⟨a1, a2, a3, a4, a5, a6⟩ := hri.out
          exact RawIs.other (RawIs.keep ⟨a1, a2, a3, a4, a5.both (a5.fresh (Y := [g4, D]) h6f.out.1 (fun y hy => by simp at hy; omega)), a6.both (a6.fresh (Y := [g4, D]) h6f.out.2 (fun y hy => by simp at hy; omega))⟩ Kz (fun y hy => .inl (List.mem_append_right _ hy))) (fun y hy => .inl (List.mem_append_left _ (List.mem_append_right _ hy)))
        · intro g hg
          rcases hno8.out g hg with h | h
          · exact .inl h
          · exact .inr (Nat.le_trans hwW.out h)
        · refine ((Kf.out.mono (Y := gl :: (Value.slice A nc cc).ownBlock.toList ++ [g4, D]) (fun x hx => .inl (List.mem_append_left _ hx))).trans (Kz.mono (fun x hx => .inl (List.mem_append_right _ hx)))).mono (fun x hx => ?_)
          rcases List.mem_append.1 hx with h | h
          · exact .inl h
          · right
            simp at h
            omega
  · have d3 : ((no : Int) == 0) = false := by simpa using (by omega : ¬ (no : Int) = 0)
    clear v3 hz
    go_wp2_with fail
    refine (callsIn_wide.1 (back_in Fence.wide 4 trivial rfl _ _ _ _)).mono ?_
    rintro e w' ⟨rfl, rfl⟩
    clear z1
    go_wp2_with fail
    generalize (((w.alloc (.cells #[.int .i64 t, .int .i64 id, .slice Ao no co, .slice An nn cn] 35)).alloc (.cells #[.int .i64 0] 38)).alloc (.cells #[.slice A nc cc] 28)) = W0 at *
    rw [← hgB, ← hg4, ← hg3]
    replace hg3 := Lib.hid hg3
    replace hg4 := Lib.hid hg4
    replace hgB := Lib.hid hgB
    obtain ⟨ga, hga⟩ : ∃ ga, R = [] ∨ (A = some ⟨ga, 0, none⟩ ∧ ga < W0.heap.size ∧ RawsAt W0 ga 0 R) := by
      rcases Nat.eq_zero_or_pos nc with h0 | h0
      · exact ⟨0, .inl (List.eq_nil_of_length_eq_zero (by rw [hn.out, h0]))⟩
      · obtain ⟨g, h1, h2, _, h3⟩ := raws_of_own hO0.out hn.out h0
        exact ⟨g, .inr ⟨h1, h2, h3⟩⟩
    refine (wpIn_wide (n := 5)).1 (loop_back (px := 6) gB ga 0 cc A R (by rw [hn.out]; exact hnc) (by rfl) BB.out.lt (by rw [hn.out]; exact BB.out.cell 0) hga (IAdd c L W0) (XAdd c L W0 g4) (iadd_own c L W0) (xadd_own c L W0 g4) ⟨(fun k hk => by cases hk), Keeps.refl _ _⟩ (fun pre W h => h.2.size) ?_ ?_ ?_ ?_)
    · intro l k W K hK
      unfold slotsB at hK
      generalize rAt R k = rr at *
      obtain ⟨t', id', Ao', no', co', An', nn', cn'⟩ := rr
      unfold Raw.cells at *
      dsimp only at *
      gi_wp2
      exact hK
    · intro l pre k Bx W hl hI hBx bX _
      obtain ⟨hm, hk⟩ := hI
      have raw := hR0.out.at_ k
      have hsb : (cAt L k).new.length ≤ 1000000 := by
        unfold cAt
        cases hq : L[k]? with
        | none => exact Nat.zero_le _
        | some b => exact (hsL.out b (List.mem_of_getElem? hq)).2
      have hsc := hs.out
      unfold slotsB
      generalize rAt R k = rr at *
      obtain ⟨t', id', Ao', no', co', An', nn', cn'⟩ := rr
      obtain ⟨ht', hid', _, hnn', _, hN'⟩ := raw
      unfold Raw.cells at *
      dsimp only at ht' hid' hnn' hN' bX ⊢
      have HE := Lib.hid (equal_any W X X An' Ao (cAt L k).new c.old nn' cn' no co hnn' hno.out (hN'.keep hk (by simp)) (hc0.out.old.keep hk (by simp)) (by omega))
      have x0 := bX.out.cell
      have y3 := (B3.out.keep hk (by simp)).cell
      have B4W := Lib.hid (B4.out.keep hk (by simp))
      have hm' := Lib.hid hm
      have hk' := Lib.hid hk
      have hhit : Hid (hits c (cAt L k) = (decide (t' = t) && decide (id' = id))) := Lib.hid (by unfold hits; rw [← ht', ← hid', ← ht.out, ← hid.out])
      replace ht' := Lib.hid ht'
      replace hid' := Lib.hid hid'
      replace hnn' := Lib.hid hnn'
      replace hN' := Lib.hid hN'
      replace hsc := Lib.hid hsc
      have hg4W : Hid (g4 < W0.heap.size) := Lib.hid B4.out.lt
      have hkp : Hid (∀ {W' : World}, Keeps [] W W' → Kp2 gB ga W W') := Lib.hid (fun h => Kp2.of_keeps h (by simp) (by simp))
      clear hm hk hga hO0 hB0
      by_cases e1 : t' = t
      · by_cases e2 : id' = id
        · have hh : Hid (hits c (cAt L k) = true) := Lib.hid (by rw [hhit.out, decide_eq_true e1, decide_eq_true e2]; rfl)
          subst e1 e2
          by_cases hq : (cAt L k).new = c.old
          · have hb := Lib.hid (decide_eq_true hq)
            replace hq := Lib.hid hq
            gi_wp2_with (refine ⟨trivial, ?_⟩; gi_at_call 30; refine (CallsIn.inRound l (callsIn_wide.2 HE.out)).mono ?_; rintro e w2 ⟨rfl, k2⟩; rw [hb.out])
            exact ⟨keepsFrom_of k2 (by simp), .inr ⟨rfl, ⟨pre, k, rfl, hm'.out, hh.out, hb.out⟩, hk'.out.trans k2⟩⟩
          · have hb := Lib.hid (decide_eq_false hq)
            replace hq := Lib.hid hq
            gi_wp2_with (refine ⟨trivial, ?_⟩; gi_at_call 30; refine (CallsIn.inRound l (callsIn_wide.2 HE.out)).mono ?_; rintro e w2 ⟨rfl, k2⟩; rw [hb.out]; have B4v := B4W.out.keep k2 (by simp); have c4 := B4v.cell; have f4 := B4v.frozen)
            have hk3 : Keeps [g4] W0 (w2.setCell ⟨g4, 0, none⟩ (.int .i64 1)) := (hk'.out.trans k2).nil.setCell (p := ⟨g4, 0, none⟩) (.inl (List.mem_singleton.2 rfl)) _
            have hk4 : Keeps [g4] W (w2.setCell ⟨g4, 0, none⟩ (.int .i64 1)) := k2.nil.setCell (p := ⟨g4, 0, none⟩) (.inl (List.mem_singleton.2 rfl)) _
            exact ⟨keepsFrom_of hk4 (by intro x hx; rw [List.mem_singleton.1 hx]; exact hg4W.out), .inl ⟨rfl, ⟨pre, k, rfl, hm'.out, hh.out, hb.out⟩, (B4v.set_ 0 (.int .i64 1)).cell 0, hk3⟩⟩
        · have hh : Hid (hits c (cAt L k) = false) := Lib.hid (by rw [hhit.out, decide_eq_false e2]; simp)
          have hb : (id' == id) = false := by simpa using e2
          subst e1
          replace e2 := Lib.hid e2
          gi_wp2
          exact ⟨KeepsFrom.refl _ _, Kp2.refl _ _ _, hm'.out.snoc hh.out, hk'.out⟩
      · have hh : Hid (hits c (cAt L k) = false) := Lib.hid (by rw [hhit.out, decide_eq_false e1]; rfl)
        have hb : (t' == t) = false := by simpa using e1
        replace e1 := Lib.hid e1
        gi_wp2
        exact ⟨KeepsFrom.refl _ _, Kp2.refl _ _ _, hm'.out.snoc hh.out, hk'.out⟩
    · intro D xs W hD hx hI hd
      obtain ⟨hm, hk⟩ := hI
      have hlen : R.length = L.length := hR0.out.1
      have hok : Hid (addOk L c = true) := Lib.hid (by unfold addOk; rw [hv.out, miss_all (by rw [← hlen, ← hx]; exact hm)]; rfl)
      replace hk := Lib.hid hk
      clear hm hx hlen
      have B64 := Lib.hid (hB0.out.keep hk.out (by simp))
      have B3W := Lib.hid (B3.out.keep hk.out (by simp))
      have B4W := Lib.hid (B4.out.keep hk.out (by simp))
      have OW := Lib.hid (own_keep0 hO0.out hk.out)
      have Kw := Lib.hid (k0.out.trans hk.out)
      have HC : Hid (∀ w', Keeps [] W.drew w' → Calls Try.prog 31 #[.agg #[.int .i64 t, .int .i64 id, .slice Ao no co, .slice An nn cn]] w' (ChgCopy w' c)) := Lib.hid (fun w' hk' => clonec_any w' X ⟨t, id, Ao, no, co, An, nn, cn⟩ c (hc0.out.keep (hk.out.drew.trans hk') (by simp)) hs.out)
      have HSf : Hid (∀ w', Keeps [] W.drew w' → w'.cell? ⟨gl, 0, none⟩ = some (.slice A nc cc) ∧ w'.cell? ⟨g3, 0, none⟩ = some (.int .i64 t) ∧ w'.cell? ⟨g3, 1, none⟩ = some (.int .i64 id) ∧ w'.cell? ⟨g3, 2, none⟩ = some (.slice Ao no co) ∧ w'.cell? ⟨g3, 3, none⟩ = some (.slice An nn cn)) := Lib.hid (fun w' hk' => ⟨hk'.cellEq (B64.out.drew.cell 0) (by simp), hk'.cellEq (B3W.out.drew.cell 0) (by simp), hk'.cellEq (B3W.out.drew.cell 1) (by simp), hk'.cellEq (B3W.out.drew.cell 2) (by simp), hk'.cellEq (B3W.out.drew.cell 3) (by simp)⟩)
      have h0 := HSf.out _ (Keeps.refl [] W.drew)
      have B64d := Lib.hid B64.out.drew
      have B4d := Lib.hid B4W.out.drew
      have OWd : Hid (W.drew.ownsRow base 35 4 (.slice A nc cc) nc (flatC R)) := Lib.hid OW.out
      have Kwd := Lib.hid Kw.out.drew
      have hwW : Hid (w.heap.size ≤ W.drew.heap.size) := Lib.hid Kw.out.size
      have hdd : Hid (W.drew.heap[D]? = some (.deferred (some []))) := Lib.hid hd
      have hDd : Hid (D < W.drew.heap.size ∧ w.heap.size ≤ D ∧ W0.heap.size ≤ D) := Lib.hid ⟨(Array.getElem?_eq_some_iff.1 hd).1, Nat.le_trans k0.out.size hD, hD⟩
      have hg40 : Hid (g4 < W0.heap.size ∧ gl < w.heap.size) := Lib.hid ⟨B4.out.lt, hB.out.lt⟩
      obtain ⟨i5, hi5, hy0, hy1, hy2⟩ := info_parts info35
      replace hi5 := Lib.hid hi5
      replace hy0 := Lib.hid hy0
      replace hy1 := Lib.hid hy1
      replace hy2 := Lib.hid hy2
      clear hD hd B64 B3W B4W OW Kw hga hB0 hO0
      go_wp2_with fail
      refine wp_onlyN ?_
      refine wp_region_J (S := (fun w' : World => w'.cell? ⟨gl, 0, none⟩ = some (.slice A nc cc) ∧ w'.cell? ⟨g3, 0, none⟩ = some (.int .i64 t) ∧ w'.cell? ⟨g3, 1, none⟩ = some (.int .i64 id) ∧ w'.cell? ⟨g3, 2, none⟩ = some (.slice Ao no co) ∧ w'.cell? ⟨g3, 3, none⟩ = some (.slice An nn cn))) (n := 11) (by kernel_rfl) ?_
      generalize W.drew = wd at *
      have HS := h0
      have Kx := Lib.hid (Keeps.refl [] wd)
      refine wpAnyJ_take (i := 0) (v := ?_) (by kernel_rfl) rfl (by kernel_rfl) (by kernel_rfl) (by kernel_rfl) (fun _ _ _ h => h) HS (Or.inl ⟨by rfl, ?_⟩) ?_
      rotate_left
      · (intro w hSw; obtain ⟨y1, y2, y3, y4, y5⟩ := hSw; go_simp; try with_reducible rfl)
      try simp only [Act.put, List.getElem_toArray, List.getElem_cons_succ, List.getElem_cons_zero, List.setIfInBounds_toArray, List.set_cons_zero, List.set_cons_succ]
      refine wpAnyJ_take (i := 1) (v := ?_) (by kernel_rfl) rfl (by kernel_rfl) (by kernel_rfl) (by kernel_rfl) (fun _ _ _ h => h) HS (Or.inl ⟨by rfl, ?_⟩) ?_
      rotate_left
      · (intro w hSw; obtain ⟨y1, y2, y3, y4, y5⟩ := hSw; go_simp; try with_reducible rfl)
      try simp only [Act.put, List.getElem_toArray, List.getElem_cons_succ, List.getElem_cons_zero, List.setIfInBounds_toArray, List.set_cons_zero, List.set_cons_succ]
      refine wpAnyJ_take (i := 2) (v := ?_) (by kernel_rfl) rfl (by kernel_rfl) (by kernel_rfl) (by kernel_rfl) (fun _ _ _ h => h) HS (Or.inl ⟨by rfl, ?_⟩) ?_
      rotate_left
      · (intro w hSw; obtain ⟨y1, y2, y3, y4, y5⟩ := hSw; go_simp; try with_reducible rfl)
      try simp only [Act.put, List.getElem_toArray, List.getElem_cons_succ, List.getElem_cons_zero, List.setIfInBounds_toArray, List.set_cons_zero, List.set_cons_succ]
      refine wpAnyJ_take (i := 3) (v := ?_) (by kernel_rfl) rfl (by kernel_rfl) (by kernel_rfl) (by kernel_rfl) (fun _ _ _ h => h) HS (Or.inl ⟨by rfl, ?_⟩) ?_
      rotate_left
      · (intro w hSw; obtain ⟨y1, y2, y3, y4, y5⟩ := hSw; go_simp; try with_reducible rfl)
      try simp only [Act.put, List.getElem_toArray, List.getElem_cons_succ, List.getElem_cons_zero, List.setIfInBounds_toArray, List.set_cons_zero, List.set_cons_succ]
      refine wpAnyJ_take (i := 4) (v := ?_) (by kernel_rfl) rfl (by kernel_rfl) (by kernel_rfl) (by kernel_rfl) (fun _ _ _ h => h) HS (Or.inl ⟨by rfl, ?_⟩) ?_
      rotate_left
      · (intro w hSw; obtain ⟨y1, y2, y3, y4, y5⟩ := hSw; go_simp; try with_reducible rfl)
      try simp only [Act.put, List.getElem_toArray, List.getElem_cons_succ, List.getElem_cons_zero, List.setIfInBounds_toArray, List.set_cons_zero, List.set_cons_succ]
      refine wpAnyJ_take (i := 5) (v := ?_) (by kernel_rfl) rfl (by kernel_rfl) (by kernel_rfl) (by kernel_rfl) (fun _ _ _ h => h) HS (Or.inl ⟨by rfl, ?_⟩) ?_
      rotate_left
      · (intro w hSw; obtain ⟨y1, y2, y3, y4, y5⟩ := hSw; go_simp; try with_reducible rfl)
      try simp only [Act.put, List.getElem_toArray, List.getElem_cons_succ, List.getElem_cons_zero, List.setIfInBounds_toArray, List.set_cons_zero, List.set_cons_succ]
      refine wpAnyJ_one (i := 6) rfl (by kernel_rfl) (fun K hK => ?_)
      dsimp only [List.getElem_toArray, List.getElem_cons_succ, List.getElem_cons_zero]
      go_simp
      refine (HC.out _ Kx.out).mono ?_
      rintro e w6 ⟨⟨t6, i6, Ao6, no6, co6, An6, nn6, cn6⟩, rfl, ri6, fr6, k6⟩
      dsimp only [Raw.cells]
      have h6s : Hid (wd.heap.size ≤ w6.heap.size) := Lib.hid (Kx.out.trans k6.out).size
      have h6f : Hid (Fresh wd.heap.size Ao6 ∧ Fresh wd.heap.size An6) := Lib.hid ⟨fr6.out.1.mono Kx.out.size, fr6.out.2.mono Kx.out.size⟩
      replace Kx := Lib.hid (Kx.out.trans k6.out)
      have HS := HSf.out _ Kx.out
      clear k6 fr6
      refine hK _ _ (Or.inr HS) ?_
      clear hK K
      try simp only [Act.put, List.getElem_toArray, List.getElem_cons_succ, List.getElem_cons_zero, List.setIfInBounds_toArray, List.set_cons_zero, List.set_cons_succ]
      refine wpAnyJ_one (i := 7) rfl (by kernel_rfl) (fun K hK => ?_)
      dsimp only [List.getElem_toArray, List.getElem_cons_succ, List.getElem_cons_zero]
      go_simp
      have ka7 : Keeps [] w6 (w6.alloc (.cells #[.int .i64 t6, .int .i64 i6, .slice Ao6 no6 co6, .slice An6 nn6 cn6] 35)) := (Keeps.refl [] w6).alloc _
      have Bn := Lib.hid (Blk.new w6 35 #[.int .i64 t6, .int .i64 i6, .slice Ao6 no6 co6, .slice An6 nn6 cn6])
      replace ri6 := Lib.hid (ri6.out.keep ka7 (by simp))
      have HS := HSf.out _ (Kx.out.trans ka7)
      replace Kx := Lib.hid (Kx.out.trans ka7)
      refine hK _ _ (Or.inr HS) ?_
      clear hK K ka7
      obtain ⟨g7, hg7⟩ : ∃ g, g = w6.heap.size := ⟨_, rfl⟩
      rw [← hg7] at Bn ⊢
      clear hg7 h6s
      generalize w6.alloc (.cells #[.int .i64 t6, .int .i64 i6, .slice Ao6 no6 co6, .slice An6 nn6 cn6] 35) = w7 at *
      try simp only [Act.put, List.getElem_toArray, List.getElem_cons_succ, List.getElem_cons_zero, List.setIfInBounds_toArray, List.set_cons_zero, List.set_cons_succ]
      refine wpAnyJ_one (i := 8) rfl (by kernel_rfl) (fun K hK => ?_)
      dsimp only [List.getElem_toArray, List.getElem_cons_succ, List.getElem_cons_zero]
      rw [if_pos (by rfl)]
      have ow7 := Lib.hid (own_keep0 OWd.out Kx.out)
      have hb7 : base ≤ w7.heap.size := Nat.le_trans hbase.out (Nat.le_trans hwW.out Kx.out.size)
      refine wp_append_row (.tmp 56) (.tmp 59) 28 (by rfl) base 35 i5 (.agg #[.int .i64 0, .int .i64 0, .slice none 0 0, .slice none 0 0]) 4 64 Try.underlying28 hi5.out hy0.out hy1.out hy2.out rfl (by decide) (.slice A nc cc) nc (flatC R) (by rfl) ow7.out (some ⟨g7, 0, none⟩) 1 1 [.int .i64 t6, .int .i64 i6, .slice Ao6 no6 co6, .slice An6 nn6 cn6] (by rfl) rfl (src_raw (r := ⟨t6, i6, Ao6, no6, co6, An6, nn6, cn6⟩) Bn.out) (by simp [Value.oneCell']) (by unfold maxLen; omega) (by omega) hb7 ?_
      intro v8 w8 q1 q2 q3 q4
      obtain ⟨A8, c8, rfl, _⟩ := own_slice q1.out
      have k8 : Hid (Keeps (Value.slice A nc cc).ownBlock.toList w7 w8) := Lib.hid (Keeps.grown q2.out (fun g hg => Option.mem_toList.2 hg))
      have hn64 : Hid (∀ g, (Value.slice A nc cc).ownBlock = some g → g ≠ gl ∧ g < w.heap.size) := Lib.hid (fun g hg => by
        obtain ⟨_, cur, h1⟩ := own_blk hO.out hg
        exact ⟨Blk.ne_ h1 hB.out (by decide), h1.lt⟩)
      have hnl : Hid (gl ∉ (Value.slice A nc cc).ownBlock.toList ∧ g3 ∉ (Value.slice A nc cc).ownBlock.toList) := Lib.hid ⟨fun hx => (hn64.out gl (Option.mem_toList.1 hx)).1 rfl, fun hx => by have := (hn64.out g3 (Option.mem_toList.1 hx)).2; have := hgg.out.1; omega⟩
      have B8 := Lib.hid ((B64d.out.keep Kx.out (by simp)).keep k8.out hnl.out.1)
      have fz := B8.out.frozen 0
      have HS : _ ∧ _ ∧ _ ∧ _ ∧ _ := ⟨k8.out.cellEq HS.1 hnl.out.1, k8.out.cellEq HS.2.1 hnl.out.2, k8.out.cellEq HS.2.2.1 hnl.out.2, k8.out.cellEq HS.2.2.2.1 hnl.out.2, k8.out.cellEq HS.2.2.2.2 hnl.out.2⟩
      refine hK _ _ (Or.inr HS) ?_
      clear hK K
      try simp only [Act.put, List.getElem_toArray, List.getElem_cons_succ, List.getElem_cons_zero, List.setIfInBounds_toArray, List.set_cons_zero, List.set_cons_succ]
      refine wpAnyJ_one (i := 9) rfl (by kernel_rfl) (fun K hK => ?_)
      dsimp only [List.getElem_toArray, List.getElem_cons_succ, List.getElem_cons_zero]
      go_simp
      refine hK _ _ (Or.inr HS) ?_
      clear hK K
      try simp only [Act.put, List.getElem_toArray, List.getElem_cons_succ, List.getElem_cons_zero, List.setIfInBounds_toArray, List.set_cons_zero, List.set_cons_succ]
      refine wpAnyJ_one (i := 10) rfl (by kernel_rfl) (fun K hK => ?_)
      dsimp only [List.getElem_toArray, List.getElem_cons_succ, List.getElem_cons_zero]
      go_simp
      refine hK _ _ (Or.inr HS) ?_
      clear hK K
      try simp only [Act.put, List.getElem_toArray, List.getElem_cons_succ, List.getElem_cons_zero, List.setIfInBounds_toArray, List.set_cons_zero, List.set_cons_succ]
      refine wpAnyJ_one (i := 11) rfl (by kernel_rfl) (fun K hK => ?_)
      dsimp only [List.getElem_toArray, List.getElem_cons_succ, List.getElem_cons_zero]
      go_simp
      refine hK _ _ (Or.inl (by omega)) ?_
      clear hK K
      try simp only [Act.put, List.getElem_toArray, List.getElem_cons_succ, List.getElem_cons_zero, List.setIfInBounds_toArray, List.set_cons_zero, List.set_cons_succ]
      refine wpAnyJ_done (by kernel_rfl) ?_ _

      dsimp only [OnlyN]
      have B8f := Lib.hid (B8.out.set_ 0 (.slice A8 (nc + 1) c8))
      have Ka : Hid (Keeps (Value.slice A nc cc).ownBlock.toList w w8) := Lib.hid ((Kwd.out.trans Kx.out).nil.trans (k8.out.mono (fun x hx => .inl hx)))
      have Kf : Hid (Keeps (gl :: (Value.slice A nc cc).ownBlock.toList) w (w8.setCell ⟨gl, 0, none⟩ (.slice A8 (nc + 1) c8))) := Lib.hid ((Ka.out.mono (fun x hx => .inl (List.mem_cons_of_mem _ hx))).setCell (p := ⟨gl, 0, none⟩) (.inl List.mem_cons_self) _)
      have Kd : Hid (Keeps (gl :: (Value.slice A nc cc).ownBlock.toList) wd (w8.setCell ⟨gl, 0, none⟩ (.slice A8 (nc + 1) c8))) := Lib.hid ((((Kx.out.nil (X := (Value.slice A nc cc).ownBlock.toList)).trans k8.out).mono (fun x hx => .inl (List.mem_cons_of_mem _ hx))).setCell (p := ⟨gl, 0, none⟩) (.inl List.mem_cons_self) _)
      have hno8 : Hid (∀ g, (Value.slice A8 (nc + 1) c8).ownBlock = some g → ((Value.slice A nc cc).ownBlock = some g ∨ wd.heap.size ≤ g)) := Lib.hid (fun g hg => by
        rcases q4.out with h | h
        · exact .inl (h.symm.trans hg)
        · right
          rw [h] at hg
          cases hg
          exact Kx.out.size)
      have ow8 : Hid ((w8.setCell ⟨gl, 0, none⟩ (.slice A8 (nc + 1) c8)).ownsRow base 35 4 (.slice A8 (nc + 1) c8) (nc + 1) (flatC (R ++ [⟨t6, i6, Ao6, no6, co6, An6, nn6, cn6⟩]))) := Lib.hid (by
        rw [flatC_append]
        exact own_keep q1.out ((Keeps.refl [gl] w8).setCell (p := ⟨gl, 0, none⟩) (.inl (List.mem_singleton.2 rfl)) _) (fun g hg hx => by
          rw [List.mem_singleton.1 hx] at hg
          rcases hno8.out gl hg with h | h
          · exact (hn64.out gl h).1 rfl
          · have := hg40.out.2; have := hwW.out; omega))
      have hX8 : Hid (∀ y ∈ gl :: (Value.slice A nc cc).ownBlock.toList, y < w.heap.size) := Lib.hid (fun y hy => by
        rcases List.mem_cons.1 hy with rfl | hy
        · exact hg40.out.2
        · exact (hn64.out y (Option.mem_toList.1 hy)).2)
      have k78 : Hid (Keeps (gl :: (Value.slice A nc cc).ownBlock.toList) w7 (w8.setCell ⟨gl, 0, none⟩ (.slice A8 (nc + 1) c8))) := Lib.hid ((k8.out.mono (fun x hx => .inl (List.mem_cons_of_mem _ hx))).setCell (p := ⟨gl, 0, none⟩) (.inl List.mem_cons_self) _)
      have hri : Hid (RawIs (w8.setCell ⟨gl, 0, none⟩ (.slice A8 (nc + 1) c8)) ((gl :: (Value.slice A nc cc).ownBlock.toList) ++ (Value.slice A8 (nc + 1) c8).ownBlock.toList) ⟨t6, i6, Ao6, no6, co6, An6, nn6, cn6⟩ c) := Lib.hid (by
        obtain ⟨a1, a2, a3, a4, a5, a6⟩ := ri6.out
        have hw := hwW.out
        have hy : ∀ y ∈ (gl :: (Value.slice A nc cc).ownBlock.toList) ++ (Value.slice A8 (nc + 1) c8).ownBlock.toList, y ∈ gl :: (Value.slice A nc cc).ownBlock.toList ∨ w7.heap.size ≤ y := fun y hy => by
          rcases List.mem_append.1 hy with hy | hy
          · exact .inl hy
          · rcases q4.out with h | h
            · rw [h] at hy; exact .inl (List.mem_cons_of_mem _ hy)
            · rw [h] at hy; right; simp at hy; omega
        exact RawIs.keep ⟨a1, a2, a3, a4, (a5.fresh h6f.out.1 (fun y hy => by have := hX8.out y hy; omega)).other hy, (a6.fresh h6f.out.2 (fun y hy => by have := hX8.out y hy; omega)).other hy⟩ k78.out (fun y hy => .inl (List.mem_append_left _ hy)))
      have hdf : Hid ((w8.setCell ⟨gl, 0, none⟩ (.slice A8 (nc + 1) c8)).heap[D]? = some (.deferred (some []))) := Lib.hid ((Kd.out.block D hDd.out.1 (fun hx => by have := hX8.out D hx; have := hDd.out.2.1; omega)).trans hdd.out)
      have B4f := Lib.hid (B4d.out.keep Kd.out (fun hx => by have := hX8.out g4 hx; have := hgg.out.2.1; omega))
      have hfin8 : Hid (wd.heap.size ≤ (w8.setCell ⟨gl, 0, none⟩ (.slice A8 (nc + 1) c8)).heap.size) := Lib.hid Kd.out.size
      clear q1 q2 q3 q4 k8 HS fz B8 Kx Bn ow7 hb7 HC HSf h0 B64d B4d OWd Kwd Ka Kd k78 ri6 hdd
      generalize w8.setCell ⟨gl, 0, none⟩ (.slice A8 (nc + 1) c8) = wf at *
      have c4 := B4f.out.cell
      have f4 := B4f.out.frozen
      go_wp2_with fail
      have Kz : Keeps [g4, D] wf ((wf.setCell ⟨g4, 0, none⟩ (.int .i64 0)).putObj D (.deferred none)) := ((Keeps.refl [g4, D] wf).setCell (p := ⟨g4, 0, none⟩) (.inl (by simp)) _).trans (Keeps.grown (grownBy_putObj' _ D _) (fun k e => by cases e; simp))
      have hK' : (wf.setCell ⟨g4, 0, none⟩ (.int .i64 0)).heap[D]? = some (.deferred (some [])) := by
        have hDn : D ≠ g4 := by have := hDd.out.2.2; have := hg40.out.1; omega
        exact (Below.heap_setCell wf ⟨g4, 0, none⟩ (.int .i64 0) D hDn).trans hdf.out
      have hc5 : ((wf.setCell ⟨g4, 0, none⟩ (.int .i64 0)).putObj D (.deferred none)).cell? ⟨g4, 0, none⟩ = some (.int .i64 0) := cell_kept ((B4f.out.set_ 0 (.int .i64 0)).cell 0) (grownBy_putObj' _ D (.deferred none)) (fun r e => by cases e; exact ⟨_, hK', rfl⟩)
      have hgw : w.heap.size ≤ g4 ∧ w.heap.size ≤ D := ⟨hgg.out.2.1, hDd.out.2.1⟩
      have hgf : g4 < wd.heap.size ∧ D < wd.heap.size := ⟨by have := hg40.out.1; have := hDd.out; omega, hDd.out.1⟩
      refine ⟨by simp, .inl ⟨_, _, rfl, run_takeDeferred hK', ?_⟩⟩
      refine ⟨.int .i64 0, by simp [results, Try.f13, go_sem, hc5], .inr ⟨hok.out, rfl, A8, c8, ⟨t6, i6, Ao6, no6, co6, An6, nn6, cn6⟩, B8f.out.keep Kz (by have := hg40.out.2; simp; omega), own_keep ow8.out Kz (fun g hg hx => ?_), ?_, ⟨h6f.out.1.mono hwW.out, h6f.out.2.mono hwW.out⟩, ?_, ?_⟩⟩
      · have h35 : ∃ cur, Blk wf g 35 cur := (own_blk ow8.out hg).2
        obtain ⟨cur, h35⟩ := h35
        simp at hx
        rcases hx with rfl | rfl
        · exact Blk.ne_ h35 B4f.out (by decide) rfl
        · have h1 : wf.heap[g]? = some (.cells cur 35 (0, 0)) := h35
          rw [hdf.out] at h1
          cases h1
      · obtain ⟨a1, a2, a3, a4, a5, a6⟩ := hri.out
        exact RawIs.other (RawIs.keep ⟨a1, a2, a3, a4, a5.both (a5.fresh (Y := [g4, D]) h6f.out.1 (fun y hy => by simp at hy; omega)), a6.both (a6.fresh (Y := [g4, D]) h6f.out.2 (fun y hy => by simp at hy; omega))⟩ Kz (fun y hy => .inl (List.mem_append_right _ hy))) (fun y hy => .inl (List.mem_append_left _ (List.mem_append_right _ hy)))
      · intro g hg
        rcases hno8.out g hg with h | h
        · exact .inl h
        · exact .inr (Nat.le_trans hwW.out h)
      · refine ((Kf.out.mono (Y := gl :: (Value.slice A nc cc).ownBlock.toList ++ [g4, D]) (fun x hx => .inl (List.mem_append_left _ hx))).trans (Kz.mono (fun x hx => .inl (List.mem_append_right _ hx)))).mono (fun x hx => ?_)
        rcases List.mem_append.1 hx with h | h
        · exact .inl h
        · right
          simp at h
          omega
    · intro D cd pre W hD hpre hX hd
      obtain ⟨kp, hkp, hpre⟩ := hpre
      have hlen : R.length = L.length := hR0.out.1
      rcases hX with ⟨rfl, hit, hcell, hk⟩ | ⟨rfl, hit, hk⟩
      · have hok : Hid (addOk L c = false) := Lib.hid (by unfold addOk; rw [hit_fits hit (k := kp) (by omega) (by rw [← hlen]; exact hpre)]; simp)
        have hK' := hd
        have hc5 : (W.putObj D (.deferred none)).cell? ⟨g4, 0, none⟩ = some (.int .i64 1) := cell_kept hcell (grownBy_putObj' _ D (.deferred none)) (fun r e => by cases e; exact ⟨_, hK', rfl⟩)
        have hKf : Keeps [] w (W.putObj D (.deferred none)) := by
          refine (((k0.out.nil.trans hk).mono (Y := [g4, D]) (fun x hx => .inl (by simp at hx; simp [hx]))).trans (Keeps.grown (grownBy_putObj' _ D _) (fun k e => by cases e; simp))).mono (fun x hx => .inr ?_)
          have h1 := hgg.out.2.1
          have h2 := k0.out.size
          simp at hx
          omega
        refine wpIn_wide.2 ?_
        clear hpre hit hk hcell hga hd
        replace hKf := Lib.hid hKf
        go_wp2_with fail
        refine ⟨by simp, .inl ⟨_, _, rfl, run_takeDeferred hK', ?_⟩⟩
        exact ⟨.int .i64 1, by simp [results, Try.f13, go_sem, hc5], .inl ⟨hok.out, rfl, hKf.out⟩⟩
      · have hok : Hid (addOk L c = true) := Lib.hid (by unfold addOk; rw [hv.out, hit_fits hit (k := kp) (by omega) (by rw [← hlen]; exact hpre)]; rfl)
        replace hk := Lib.hid hk
        refine wpIn_wide.2 ?_
        clear hpre hit hlen hkp
        have B64 := Lib.hid (hB0.out.keep hk.out (by simp))
        have B3W := Lib.hid (B3.out.keep hk.out (by simp))
        have B4W := Lib.hid (B4.out.keep hk.out (by simp))
        have OW := Lib.hid (own_keep0 hO0.out hk.out)
        have Kw := Lib.hid (k0.out.trans hk.out)
        have HC : Hid (∀ w', Keeps [] W.drew w' → Calls Try.prog 31 #[.agg #[.int .i64 t, .int .i64 id, .slice Ao no co, .slice An nn cn]] w' (ChgCopy w' c)) := Lib.hid (fun w' hk' => clonec_any w' X ⟨t, id, Ao, no, co, An, nn, cn⟩ c (hc0.out.keep (hk.out.drew.trans hk') (by simp)) hs.out)
        have HSf : Hid (∀ w', Keeps [] W.drew w' → w'.cell? ⟨gl, 0, none⟩ = some (.slice A nc cc) ∧ w'.cell? ⟨g3, 0, none⟩ = some (.int .i64 t) ∧ w'.cell? ⟨g3, 1, none⟩ = some (.int .i64 id) ∧ w'.cell? ⟨g3, 2, none⟩ = some (.slice Ao no co) ∧ w'.cell? ⟨g3, 3, none⟩ = some (.slice An nn cn)) := Lib.hid (fun w' hk' => ⟨hk'.cellEq (B64.out.drew.cell 0) (by simp), hk'.cellEq (B3W.out.drew.cell 0) (by simp), hk'.cellEq (B3W.out.drew.cell 1) (by simp), hk'.cellEq (B3W.out.drew.cell 2) (by simp), hk'.cellEq (B3W.out.drew.cell 3) (by simp)⟩)
        have h0 := HSf.out _ (Keeps.refl [] W.drew)
        have B64d := Lib.hid B64.out.drew
        have B4d := Lib.hid B4W.out.drew
        have OWd : Hid (W.drew.ownsRow base 35 4 (.slice A nc cc) nc (flatC R)) := Lib.hid OW.out
        have Kwd := Lib.hid Kw.out.drew
        have hwW : Hid (w.heap.size ≤ W.drew.heap.size) := Lib.hid Kw.out.size
        have hdd : Hid (W.drew.heap[D]? = some (.deferred (some []))) := Lib.hid hd
        have hDd : Hid (D < W.drew.heap.size ∧ w.heap.size ≤ D ∧ W0.heap.size ≤ D) := Lib.hid ⟨(Array.getElem?_eq_some_iff.1 hd).1, Nat.le_trans k0.out.size hD, hD⟩
        have hg40 : Hid (g4 < W0.heap.size ∧ gl < w.heap.size) := Lib.hid ⟨B4.out.lt, hB.out.lt⟩
        obtain ⟨i5, hi5, hy0, hy1, hy2⟩ := info_parts info35
        replace hi5 := Lib.hid hi5
        replace hy0 := Lib.hid hy0
        replace hy1 := Lib.hid hy1
        replace hy2 := Lib.hid hy2
        clear hD hd B64 B3W B4W OW Kw hga hB0 hO0
        go_wp2_with fail
        refine wp_onlyN ?_
        refine wp_region_J (S := (fun w' : World => w'.cell? ⟨gl, 0, none⟩ = some (.slice A nc cc) ∧ w'.cell? ⟨g3, 0, none⟩ = some (.int .i64 t) ∧ w'.cell? ⟨g3, 1, none⟩ = some (.int .i64 id) ∧ w'.cell? ⟨g3, 2, none⟩ = some (.slice Ao no co) ∧ w'.cell? ⟨g3, 3, none⟩ = some (.slice An nn cn))) (n := 11) (by kernel_rfl) ?_
        generalize W.drew = wd at *
        have HS := h0
        have Kx := Lib.hid (Keeps.refl [] wd)
        refine wpAnyJ_take (i := 0) (v := ?_) (by kernel_rfl) rfl (by kernel_rfl) (by kernel_rfl) (by kernel_rfl) (fun _ _ _ h => h) HS (Or.inl ⟨by rfl, ?_⟩) ?_
        rotate_left
        · (intro w hSw; obtain ⟨y1, y2, y3, y4, y5⟩ := hSw; go_simp; try with_reducible rfl)
        try simp only [Act.put, List.getElem_toArray, List.getElem_cons_succ, List.getElem_cons_zero, List.setIfInBounds_toArray, List.set_cons_zero, List.set_cons_succ]
        refine wpAnyJ_take (i := 1) (v := ?_) (by kernel_rfl) rfl (by kernel_rfl) (by kernel_rfl) (by kernel_rfl) (fun _ _ _ h => h) HS (Or.inl ⟨by rfl, ?_⟩) ?_
        rotate_left
        · (intro w hSw; obtain ⟨y1, y2, y3, y4, y5⟩ := hSw; go_simp; try with_reducible rfl)
        try simp only [Act.put, List.getElem_toArray, List.getElem_cons_succ, List.getElem_cons_zero, List.setIfInBounds_toArray, List.set_cons_zero, List.set_cons_succ]
        refine wpAnyJ_take (i := 2) (v := ?_) (by kernel_rfl) rfl (by kernel_rfl) (by kernel_rfl) (by kernel_rfl) (fun _ _ _ h => h) HS (Or.inl ⟨by rfl, ?_⟩) ?_
        rotate_left
        · (intro w hSw; obtain ⟨y1, y2, y3, y4, y5⟩ := hSw; go_simp; try with_reducible rfl)
        try simp only [Act.put, List.getElem_toArray, List.getElem_cons_succ, List.getElem_cons_zero, List.setIfInBounds_toArray, List.set_cons_zero, List.set_cons_succ]
        refine wpAnyJ_take (i := 3) (v := ?_) (by kernel_rfl) rfl (by kernel_rfl) (by kernel_rfl) (by kernel_rfl) (fun _ _ _ h => h) HS (Or.inl ⟨by rfl, ?_⟩) ?_
        rotate_left
        · (intro w hSw; obtain ⟨y1, y2, y3, y4, y5⟩ := hSw; go_simp; try with_reducible rfl)
        try simp only [Act.put, List.getElem_toArray, List.getElem_cons_succ, List.getElem_cons_zero, List.setIfInBounds_toArray, List.set_cons_zero, List.set_cons_succ]
        refine wpAnyJ_take (i := 4) (v := ?_) (by kernel_rfl) rfl (by kernel_rfl) (by kernel_rfl) (by kernel_rfl) (fun _ _ _ h => h) HS (Or.inl ⟨by rfl, ?_⟩) ?_
        rotate_left
        · (intro w hSw; obtain ⟨y1, y2, y3, y4, y5⟩ := hSw; go_simp; try with_reducible rfl)
        try simp only [Act.put, List.getElem_toArray, List.getElem_cons_succ, List.getElem_cons_zero, List.setIfInBounds_toArray, List.set_cons_zero, List.set_cons_succ]
        refine wpAnyJ_take (i := 5) (v := ?_) (by kernel_rfl) rfl (by kernel_rfl) (by kernel_rfl) (by kernel_rfl) (fun _ _ _ h => h) HS (Or.inl ⟨by rfl, ?_⟩) ?_
        rotate_left
        · (intro w hSw; obtain ⟨y1, y2, y3, y4, y5⟩ := hSw; go_simp; try with_reducible rfl)
        try simp only [Act.put, List.getElem_toArray, List.getElem_cons_succ, List.getElem_cons_zero, List.setIfInBounds_toArray, List.set_cons_zero, List.set_cons_succ]
        refine wpAnyJ_one (i := 6) rfl (by kernel_rfl) (fun K hK => ?_)
        dsimp only [List.getElem_toArray, List.getElem_cons_succ, List.getElem_cons_zero]
        go_simp
        refine (HC.out _ Kx.out).mono ?_
        rintro e w6 ⟨⟨t6, i6, Ao6, no6, co6, An6, nn6, cn6⟩, rfl, ri6, fr6, k6⟩
        dsimp only [Raw.cells]
        have h6s : Hid (wd.heap.size ≤ w6.heap.size) := Lib.hid (Kx.out.trans k6.out).size
        have h6f : Hid (Fresh wd.heap.size Ao6 ∧ Fresh wd.heap.size An6) := Lib.hid ⟨fr6.out.1.mono Kx.out.size, fr6.out.2.mono Kx.out.size⟩
        replace Kx := Lib.hid (Kx.out.trans k6.out)
        have HS := HSf.out _ Kx.out
        clear k6 fr6
        refine hK _ _ (Or.inr HS) ?_
        clear hK K
        try simp only [Act.put, List.getElem_toArray, List.getElem_cons_succ, List.getElem_cons_zero, List.setIfInBounds_toArray, List.set_cons_zero, List.set_cons_succ]
        refine wpAnyJ_one (i := 7) rfl (by kernel_rfl) (fun K hK => ?_)
        dsimp only [List.getElem_toArray, List.getElem_cons_succ, List.getElem_cons_zero]
        go_simp
        have ka7 : Keeps [] w6 (w6.alloc (.cells #[.int .i64 t6, .int .i64 i6, .slice Ao6 no6 co6, .slice An6 nn6 cn6] 35)) := (Keeps.refl [] w6).alloc _
        have Bn := Lib.hid (Blk.new w6 35 #[.int .i64 t6, .int .i64 i6, .slice Ao6 no6 co6, .slice An6 nn6 cn6])
        replace ri6 := Lib.hid (ri6.out.keep ka7 (by simp))
        have HS := HSf.out _ (Kx.out.trans ka7)
        replace Kx := Lib.hid (Kx.out.trans ka7)
        refine hK _ _ (Or.inr HS) ?_
        clear hK K ka7
        obtain ⟨g7, hg7⟩ : ∃ g, g = w6.heap.size := ⟨_, rfl⟩
        rw [← hg7] at Bn ⊢
        clear hg7 h6s
        generalize w6.alloc (.cells #[.int .i64 t6, .int .i64 i6, .slice Ao6 no6 co6, .slice An6 nn6 cn6] 35) = w7 at *
        try simp only [Act.put, List.getElem_toArray, List.getElem_cons_succ, List.getElem_cons_zero, List.setIfInBounds_toArray, List.set_cons_zero, List.set_cons_succ]
        refine wpAnyJ_one (i := 8) rfl (by kernel_rfl) (fun K hK => ?_)
        dsimp only [List.getElem_toArray, List.getElem_cons_succ, List.getElem_cons_zero]
        rw [if_pos (by rfl)]
        have ow7 := Lib.hid (own_keep0 OWd.out Kx.out)
        have hb7 : base ≤ w7.heap.size := Nat.le_trans hbase.out (Nat.le_trans hwW.out Kx.out.size)
        refine wp_append_row (.tmp 56) (.tmp 59) 28 (by rfl) base 35 i5 (.agg #[.int .i64 0, .int .i64 0, .slice none 0 0, .slice none 0 0]) 4 64 Try.underlying28 hi5.out hy0.out hy1.out hy2.out rfl (by decide) (.slice A nc cc) nc (flatC R) (by rfl) ow7.out (some ⟨g7, 0, none⟩) 1 1 [.int .i64 t6, .int .i64 i6, .slice Ao6 no6 co6, .slice An6 nn6 cn6] (by rfl) rfl (src_raw (r := ⟨t6, i6, Ao6, no6, co6, An6, nn6, cn6⟩) Bn.out) (by simp [Value.oneCell']) (by unfold maxLen; omega) (by omega) hb7 ?_
        intro v8 w8 q1 q2 q3 q4
        obtain ⟨A8, c8, rfl, _⟩ := own_slice q1.out
        have k8 : Hid (Keeps (Value.slice A nc cc).ownBlock.toList w7 w8) := Lib.hid (Keeps.grown q2.out (fun g hg => Option.mem_toList.2 hg))
        have hn64 : Hid (∀ g, (Value.slice A nc cc).ownBlock = some g → g ≠ gl ∧ g < w.heap.size) := Lib.hid (fun g hg => by
          obtain ⟨_, cur, h1⟩ := own_blk hO.out hg
          exact ⟨Blk.ne_ h1 hB.out (by decide), h1.lt⟩)
        have hnl : Hid (gl ∉ (Value.slice A nc cc).ownBlock.toList ∧ g3 ∉ (Value.slice A nc cc).ownBlock.toList) := Lib.hid ⟨fun hx => (hn64.out gl (Option.mem_toList.1 hx)).1 rfl, fun hx => by have := (hn64.out g3 (Option.mem_toList.1 hx)).2; have := hgg.out.1; omega⟩
        have B8 := Lib.hid ((B64d.out.keep Kx.out (by simp)).keep k8.out hnl.out.1)
        have fz := B8.out.frozen 0
        have HS : _ ∧ _ ∧ _ ∧ _ ∧ _ := ⟨k8.out.cellEq HS.1 hnl.out.1, k8.out.cellEq HS.2.1 hnl.out.2, k8.out.cellEq HS.2.2.1 hnl.out.2, k8.out.cellEq HS.2.2.2.1 hnl.out.2, k8.out.cellEq HS.2.2.2.2 hnl.out.2⟩
        refine hK _ _ (Or.inr HS) ?_
        clear hK K
        try simp only [Act.put, List.getElem_toArray, List.getElem_cons_succ, List.getElem_cons_zero, List.setIfInBounds_toArray, List.set_cons_zero, List.set_cons_succ]
        refine wpAnyJ_one (i := 9) rfl (by kernel_rfl) (fun K hK => ?_)
        dsimp only [List.getElem_toArray, List.getElem_cons_succ, List.getElem_cons_zero]
        go_simp
        refine hK _ _ (Or.inr HS) ?_
        clear hK K
        try simp only [Act.put, List.getElem_toArray, List.getElem_cons_succ, List.getElem_cons_zero, List.setIfInBounds_toArray, List.set_cons_zero, List.set_cons_succ]
        refine wpAnyJ_one (i := 10) rfl (by kernel_rfl) (fun K hK => ?_)
        dsimp only [List.getElem_toArray, List.getElem_cons_succ, List.getElem_cons_zero]
        go_simp
        refine hK _ _ (Or.inr HS) ?_
        clear hK K
        try simp only [Act.put, List.getElem_toArray, List.getElem_cons_succ, List.getElem_cons_zero, List.setIfInBounds_toArray, List.set_cons_zero, List.set_cons_succ]
        refine wpAnyJ_one (i := 11) rfl (by kernel_rfl) (fun K hK => ?_)
        dsimp only [List.getElem_toArray, List.getElem_cons_succ, List.getElem_cons_zero]
        go_simp
        refine hK _ _ (Or.inl (by omega)) ?_
        clear hK K
        try simp only [Act.put, List.getElem_toArray, List.getElem_cons_succ, List.getElem_cons_zero, List.setIfInBounds_toArray, List.set_cons_zero, List.set_cons_succ]
        refine wpAnyJ_done (by kernel_rfl) ?_ _

        dsimp only [OnlyN]
        have B8f := Lib.hid (B8.out.set_ 0 (.slice A8 (nc + 1) c8))
        have Ka : Hid (Keeps (Value.slice A nc cc).ownBlock.toList w w8) := Lib.hid ((Kwd.out.trans Kx.out).nil.trans (k8.out.mono (fun x hx => .inl hx)))
        have Kf : Hid (Keeps (gl :: (Value.slice A nc cc).ownBlock.toList) w (w8.setCell ⟨gl, 0, none⟩ (.slice A8 (nc + 1) c8))) := Lib.hid ((Ka.out.mono (fun x hx => .inl (List.mem_cons_of_mem _ hx))).setCell (p := ⟨gl, 0, none⟩) (.inl List.mem_cons_self) _)
        have Kd : Hid (Keeps (gl :: (Value.slice A nc cc).ownBlock.toList) wd (w8.setCell ⟨gl, 0, none⟩ (.slice A8 (nc + 1) c8))) := Lib.hid ((((Kx.out.nil (X := (Value.slice A nc cc).ownBlock.toList)).trans k8.out).mono (fun x hx => .inl (List.mem_cons_of_mem _ hx))).setCell (p := ⟨gl, 0, none⟩) (.inl List.mem_cons_self) _)
        have hno8 : Hid (∀ g, (Value.slice A8 (nc + 1) c8).ownBlock = some g → ((Value.slice A nc cc).ownBlock = some g ∨ wd.heap.size ≤ g)) := Lib.hid (fun g hg => by
          rcases q4.out with h | h
          · exact .inl (h.symm.trans hg)
          · right
            rw [h] at hg
            cases hg
            exact Kx.out.size)
        have ow8 : Hid ((w8.setCell ⟨gl, 0, none⟩ (.slice A8 (nc + 1) c8)).ownsRow base 35 4 (.slice A8 (nc + 1) c8) (nc + 1) (flatC (R ++ [⟨t6, i6, Ao6, no6, co6, An6, nn6, cn6⟩]))) := Lib.hid (by
          rw [flatC_append]
          exact own_keep q1.out ((Keeps.refl [gl] w8).setCell (p := ⟨gl, 0, none⟩) (.inl (List.mem_singleton.2 rfl)) _) (fun g hg hx => by
            rw [List.mem_singleton.1 hx] at hg
            rcases hno8.out gl hg with h | h
            · exact (hn64.out gl h).1 rfl
            · have := hg40.out.2; have := hwW.out; omega))
        have hX8 : Hid (∀ y ∈ gl :: (Value.slice A nc cc).ownBlock.toList, y < w.heap.size) := Lib.hid (fun y hy => by
          rcases List.mem_cons.1 hy with rfl | hy
          · exact hg40.out.2
          · exact (hn64.out y (Option.mem_toList.1 hy)).2)
        have k78 : Hid (Keeps (gl :: (Value.slice A nc cc).ownBlock.toList) w7 (w8.setCell ⟨gl, 0, none⟩ (.slice A8 (nc + 1) c8))) := Lib.hid ((k8.out.mono (fun x hx => .inl (List.mem_cons_of_mem _ hx))).setCell (p := ⟨gl, 0, none⟩) (.inl List.mem_cons_self) _)
        have hri : Hid (RawIs (w8.setCell ⟨gl, 0, none⟩ (.slice A8 (nc + 1) c8)) ((gl :: (Value.slice A nc cc).ownBlock.toList) ++ (Value.slice A8 (nc + 1) c8).ownBlock.toList) ⟨t6, i6, Ao6, no6, co6, An6, nn6, cn6⟩ c) := Lib.hid (by
          obtain ⟨a1, a2, a3, a4, a5, a6⟩ := ri6.out
          have hw := hwW.out
          have hy : ∀ y ∈ (gl :: (Value.slice A nc cc).ownBlock.toList) ++ (Value.slice A8 (nc + 1) c8).ownBlock.toList, y ∈ gl :: (Value.slice A nc cc).ownBlock.toList ∨ w7.heap.size ≤ y := fun y hy => by
            rcases List.mem_append.1 hy with hy | hy
            · exact .inl hy
            · rcases q4.out with h | h
              · rw [h] at hy; exact .inl (List.mem_cons_of_mem _ hy)
              · rw [h] at hy; right; simp at hy; omega
          exact RawIs.keep ⟨a1, a2, a3, a4, (a5.fresh h6f.out.1 (fun y hy => by have := hX8.out y hy; omega)).other hy, (a6.fresh h6f.out.2 (fun y hy => by have := hX8.out y hy; omega)).other hy⟩ k78.out (fun y hy => .inl (List.mem_append_left _ hy)))
        have hdf : Hid ((w8.setCell ⟨gl, 0, none⟩ (.slice A8 (nc + 1) c8)).heap[D]? = some (.deferred (some []))) := Lib.hid ((Kd.out.block D hDd.out.1 (fun hx => by have := hX8.out D hx; have := hDd.out.2.1; omega)).trans hdd.out)
        have B4f := Lib.hid (B4d.out.keep Kd.out (fun hx => by have := hX8.out g4 hx; have := hgg.out.2.1; omega))
        have hfin8 : Hid (wd.heap.size ≤ (w8.setCell ⟨gl, 0, none⟩ (.slice A8 (nc + 1) c8)).heap.size) := Lib.hid Kd.out.size
        clear q1 q2 q3 q4 k8 HS fz B8 Kx Bn ow7 hb7 HC HSf h0 B64d B4d OWd Kwd Ka Kd k78 ri6 hdd
        generalize w8.setCell ⟨gl, 0, none⟩ (.slice A8 (nc + 1) c8) = wf at *
        have c4 := B4f.out.cell
        have f4 := B4f.out.frozen
        go_wp2_with fail
        have Kz : Keeps [g4, D] wf ((wf.setCell ⟨g4, 0, none⟩ (.int .i64 0)).putObj D (.deferred none)) := ((Keeps.refl [g4, D] wf).setCell (p := ⟨g4, 0, none⟩) (.inl (by simp)) _).trans (Keeps.grown (grownBy_putObj' _ D _) (fun k e => by cases e; simp))
        have hK' : (wf.setCell ⟨g4, 0, none⟩ (.int .i64 0)).heap[D]? = some (.deferred (some [])) := by
          have hDn : D ≠ g4 := by have := hDd.out.2.2; have := hg40.out.1; omega
          exact (Below.heap_setCell wf ⟨g4, 0, none⟩ (.int .i64 0) D hDn).trans hdf.out
        have hc5 : ((wf.setCell ⟨g4, 0, none⟩ (.int .i64 0)).putObj D (.deferred none)).cell? ⟨g4, 0, none⟩ = some (.int .i64 0) := cell_kept ((B4f.out.set_ 0 (.int .i64 0)).cell 0) (grownBy_putObj' _ D (.deferred none)) (fun r e => by cases e; exact ⟨_, hK', rfl⟩)
        have hgw : w.heap.size ≤ g4 ∧ w.heap.size ≤ D := ⟨hgg.out.2.1, hDd.out.2.1⟩
        have hgf : g4 < wd.heap.size ∧ D < wd.heap.size := ⟨by have := hg40.out.1; have := hDd.out; omega, hDd.out.1⟩
        refine ⟨by simp, .inl ⟨_, _, rfl, run_takeDeferred hK', ?_⟩⟩
        refine ⟨.int .i64 0, by simp [results, Try.f13, go_sem, hc5], .inr ⟨hok.out, rfl, A8, c8, ⟨t6, i6, Ao6, no6, co6, An6, nn6, cn6⟩, B8f.out.keep Kz (by have := hg40.out.2; simp; omega), own_keep ow8.out Kz (fun g hg hx => ?_), ?_, ⟨h6f.out.1.mono hwW.out, h6f.out.2.mono hwW.out⟩, ?_, ?_⟩⟩
        · have h35 : ∃ cur, Blk wf g 35 cur := (own_blk ow8.out hg).2
          obtain ⟨cur, h35⟩ := h35
          simp at hx
          rcases hx with rfl | rfl
          · exact Blk.ne_ h35 B4f.out (by decide) rfl
          · have h1 : wf.heap[g]? = some (.cells cur 35 (0, 0)) := h35
            rw [hdf.out] at h1
            cases h1
        · obtain ⟨a1, a2, a3, a4, a5, a6⟩ := hri.out
          exact RawIs.other (RawIs.keep ⟨a1, a2, a3, a4, a5.both (a5.fresh (Y := [g4, D]) h6f.out.1 (fun y hy => by simp at hy; omega)), a6.both (a6.fresh (Y := [g4, D]) h6f.out.2 (fun y hy => by simp at hy; omega))⟩ Kz (fun y hy => .inl (List.mem_append_right _ hy))) (fun y hy => .inl (List.mem_append_left _ (List.mem_append_right _ hy)))
        · intro g hg
          rcases hno8.out g hg with h | h
          · exact .inl h
          · exact .inr (Nat.le_trans hwW.out h)
        · refine ((Kf.out.mono (Y := gl :: (Value.slice A nc cc).ownBlock.toList ++ [g4, D]) (fun x hx => .inl (List.mem_append_left _ hx))).trans (Kz.mono (fun x hx => .inl (List.mem_append_right _ hx)))).mono (fun x hx => ?_)
          rcases List.mem_append.1 hx with h | h
          · exact .inl h
          · right
            simp at h
            omega
end Go.Proofs.Ytmclfbhcddcebaa
