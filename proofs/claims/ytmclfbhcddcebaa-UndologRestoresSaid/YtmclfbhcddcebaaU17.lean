/- Net: what its loop keeps. -/
import Derived.Test.YtmclfbhcddcebaaU16
namespace Go.Proofs.Ytmclfbhcddcebaa
open Go.RowKit Go.Shelf Go.Maps
set_option linter.unusedSimpArgs false
set_option linter.unusedVariables false

/-- The changes of the result so far. -/
structure NetR (w : World) (v : Value) (P : List PQ) (wr : World) : Prop where
  own : wr.ownsRow w.heap.size 35 4 v P.length (rows P)
  is_ : PIs wr v.ownBlock.toList P
  new : ∀ p ∈ P, Fresh w.heap.size p.1.Ao ∧ Fresh w.heap.size p.1.An ∧ Cel wr p.1.An
  kp : Keeps [] w wr
/-- The map so far. -/
def MapR (bm n : Nat) (D : DataW Unit) (M : List Chg) (wr : World) : Prop := wr.ownsMap Try.prog 71 (plainElem Try.prog 3) bm n D ∧ Idx D M

theorem NetR.step {w : World} {v : Value} {P : List PQ} {wr wq : World} (h : NetR w v P wr) (k : Keeps [] wr wq) : NetR w v P wq :=
  ⟨own_keep0 h.own k, h.is_.keep k (by simp), fun p hp => ⟨(h.new p hp).1, (h.new p hp).2.1, (h.new p hp).2.2.keep0 k⟩, h.kp.trans k⟩
theorem MapR.step {bm n : Nat} {D : DataW Unit} {M : List Chg} {wr wq : World} (h : MapR bm n D M wr) (k : Keeps [] wr wq) : MapR bm n D M wq :=
  ⟨h.1.kept (row := none) ⟨k.os, k.tape, k.output, k.size, fun i hi _ => k.block i hi (by simp)⟩ (by simp), h.2⟩
theorem MapR.grown {bm n : Nat} {D : DataW Unit} {M : List Chg} {wr wq : World} {row : Option Nat} (h : MapR bm n D M wr) (k : wr.grownBy wq row) (hr : ∀ r, row = some r → ∃ t cs, Blk wr r t cs) : MapR bm n D M wq := by
  refine ⟨h.1.kept k (fun e => ?_), h.2⟩
  obtain ⟨t, cs, hb⟩ := hr bm e.symm
  obtain ⟨es, clock, hes, _⟩ := h.1
  have hb' : wr.heap[bm]? = some (.cells cs t (0, 0)) := hb
  rw [hb'] at hes
  cases hes
theorem MapR.obj {bm n : Nat} {D : DataW Unit} {M : List Chg} {wr : World} (h : MapR bm n D M wr) : ∀ r, (some bm : Option Nat) = some r → ∃ o : Obj, wr.heap[r]? = some o ∧ o.isCells = false := by
  intro r hr
  cases hr
  obtain ⟨es, clock, hes, _⟩ := h.1
  exact ⟨_, hes, rfl⟩
theorem NetR.turn {w : World} {v : Value} {P : List PQ} {wr wq : World} {bm : Nat} (h : NetR w v P wr) (hg : wr.grownBy wq (some bm)) (hr : ∀ r, (some bm : Option Nat) = some r → ∃ o : Obj, wr.heap[r]? = some o ∧ o.isCells = false) (hbm : w.heap.size ≤ bm) : NetR w v P wq :=
  ⟨own_turn h.own hg hr, fun p hp => by
    obtain ⟨a1, a2, a3, a4, a5, a6⟩ := h.is_ p hp
    exact ⟨a1, a2, a3, a4, a5.turn hg hr, a6.turn hg hr⟩, fun p hp => ⟨(h.new p hp).1, (h.new p hp).2.1, (h.new p hp).2.2.turn hg hr⟩,
   (h.kp.nil.trans (Keeps.grown (X := [bm]) hg (by intro k hk; simpa using hk.symm))).mono (by intro x hx; right; rw [List.mem_singleton.1 hx]; exact hbm)⟩
theorem put_len (M : List Chg) (c : Chg) : (put M c).length ≤ M.length + 1 := by
  unfold put
  split
  · simp
  · simp
theorem net_le (L : List Chg) : (netM L).length ≤ L.length := by
  have : ∀ (L M : List Chg), (L.foldl put M).length ≤ M.length + L.length := by
    intro L
    induction L with
    | nil => intro M; simp
    | cons c L ih => intro M; have h1 := ih (put M c); have h2 := put_len M c; simp only [List.foldl_cons, List.length_cons]; omega
  unfold netM
  simpa using this L []
theorem NetR.slice {w : World} {v : Value} {P : List PQ} {wr : World} (h : NetR w v P wr) (h0 : 0 < P.length) : ∃ g c cur, v = .slice (some ⟨g, 0, none⟩) P.length c ∧ Blk wr g 35 cur ∧ w.heap.size ≤ g := by
  obtain ⟨g, c, hv, _, _, hb, _, _, cur, hc⟩ := own_row3 h.own h0
  exact ⟨g, c, cur, hv, hc, hb⟩

/-- The row stands there: its new row is replaced. -/
theorem NetR.old {w : World} {P : List PQ} {wr : World} {g i m cv bm n : Nat} {c : Chg} {M : List Chg} {D : DataW Unit} (h : NetR w (.slice (some ⟨g, 0, none⟩) m cv) P wr) (hM : P.map (·.2) = M) (hmap : MapR bm n D M wr) (hp : pos c M = some i)
    {A3 : Option Addr} {c3 : Nat} (ra : RowAt wr [] A3 c.new) (fa : Fresh w.heap.size A3) (ce : Cel wr A3) (nn : Nat) (hnn : c.new.length = nn) :
    ∃ P', P'.map (·.2) = put M c ∧ NetR w (.slice (some ⟨g, 0, none⟩) m cv) P' (wr.setCell ⟨g, i * 4 + 3, none⟩ (.slice A3 nn c3)) ∧ MapR bm (n + 1) D (put M c) (wr.setCell ⟨g, i * 4 + 3, none⟩ (.slice A3 nn c3)) := by
  obtain ⟨h1, b, hb, hhit⟩ := pos_lt hp
  rw [← hM, List.length_map] at h1
  obtain ⟨p, hpi⟩ : ∃ p, P[i]? = some p := ⟨P[i], List.getElem?_eq_getElem h1⟩
  have hpb : p.2 = b := by
    rw [← hM, List.getElem?_map, hpi] at hb
    exact Option.some.inj hb
  obtain ⟨⟨t, id, Ao, no, co, An, nn0, cn0⟩, c0⟩ := p
  dsimp only at hpb
  subst hpb
  have hown := h.own
  have hm : P.length = m := by
    rcases hown.2 with ⟨h', _⟩ | ⟨g', cap, cur, h', _⟩
    · simp at h'
    · injection h' with _ h2 _
      omega
  have hgo : (Value.slice (some ⟨g, 0, none⟩) m cv).ownBlock = some g := rfl
  have hown2 : wr.ownsRow w.heap.size 35 4 (.slice (some ⟨g, 0, none⟩) P.length cv) P.length (rows P) := by rw [← hm] at hown; exact hown
  obtain ⟨hst, hgr⟩ := hown2.stored (i * 4 + 3) (.slice A3 nn c3)
  obtain ⟨hgb, cur, hgblk⟩ := own_blk hown hgo
  have ks : Keeps [g] wr (wr.setCell ⟨g, i * 4 + 3, none⟩ (.slice A3 nn c3)) := (Keeps.refl [g] wr).setCell (p := ⟨g, i * 4 + 3, none⟩) (.inl (by simp)) _
  have hcg : ∀ {A : Option Addr}, Cel wr A → Cel (wr.setCell ⟨g, i * 4 + 3, none⟩ (.slice A3 nn c3)) A := fun hA => hA.keep ks (fun x hx => .inr ⟨35, cur, by rw [List.mem_singleton.1 hx]; exact hgblk, by decide⟩)
  have hnet : (P.set i (⟨t, id, Ao, no, co, A3, nn, c3⟩, { c0 with new := c.new })).map (·.2) = put M c := by
    unfold put
    rw [hp]
    dsimp only
    rw [cAt_of hb, List.map_set, hM]
  refine ⟨P.set i (⟨t, id, Ao, no, co, A3, nn, c3⟩, { c0 with new := c.new }), hnet, ⟨?_, ?_, ?_, ?_⟩, ⟨?_, ?_⟩⟩
  · rw [List.length_set]
    have e : (rows P).set (i * 4 + 3) (.slice A3 nn c3) = rows (P.set i (⟨t, id, Ao, no, co, A3, nn, c3⟩, { c0 with new := c.new })) := by
      have : ∀ (P : List PQ) (i : Nat), P[i]? = some ((⟨t, id, Ao, no, co, An, nn0, cn0⟩, c0) : PQ) → (rows P).set (i * 4 + 3) (.slice A3 nn c3) = rows (P.set i (⟨t, id, Ao, no, co, A3, nn, c3⟩, { c0 with new := c.new })) := by
        intro P
        induction P with
        | nil => intro i hi; cases hi
        | cons x P ih =>
          intro i hi
          cases i with
          | zero =>
            obtain rfl : x = _ := by simpa using hi
            rfl
          | succ i =>
            have := ih i (by simpa using hi)
            show (Value.int .i64 x.1.t :: .int .i64 x.1.id :: .slice x.1.Ao x.1.no x.1.co :: .slice x.1.An x.1.nn x.1.cn :: rows P).set ((i + 1) * 4 + 3) _ = _ :: _ :: _ :: _ :: rows (P.set i _)
            rw [show (i + 1) * 4 + 3 = (i * 4 + 3) + 1 + 1 + 1 + 1 by omega]
            simp only [List.set_cons_succ]
            rw [this]
      exact this P i hpi
    rw [← e]
    rw [← hm]
    exact hst
  · intro q hq
    rcases List.mem_or_eq_of_mem_set hq with hq | rfl
    · exact (h.is_ q hq).keep ks (by intro y hy; left; rw [List.mem_singleton.1 hy, hgo]; simp)
    · obtain ⟨a1, a2, a3, a4, a5, a6⟩ := h.is_ _ (List.mem_of_getElem? hpi)
      have hr3 : RowAt wr (Value.slice (some ⟨g, 0, none⟩) m cv).ownBlock.toList A3 c.new := by
        intro j x hx
        obtain ⟨g', off, rfl, _, q1, q2, q3⟩ := ra j x hx
        refine ⟨g', off, rfl, ?_, q1, q2, q3⟩
        rw [hgo]
        intro hm
        have : g' = g := by simpa using hm
        subst this
        obtain ⟨cs, hcs⟩ := ce _ rfl
        exact hcs.ne_ hgblk (by decide) rfl
      refine ⟨a1, a2, a3, hnn, a5.keep ks (by intro y hy; left; rw [List.mem_singleton.1 hy, hgo]; simp), hr3.keep ks (by intro y hy; left; rw [List.mem_singleton.1 hy, hgo]; simp)⟩
  · intro q hq
    rcases List.mem_or_eq_of_mem_set hq with hq | rfl
    · exact ⟨(h.new q hq).1, (h.new q hq).2.1, hcg (h.new q hq).2.2⟩
    · exact ⟨(h.new _ (List.mem_of_getElem? hpi)).1, fa, hcg ce⟩
  · exact h.kp.setCell (.inr hgb) _
  · refine (hmap.1.setCell (a := ⟨g, i * 4 + 3, none⟩) (fun e => ?_) _).mono (by simp)
    obtain ⟨es, clock, hes, _⟩ := hmap.1
    have hgb' : wr.heap[g]? = some (.cells cur 35 (0, 0)) := hgblk
    rw [e] at hes
    dsimp only at hes
    rw [hgb'] at hes
    cases hes
  · exact idx_old hmap.2 hp

theorem RowAt.grow {wr wq : World} {Y Y' : List Nat} {A : Option Addr} {l : List Val} (h : RowAt wr Y A l) (kg : Keeps Y wr wq) (hv : ∀ y ∈ Y', y ∈ Y ∨ wr.heap.size ≤ y) : RowAt wq Y' A l :=
  ((h.other (Y := Y ++ Y') (fun y hy => by
    rcases List.mem_append.1 hy with hy | hy
    · exact .inl hy
    · exact hv y hy)).keep kg (fun y hy => .inl (List.mem_append_left _ hy))).other (fun y hy => .inl (List.mem_append_right _ hy))
/-- A new row comes to the end. -/
theorem NetR.add {w : World} {v v' : Value} {P : List PQ} {wr wq : World} {r : Raw} {c : Chg} (h : NetR w v P wr) (hw : w.heap.size ≤ wr.heap.size) (ri : RawIs wr [] r c) (fr : Fresh w.heap.size r.Ao ∧ Fresh w.heap.size r.An) (ceo : Cel wr r.Ao) (ce : Cel wr r.An)
    (hown : wq.ownsRow w.heap.size 35 4 v' (P.length + 1) (rows P ++ r.cells)) (hg : wr.grownBy wq v.ownBlock) (hv : v'.ownBlock = v.ownBlock ∨ v'.ownBlock = some wr.heap.size) : NetR w v' (P ++ [(r, c)]) wq := by
  have kg : Keeps v.ownBlock.toList wr wq := Keeps.grown hg (by intro g h; rw [h]; simp)
  have hvb : ∀ y ∈ v'.ownBlock.toList, y ∈ v.ownBlock.toList ∨ wr.heap.size ≤ y := fun y hy => by
    rcases hv with e | e
    · rw [e] at hy; exact .inl hy
    · rw [e] at hy; right; simp at hy; omega
  have hb : ∀ x ∈ v.ownBlock.toList, ∃ cur, Blk wr x 35 cur := fun x hx => (own_blk h.own (Option.mem_toList.1 hx)).2
  have hcel : ∀ {A : Option Addr}, Cel wr A → Cel wq A := fun hA => hA.keep kg (fun x hx => by obtain ⟨cur, hb⟩ := hb x hx; exact .inr ⟨35, cur, hb, by decide⟩)
  have hfar : ∀ {A : Option Addr} {l : List Val}, RowAt wr [] A l → Cel wr A → RowAt wr v.ownBlock.toList A l := fun {A l} hA hC i x hx => by
    obtain ⟨g, off, rfl, _, q1, q2, q3⟩ := hA i x hx
    refine ⟨g, off, rfl, fun hm => ?_, q1, q2, q3⟩
    obtain ⟨cur, hb⟩ := hb _ hm
    obtain ⟨cs, hcs⟩ := hC _ rfl
    exact hcs.ne_ hb (by decide) rfl
  refine ⟨?_, ?_, ?_, ?_⟩
  · rw [List.length_append, rows_append]
    exact hown
  · intro q hq
    have hq' : RawIs wr v.ownBlock.toList q.1 q.2 := by
      rcases List.mem_append.1 hq with hq | hq
      · exact h.is_ q hq
      · obtain rfl := List.mem_singleton.1 hq
        exact ⟨ri.t, ri.id, ri.no, ri.nn, hfar ri.old ceo, hfar ri.new ce⟩
    obtain ⟨a1, a2, a3, a4, a5, a6⟩ := hq'
    exact ⟨a1, a2, a3, a4, a5.grow kg hvb, a6.grow kg hvb⟩
  · intro q hq
    rcases List.mem_append.1 hq with hq | hq
    · exact ⟨(h.new q hq).1, (h.new q hq).2.1, hcel (h.new q hq).2.2⟩
    · obtain rfl := List.mem_singleton.1 hq
      exact ⟨fr.1, fr.2, hcel ce⟩
  · exact (h.kp.nil.trans kg).mono (fun y hy => .inr (own_blk h.own (Option.mem_toList.1 hy)).1)
end Go.Proofs.Ytmclfbhcddcebaa
