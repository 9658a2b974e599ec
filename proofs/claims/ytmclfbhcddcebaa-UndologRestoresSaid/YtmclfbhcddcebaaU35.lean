/- The reference's log: Add. -/
import Derived.Test.YtmclfbhcddcebaaU34
namespace Go.Proofs.Ytmclfbhcddcebaa
open Go.RowKit Go.Shelf
set_option linter.unusedSimpArgs false
set_option linter.unusedVariables false

theorem fits_split {c : Chg} {L : List Chg} {q : Nat} {b : Chg} (hq : L[q]? = some b) (hno : ∀ x ∈ L.drop (q + 1), hits c x = false) (hb : hits c b = true) : fits c L.reverse = decide (b.new = c.old) := by
  have hlt := (List.getElem?_eq_some_iff.1 hq).1
  have e : L = L.take q ++ b :: L.drop (q + 1) := by
    have h8 : L[q] = b := by rw [List.getElem?_eq_getElem hlt] at hq; exact Option.some.inj hq
    rw [← h8, List.getElem_cons_drop, List.take_append_drop]
  have e2 : L.reverse = (L.drop (q + 1)).reverse ++ b :: (L.take q).reverse := by
    conv => lhs; rw [e]
    simp
  rw [e2, fits_hit (fun x hx => hno x (List.mem_reverse.1 hx)) hb]
theorem fits_none {c : Chg} {L : List Chg} (hno : ∀ x ∈ L, hits c x = false) : fits c L.reverse = true := fits_miss (fun x hx => hno x (List.mem_reverse.1 hx))
theorem drop_snoc {α : Type} {L : List α} {q : Nat} {b : α} (hq : L[q]? = some b) : L.drop q = b :: L.drop (q + 1) := by
  have hlt := (List.getElem?_eq_some_iff.1 hq).1
  rw [List.drop_eq_getElem_cons hlt]
  congr 1
  rw [List.getElem?_eq_getElem hlt] at hq
  exact Option.some.inj hq
/-- What Add of the reference leaves. -/
def RAddL (b : Nat) (w : World) (X F : List Nat) (gl : Nat) (L : List Chg) (S : List Pnt) (c : Chg) (e : Ending) (w' : World) : Prop :=
  ∃ F', e = .returned (.int .i64 (if addOk L c then 0 else 1)) ∧ Hid (RLog b w' (F' ++ X) F' gl (if addOk L c then L ++ [c] else L) S) ∧ Hid (Turn F F' w w')
theorem radd_no {b : Nat} {w w' : World} {X F : List Nat} {gl : Nat} {L : List Chg} {S : List Pnt} {c : Chg} (h : RLog b w X F gl L S) (hk : Keeps [] w w') (hno : addOk L c = false) : RAddL b w X F gl L S c (.returned (.int .i64 1)) w' :=
  ⟨F, by rw [hno]; rfl, Lib.hid (by rw [hno]; exact (h.keep hk).void), Lib.hid (Turn.of_nil hk)⟩

set_option maxRecDepth 100000 in
set_option maxHeartbeats 3200000 in
theorem radd_bad (b : Nat) (w : World) (X F : List Nat) (gl : Nat) (L : List Chg) (S : List Pnt) (r : Raw) (c : Chg) (h : RLog b w X F gl L S) (hc : RawIs w X r c) (hv : valid c = false) :
    Calls Try.prog 14 #[.pointer (some ⟨gl, 0, none⟩), .agg r.cells.toArray] w (RAddL b w X F gl L S c) := by
  obtain ⟨t, id, Ao, no, co, An, nn, cn⟩ := r
  obtain ⟨ht, hid, hno, hnn, hcO, hcN⟩ := hc
  dsimp only at ht hid hno hnn hcO hcN
  have hv1 : t < 0 ∨ id < 1 ∨ (no = 0 ∧ nn = 0) := by
    unfold valid at hv
    simp only [Bool.not_eq_false', Bool.or_eq_true, decide_eq_true_eq, Bool.and_eq_true] at hv
    rw [← hno, ← hnn, ht, hid]
    rcases hv with (h | h) | h
    · exact .inl h
    · exact .inr (.inl h)
    · exact .inr (.inr h)
  unfold Raw.cells
  dsimp only
  have hfin := Lib.hid (radd_no h ((Keeps.refl [] w).alloc (.cells #[.int .i64 t, .int .i64 id, .slice Ao no co, .slice An nn cn] 35)) (c := c) (by unfold addOk; rw [hv]; rfl))
  clear h ht hid hno hnn hcO hcN hv
  by_cases h1 : t < 0
  · have d1 := decide_eq_true h1
    go_enter Try.func14, Try.ntmps14
    go_wp2_with fail
    go_ret
    exact hfin.out
  · have d1 := decide_eq_false h1
    by_cases h2 : id < 1
    · have d2 := decide_eq_true h2
      go_enter Try.func14, Try.ntmps14
      go_wp2_with fail
      go_ret
      exact hfin.out
    · have d2 := decide_eq_false h2
      obtain ⟨rfl, rfl⟩ : no = 0 ∧ nn = 0 := by
        rcases hv1 with h | h | h
        · exact absurd h h1
        · exact absurd h h2
        · exact h
      go_enter Try.func14, Try.ntmps14
      go_wp2_with fail
      go_ret
      exact hfin.out

set_option maxRecDepth 100000 in
set_option maxHeartbeats 8000000 in
theorem radd_ok (b : Nat) (w : World) (X F : List Nat) (gl : Nat) (L : List Chg) (S : List Pnt) (r : Raw) (c : Chg) (h : RLog b w X F gl L S) (hc : RawIs w X r c) (hs : Small c) (hwf : wfC c) (hL : L.length ≤ 1000000) (hvc : valid c = true) :
    Calls Try.prog 14 #[.pointer (some ⟨gl, 0, none⟩), .agg r.cells.toArray] w (RAddL b w X F gl L S c) := by
  obtain ⟨A, cc, Ap, cp, R, hB, hO, hP, hR, hF⟩ := h.ex
  obtain ⟨t, id, Ao, no, co, An, nn, cn⟩ := r
  have hcr := Lib.hid hc
  obtain ⟨ht, hid, hno, hnn, hcO, hcN⟩ := hc
  dsimp only at ht hid hno hnn hcO hcN
  have hv1 : ¬ t < 0 ∧ ¬ id < 1 ∧ (no = 0 → ¬ nn = 0) := by
    have hv := hvc
    unfold valid at hv
    simp only [Bool.not_eq_true', Bool.or_eq_false_iff, decide_eq_false_iff_not, Bool.and_eq_false_imp, decide_eq_true_eq] at hv
    rw [← hno, ← hnn, ht, hid]
    exact ⟨hv.1.1, hv.1.2, hv.2⟩
  obtain ⟨v1, v2, v3⟩ := hv1
  have d1 := decide_eq_false v1
  have d2 := decide_eq_false v2
  have hlR := hR.1
  obtain ⟨n, hn⟩ : ∃ n, n = L.length := ⟨_, rfl⟩
  obtain ⟨g3, hg3⟩ : ∃ g, g = w.heap.size := ⟨_, rfl⟩
  have k0 : Keeps [] w (w.alloc (.cells #[.int .i64 t, .int .i64 id, .slice Ao no co, .slice An nn cn] 35)) := (Keeps.refl [] w).alloc _
  have B3 := Blk.new w 35 #[.int .i64 t, .int .i64 id, .slice Ao no co, .slice An nn cn]
  rw [← hg3] at B3
  have hglw := hB.lt
  obtain ⟨w0, hw0⟩ : ∃ x, x = w.alloc (.cells #[.int .i64 t, .int .i64 id, .slice Ao no co, .slice An nn cn] 35) := ⟨_, rfl⟩
  rw [← hw0] at k0 B3
  have hcell : Hid (∀ wr, Keeps [] w0 wr → wr.cell? ⟨gl, 0, none⟩ = some (.slice A n cc) ∧ wr.cell? ⟨g3, 0, none⟩ = some (.int .i64 t) ∧ wr.cell? ⟨g3, 1, none⟩ = some (.int .i64 id) ∧ wr.cell? ⟨g3, 2, none⟩ = some (.slice Ao no co) ∧ wr.cell? ⟨g3, 3, none⟩ = some (.slice An nn cn)) := Lib.hid (fun wr k => ⟨(k0.trans k).cellEq (by rw [hn]; exact hB.cell 0) (by simp), k.cellEq (B3.cell 0) (by simp), k.cellEq (B3.cell 1) (by simp), k.cellEq (B3.cell 2) (by simp), k.cellEq (B3.cell 3) (by simp)⟩)
  have hOw0 : Hid (∀ wr, Keeps [] w wr → wr.ownsRow b 35 4 (.slice A n cc) n (flatC R)) := Lib.hid (fun wr k => by rw [hn]; exact own_keep0 hO k)
  have hel : Hid (∀ wr, Keeps [] w wr → ∀ q ch, L[q]? = some ch → ∃ g r, A = some ⟨g, 0, none⟩ ∧ (wr.cell? ⟨g, q * 4, none⟩ = some (.int .i64 r.t) ∧ wr.cell? ⟨g, q * 4 + 1, none⟩ = some (.int .i64 r.id) ∧ wr.cell? ⟨g, q * 4 + 3, none⟩ = some (.slice r.An r.nn r.cn)) ∧ Hid (RawIs w X r ch)) := Lib.hid (fun wr kw q ch hq => by
    have hlt := (List.getElem?_eq_some_iff.1 hq).1
    obtain ⟨r, hr⟩ : ∃ r, R[q]? = some r := ⟨R[q]'(by rw [hlR]; exact hlt), List.getElem?_eq_getElem _⟩
    obtain ⟨g, h1, _, _, h2⟩ := raws_of_own hO hlR (by omega)
    obtain ⟨c0, c1, c2, c3⟩ := h2 q r hr
    rw [Nat.zero_add] at c0 c1 c2 c3
    exact ⟨g, r, h1, ⟨kw.cellEq c0 (by simp), kw.cellEq c1 (by simp), kw.cellEq c3 (by simp)⟩, Lib.hid (hR.2 q r ch hr hq)⟩)
  have hbad : Hid (fits c L.reverse = false → ∀ wr, Keeps [] w wr → RAddL b w X F gl L S c (.returned (.int .i64 1)) wr) := Lib.hid (fun hf wr k => radd_no h k (by unfold addOk; rw [hf]; simp))
  have hT0 : Hid (fits c L.reverse = true → ∀ w4 w5 v, Hid (Keeps [] w0 w4) → Hid (w5.ownsRow b 35 4 v (n + 1) (flatC R ++ [.int .i64 t, .int .i64 id, .slice Ao no co, .slice An nn cn])) → Hid (w4.grownBy w5 (Value.slice A n cc).ownBlock) → Hid (v.ownBlock = (Value.slice A n cc).ownBlock ∨ v.ownBlock = some w4.heap.size) →
      w5.cell? ⟨gl, 0, none⟩ = some (.slice A n cc) ∧ (w5.cell? ⟨g3, 0, none⟩ = some (.int .i64 t) ∧ w5.cell? ⟨g3, 1, none⟩ = some (.int .i64 id) ∧ w5.cell? ⟨g3, 2, none⟩ = some (.slice Ao no co) ∧ w5.cell? ⟨g3, 3, none⟩ = some (.slice An nn cn)) ∧ w5.frozen? ⟨gl, 0, none⟩ = false ∧ Hid (RAddL b w X F gl L S c (.returned (.int .i64 0)) (w5.setCell ⟨gl, 0, none⟩ v))) := Lib.hid (fun hf w4 w5 v k4 ho hg hv => by
    obtain ⟨Av, cv, rfl, _⟩ := own_slice ho.out
    have hok : addOk L c = true := by unfold addOk; rw [hvc, hf]; rfl
    have hA : ∀ g ∈ fb A, g ∈ F := fun g hg => by rw [hF]; simp [hg]
    have hgl : gl ∈ F := by rw [hF]; simp
    have hAp : ∀ g ∈ fb Ap, g ∈ F := fun g hg => by rw [hF]; simp [hg]
    have hglA : gl ∉ fb A := fun hm => by
      obtain ⟨_, _, cur, hb⟩ := own_lo hO hm
      exact (hB.ne_ hb (by decide)) rfl
    have hg3A : g3 ∉ fb A := fun hm => by
      have := (own_lo hO hm).2.1
      omega
    have kg : Keeps (fb A) w4 w5 := Keeps.grown hg.out (by intro g h; exact own_fb h)
    have k5 : Keeps (fb A) w w5 := (k0.trans k4.out).nil.trans kg
    have k5' : Keeps (fb A) w0 w5 := k4.out.nil.trans kg
    have hB5 := hB.keep k5 hglA
    have B35 := B3.keep k5' hg3A
    refine ⟨by rw [hn]; exact hB5.cell 0, ⟨B35.cell 0, B35.cell 1, B35.cell 2, B35.cell 3⟩, hB5.frozen 0, Lib.hid ?_⟩
    have ks : Keeps [gl] w5 (w5.setCell ⟨gl, 0, none⟩ (.slice Av (n + 1) cv)) := (Keeps.refl [gl] w5).setCell (p := ⟨gl, 0, none⟩) (.inl (by simp)) _
    have hBs : Blk (w5.setCell ⟨gl, 0, none⟩ (.slice Av (n + 1) cv)) gl 31 #[.slice Av (L ++ [c]).length cv, .slice Ap S.length cp] := by
      have := hB5.set_ 0 (.slice Av (n + 1) cv)
      rw [List.length_append, ← hn]
      simpa using this
    have hOs : (w5.setCell ⟨gl, 0, none⟩ (.slice Av (n + 1) cv)).ownsRow b 35 4 (.slice Av (L ++ [c]).length cv) (L ++ [c]).length (flatC (R ++ [⟨t, id, Ao, no, co, An, nn, cn⟩])) := by
      rw [flatC_append, List.length_append, ← hn]
      exact own_keep ho.out ks (fun g hg hm => by
        obtain ⟨_, cur, hb⟩ := own_blk ho.out hg
        rw [List.mem_singleton.1 hm] at hb
        exact hB5.ne_ hb (by decide) rfl)
    have hP5 := own_keep hP k5 (fun g hg hm => by
      obtain ⟨_, cur, hb⟩ := own_blk hP hg
      obtain ⟨_, _, cur', hb'⟩ := own_lo hO hm
      exact hb.ne_ hb' (by decide) rfl)
    have hPs := own_keep hP5 ks (fun g hg hm => by
      obtain ⟨_, cur, hb⟩ := own_blk hP5 hg
      rw [List.mem_singleton.1 hm] at hb
      exact hB5.ne_ hb (by decide) rfl)
    have kF : Keeps F w (w5.setCell ⟨gl, 0, none⟩ (.slice Av (n + 1) cv)) := (k5.mono (fun y hy => .inl (hA y hy))).trans (ks.mono (fun y hy => .inl (by rw [List.mem_singleton.1 hy]; exact hgl)))
    have hnA : ∀ g ∈ fb Av, g ∈ F ∨ w.heap.size ≤ g := fun g hg => by
      rcases hv.out with e | e
      · rw [← fb_own Av (n + 1) cv, e, fb_own] at hg
        exact .inl (hA g hg)
      · rw [← fb_own Av (n + 1) cv, e] at hg
        right
        have := k0.size
        have := k4.out.size
        simp at hg
        omega
    have hF' : ∀ g ∈ gl :: (fb Av ++ fb Ap), g ∈ F ∨ w.heap.size ≤ g := fun g hg => by
      rcases List.mem_cons.1 hg with rfl | hg
      · exact .inl hgl
      · rcases List.mem_append.1 hg with hg | hg
        · exact hnA g hg
        · exact .inl (hAp g hg)
    refine ⟨gl :: (fb Av ++ fb Ap), by rw [hok]; rfl, Lib.hid ?_, Lib.hid ⟨kF, hF'⟩⟩
    rw [hok]
    simp only [if_true]
    have hR1 : RawsIs w X (R ++ [⟨t, id, Ao, no, co, An, nn, cn⟩]) (L ++ [c]) := hR.append ⟨rfl, fun i r' c' h1 h2 => by
      have e : i = 0 := by
        have := (List.getElem?_eq_some_iff.1 h1).1
        simp at this
        omega
      subst e
      cases h1
      cases h2
      exact hcr.out⟩
    refine ⟨⟨Av, cv, Ap, cp, _, hBs, hOs, hPs, ?_, rfl⟩, fun x hx => List.mem_append_left _ hx, h.lo, ?_, ?_⟩
    · have := hR1.other (Y := X ++ ((gl :: (fb Av ++ fb Ap)) ++ X)) (fun y hy => by
        rcases List.mem_append.1 hy with hy | hy
        · exact .inl hy
        · rcases List.mem_append.1 hy with hy | hy
          · rcases hF' y hy with h3 | h3
            · exact .inl (h.sub y h3)
            · exact .inr h3
          · exact .inl hy)
      exact (this.keep kF (fun y hy => .inl (List.mem_append_left _ (h.sub y hy)))).other (fun y hy => .inl (List.mem_append_right _ hy))
    · intro x hx
      rcases List.mem_append.1 hx with hx | hx
      · rcases List.mem_cons.1 hx with rfl | hx
        · exact hBs.lt
        · rcases List.mem_append.1 hx with hx | hx
          · exact (own_lo hOs hx).2.1
          · exact (own_lo hPs hx).2.1
      · exact Nat.lt_of_lt_of_le (h.hi x hx) kF.size
    · intro c0 hc0
      rcases List.mem_append.1 hc0 with hc0 | hc0
      · exact h.sm c0 hc0
      · rw [List.mem_singleton.1 hc0]; exact ⟨hs, hwf⟩)
  have hsm : Hid (∀ c ∈ L, Small c) := Lib.hid (fun c hc => (h.sm c hc).1)
  have hb0' : Hid (b ≤ w.heap.size) := Lib.hid h.bs
  obtain ⟨i5, hi5, hy0, hy1, hy2⟩ := info_parts info35
  replace hi5 := Lib.hid hi5
  replace hy0 := Lib.hid hy0
  replace hy1 := Lib.hid hy1
  replace hy2 := Lib.hid hy2
  have hnL : Hid (n ≤ 1000000) := Lib.hid (by omega)
  have hnL' : n ≤ 1000000 := by omega
  have hnw : IntKind.i64.wrap ((n : Int) - 1) = (n : Int) - 1 := IntWalk.i64_in _ (by omega)
  replace k0 := Lib.hid k0
  replace hn := Lib.hid hn
  replace hno := Lib.hid hno
  replace ht := Lib.hid ht
  replace hid := Lib.hid hid
  replace hlR := Lib.hid hlR
  unfold Raw.cells
  dsimp only
  clear hB hO hP hR hF h hcO hcN hs hwf hvc B3 hglw hL v1 v2
  have hz : Hid ((no : Int) = 0 → ¬ (nn : Int) = 0) := Lib.hid (fun e => by have := v3 (by omega); omega)
  clear v3
  by_cases hz0 : no = 0
  · have d3 : ((no : Int) == 0) = true := by simpa using (by omega : (no : Int) = 0)
    have d4 : ((nn : Int) == 0) = false := by simpa using (hz.out (by omega))
    clear hz hz0
    go_enter Try.func14, Try.ntmps14
    have z0 := (hcell.out _ (Keeps.refl [] w0)).1
    rw [hw0] at z0
    replace hw0 := Lib.hid hw0
    replace hg3 := Lib.hid hg3
    go_wp2_with fail
    clear z0
    rw [← hw0.out, ← hg3.out]
    go_loopw [5] (fun i wr => ∃ j : Nat, j ≤ n ∧ i = .int .i64 ((n : Int) - 1 - (j : Int)) ∧ Hid (∀ x ∈ L.drop (n - j), hits c x = false) ∧ Hid (Keeps [] w0 wr)) (fun i _ => (intOf i + 1).toNat)
    case atStart => exact ⟨0, Nat.zero_le _, by simp, Lib.hid (by rw [Nat.sub_zero, hn.out, List.drop_length]; simp), Lib.hid (Keeps.refl _ _)⟩
    case round =>
      obtain ⟨j, hj, rfl, hmiss, hkw⟩ := hrel
      obtain ⟨wo, hwo⟩ : ∃ x, x = wr := ⟨_, rfl⟩
      subst hwo
      obtain ⟨z0, z1, z2, z3, z4⟩ := hcell.out _ hkw.out
      by_cases hlt : j < n
      · obtain ⟨q, hq⟩ : ∃ q : Nat, (n : Int) - 1 - (j : Int) = (q : Int) := ⟨n - 1 - j, by omega⟩
        have hqn : q < n ∧ n - j = q + 1 ∧ n - (j + 1) = q := by omega
        rw [hq]
        obtain ⟨ch, hch⟩ : ∃ c, L[q]? = some c := ⟨L[q]'(by rw [← hn.out]; omega), List.getElem?_eq_getElem _⟩
        obtain ⟨ga, ⟨mt, mi, Bo', mo, do', Bn', mn, dn⟩, rfl, ⟨c0, c1, c3⟩, hraw⟩ := hel.out _ (k0.out.trans hkw.out) q ch hch
        dsimp only at c0 c1 c3
        have hqi : (q : Int) < (n : Int) := by omega
        have hq0 : (0 : Int) ≤ (q : Int) := by omega
        have hqw : IntKind.i64.wrap ((q : Int) - 1) = (n : Int) - 1 - ((j : Int) + 1) := by rw [IntWalk.i64_in _ (by omega)]; omega
        have hhit : Hid (hits c ch = (decide (mt = t) && decide (mi = id))) := Lib.hid (by
          unfold hits
          have h1 := hraw.out.t
          have h2 := hraw.out.id
          dsimp only at h1 h2
          rw [← h1, ← h2, ht.out, hid.out])
        have hnext : Hid (hits c ch = false → ∀ x ∈ L.drop (n - (j + 1)), hits c x = false) := Lib.hid (fun hh x hx => by
          rw [hqn.2.2, drop_snoc hch] at hx
          rcases List.mem_cons.1 hx with rfl | hx
          · exact hh
          · exact hmiss.out x (by rw [hqn.2.1]; exact hx))
        by_cases e1 : mt = t
        · have b1 : (mt == t) = true := by simpa using e1
          by_cases e2 : mi = id
          · have b2 : (mi == id) = true := by simpa using e2
            have hfit := Lib.hid (fits_split hch (by rw [← hqn.2.1]; exact hmiss.out) (by rw [hhit.out, decide_eq_true e1, decide_eq_true e2]; rfl))
            have hS7 : Hid (∀ w', Keeps [] wo w' → (fun w' : World => w'.cell? ⟨gl, 0, none⟩ = some (.slice (some ⟨ga, 0, none⟩) n cc) ∧ (w'.cell? ⟨g3, 0, none⟩ = some (.int .i64 t) ∧ w'.cell? ⟨g3, 1, none⟩ = some (.int .i64 id) ∧ w'.cell? ⟨g3, 2, none⟩ = some (.slice Ao no co) ∧ w'.cell? ⟨g3, 3, none⟩ = some (.slice An nn cn)) ∧ w'.cell? ⟨ga, q * 4 + 3, none⟩ = some (.slice Bn' mn dn)) w') := Lib.hid (fun w' k => by
              have kk := k
              obtain ⟨x0, x1⟩ := hcell.out _ (hkw.out.trans kk)
              exact ⟨x0, x1, kk.cellEq c3 (by simp)⟩)
            have HRow : Hid (∀ w', Keeps [] wo w' → Calls Try.prog 32 #[.slice Bn' mn dn, .slice Ao no co] w' fun e w'' => e = .returned (.bool (decide (ch.new = c.old))) ∧ Keeps [] w' w'') := Lib.hid (fun w' k => by
              have kk := (k0.out.trans hkw.out).trans k
              exact rows_any w' X X Bn' Ao ch.new c.old mn dn no co hraw.out.nn hno.out (hraw.out.new.keep kk (by simp)) (hcr.out.old.keep kk (by simp)) (by have := (hsm.out ch (List.mem_of_getElem? hch)).2; have := hraw.out.nn; dsimp only at this; omega))
            have hsame : Hid (decide (ch.new = c.old) = fits c L.reverse) := Lib.hid hfit.out.symm
            replace hch := Lib.hid hch
            obtain rfl := e1.symm
            obtain rfl := e2.symm
            go_wp2_with fail
            go_quiet (fail)
            go_wp2_with fail
            cases hb0 : fits c L.reverse
            · have hb : Hid (decide (ch.new = c.old) = false) := Lib.hid (hsame.out.trans hb0)
              replace hbad := Lib.hid (hbad.out hb0)
              clear hT0
              refine wp_region_I (S := (fun w' : World => w'.cell? ⟨gl, 0, none⟩ = some (.slice (some ⟨ga, 0, none⟩) n cc) ∧ (w'.cell? ⟨g3, 0, none⟩ = some (.int .i64 t) ∧ w'.cell? ⟨g3, 1, none⟩ = some (.int .i64 id) ∧ w'.cell? ⟨g3, 2, none⟩ = some (.slice Ao no co) ∧ w'.cell? ⟨g3, 3, none⟩ = some (.slice An nn cn)) ∧ w'.cell? ⟨ga, q * 4 + 3, none⟩ = some (.slice Bn' mn dn))) (n := 12) (by kernel_rfl) ?_
              have Kx : Hid (Keeps [] wo (wo.drewN nq).drew) := Lib.hid ((Keeps.refl [] wo).drewN nq).drew
              generalize (wo.drewN nq).drew = wc at *
              have HS := hS7.out wc Kx.out
              refine wpAnyI_takeN (i := 0) (v := ?_) (by kernel_rfl) rfl (by kernel_rfl) (by kernel_rfl) (by kernel_rfl) (fun _ _ _ h => h) HS (Or.inl ⟨by rfl, ?_⟩) ?_
              rotate_left
              · (intro w hSw; obtain ⟨y0, ⟨y1, y2, y3, y4⟩, y5⟩ := hSw; go_simp; try with_reducible rfl)
              try simp only [Act.put, List.getElem_toArray, List.getElem_cons_succ, List.getElem_cons_zero, List.setIfInBounds_toArray, List.set_cons_zero, List.set_cons_succ]
              refine wpAnyI_takeN (i := 1) (v := ?_) (by kernel_rfl) rfl (by kernel_rfl) (by kernel_rfl) (by kernel_rfl) (fun _ _ _ h => h) HS (Or.inl ⟨by rfl, ?_⟩) ?_
              rotate_left
              · (intro w hSw; obtain ⟨y0, ⟨y1, y2, y3, y4⟩, y5⟩ := hSw; go_simp; try with_reducible rfl)
              try simp only [Act.put, List.getElem_toArray, List.getElem_cons_succ, List.getElem_cons_zero, List.setIfInBounds_toArray, List.set_cons_zero, List.set_cons_succ]
              refine wpAnyI_takeN (i := 2) (v := ?_) (by kernel_rfl) rfl (by kernel_rfl) (by kernel_rfl) (by kernel_rfl) (fun _ _ _ h => h) HS (Or.inl ⟨by rfl, ?_⟩) ?_
              rotate_left
              · (intro w hSw; obtain ⟨y0, ⟨y1, y2, y3, y4⟩, y5⟩ := hSw; go_simp; try with_reducible rfl)
              try simp only [Act.put, List.getElem_toArray, List.getElem_cons_succ, List.getElem_cons_zero, List.setIfInBounds_toArray, List.set_cons_zero, List.set_cons_succ]
              refine wpAnyI_takeN (i := 3) (v := ?_) (by kernel_rfl) rfl (by kernel_rfl) (by kernel_rfl) (by kernel_rfl) (fun _ _ _ h => h) HS (Or.inl ⟨by rfl, ?_⟩) ?_
              rotate_left
              · (intro w hSw; obtain ⟨y0, ⟨y1, y2, y3, y4⟩, y5⟩ := hSw; go_simp; try with_reducible rfl)
              try simp only [Act.put, List.getElem_toArray, List.getElem_cons_succ, List.getElem_cons_zero, List.setIfInBounds_toArray, List.set_cons_zero, List.set_cons_succ]
              refine wpAnyI_takeN (i := 4) (v := ?_) (by kernel_rfl) rfl (by kernel_rfl) (by kernel_rfl) (by kernel_rfl) (fun _ _ _ h => h) HS (Or.inl ⟨by rfl, ?_⟩) ?_
              rotate_left
              · (intro w hSw; obtain ⟨y0, ⟨y1, y2, y3, y4⟩, y5⟩ := hSw; go_simp; try with_reducible rfl)
              try simp only [Act.put, List.getElem_toArray, List.getElem_cons_succ, List.getElem_cons_zero, List.setIfInBounds_toArray, List.set_cons_zero, List.set_cons_succ]
              refine wpAnyI_takeN (i := 5) (v := ?_) (by kernel_rfl) rfl (by kernel_rfl) (by kernel_rfl) (by kernel_rfl) (fun _ _ _ h => h) HS (Or.inl ⟨by rfl, ?_⟩) ?_
              rotate_left
              · (intro w hSw; obtain ⟨y0, ⟨y1, y2, y3, y4⟩, y5⟩ := hSw; go_simp; try with_reducible rfl)
              try simp only [Act.put, List.getElem_toArray, List.getElem_cons_succ, List.getElem_cons_zero, List.setIfInBounds_toArray, List.set_cons_zero, List.set_cons_succ]
              refine wpAnyI_takeN (i := 6) (v := ?_) (by kernel_rfl) rfl (by kernel_rfl) (by kernel_rfl) (by kernel_rfl) (fun _ _ _ h => h) HS (Or.inl ⟨by rfl, ?_⟩) ?_
              rotate_left
              · (intro w hSw; obtain ⟨y0, ⟨y1, y2, y3, y4⟩, y5⟩ := hSw; go_simp; try with_reducible rfl)
              try simp only [Act.put, List.getElem_toArray, List.getElem_cons_succ, List.getElem_cons_zero, List.setIfInBounds_toArray, List.set_cons_zero, List.set_cons_succ]
              refine wpAnyI_takeN (i := 7) (v := ?_) (by kernel_rfl) rfl (by kernel_rfl) (by kernel_rfl) (by kernel_rfl) (fun _ _ _ h => h) HS (Or.inl ⟨by rfl, ?_⟩) ?_
              rotate_left
              · (intro w hSw; obtain ⟨y0, ⟨y1, y2, y3, y4⟩, y5⟩ := hSw; go_simp; try with_reducible rfl)
              try simp only [Act.put, List.getElem_toArray, List.getElem_cons_succ, List.getElem_cons_zero, List.setIfInBounds_toArray, List.set_cons_zero, List.set_cons_succ]
              refine wpAnyI_takeN (i := 8) (v := ?_) (by kernel_rfl) rfl (by kernel_rfl) (by kernel_rfl) (by kernel_rfl) (fun _ _ _ h => h) HS (Or.inl ⟨by rfl, ?_⟩) ?_
              rotate_left
              · (intro w hSw; obtain ⟨y0, ⟨y1, y2, y3, y4⟩, y5⟩ := hSw; go_simp; try with_reducible rfl)
              try simp only [Act.put, List.getElem_toArray, List.getElem_cons_succ, List.getElem_cons_zero, List.setIfInBounds_toArray, List.set_cons_zero, List.set_cons_succ]
              refine wpAnyI_takeN (i := 9) (v := ?_) (by kernel_rfl) rfl (by kernel_rfl) (by kernel_rfl) (by kernel_rfl) (fun _ _ _ h => h) HS (Or.inl ⟨by rfl, ?_⟩) ?_
              rotate_left
              · (intro w hSw; obtain ⟨y0, ⟨y1, y2, y3, y4⟩, y5⟩ := hSw; go_simp; try with_reducible rfl)
              try simp only [Act.put, List.getElem_toArray, List.getElem_cons_succ, List.getElem_cons_zero, List.setIfInBounds_toArray, List.set_cons_zero, List.set_cons_succ]
              refine wpAnyI_one (i := 10) rfl (by kernel_rfl) (fun K hK => ?_)
              dsimp only [List.getElem_toArray, List.getElem_cons_succ, List.getElem_cons_zero]
              go_simp
              refine (HRow.out _ Kx.out).mono ?_
              rintro e wn ⟨rfl, kn⟩
              have HS := hS7.out _ (Kx.out.trans kn)
              have kn' : Hid (Keeps [] w0 wn) := Lib.hid (hkw.out.trans (Kx.out.trans kn))
              rw [hb.out]
              refine hK _ _ (Or.inr HS) ?_
              clear hK K kn
              try simp only [Act.put, List.getElem_toArray, List.getElem_cons_succ, List.getElem_cons_zero, List.setIfInBounds_toArray, List.set_cons_zero, List.set_cons_succ]
              refine wpAnyI_one (i := 11) rfl (by kernel_rfl) (fun K hK => ?_)
              dsimp only [List.getElem_toArray, List.getElem_cons_succ, List.getElem_cons_zero]
              go_simp
              refine hK _ _ (Or.inr HS) ?_
              clear hK K
              try simp only [Act.put, List.getElem_toArray, List.getElem_cons_succ, List.getElem_cons_zero, List.setIfInBounds_toArray, List.set_cons_zero, List.set_cons_succ]
              refine wpAnyI_done (by kernel_rfl) ?_ _
              go_wp2_with fail
              go_ret
              exact hbad.out _ (k0.out.trans kn'.out)
            · have hb : Hid (decide (ch.new = c.old) = true) := Lib.hid (hsame.out.trans hb0)
              have hT := Lib.hid (hT0.out hb0)
              clear hbad hT0 hb0
              refine wp_region_I (S := (fun w' : World => w'.cell? ⟨gl, 0, none⟩ = some (.slice (some ⟨ga, 0, none⟩) n cc) ∧ (w'.cell? ⟨g3, 0, none⟩ = some (.int .i64 t) ∧ w'.cell? ⟨g3, 1, none⟩ = some (.int .i64 id) ∧ w'.cell? ⟨g3, 2, none⟩ = some (.slice Ao no co) ∧ w'.cell? ⟨g3, 3, none⟩ = some (.slice An nn cn)) ∧ w'.cell? ⟨ga, q * 4 + 3, none⟩ = some (.slice Bn' mn dn))) (n := 12) (by kernel_rfl) ?_
              have Kx : Hid (Keeps [] wo (wo.drewN nq).drew) := Lib.hid ((Keeps.refl [] wo).drewN nq).drew
              generalize (wo.drewN nq).drew = wc at *
              have HS := hS7.out wc Kx.out
              refine wpAnyI_takeN (i := 0) (v := ?_) (by kernel_rfl) rfl (by kernel_rfl) (by kernel_rfl) (by kernel_rfl) (fun _ _ _ h => h) HS (Or.inl ⟨by rfl, ?_⟩) ?_
              rotate_left
              · (intro w hSw; obtain ⟨y0, ⟨y1, y2, y3, y4⟩, y5⟩ := hSw; go_simp; try with_reducible rfl)
              try simp only [Act.put, List.getElem_toArray, List.getElem_cons_succ, List.getElem_cons_zero, List.setIfInBounds_toArray, List.set_cons_zero, List.set_cons_succ]
              refine wpAnyI_takeN (i := 1) (v := ?_) (by kernel_rfl) rfl (by kernel_rfl) (by kernel_rfl) (by kernel_rfl) (fun _ _ _ h => h) HS (Or.inl ⟨by rfl, ?_⟩) ?_
              rotate_left
              · (intro w hSw; obtain ⟨y0, ⟨y1, y2, y3, y4⟩, y5⟩ := hSw; go_simp; try with_reducible rfl)
              try simp only [Act.put, List.getElem_toArray, List.getElem_cons_succ, List.getElem_cons_zero, List.setIfInBounds_toArray, List.set_cons_zero, List.set_cons_succ]
              refine wpAnyI_takeN (i := 2) (v := ?_) (by kernel_rfl) rfl (by kernel_rfl) (by kernel_rfl) (by kernel_rfl) (fun _ _ _ h => h) HS (Or.inl ⟨by rfl, ?_⟩) ?_
              rotate_left
              · (intro w hSw; obtain ⟨y0, ⟨y1, y2, y3, y4⟩, y5⟩ := hSw; go_simp; try with_reducible rfl)
              try simp only [Act.put, List.getElem_toArray, List.getElem_cons_succ, List.getElem_cons_zero, List.setIfInBounds_toArray, List.set_cons_zero, List.set_cons_succ]
              refine wpAnyI_takeN (i := 3) (v := ?_) (by kernel_rfl) rfl (by kernel_rfl) (by kernel_rfl) (by kernel_rfl) (fun _ _ _ h => h) HS (Or.inl ⟨by rfl, ?_⟩) ?_
              rotate_left
              · (intro w hSw; obtain ⟨y0, ⟨y1, y2, y3, y4⟩, y5⟩ := hSw; go_simp; try with_reducible rfl)
              try simp only [Act.put, List.getElem_toArray, List.getElem_cons_succ, List.getElem_cons_zero, List.setIfInBounds_toArray, List.set_cons_zero, List.set_cons_succ]
              refine wpAnyI_takeN (i := 4) (v := ?_) (by kernel_rfl) rfl (by kernel_rfl) (by kernel_rfl) (by kernel_rfl) (fun _ _ _ h => h) HS (Or.inl ⟨by rfl, ?_⟩) ?_
              rotate_left
              · (intro w hSw; obtain ⟨y0, ⟨y1, y2, y3, y4⟩, y5⟩ := hSw; go_simp; try with_reducible rfl)
              try simp only [Act.put, List.getElem_toArray, List.getElem_cons_succ, List.getElem_cons_zero, List.setIfInBounds_toArray, List.set_cons_zero, List.set_cons_succ]
              refine wpAnyI_takeN (i := 5) (v := ?_) (by kernel_rfl) rfl (by kernel_rfl) (by kernel_rfl) (by kernel_rfl) (fun _ _ _ h => h) HS (Or.inl ⟨by rfl, ?_⟩) ?_
              rotate_left
              · (intro w hSw; obtain ⟨y0, ⟨y1, y2, y3, y4⟩, y5⟩ := hSw; go_simp; try with_reducible rfl)
              try simp only [Act.put, List.getElem_toArray, List.getElem_cons_succ, List.getElem_cons_zero, List.setIfInBounds_toArray, List.set_cons_zero, List.set_cons_succ]
              refine wpAnyI_takeN (i := 6) (v := ?_) (by kernel_rfl) rfl (by kernel_rfl) (by kernel_rfl) (by kernel_rfl) (fun _ _ _ h => h) HS (Or.inl ⟨by rfl, ?_⟩) ?_
              rotate_left
              · (intro w hSw; obtain ⟨y0, ⟨y1, y2, y3, y4⟩, y5⟩ := hSw; go_simp; try with_reducible rfl)
              try simp only [Act.put, List.getElem_toArray, List.getElem_cons_succ, List.getElem_cons_zero, List.setIfInBounds_toArray, List.set_cons_zero, List.set_cons_succ]
              refine wpAnyI_takeN (i := 7) (v := ?_) (by kernel_rfl) rfl (by kernel_rfl) (by kernel_rfl) (by kernel_rfl) (fun _ _ _ h => h) HS (Or.inl ⟨by rfl, ?_⟩) ?_
              rotate_left
              · (intro w hSw; obtain ⟨y0, ⟨y1, y2, y3, y4⟩, y5⟩ := hSw; go_simp; try with_reducible rfl)
              try simp only [Act.put, List.getElem_toArray, List.getElem_cons_succ, List.getElem_cons_zero, List.setIfInBounds_toArray, List.set_cons_zero, List.set_cons_succ]
              refine wpAnyI_takeN (i := 8) (v := ?_) (by kernel_rfl) rfl (by kernel_rfl) (by kernel_rfl) (by kernel_rfl) (fun _ _ _ h => h) HS (Or.inl ⟨by rfl, ?_⟩) ?_
              rotate_left
              · (intro w hSw; obtain ⟨y0, ⟨y1, y2, y3, y4⟩, y5⟩ := hSw; go_simp; try with_reducible rfl)
              try simp only [Act.put, List.getElem_toArray, List.getElem_cons_succ, List.getElem_cons_zero, List.setIfInBounds_toArray, List.set_cons_zero, List.set_cons_succ]
              refine wpAnyI_takeN (i := 9) (v := ?_) (by kernel_rfl) rfl (by kernel_rfl) (by kernel_rfl) (by kernel_rfl) (fun _ _ _ h => h) HS (Or.inl ⟨by rfl, ?_⟩) ?_
              rotate_left
              · (intro w hSw; obtain ⟨y0, ⟨y1, y2, y3, y4⟩, y5⟩ := hSw; go_simp; try with_reducible rfl)
              try simp only [Act.put, List.getElem_toArray, List.getElem_cons_succ, List.getElem_cons_zero, List.setIfInBounds_toArray, List.set_cons_zero, List.set_cons_succ]
              refine wpAnyI_one (i := 10) rfl (by kernel_rfl) (fun K hK => ?_)
              dsimp only [List.getElem_toArray, List.getElem_cons_succ, List.getElem_cons_zero]
              go_simp
              refine (HRow.out _ Kx.out).mono ?_
              rintro e wn ⟨rfl, kn⟩
              have HS := hS7.out _ (Kx.out.trans kn)
              have kn' : Hid (Keeps [] w0 wn) := Lib.hid (hkw.out.trans (Kx.out.trans kn))
              rw [hb.out]
              refine hK _ _ (Or.inr HS) ?_
              clear hK K kn
              try simp only [Act.put, List.getElem_toArray, List.getElem_cons_succ, List.getElem_cons_zero, List.setIfInBounds_toArray, List.set_cons_zero, List.set_cons_succ]
              refine wpAnyI_one (i := 11) rfl (by kernel_rfl) (fun K hK => ?_)
              dsimp only [List.getElem_toArray, List.getElem_cons_succ, List.getElem_cons_zero]
              go_simp
              refine hK _ _ (Or.inr HS) ?_
              clear hK K
              try simp only [Act.put, List.getElem_toArray, List.getElem_cons_succ, List.getElem_cons_zero, List.setIfInBounds_toArray, List.set_cons_zero, List.set_cons_succ]
              refine wpAnyI_done (by kernel_rfl) ?_ _
              go_wp2_with fail
              obtain ⟨A, hA⟩ : ∃ A : Option Addr, A = some ⟨ga, 0, none⟩ := ⟨_, rfl⟩
              rw [← hA] at hT hOw0 hcell
              clear hS7 HS HRow z0 c0 c1 c3 hA
              generalize wn = W9 at *
              have hk9 := kn'
              have hb9 : Hid (b ≤ W9.heap.size) := Lib.hid (Nat.le_trans hb0'.out (k0.out.trans hk9.out).size)
              have hOw : Hid (∀ wr, Keeps [] W9 wr → wr.ownsRow b 35 4 (.slice A n cc) n (flatC R)) := Lib.hid (fun wr k => hOw0.out wr ((k0.out.trans hk9.out).trans k))
              have hS9 : Hid (∀ wr, Keeps [] W9 wr → wr.cell? ⟨gl, 0, none⟩ = some (.slice A n cc) ∧ wr.cell? ⟨g3, 0, none⟩ = some (.int .i64 t) ∧ wr.cell? ⟨g3, 1, none⟩ = some (.int .i64 id) ∧ wr.cell? ⟨g3, 2, none⟩ = some (.slice Ao no co) ∧ wr.cell? ⟨g3, 3, none⟩ = some (.slice An nn cn)) := Lib.hid (fun wr k => have := hcell.out wr (hk9.out.trans k); this)
              refine wp_region_J (S := (fun w' : World => w'.cell? ⟨gl, 0, none⟩ = some (.slice A n cc) ∧ w'.cell? ⟨g3, 0, none⟩ = some (.int .i64 t) ∧ w'.cell? ⟨g3, 1, none⟩ = some (.int .i64 id) ∧ w'.cell? ⟨g3, 2, none⟩ = some (.slice Ao no co) ∧ w'.cell? ⟨g3, 3, none⟩ = some (.slice An nn cn))) (n := 10) (by kernel_rfl) ?_
              have HS := hS9.out W9.drew (Keeps.refl [] W9).drew
              replace hS9 : Hid (∀ wr, Keeps [] W9.drew wr → _) := Lib.hid (fun wr k => hS9.out wr ((Keeps.refl [] W9).drew.trans k))
              replace hOw : Hid (∀ wr, Keeps [] W9.drew wr → _) := Lib.hid (fun wr k => hOw.out wr ((Keeps.refl [] W9).drew.trans k))
              have hb3 : Hid (b ≤ W9.drew.heap.size) := Lib.hid hb9.out
              have hkd : Hid (Keeps [] w0 W9.drew) := Lib.hid hk9.out.drew
              generalize W9.drew = wd at *
              refine wpAnyJ_take (i := 0) (v := ?_) (by kernel_rfl) rfl (by kernel_rfl) (by kernel_rfl) (by kernel_rfl) (fun _ _ _ h => h) HS (Or.inl ⟨by rfl, ?_⟩) ?_
              rotate_left
              · (intro w hSw; obtain ⟨y0, y1, y2, y3, y4⟩ := hSw; go_simp; try with_reducible rfl)
              try simp only [Act.put, List.getElem_toArray, List.getElem_cons_succ, List.getElem_cons_zero, List.setIfInBounds_toArray, List.set_cons_zero, List.set_cons_succ]
              refine wpAnyJ_take (i := 1) (v := ?_) (by kernel_rfl) rfl (by kernel_rfl) (by kernel_rfl) (by kernel_rfl) (fun _ _ _ h => h) HS (Or.inl ⟨by rfl, ?_⟩) ?_
              rotate_left
              · (intro w hSw; obtain ⟨y0, y1, y2, y3, y4⟩ := hSw; go_simp; try with_reducible rfl)
              try simp only [Act.put, List.getElem_toArray, List.getElem_cons_succ, List.getElem_cons_zero, List.setIfInBounds_toArray, List.set_cons_zero, List.set_cons_succ]
              refine wpAnyJ_take (i := 2) (v := ?_) (by kernel_rfl) rfl (by kernel_rfl) (by kernel_rfl) (by kernel_rfl) (fun _ _ _ h => h) HS (Or.inl ⟨by rfl, ?_⟩) ?_
              rotate_left
              · (intro w hSw; obtain ⟨y0, y1, y2, y3, y4⟩ := hSw; go_simp; try with_reducible rfl)
              try simp only [Act.put, List.getElem_toArray, List.getElem_cons_succ, List.getElem_cons_zero, List.setIfInBounds_toArray, List.set_cons_zero, List.set_cons_succ]
              refine wpAnyJ_take (i := 3) (v := ?_) (by kernel_rfl) rfl (by kernel_rfl) (by kernel_rfl) (by kernel_rfl) (fun _ _ _ h => h) HS (Or.inl ⟨by rfl, ?_⟩) ?_
              rotate_left
              · (intro w hSw; obtain ⟨y0, y1, y2, y3, y4⟩ := hSw; go_simp; try with_reducible rfl)
              try simp only [Act.put, List.getElem_toArray, List.getElem_cons_succ, List.getElem_cons_zero, List.setIfInBounds_toArray, List.set_cons_zero, List.set_cons_succ]
              refine wpAnyJ_take (i := 4) (v := ?_) (by kernel_rfl) rfl (by kernel_rfl) (by kernel_rfl) (by kernel_rfl) (fun _ _ _ h => h) HS (Or.inl ⟨by rfl, ?_⟩) ?_
              rotate_left
              · (intro w hSw; obtain ⟨y0, y1, y2, y3, y4⟩ := hSw; go_simp; try with_reducible rfl)
              try simp only [Act.put, List.getElem_toArray, List.getElem_cons_succ, List.getElem_cons_zero, List.setIfInBounds_toArray, List.set_cons_zero, List.set_cons_succ]
              refine wpAnyJ_take (i := 5) (v := ?_) (by kernel_rfl) rfl (by kernel_rfl) (by kernel_rfl) (by kernel_rfl) (fun _ _ _ h => h) HS (Or.inl ⟨by rfl, ?_⟩) ?_
              rotate_left
              · (intro w hSw; obtain ⟨y0, y1, y2, y3, y4⟩ := hSw; go_simp; try with_reducible rfl)
              try simp only [Act.put, List.getElem_toArray, List.getElem_cons_succ, List.getElem_cons_zero, List.setIfInBounds_toArray, List.set_cons_zero, List.set_cons_succ]
              refine wpAnyJ_one (i := 6) rfl (by kernel_rfl) (fun K hK => ?_)
              dsimp only [List.getElem_toArray, List.getElem_cons_succ, List.getElem_cons_zero]
              go_simp
              have ka : Keeps [] wd (wd.alloc (.cells #[.int .i64 t, .int .i64 id, .slice Ao no co, .slice An nn cn] 35)) := (Keeps.refl [] wd).alloc _
              have Bn := Lib.hid (Blk.new wd 35 #[.int .i64 t, .int .i64 id, .slice Ao no co, .slice An nn cn])
              have HS := hS9.out _ ka
              have ow := Lib.hid (hOw.out _ ka)
              have hb7 := Lib.hid (Nat.le_trans hb3.out ka.size)
              have k47 : Hid (Keeps [] w0 (wd.alloc (.cells #[.int .i64 t, .int .i64 id, .slice Ao no co, .slice An nn cn] 35))) := Lib.hid (hkd.out.trans ka)
              refine hK _ _ (Or.inr HS) ?_
              clear hK K ka
              obtain ⟨g7, hg7⟩ : ∃ g, g = wd.heap.size := ⟨_, rfl⟩
              rw [← hg7] at Bn ⊢
              clear hg7
              generalize wd.alloc (.cells #[.int .i64 t, .int .i64 id, .slice Ao no co, .slice An nn cn] 35) = w7 at *
              try simp only [Act.put, List.getElem_toArray, List.getElem_cons_succ, List.getElem_cons_zero, List.setIfInBounds_toArray, List.set_cons_zero, List.set_cons_succ]
              refine wpAnyJ_one (i := 7) rfl (by kernel_rfl) (fun K hK => ?_)
              dsimp only [List.getElem_toArray, List.getElem_cons_succ, List.getElem_cons_zero]
              rw [if_pos (by rfl)]
              refine wp_append_row (.tmp 76) (.tmp 78) 28 (by rfl) b 35 i5 (.agg #[.int .i64 0, .int .i64 0, .slice none 0 0, .slice none 0 0]) 4 64 Try.underlying28 hi5.out hy0.out hy1.out hy2.out rfl (by decide) (.slice A n cc) n (flatC R) (by rfl) ow.out (some ⟨g7, 0, none⟩) 1 1 [.int .i64 t, .int .i64 id, .slice Ao no co, .slice An nn cn] (by rfl) rfl (src_raw (r := ⟨t, id, Ao, no, co, An, nn, cn⟩) Bn.out) (by simp [Value.oneCell']) (by have := hnL.out; unfold maxLen; omega) (by have := hnL.out; omega) hb7.out ?_
              intro v8 w8 q1 q2 q3 q4
              obtain ⟨A8, c8, rfl, _⟩ := own_slice q1.out
              obtain ⟨y0, yb, fz, hfin⟩ := hT.out w7 w8 _ k47 q1 q2 q4
              have HS : _ ∧ _ := ⟨y0, yb⟩
              refine hK _ _ (Or.inr HS) ?_
              clear hK K q1 q2 q3 q4 ow k47
              try simp only [Act.put, List.getElem_toArray, List.getElem_cons_succ, List.getElem_cons_zero, List.setIfInBounds_toArray, List.set_cons_zero, List.set_cons_succ]
              refine wpAnyJ_one (i := 8) rfl (by kernel_rfl) (fun K hK => ?_)
              dsimp only [List.getElem_toArray, List.getElem_cons_succ, List.getElem_cons_zero]
              go_simp
              refine hK _ _ (Or.inr HS) ?_
              clear hK K
              try simp only [Act.put, List.getElem_toArray, List.getElem_cons_succ, List.getElem_cons_zero, List.setIfInBounds_toArray, List.set_cons_zero, List.set_cons_succ]
              refine wpAnyJ_one (i := 9) rfl (by kernel_rfl) (fun K hK => ?_)
              dsimp only [List.getElem_toArray, List.getElem_cons_succ, List.getElem_cons_zero]
              go_simp
              refine hK _ _ (Or.inr HS) ?_
              clear hK K
              try simp only [Act.put, List.getElem_toArray, List.getElem_cons_succ, List.getElem_cons_zero, List.setIfInBounds_toArray, List.set_cons_zero, List.set_cons_succ]
              refine wpAnyJ_one (i := 10) rfl (by kernel_rfl) (fun K hK => ?_)
              dsimp only [List.getElem_toArray, List.getElem_cons_succ, List.getElem_cons_zero]
              go_simp
              refine hK _ _ (Or.inl (by omega)) ?_
              clear hK K
              try simp only [Act.put, List.getElem_toArray, List.getElem_cons_succ, List.getElem_cons_zero, List.setIfInBounds_toArray, List.set_cons_zero, List.set_cons_succ]
              refine wpAnyJ_done (by kernel_rfl) ?_ _

              go_wp2_with fail
              go_ret
              exact hfin.out
          · have b2 : (mi == id) = false := by simpa using e2
            have hm := Lib.hid (hnext.out (by rw [hhit.out, decide_eq_false e2]; simp))
            obtain rfl := e1.symm
            replace e2 := Lib.hid e2
            replace hch := Lib.hid hch
            go_wp2_with fail
            go_quiet (fail)
            go_wp2_with fail
            go_roundw
            case rel => exact ⟨j + 1, by omega, by go_num, hm, Lib.hid (hkw.out.drewN _)⟩
            case measure => simp [intOf]; omega
        · have b1 : (mt == t) = false := by simpa using e1
          have hm := Lib.hid (hnext.out (by rw [hhit.out, decide_eq_false e1]; rfl))
          replace e1 := Lib.hid e1
          replace hch := Lib.hid hch
          go_wp2_with fail
          go_quiet (fail)
          go_wp2_with fail
          go_roundw
          case rel => exact ⟨j + 1, by omega, by go_num, hm, Lib.hid (hkw.out.drewN _)⟩
          case measure => simp [intOf]; omega
      · obtain rfl : j = n := by omega
        have hb0 := fits_none (c := c) (L := L) (fun x hx => hmiss.out x (by rw [Nat.sub_self]; exact hx))
        have hT := Lib.hid (hT0.out hb0)
        have hneg : ¬ ((0 : Int) ≤ (j : Int) - 1 - (j : Int)) := by omega
        clear hbad hT0 hb0 z0 z1 z2 z3 z4
        go_wp2_with fail
        generalize wo = W9 at *
        have hk9 := hkw
        have hb9 : Hid (b ≤ W9.heap.size) := Lib.hid (Nat.le_trans hb0'.out (k0.out.trans hk9.out).size)
        have hOw : Hid (∀ wr, Keeps [] W9 wr → wr.ownsRow b 35 4 (.slice A j cc) j (flatC R)) := Lib.hid (fun wr k => hOw0.out wr ((k0.out.trans hk9.out).trans k))
        have hS9 : Hid (∀ wr, Keeps [] W9 wr → wr.cell? ⟨gl, 0, none⟩ = some (.slice A j cc) ∧ wr.cell? ⟨g3, 0, none⟩ = some (.int .i64 t) ∧ wr.cell? ⟨g3, 1, none⟩ = some (.int .i64 id) ∧ wr.cell? ⟨g3, 2, none⟩ = some (.slice Ao no co) ∧ wr.cell? ⟨g3, 3, none⟩ = some (.slice An nn cn)) := Lib.hid (fun wr k => have := hcell.out wr (hk9.out.trans k); this)
        refine wp_region_J (S := (fun w' : World => w'.cell? ⟨gl, 0, none⟩ = some (.slice A j cc) ∧ w'.cell? ⟨g3, 0, none⟩ = some (.int .i64 t) ∧ w'.cell? ⟨g3, 1, none⟩ = some (.int .i64 id) ∧ w'.cell? ⟨g3, 2, none⟩ = some (.slice Ao no co) ∧ w'.cell? ⟨g3, 3, none⟩ = some (.slice An nn cn))) (n := 10) (by kernel_rfl) ?_
        have HS := hS9.out W9.drew (Keeps.refl [] W9).drew
        replace hS9 : Hid (∀ wr, Keeps [] W9.drew wr → _) := Lib.hid (fun wr k => hS9.out wr ((Keeps.refl [] W9).drew.trans k))
        replace hOw : Hid (∀ wr, Keeps [] W9.drew wr → _) := Lib.hid (fun wr k => hOw.out wr ((Keeps.refl [] W9).drew.trans k))
        have hb3 : Hid (b ≤ W9.drew.heap.size) := Lib.hid hb9.out
        have hkd : Hid (Keeps [] w0 W9.drew) := Lib.hid hk9.out.drew
        generalize W9.drew = wd at *
        refine wpAnyJ_take (i := 0) (v := ?_) (by kernel_rfl) rfl (by kernel_rfl) (by kernel_rfl) (by kernel_rfl) (fun _ _ _ h => h) HS (Or.inl ⟨by rfl, ?_⟩) ?_
        rotate_left
        · (intro w hSw; obtain ⟨y0, y1, y2, y3, y4⟩ := hSw; go_simp; try with_reducible rfl)
        try simp only [Act.put, List.getElem_toArray, List.getElem_cons_succ, List.getElem_cons_zero, List.setIfInBounds_toArray, List.set_cons_zero, List.set_cons_succ]
        refine wpAnyJ_take (i := 1) (v := ?_) (by kernel_rfl) rfl (by kernel_rfl) (by kernel_rfl) (by kernel_rfl) (fun _ _ _ h => h) HS (Or.inl ⟨by rfl, ?_⟩) ?_
        rotate_left
        · (intro w hSw; obtain ⟨y0, y1, y2, y3, y4⟩ := hSw; go_simp; try with_reducible rfl)
        try simp only [Act.put, List.getElem_toArray, List.getElem_cons_succ, List.getElem_cons_zero, List.setIfInBounds_toArray, List.set_cons_zero, List.set_cons_succ]
        refine wpAnyJ_take (i := 2) (v := ?_) (by kernel_rfl) rfl (by kernel_rfl) (by kernel_rfl) (by kernel_rfl) (fun _ _ _ h => h) HS (Or.inl ⟨by rfl, ?_⟩) ?_
        rotate_left
        · (intro w hSw; obtain ⟨y0, y1, y2, y3, y4⟩ := hSw; go_simp; try with_reducible rfl)
        try simp only [Act.put, List.getElem_toArray, List.getElem_cons_succ, List.getElem_cons_zero, List.setIfInBounds_toArray, List.set_cons_zero, List.set_cons_succ]
        refine wpAnyJ_take (i := 3) (v := ?_) (by kernel_rfl) rfl (by kernel_rfl) (by kernel_rfl) (by kernel_rfl) (fun _ _ _ h => h) HS (Or.inl ⟨by rfl, ?_⟩) ?_
        rotate_left
        · (intro w hSw; obtain ⟨y0, y1, y2, y3, y4⟩ := hSw; go_simp; try with_reducible rfl)
        try simp only [Act.put, List.getElem_toArray, List.getElem_cons_succ, List.getElem_cons_zero, List.setIfInBounds_toArray, List.set_cons_zero, List.set_cons_succ]
        refine wpAnyJ_take (i := 4) (v := ?_) (by kernel_rfl) rfl (by kernel_rfl) (by kernel_rfl) (by kernel_rfl) (fun _ _ _ h => h) HS (Or.inl ⟨by rfl, ?_⟩) ?_
        rotate_left
        · (intro w hSw; obtain ⟨y0, y1, y2, y3, y4⟩ := hSw; go_simp; try with_reducible rfl)
        try simp only [Act.put, List.getElem_toArray, List.getElem_cons_succ, List.getElem_cons_zero, List.setIfInBounds_toArray, List.set_cons_zero, List.set_cons_succ]
        refine wpAnyJ_take (i := 5) (v := ?_) (by kernel_rfl) rfl (by kernel_rfl) (by kernel_rfl) (by kernel_rfl) (fun _ _ _ h => h) HS (Or.inl ⟨by rfl, ?_⟩) ?_
        rotate_left
        · (intro w hSw; obtain ⟨y0, y1, y2, y3, y4⟩ := hSw; go_simp; try with_reducible rfl)
        try simp only [Act.put, List.getElem_toArray, List.getElem_cons_succ, List.getElem_cons_zero, List.setIfInBounds_toArray, List.set_cons_zero, List.set_cons_succ]
        refine wpAnyJ_one (i := 6) rfl (by kernel_rfl) (fun K hK => ?_)
        dsimp only [List.getElem_toArray, List.getElem_cons_succ, List.getElem_cons_zero]
        go_simp
        have ka : Keeps [] wd (wd.alloc (.cells #[.int .i64 t, .int .i64 id, .slice Ao no co, .slice An nn cn] 35)) := (Keeps.refl [] wd).alloc _
        have Bn := Lib.hid (Blk.new wd 35 #[.int .i64 t, .int .i64 id, .slice Ao no co, .slice An nn cn])
        have HS := hS9.out _ ka
        have ow := Lib.hid (hOw.out _ ka)
        have hb7 := Lib.hid (Nat.le_trans hb3.out ka.size)
        have k47 : Hid (Keeps [] w0 (wd.alloc (.cells #[.int .i64 t, .int .i64 id, .slice Ao no co, .slice An nn cn] 35))) := Lib.hid (hkd.out.trans ka)
        refine hK _ _ (Or.inr HS) ?_
        clear hK K ka
        obtain ⟨g7, hg7⟩ : ∃ g, g = wd.heap.size := ⟨_, rfl⟩
        rw [← hg7] at Bn ⊢
        clear hg7
        generalize wd.alloc (.cells #[.int .i64 t, .int .i64 id, .slice Ao no co, .slice An nn cn] 35) = w7 at *
        try simp only [Act.put, List.getElem_toArray, List.getElem_cons_succ, List.getElem_cons_zero, List.setIfInBounds_toArray, List.set_cons_zero, List.set_cons_succ]
        refine wpAnyJ_one (i := 7) rfl (by kernel_rfl) (fun K hK => ?_)
        dsimp only [List.getElem_toArray, List.getElem_cons_succ, List.getElem_cons_zero]
        rw [if_pos (by rfl)]
        refine wp_append_row (.tmp 76) (.tmp 78) 28 (by rfl) b 35 i5 (.agg #[.int .i64 0, .int .i64 0, .slice none 0 0, .slice none 0 0]) 4 64 Try.underlying28 hi5.out hy0.out hy1.out hy2.out rfl (by decide) (.slice A j cc) j (flatC R) (by rfl) ow.out (some ⟨g7, 0, none⟩) 1 1 [.int .i64 t, .int .i64 id, .slice Ao no co, .slice An nn cn] (by rfl) rfl (src_raw (r := ⟨t, id, Ao, no, co, An, nn, cn⟩) Bn.out) (by simp [Value.oneCell']) (by have := hnL.out; unfold maxLen; omega) (by have := hnL.out; omega) hb7.out ?_
        intro v8 w8 q1 q2 q3 q4
        obtain ⟨A8, c8, rfl, _⟩ := own_slice q1.out
        obtain ⟨y0, yb, fz, hfin⟩ := hT.out w7 w8 _ k47 q1 q2 q4
        have HS : _ ∧ _ := ⟨y0, yb⟩
        refine hK _ _ (Or.inr HS) ?_
        clear hK K q1 q2 q3 q4 ow k47
        try simp only [Act.put, List.getElem_toArray, List.getElem_cons_succ, List.getElem_cons_zero, List.setIfInBounds_toArray, List.set_cons_zero, List.set_cons_succ]
        refine wpAnyJ_one (i := 8) rfl (by kernel_rfl) (fun K hK => ?_)
        dsimp only [List.getElem_toArray, List.getElem_cons_succ, List.getElem_cons_zero]
        go_simp
        refine hK _ _ (Or.inr HS) ?_
        clear hK K
        try simp only [Act.put, List.getElem_toArray, List.getElem_cons_succ, List.getElem_cons_zero, List.setIfInBounds_toArray, List.set_cons_zero, List.set_cons_succ]
        refine wpAnyJ_one (i := 9) rfl (by kernel_rfl) (fun K hK => ?_)
        dsimp only [List.getElem_toArray, List.getElem_cons_succ, List.getElem_cons_zero]
        go_simp
        refine hK _ _ (Or.inr HS) ?_
        clear hK K
        try simp only [Act.put, List.getElem_toArray, List.getElem_cons_succ, List.getElem_cons_zero, List.setIfInBounds_toArray, List.set_cons_zero, List.set_cons_succ]
        refine wpAnyJ_one (i := 10) rfl (by kernel_rfl) (fun K hK => ?_)
        dsimp only [List.getElem_toArray, List.getElem_cons_succ, List.getElem_cons_zero]
        go_simp
        refine hK _ _ (Or.inl (by omega)) ?_
        clear hK K
        try simp only [Act.put, List.getElem_toArray, List.getElem_cons_succ, List.getElem_cons_zero, List.setIfInBounds_toArray, List.set_cons_zero, List.set_cons_succ]
        refine wpAnyJ_done (by kernel_rfl) ?_ _

        go_wp2_with fail
        go_ret
        exact hfin.out
  · have d3 : ((no : Int) == 0) = false := by simpa using (by omega : ¬ (no : Int) = 0)
    have hz0' : ¬ (no : Int) = 0 := by omega
    clear hz hz0
    go_enter Try.func14, Try.ntmps14
    have z0 := (hcell.out _ (Keeps.refl [] w0)).1
    rw [hw0] at z0
    replace hw0 := Lib.hid hw0
    replace hg3 := Lib.hid hg3
    go_wp2_with fail
    clear z0
    rw [← hw0.out, ← hg3.out]
    go_loopw [5] (fun i wr => ∃ j : Nat, j ≤ n ∧ i = .int .i64 ((n : Int) - 1 - (j : Int)) ∧ Hid (∀ x ∈ L.drop (n - j), hits c x = false) ∧ Hid (Keeps [] w0 wr)) (fun i _ => (intOf i + 1).toNat)
    case atStart => exact ⟨0, Nat.zero_le _, by simp, Lib.hid (by rw [Nat.sub_zero, hn.out, List.drop_length]; simp), Lib.hid (Keeps.refl _ _)⟩
    case round =>
      obtain ⟨j, hj, rfl, hmiss, hkw⟩ := hrel
      obtain ⟨wo, hwo⟩ : ∃ x, x = wr := ⟨_, rfl⟩
      subst hwo
      obtain ⟨z0, z1, z2, z3, z4⟩ := hcell.out _ hkw.out
      by_cases hlt : j < n
      · obtain ⟨q, hq⟩ : ∃ q : Nat, (n : Int) - 1 - (j : Int) = (q : Int) := ⟨n - 1 - j, by omega⟩
        have hqn : q < n ∧ n - j = q + 1 ∧ n - (j + 1) = q := by omega
        rw [hq]
        obtain ⟨ch, hch⟩ : ∃ c, L[q]? = some c := ⟨L[q]'(by rw [← hn.out]; omega), List.getElem?_eq_getElem _⟩
        obtain ⟨ga, ⟨mt, mi, Bo', mo, do', Bn', mn, dn⟩, rfl, ⟨c0, c1, c3⟩, hraw⟩ := hel.out _ (k0.out.trans hkw.out) q ch hch
        dsimp only at c0 c1 c3
        have hqi : (q : Int) < (n : Int) := by omega
        have hq0 : (0 : Int) ≤ (q : Int) := by omega
        have hqw : IntKind.i64.wrap ((q : Int) - 1) = (n : Int) - 1 - ((j : Int) + 1) := by rw [IntWalk.i64_in _ (by omega)]; omega
        have hhit : Hid (hits c ch = (decide (mt = t) && decide (mi = id))) := Lib.hid (by
          unfold hits
          have h1 := hraw.out.t
          have h2 := hraw.out.id
          dsimp only at h1 h2
          rw [← h1, ← h2, ht.out, hid.out])
        have hnext : Hid (hits c ch = false → ∀ x ∈ L.drop (n - (j + 1)), hits c x = false) := Lib.hid (fun hh x hx => by
          rw [hqn.2.2, drop_snoc hch] at hx
          rcases List.mem_cons.1 hx with rfl | hx
          · exact hh
          · exact hmiss.out x (by rw [hqn.2.1]; exact hx))
        by_cases e1 : mt = t
        · have b1 : (mt == t) = true := by simpa using e1
          by_cases e2 : mi = id
          · have b2 : (mi == id) = true := by simpa using e2
            have hfit := Lib.hid (fits_split hch (by rw [← hqn.2.1]; exact hmiss.out) (by rw [hhit.out, decide_eq_true e1, decide_eq_true e2]; rfl))
            have hS7 : Hid (∀ w', Keeps [] wo w' → (fun w' : World => w'.cell? ⟨gl, 0, none⟩ = some (.slice (some ⟨ga, 0, none⟩) n cc) ∧ (w'.cell? ⟨g3, 0, none⟩ = some (.int .i64 t) ∧ w'.cell? ⟨g3, 1, none⟩ = some (.int .i64 id) ∧ w'.cell? ⟨g3, 2, none⟩ = some (.slice Ao no co) ∧ w'.cell? ⟨g3, 3, none⟩ = some (.slice An nn cn)) ∧ w'.cell? ⟨ga, q * 4 + 3, none⟩ = some (.slice Bn' mn dn)) w') := Lib.hid (fun w' k => by
              have kk := k
              obtain ⟨x0, x1⟩ := hcell.out _ (hkw.out.trans kk)
              exact ⟨x0, x1, kk.cellEq c3 (by simp)⟩)
            have HRow : Hid (∀ w', Keeps [] wo w' → Calls Try.prog 32 #[.slice Bn' mn dn, .slice Ao no co] w' fun e w'' => e = .returned (.bool (decide (ch.new = c.old))) ∧ Keeps [] w' w'') := Lib.hid (fun w' k => by
              have kk := (k0.out.trans hkw.out).trans k
              exact rows_any w' X X Bn' Ao ch.new c.old mn dn no co hraw.out.nn hno.out (hraw.out.new.keep kk (by simp)) (hcr.out.old.keep kk (by simp)) (by have := (hsm.out ch (List.mem_of_getElem? hch)).2; have := hraw.out.nn; dsimp only at this; omega))
            have hsame : Hid (decide (ch.new = c.old) = fits c L.reverse) := Lib.hid hfit.out.symm
            replace hch := Lib.hid hch
            obtain rfl := e1.symm
            obtain rfl := e2.symm
            go_wp2_with fail
            go_quiet (fail)
            go_wp2_with fail
            cases hb0 : fits c L.reverse
            · have hb : Hid (decide (ch.new = c.old) = false) := Lib.hid (hsame.out.trans hb0)
              replace hbad := Lib.hid (hbad.out hb0)
              clear hT0
              refine wp_region_I (S := (fun w' : World => w'.cell? ⟨gl, 0, none⟩ = some (.slice (some ⟨ga, 0, none⟩) n cc) ∧ (w'.cell? ⟨g3, 0, none⟩ = some (.int .i64 t) ∧ w'.cell? ⟨g3, 1, none⟩ = some (.int .i64 id) ∧ w'.cell? ⟨g3, 2, none⟩ = some (.slice Ao no co) ∧ w'.cell? ⟨g3, 3, none⟩ = some (.slice An nn cn)) ∧ w'.cell? ⟨ga, q * 4 + 3, none⟩ = some (.slice Bn' mn dn))) (n := 12) (by kernel_rfl) ?_
              have Kx : Hid (Keeps [] wo (wo.drewN nq).drew) := Lib.hid ((Keeps.refl [] wo).drewN nq).drew
              generalize (wo.drewN nq).drew = wc at *
              have HS := hS7.out wc Kx.out
              refine wpAnyI_takeN (i := 0) (v := ?_) (by kernel_rfl) rfl (by kernel_rfl) (by kernel_rfl) (by kernel_rfl) (fun _ _ _ h => h) HS (Or.inl ⟨by rfl, ?_⟩) ?_
              rotate_left
              · (intro w hSw; obtain ⟨y0, ⟨y1, y2, y3, y4⟩, y5⟩ := hSw; go_simp; try with_reducible rfl)
              try simp only [Act.put, List.getElem_toArray, List.getElem_cons_succ, List.getElem_cons_zero, List.setIfInBounds_toArray, List.set_cons_zero, List.set_cons_succ]
              refine wpAnyI_takeN (i := 1) (v := ?_) (by kernel_rfl) rfl (by kernel_rfl) (by kernel_rfl) (by kernel_rfl) (fun _ _ _ h => h) HS (Or.inl ⟨by rfl, ?_⟩) ?_
              rotate_left
              · (intro w hSw; obtain ⟨y0, ⟨y1, y2, y3, y4⟩, y5⟩ := hSw; go_simp; try with_reducible rfl)
              try simp only [Act.put, List.getElem_toArray, List.getElem_cons_succ, List.getElem_cons_zero, List.setIfInBounds_toArray, List.set_cons_zero, List.set_cons_succ]
              refine wpAnyI_takeN (i := 2) (v := ?_) (by kernel_rfl) rfl (by kernel_rfl) (by kernel_rfl) (by kernel_rfl) (fun _ _ _ h => h) HS (Or.inl ⟨by rfl, ?_⟩) ?_
              rotate_left
              · (intro w hSw; obtain ⟨y0, ⟨y1, y2, y3, y4⟩, y5⟩ := hSw; go_simp; try with_reducible rfl)
              try simp only [Act.put, List.getElem_toArray, List.getElem_cons_succ, List.getElem_cons_zero, List.setIfInBounds_toArray, List.set_cons_zero, List.set_cons_succ]
              refine wpAnyI_takeN (i := 3) (v := ?_) (by kernel_rfl) rfl (by kernel_rfl) (by kernel_rfl) (by kernel_rfl) (fun _ _ _ h => h) HS (Or.inl ⟨by rfl, ?_⟩) ?_
              rotate_left
              · (intro w hSw; obtain ⟨y0, ⟨y1, y2, y3, y4⟩, y5⟩ := hSw; go_simp; try with_reducible rfl)
              try simp only [Act.put, List.getElem_toArray, List.getElem_cons_succ, List.getElem_cons_zero, List.setIfInBounds_toArray, List.set_cons_zero, List.set_cons_succ]
              refine wpAnyI_takeN (i := 4) (v := ?_) (by kernel_rfl) rfl (by kernel_rfl) (by kernel_rfl) (by kernel_rfl) (fun _ _ _ h => h) HS (Or.inl ⟨by rfl, ?_⟩) ?_
              rotate_left
              · (intro w hSw; obtain ⟨y0, ⟨y1, y2, y3, y4⟩, y5⟩ := hSw; go_simp; try with_reducible rfl)
              try simp only [Act.put, List.getElem_toArray, List.getElem_cons_succ, List.getElem_cons_zero, List.setIfInBounds_toArray, List.set_cons_zero, List.set_cons_succ]
              refine wpAnyI_takeN (i := 5) (v := ?_) (by kernel_rfl) rfl (by kernel_rfl) (by kernel_rfl) (by kernel_rfl) (fun _ _ _ h => h) HS (Or.inl ⟨by rfl, ?_⟩) ?_
              rotate_left
              · (intro w hSw; obtain ⟨y0, ⟨y1, y2, y3, y4⟩, y5⟩ := hSw; go_simp; try with_reducible rfl)
              try simp only [Act.put, List.getElem_toArray, List.getElem_cons_succ, List.getElem_cons_zero, List.setIfInBounds_toArray, List.set_cons_zero, List.set_cons_succ]
              refine wpAnyI_takeN (i := 6) (v := ?_) (by kernel_rfl) rfl (by kernel_rfl) (by kernel_rfl) (by kernel_rfl) (fun _ _ _ h => h) HS (Or.inl ⟨by rfl, ?_⟩) ?_
              rotate_left
              · (intro w hSw; obtain ⟨y0, ⟨y1, y2, y3, y4⟩, y5⟩ := hSw; go_simp; try with_reducible rfl)
              try simp only [Act.put, List.getElem_toArray, List.getElem_cons_succ, List.getElem_cons_zero, List.setIfInBounds_toArray, List.set_cons_zero, List.set_cons_succ]
              refine wpAnyI_takeN (i := 7) (v := ?_) (by kernel_rfl) rfl (by kernel_rfl) (by kernel_rfl) (by kernel_rfl) (fun _ _ _ h => h) HS (Or.inl ⟨by rfl, ?_⟩) ?_
              rotate_left
              · (intro w hSw; obtain ⟨y0, ⟨y1, y2, y3, y4⟩, y5⟩ := hSw; go_simp; try with_reducible rfl)
              try simp only [Act.put, List.getElem_toArray, List.getElem_cons_succ, List.getElem_cons_zero, List.setIfInBounds_toArray, List.set_cons_zero, List.set_cons_succ]
              refine wpAnyI_takeN (i := 8) (v := ?_) (by kernel_rfl) rfl (by kernel_rfl) (by kernel_rfl) (by kernel_rfl) (fun _ _ _ h => h) HS (Or.inl ⟨by rfl, ?_⟩) ?_
              rotate_left
              · (intro w hSw; obtain ⟨y0, ⟨y1, y2, y3, y4⟩, y5⟩ := hSw; go_simp; try with_reducible rfl)
              try simp only [Act.put, List.getElem_toArray, List.getElem_cons_succ, List.getElem_cons_zero, List.setIfInBounds_toArray, List.set_cons_zero, List.set_cons_succ]
              refine wpAnyI_takeN (i := 9) (v := ?_) (by kernel_rfl) rfl (by kernel_rfl) (by kernel_rfl) (by kernel_rfl) (fun _ _ _ h => h) HS (Or.inl ⟨by rfl, ?_⟩) ?_
              rotate_left
              · (intro w hSw; obtain ⟨y0, ⟨y1, y2, y3, y4⟩, y5⟩ := hSw; go_simp; try with_reducible rfl)
              try simp only [Act.put, List.getElem_toArray, List.getElem_cons_succ, List.getElem_cons_zero, List.setIfInBounds_toArray, List.set_cons_zero, List.set_cons_succ]
              refine wpAnyI_one (i := 10) rfl (by kernel_rfl) (fun K hK => ?_)
              dsimp only [List.getElem_toArray, List.getElem_cons_succ, List.getElem_cons_zero]
              go_simp
              refine (HRow.out _ Kx.out).mono ?_
              rintro e wn ⟨rfl, kn⟩
              have HS := hS7.out _ (Kx.out.trans kn)
              have kn' : Hid (Keeps [] w0 wn) := Lib.hid (hkw.out.trans (Kx.out.trans kn))
              rw [hb.out]
              refine hK _ _ (Or.inr HS) ?_
              clear hK K kn
              try simp only [Act.put, List.getElem_toArray, List.getElem_cons_succ, List.getElem_cons_zero, List.setIfInBounds_toArray, List.set_cons_zero, List.set_cons_succ]
              refine wpAnyI_one (i := 11) rfl (by kernel_rfl) (fun K hK => ?_)
              dsimp only [List.getElem_toArray, List.getElem_cons_succ, List.getElem_cons_zero]
              go_simp
              refine hK _ _ (Or.inr HS) ?_
              clear hK K
              try simp only [Act.put, List.getElem_toArray, List.getElem_cons_succ, List.getElem_cons_zero, List.setIfInBounds_toArray, List.set_cons_zero, List.set_cons_succ]
              refine wpAnyI_done (by kernel_rfl) ?_ _
              go_wp2_with fail
              go_ret
              exact hbad.out _ (k0.out.trans kn'.out)
            · have hb : Hid (decide (ch.new = c.old) = true) := Lib.hid (hsame.out.trans hb0)
              have hT := Lib.hid (hT0.out hb0)
              clear hbad hT0 hb0
              refine wp_region_I (S := (fun w' : World => w'.cell? ⟨gl, 0, none⟩ = some (.slice (some ⟨ga, 0, none⟩) n cc) ∧ (w'.cell? ⟨g3, 0, none⟩ = some (.int .i64 t) ∧ w'.cell? ⟨g3, 1, none⟩ = some (.int .i64 id) ∧ w'.cell? ⟨g3, 2, none⟩ = some (.slice Ao no co) ∧ w'.cell? ⟨g3, 3, none⟩ = some (.slice An nn cn)) ∧ w'.cell? ⟨ga, q * 4 + 3, none⟩ = some (.slice Bn' mn dn))) (n := 12) (by kernel_rfl) ?_
              have Kx : Hid (Keeps [] wo (wo.drewN nq).drew) := Lib.hid ((Keeps.refl [] wo).drewN nq).drew
              generalize (wo.drewN nq).drew = wc at *
              have HS := hS7.out wc Kx.out
              refine wpAnyI_takeN (i := 0) (v := ?_) (by kernel_rfl) rfl (by kernel_rfl) (by kernel_rfl) (by kernel_rfl) (fun _ _ _ h => h) HS (Or.inl ⟨by rfl, ?_⟩) ?_
              rotate_left
              · (intro w hSw; obtain ⟨y0, ⟨y1, y2, y3, y4⟩, y5⟩ := hSw; go_simp; try with_reducible rfl)
              try simp only [Act.put, List.getElem_toArray, List.getElem_cons_succ, List.getElem_cons_zero, List.setIfInBounds_toArray, List.set_cons_zero, List.set_cons_succ]
              refine wpAnyI_takeN (i := 1) (v := ?_) (by kernel_rfl) rfl (by kernel_rfl) (by kernel_rfl) (by kernel_rfl) (fun _ _ _ h => h) HS (Or.inl ⟨by rfl, ?_⟩) ?_
              rotate_left
              · (intro w hSw; obtain ⟨y0, ⟨y1, y2, y3, y4⟩, y5⟩ := hSw; go_simp; try with_reducible rfl)
              try simp only [Act.put, List.getElem_toArray, List.getElem_cons_succ, List.getElem_cons_zero, List.setIfInBounds_toArray, List.set_cons_zero, List.set_cons_succ]
              refine wpAnyI_takeN (i := 2) (v := ?_) (by kernel_rfl) rfl (by kernel_rfl) (by kernel_rfl) (by kernel_rfl) (fun _ _ _ h => h) HS (Or.inl ⟨by rfl, ?_⟩) ?_
              rotate_left
              · (intro w hSw; obtain ⟨y0, ⟨y1, y2, y3, y4⟩, y5⟩ := hSw; go_simp; try with_reducible rfl)
              try simp only [Act.put, List.getElem_toArray, List.getElem_cons_succ, List.getElem_cons_zero, List.setIfInBounds_toArray, List.set_cons_zero, List.set_cons_succ]
              refine wpAnyI_takeN (i := 3) (v := ?_) (by kernel_rfl) rfl (by kernel_rfl) (by kernel_rfl) (by kernel_rfl) (fun _ _ _ h => h) HS (Or.inl ⟨by rfl, ?_⟩) ?_
              rotate_left
              · (intro w hSw; obtain ⟨y0, ⟨y1, y2, y3, y4⟩, y5⟩ := hSw; go_simp; try with_reducible rfl)
              try simp only [Act.put, List.getElem_toArray, List.getElem_cons_succ, List.getElem_cons_zero, List.setIfInBounds_toArray, List.set_cons_zero, List.set_cons_succ]
              refine wpAnyI_takeN (i := 4) (v := ?_) (by kernel_rfl) rfl (by kernel_rfl) (by kernel_rfl) (by kernel_rfl) (fun _ _ _ h => h) HS (Or.inl ⟨by rfl, ?_⟩) ?_
              rotate_left
              · (intro w hSw; obtain ⟨y0, ⟨y1, y2, y3, y4⟩, y5⟩ := hSw; go_simp; try with_reducible rfl)
              try simp only [Act.put, List.getElem_toArray, List.getElem_cons_succ, List.getElem_cons_zero, List.setIfInBounds_toArray, List.set_cons_zero, List.set_cons_succ]
              refine wpAnyI_takeN (i := 5) (v := ?_) (by kernel_rfl) rfl (by kernel_rfl) (by kernel_rfl) (by kernel_rfl) (fun _ _ _ h => h) HS (Or.inl ⟨by rfl, ?_⟩) ?_
              rotate_left
              · (intro w hSw; obtain ⟨y0, ⟨y1, y2, y3, y4⟩, y5⟩ := hSw; go_simp; try with_reducible rfl)
              try simp only [Act.put, List.getElem_toArray, List.getElem_cons_succ, List.getElem_cons_zero, List.setIfInBounds_toArray, List.set_cons_zero, List.set_cons_succ]
              refine wpAnyI_takeN (i := 6) (v := ?_) (by kernel_rfl) rfl (by kernel_rfl) (by kernel_rfl) (by kernel_rfl) (fun _ _ _ h => h) HS (Or.inl ⟨by rfl, ?_⟩) ?_
              rotate_left
              · (intro w hSw; obtain ⟨y0, ⟨y1, y2, y3, y4⟩, y5⟩ := hSw; go_simp; try with_reducible rfl)
              try simp only [Act.put, List.getElem_toArray, List.getElem_cons_succ, List.getElem_cons_zero, List.setIfInBounds_toArray, List.set_cons_zero, List.set_cons_succ]
              refine wpAnyI_takeN (i := 7) (v := ?_) (by kernel_rfl) rfl (by kernel_rfl) (by kernel_rfl) (by kernel_rfl) (fun _ _ _ h => h) HS (Or.inl ⟨by rfl, ?_⟩) ?_
              rotate_left
              · (intro w hSw; obtain ⟨y0, ⟨y1, y2, y3, y4⟩, y5⟩ := hSw; go_simp; try with_reducible rfl)
              try simp only [Act.put, List.getElem_toArray, List.getElem_cons_succ, List.getElem_cons_zero, List.setIfInBounds_toArray, List.set_cons_zero, List.set_cons_succ]
              refine wpAnyI_takeN (i := 8) (v := ?_) (by kernel_rfl) rfl (by kernel_rfl) (by kernel_rfl) (by kernel_rfl) (fun _ _ _ h => h) HS (Or.inl ⟨by rfl, ?_⟩) ?_
              rotate_left
              · (intro w hSw; obtain ⟨y0, ⟨y1, y2, y3, y4⟩, y5⟩ := hSw; go_simp; try with_reducible rfl)
              try simp only [Act.put, List.getElem_toArray, List.getElem_cons_succ, List.getElem_cons_zero, List.setIfInBounds_toArray, List.set_cons_zero, List.set_cons_succ]
              refine wpAnyI_takeN (i := 9) (v := ?_) (by kernel_rfl) rfl (by kernel_rfl) (by kernel_rfl) (by kernel_rfl) (fun _ _ _ h => h) HS (Or.inl ⟨by rfl, ?_⟩) ?_
              rotate_left
              · (intro w hSw; obtain ⟨y0, ⟨y1, y2, y3, y4⟩, y5⟩ := hSw; go_simp; try with_reducible rfl)
              try simp only [Act.put, List.getElem_toArray, List.getElem_cons_succ, List.getElem_cons_zero, List.setIfInBounds_toArray, List.set_cons_zero, List.set_cons_succ]
              refine wpAnyI_one (i := 10) rfl (by kernel_rfl) (fun K hK => ?_)
              dsimp only [List.getElem_toArray, List.getElem_cons_succ, List.getElem_cons_zero]
              go_simp
              refine (HRow.out _ Kx.out).mono ?_
              rintro e wn ⟨rfl, kn⟩
              have HS := hS7.out _ (Kx.out.trans kn)
              have kn' : Hid (Keeps [] w0 wn) := Lib.hid (hkw.out.trans (Kx.out.trans kn))
              rw [hb.out]
              refine hK _ _ (Or.inr HS) ?_
              clear hK K kn
              try simp only [Act.put, List.getElem_toArray, List.getElem_cons_succ, List.getElem_cons_zero, List.setIfInBounds_toArray, List.set_cons_zero, List.set_cons_succ]
              refine wpAnyI_one (i := 11) rfl (by kernel_rfl) (fun K hK => ?_)
              dsimp only [List.getElem_toArray, List.getElem_cons_succ, List.getElem_cons_zero]
              go_simp
              refine hK _ _ (Or.inr HS) ?_
              clear hK K
              try simp only [Act.put, List.getElem_toArray, List.getElem_cons_succ, List.getElem_cons_zero, List.setIfInBounds_toArray, List.set_cons_zero, List.set_cons_succ]
              refine wpAnyI_done (by kernel_rfl) ?_ _
              go_wp2_with fail
              obtain ⟨A, hA⟩ : ∃ A : Option Addr, A = some ⟨ga, 0, none⟩ := ⟨_, rfl⟩
              rw [← hA] at hT hOw0 hcell
              clear hS7 HS HRow z0 c0 c1 c3 hA
              generalize wn = W9 at *
              have hk9 := kn'
              have hb9 : Hid (b ≤ W9.heap.size) := Lib.hid (Nat.le_trans hb0'.out (k0.out.trans hk9.out).size)
              have hOw : Hid (∀ wr, Keeps [] W9 wr → wr.ownsRow b 35 4 (.slice A n cc) n (flatC R)) := Lib.hid (fun wr k => hOw0.out wr ((k0.out.trans hk9.out).trans k))
              have hS9 : Hid (∀ wr, Keeps [] W9 wr → wr.cell? ⟨gl, 0, none⟩ = some (.slice A n cc) ∧ wr.cell? ⟨g3, 0, none⟩ = some (.int .i64 t) ∧ wr.cell? ⟨g3, 1, none⟩ = some (.int .i64 id) ∧ wr.cell? ⟨g3, 2, none⟩ = some (.slice Ao no co) ∧ wr.cell? ⟨g3, 3, none⟩ = some (.slice An nn cn)) := Lib.hid (fun wr k => have := hcell.out wr (hk9.out.trans k); this)
              refine wp_region_J (S := (fun w' : World => w'.cell? ⟨gl, 0, none⟩ = some (.slice A n cc) ∧ w'.cell? ⟨g3, 0, none⟩ = some (.int .i64 t) ∧ w'.cell? ⟨g3, 1, none⟩ = some (.int .i64 id) ∧ w'.cell? ⟨g3, 2, none⟩ = some (.slice Ao no co) ∧ w'.cell? ⟨g3, 3, none⟩ = some (.slice An nn cn))) (n := 10) (by kernel_rfl) ?_
              have HS := hS9.out W9.drew (Keeps.refl [] W9).drew
              replace hS9 : Hid (∀ wr, Keeps [] W9.drew wr → _) := Lib.hid (fun wr k => hS9.out wr ((Keeps.refl [] W9).drew.trans k))
              replace hOw : Hid (∀ wr, Keeps [] W9.drew wr → _) := Lib.hid (fun wr k => hOw.out wr ((Keeps.refl [] W9).drew.trans k))
              have hb3 : Hid (b ≤ W9.drew.heap.size) := Lib.hid hb9.out
              have hkd : Hid (Keeps [] w0 W9.drew) := Lib.hid hk9.out.drew
              generalize W9.drew = wd at *
              refine wpAnyJ_take (i := 0) (v := ?_) (by kernel_rfl) rfl (by kernel_rfl) (by kernel_rfl) (by kernel_rfl) (fun _ _ _ h => h) HS (Or.inl ⟨by rfl, ?_⟩) ?_
              rotate_left
              · (intro w hSw; obtain ⟨y0, y1, y2, y3, y4⟩ := hSw; go_simp; try with_reducible rfl)
              try simp only [Act.put, List.getElem_toArray, List.getElem_cons_succ, List.getElem_cons_zero, List.setIfInBounds_toArray, List.set_cons_zero, List.set_cons_succ]
              refine wpAnyJ_take (i := 1) (v := ?_) (by kernel_rfl) rfl (by kernel_rfl) (by kernel_rfl) (by kernel_rfl) (fun _ _ _ h => h) HS (Or.inl ⟨by rfl, ?_⟩) ?_
              rotate_left
              · (intro w hSw; obtain ⟨y0, y1, y2, y3, y4⟩ := hSw; go_simp; try with_reducible rfl)
              try simp only [Act.put, List.getElem_toArray, List.getElem_cons_succ, List.getElem_cons_zero, List.setIfInBounds_toArray, List.set_cons_zero, List.set_cons_succ]
              refine wpAnyJ_take (i := 2) (v := ?_) (by kernel_rfl) rfl (by kernel_rfl) (by kernel_rfl) (by kernel_rfl) (fun _ _ _ h => h) HS (Or.inl ⟨by rfl, ?_⟩) ?_
              rotate_left
              · (intro w hSw; obtain ⟨y0, y1, y2, y3, y4⟩ := hSw; go_simp; try with_reducible rfl)
              try simp only [Act.put, List.getElem_toArray, List.getElem_cons_succ, List.getElem_cons_zero, List.setIfInBounds_toArray, List.set_cons_zero, List.set_cons_succ]
              refine wpAnyJ_take (i := 3) (v := ?_) (by kernel_rfl) rfl (by kernel_rfl) (by kernel_rfl) (by kernel_rfl) (fun _ _ _ h => h) HS (Or.inl ⟨by rfl, ?_⟩) ?_
              rotate_left
              · (intro w hSw; obtain ⟨y0, y1, y2, y3, y4⟩ := hSw; go_simp; try with_reducible rfl)
              try simp only [Act.put, List.getElem_toArray, List.getElem_cons_succ, List.getElem_cons_zero, List.setIfInBounds_toArray, List.set_cons_zero, List.set_cons_succ]
              refine wpAnyJ_take (i := 4) (v := ?_) (by kernel_rfl) rfl (by kernel_rfl) (by kernel_rfl) (by kernel_rfl) (fun _ _ _ h => h) HS (Or.inl ⟨by rfl, ?_⟩) ?_
              rotate_left
              · (intro w hSw; obtain ⟨y0, y1, y2, y3, y4⟩ := hSw; go_simp; try with_reducible rfl)
              try simp only [Act.put, List.getElem_toArray, List.getElem_cons_succ, List.getElem_cons_zero, List.setIfInBounds_toArray, List.set_cons_zero, List.set_cons_succ]
              refine wpAnyJ_take (i := 5) (v := ?_) (by kernel_rfl) rfl (by kernel_rfl) (by kernel_rfl) (by kernel_rfl) (fun _ _ _ h => h) HS (Or.inl ⟨by rfl, ?_⟩) ?_
              rotate_left
              · (intro w hSw; obtain ⟨y0, y1, y2, y3, y4⟩ := hSw; go_simp; try with_reducible rfl)
              try simp only [Act.put, List.getElem_toArray, List.getElem_cons_succ, List.getElem_cons_zero, List.setIfInBounds_toArray, List.set_cons_zero, List.set_cons_succ]
              refine wpAnyJ_one (i := 6) rfl (by kernel_rfl) (fun K hK => ?_)
              dsimp only [List.getElem_toArray, List.getElem_cons_succ, List.getElem_cons_zero]
              go_simp
              have ka : Keeps [] wd (wd.alloc (.cells #[.int .i64 t, .int .i64 id, .slice Ao no co, .slice An nn cn] 35)) := (Keeps.refl [] wd).alloc _
              have Bn := Lib.hid (Blk.new wd 35 #[.int .i64 t, .int .i64 id, .slice Ao no co, .slice An nn cn])
              have HS := hS9.out _ ka
              have ow := Lib.hid (hOw.out _ ka)
              have hb7 := Lib.hid (Nat.le_trans hb3.out ka.size)
              have k47 : Hid (Keeps [] w0 (wd.alloc (.cells #[.int .i64 t, .int .i64 id, .slice Ao no co, .slice An nn cn] 35))) := Lib.hid (hkd.out.trans ka)
              refine hK _ _ (Or.inr HS) ?_
              clear hK K ka
              obtain ⟨g7, hg7⟩ : ∃ g, g = wd.heap.size := ⟨_, rfl⟩
              rw [← hg7] at Bn ⊢
              clear hg7
              generalize wd.alloc (.cells #[.int .i64 t, .int .i64 id, .slice Ao no co, .slice An nn cn] 35) = w7 at *
              try simp only [Act.put, List.getElem_toArray, List.getElem_cons_succ, List.getElem_cons_zero, List.setIfInBounds_toArray, List.set_cons_zero, List.set_cons_succ]
              refine wpAnyJ_one (i := 7) rfl (by kernel_rfl) (fun K hK => ?_)
              dsimp only [List.getElem_toArray, List.getElem_cons_succ, List.getElem_cons_zero]
              rw [if_pos (by rfl)]
              refine wp_append_row (.tmp 76) (.tmp 78) 28 (by rfl) b 35 i5 (.agg #[.int .i64 0, .int .i64 0, .slice none 0 0, .slice none 0 0]) 4 64 Try.underlying28 hi5.out hy0.out hy1.out hy2.out rfl (by decide) (.slice A n cc) n (flatC R) (by rfl) ow.out (some ⟨g7, 0, none⟩) 1 1 [.int .i64 t, .int .i64 id, .slice Ao no co, .slice An nn cn] (by rfl) rfl (src_raw (r := ⟨t, id, Ao, no, co, An, nn, cn⟩) Bn.out) (by simp [Value.oneCell']) (by have := hnL.out; unfold maxLen; omega) (by have := hnL.out; omega) hb7.out ?_
              intro v8 w8 q1 q2 q3 q4
              obtain ⟨A8, c8, rfl, _⟩ := own_slice q1.out
              obtain ⟨y0, yb, fz, hfin⟩ := hT.out w7 w8 _ k47 q1 q2 q4
              have HS : _ ∧ _ := ⟨y0, yb⟩
              refine hK _ _ (Or.inr HS) ?_
              clear hK K q1 q2 q3 q4 ow k47
              try simp only [Act.put, List.getElem_toArray, List.getElem_cons_succ, List.getElem_cons_zero, List.setIfInBounds_toArray, List.set_cons_zero, List.set_cons_succ]
              refine wpAnyJ_one (i := 8) rfl (by kernel_rfl) (fun K hK => ?_)
              dsimp only [List.getElem_toArray, List.getElem_cons_succ, List.getElem_cons_zero]
              go_simp
              refine hK _ _ (Or.inr HS) ?_
              clear hK K
              try simp only [Act.put, List.getElem_toArray, List.getElem_cons_succ, List.getElem_cons_zero, List.setIfInBounds_toArray, List.set_cons_zero, List.set_cons_succ]
              refine wpAnyJ_one (i := 9) rfl (by kernel_rfl) (fun K hK => ?_)
              dsimp only [List.getElem_toArray, List.getElem_cons_succ, List.getElem_cons_zero]
              go_simp
              refine hK _ _ (Or.inr HS) ?_
              clear hK K
              try simp only [Act.put, List.getElem_toArray, List.getElem_cons_succ, List.getElem_cons_zero, List.setIfInBounds_toArray, List.set_cons_zero, List.set_cons_succ]
              refine wpAnyJ_one (i := 10) rfl (by kernel_rfl) (fun K hK => ?_)
              dsimp only [List.getElem_toArray, List.getElem_cons_succ, List.getElem_cons_zero]
              go_simp
              refine hK _ _ (Or.inl (by omega)) ?_
              clear hK K
              try simp only [Act.put, List.getElem_toArray, List.getElem_cons_succ, List.getElem_cons_zero, List.setIfInBounds_toArray, List.set_cons_zero, List.set_cons_succ]
              refine wpAnyJ_done (by kernel_rfl) ?_ _

              go_wp2_with fail
              go_ret
              exact hfin.out
          · have b2 : (mi == id) = false := by simpa using e2
            have hm := Lib.hid (hnext.out (by rw [hhit.out, decide_eq_false e2]; simp))
            obtain rfl := e1.symm
            replace e2 := Lib.hid e2
            replace hch := Lib.hid hch
            go_wp2_with fail
            go_quiet (fail)
            go_wp2_with fail
            go_roundw
            case rel => exact ⟨j + 1, by omega, by go_num, hm, Lib.hid (hkw.out.drewN _)⟩
            case measure => simp [intOf]; omega
        · have b1 : (mt == t) = false := by simpa using e1
          have hm := Lib.hid (hnext.out (by rw [hhit.out, decide_eq_false e1]; rfl))
          replace e1 := Lib.hid e1
          replace hch := Lib.hid hch
          go_wp2_with fail
          go_quiet (fail)
          go_wp2_with fail
          go_roundw
          case rel => exact ⟨j + 1, by omega, by go_num, hm, Lib.hid (hkw.out.drewN _)⟩
          case measure => simp [intOf]; omega
      · obtain rfl : j = n := by omega
        have hb0 := fits_none (c := c) (L := L) (fun x hx => hmiss.out x (by rw [Nat.sub_self]; exact hx))
        have hT := Lib.hid (hT0.out hb0)
        have hneg : ¬ ((0 : Int) ≤ (j : Int) - 1 - (j : Int)) := by omega
        clear hbad hT0 hb0 z0 z1 z2 z3 z4
        go_wp2_with fail
        generalize wo = W9 at *
        have hk9 := hkw
        have hb9 : Hid (b ≤ W9.heap.size) := Lib.hid (Nat.le_trans hb0'.out (k0.out.trans hk9.out).size)
        have hOw : Hid (∀ wr, Keeps [] W9 wr → wr.ownsRow b 35 4 (.slice A j cc) j (flatC R)) := Lib.hid (fun wr k => hOw0.out wr ((k0.out.trans hk9.out).trans k))
        have hS9 : Hid (∀ wr, Keeps [] W9 wr → wr.cell? ⟨gl, 0, none⟩ = some (.slice A j cc) ∧ wr.cell? ⟨g3, 0, none⟩ = some (.int .i64 t) ∧ wr.cell? ⟨g3, 1, none⟩ = some (.int .i64 id) ∧ wr.cell? ⟨g3, 2, none⟩ = some (.slice Ao no co) ∧ wr.cell? ⟨g3, 3, none⟩ = some (.slice An nn cn)) := Lib.hid (fun wr k => have := hcell.out wr (hk9.out.trans k); this)
        refine wp_region_J (S := (fun w' : World => w'.cell? ⟨gl, 0, none⟩ = some (.slice A j cc) ∧ w'.cell? ⟨g3, 0, none⟩ = some (.int .i64 t) ∧ w'.cell? ⟨g3, 1, none⟩ = some (.int .i64 id) ∧ w'.cell? ⟨g3, 2, none⟩ = some (.slice Ao no co) ∧ w'.cell? ⟨g3, 3, none⟩ = some (.slice An nn cn))) (n := 10) (by kernel_rfl) ?_
        have HS := hS9.out W9.drew (Keeps.refl [] W9).drew
        replace hS9 : Hid (∀ wr, Keeps [] W9.drew wr → _) := Lib.hid (fun wr k => hS9.out wr ((Keeps.refl [] W9).drew.trans k))
        replace hOw : Hid (∀ wr, Keeps [] W9.drew wr → _) := Lib.hid (fun wr k => hOw.out wr ((Keeps.refl [] W9).drew.trans k))
        have hb3 : Hid (b ≤ W9.drew.heap.size) := Lib.hid hb9.out
        have hkd : Hid (Keeps [] w0 W9.drew) := Lib.hid hk9.out.drew
        generalize W9.drew = wd at *
        refine wpAnyJ_take (i := 0) (v := ?_) (by kernel_rfl) rfl (by kernel_rfl) (by kernel_rfl) (by kernel_rfl) (fun _ _ _ h => h) HS (Or.inl ⟨by rfl, ?_⟩) ?_
        rotate_left
        · (intro w hSw; obtain ⟨y0, y1, y2, y3, y4⟩ := hSw; go_simp; try with_reducible rfl)
        try simp only [Act.put, List.getElem_toArray, List.getElem_cons_succ, List.getElem_cons_zero, List.setIfInBounds_toArray, List.set_cons_zero, List.set_cons_succ]
        refine wpAnyJ_take (i := 1) (v := ?_) (by kernel_rfl) rfl (by kernel_rfl) (by kernel_rfl) (by kernel_rfl) (fun _ _ _ h => h) HS (Or.inl ⟨by rfl, ?_⟩) ?_
        rotate_left
        · (intro w hSw; obtain ⟨y0, y1, y2, y3, y4⟩ := hSw; go_simp; try with_reducible rfl)
        try simp only [Act.put, List.getElem_toArray, List.getElem_cons_succ, List.getElem_cons_zero, List.setIfInBounds_toArray, List.set_cons_zero, List.set_cons_succ]
        refine wpAnyJ_take (i := 2) (v := ?_) (by kernel_rfl) rfl (by kernel_rfl) (by kernel_rfl) (by kernel_rfl) (fun _ _ _ h => h) HS (Or.inl ⟨by rfl, ?_⟩) ?_
        rotate_left
        · (intro w hSw; obtain ⟨y0, y1, y2, y3, y4⟩ := hSw; go_simp; try with_reducible rfl)
        try simp only [Act.put, List.getElem_toArray, List.getElem_cons_succ, List.getElem_cons_zero, List.setIfInBounds_toArray, List.set_cons_zero, List.set_cons_succ]
        refine wpAnyJ_take (i := 3) (v := ?_) (by kernel_rfl) rfl (by kernel_rfl) (by kernel_rfl) (by kernel_rfl) (fun _ _ _ h => h) HS (Or.inl ⟨by rfl, ?_⟩) ?_
        rotate_left
        · (intro w hSw; obtain ⟨y0, y1, y2, y3, y4⟩ := hSw; go_simp; try with_reducible rfl)
        try simp only [Act.put, List.getElem_toArray, List.getElem_cons_succ, List.getElem_cons_zero, List.setIfInBounds_toArray, List.set_cons_zero, List.set_cons_succ]
        refine wpAnyJ_take (i := 4) (v := ?_) (by kernel_rfl) rfl (by kernel_rfl) (by kernel_rfl) (by kernel_rfl) (fun _ _ _ h => h) HS (Or.inl ⟨by rfl, ?_⟩) ?_
        rotate_left
        · (intro w hSw; obtain ⟨y0, y1, y2, y3, y4⟩ := hSw; go_simp; try with_reducible rfl)
        try simp only [Act.put, List.getElem_toArray, List.getElem_cons_succ, List.getElem_cons_zero, List.setIfInBounds_toArray, List.set_cons_zero, List.set_cons_succ]
        refine wpAnyJ_take (i := 5) (v := ?_) (by kernel_rfl) rfl (by kernel_rfl) (by kernel_rfl) (by kernel_rfl) (fun _ _ _ h => h) HS (Or.inl ⟨by rfl, ?_⟩) ?_
        rotate_left
        · (intro w hSw; obtain ⟨y0, y1, y2, y3, y4⟩ := hSw; go_simp; try with_reducible rfl)
        try simp only [Act.put, List.getElem_toArray, List.getElem_cons_succ, List.getElem_cons_zero, List.setIfInBounds_toArray, List.set_cons_zero, List.set_cons_succ]
        refine wpAnyJ_one (i := 6) rfl (by kernel_rfl) (fun K hK => ?_)
        dsimp only [List.getElem_toArray, List.getElem_cons_succ, List.getElem_cons_zero]
        go_simp
        have ka : Keeps [] wd (wd.alloc (.cells #[.int .i64 t, .int .i64 id, .slice Ao no co, .slice An nn cn] 35)) := (Keeps.refl [] wd).alloc _
        have Bn := Lib.hid (Blk.new wd 35 #[.int .i64 t, .int .i64 id, .slice Ao no co, .slice An nn cn])
        have HS := hS9.out _ ka
        have ow := Lib.hid (hOw.out _ ka)
        have hb7 := Lib.hid (Nat.le_trans hb3.out ka.size)
        have k47 : Hid (Keeps [] w0 (wd.alloc (.cells #[.int .i64 t, .int .i64 id, .slice Ao no co, .slice An nn cn] 35))) := Lib.hid (hkd.out.trans ka)
        refine hK _ _ (Or.inr HS) ?_
        clear hK K ka
        obtain ⟨g7, hg7⟩ : ∃ g, g = wd.heap.size := ⟨_, rfl⟩
        rw [← hg7] at Bn ⊢
        clear hg7
        generalize wd.alloc (.cells #[.int .i64 t, .int .i64 id, .slice Ao no co, .slice An nn cn] 35) = w7 at *
        try simp only [Act.put, List.getElem_toArray, List.getElem_cons_succ, List.getElem_cons_zero, List.setIfInBounds_toArray, List.set_cons_zero, List.set_cons_succ]
        refine wpAnyJ_one (i := 7) rfl (by kernel_rfl) (fun K hK => ?_)
        dsimp only [List.getElem_toArray, List.getElem_cons_succ, List.getElem_cons_zero]
        rw [if_pos (by rfl)]
        refine wp_append_row (.tmp 76) (.tmp 78) 28 (by rfl) b 35 i5 (.agg #[.int .i64 0, .int .i64 0, .slice none 0 0, .slice none 0 0]) 4 64 Try.underlying28 hi5.out hy0.out hy1.out hy2.out rfl (by decide) (.slice A j cc) j (flatC R) (by rfl) ow.out (some ⟨g7, 0, none⟩) 1 1 [.int .i64 t, .int .i64 id, .slice Ao no co, .slice An nn cn] (by rfl) rfl (src_raw (r := ⟨t, id, Ao, no, co, An, nn, cn⟩) Bn.out) (by simp [Value.oneCell']) (by have := hnL.out; unfold maxLen; omega) (by have := hnL.out; omega) hb7.out ?_
        intro v8 w8 q1 q2 q3 q4
        obtain ⟨A8, c8, rfl, _⟩ := own_slice q1.out
        obtain ⟨y0, yb, fz, hfin⟩ := hT.out w7 w8 _ k47 q1 q2 q4
        have HS : _ ∧ _ := ⟨y0, yb⟩
        refine hK _ _ (Or.inr HS) ?_
        clear hK K q1 q2 q3 q4 ow k47
        try simp only [Act.put, List.getElem_toArray, List.getElem_cons_succ, List.getElem_cons_zero, List.setIfInBounds_toArray, List.set_cons_zero, List.set_cons_succ]
        refine wpAnyJ_one (i := 8) rfl (by kernel_rfl) (fun K hK => ?_)
        dsimp only [List.getElem_toArray, List.getElem_cons_succ, List.getElem_cons_zero]
        go_simp
        refine hK _ _ (Or.inr HS) ?_
        clear hK K
        try simp only [Act.put, List.getElem_toArray, List.getElem_cons_succ, List.getElem_cons_zero, List.setIfInBounds_toArray, List.set_cons_zero, List.set_cons_succ]
        refine wpAnyJ_one (i := 9) rfl (by kernel_rfl) (fun K hK => ?_)
        dsimp only [List.getElem_toArray, List.getElem_cons_succ, List.getElem_cons_zero]
        go_simp
        refine hK _ _ (Or.inr HS) ?_
        clear hK K
        try simp only [Act.put, List.getElem_toArray, List.getElem_cons_succ, List.getElem_cons_zero, List.setIfInBounds_toArray, List.set_cons_zero, List.set_cons_succ]
        refine wpAnyJ_one (i := 10) rfl (by kernel_rfl) (fun K hK => ?_)
        dsimp only [List.getElem_toArray, List.getElem_cons_succ, List.getElem_cons_zero]
        go_simp
        refine hK _ _ (Or.inl (by omega)) ?_
        clear hK K
        try simp only [Act.put, List.getElem_toArray, List.getElem_cons_succ, List.getElem_cons_zero, List.setIfInBounds_toArray, List.set_cons_zero, List.set_cons_succ]
        refine wpAnyJ_done (by kernel_rfl) ?_ _

        go_wp2_with fail
        go_ret
        exact hfin.out
theorem radd_log (b : Nat) (w : World) (X F : List Nat) (gl : Nat) (L : List Chg) (S : List Pnt) (r : Raw) (c : Chg) (h : RLog b w X F gl L S) (hc : RawIs w X r c) (hs : Small c) (hwf : wfC c) (hL : L.length ≤ 1000000) :
    Calls Try.prog 14 #[.pointer (some ⟨gl, 0, none⟩), .agg r.cells.toArray] w (RAddL b w X F gl L S c) := by
  cases hv : valid c
  · exact radd_bad b w X F gl L S r c h hc hv
  · exact radd_ok b w X F gl L S r c h hc hs hwf hL hv
end Go.Proofs.Ytmclfbhcddcebaa
