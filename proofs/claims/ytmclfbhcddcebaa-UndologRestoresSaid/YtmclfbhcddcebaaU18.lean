/- Net: its contract. -/
import Derived.Test.YtmclfbhcddcebaaU17
namespace Go.Proofs.Ytmclfbhcddcebaa
open Go.RowKit Go.Shelf Go.Maps
set_option linter.unusedSimpArgs false
set_option linter.unusedVariables false

/-- The net changes, whatever their number: the changes of rows that have changed, in the order of the rows. -/
def NetIs (L M : List Chg) : Prop := M.Perm ((netM L).filter (fun c => !decide (c.old = c.new))) ∧ AscC M
def NetPost (w : World) (L : List Chg) (e : Ending) (w' : World) : Prop :=
  ∃ A c P M, P.map (·.2) = M ∧ NetIs L M ∧ e = .returned (.slice A P.length c) ∧ NetR w (.slice A P.length c) P w'
theorem ascC_of {w : World} {X : List Nat} {S : List PQ} (h : AscQ S) (hi : PIs w X S) : AscC (S.map (·.2)) := by
  unfold AscC
  rw [List.pairwise_map]
  refine List.Pairwise.imp_of_mem (fun {a b} ha hb hab => ?_) h
  have h1 := hi a ha
  have h2 := hi b hb
  rw [← h1.t, ← h2.t, ← h1.id, ← h2.id]
  exact hab
theorem fullC (p : PQ) : full p = (fun c : Chg => !decide (c.old = c.new)) p.2 := rfl
theorem filter_map (P : List PQ) : (P.filter full).map (·.2) = (P.map (·.2)).filter (fun c : Chg => !decide (c.old = c.new)) := by
  induction P with
  | nil => rfl
  | cons p P ih =>
    have e : (!decide (p.2.old = p.2.new)) = full p := rfl
    rw [List.map_cons, List.filter_cons, List.filter_cons, ← ih, e]
    cases full p <;> rfl

/-- Behind DeleteFunc and SortFunc. -/
theorem NetR.cut {w : World} {g n c : Nat} {P Q : List PQ} {wr wq : World} (h : NetR w (.slice (some ⟨g, 0, none⟩) n c) P wr) (hsub : ∀ q ∈ Q, q ∈ P) (hown : wq.ownsRow w.heap.size 35 4 (.slice (some ⟨g, 0, none⟩) Q.length c) Q.length (rows Q)) (hk : Keeps [g] wr wq) :
    NetR w (.slice (some ⟨g, 0, none⟩) Q.length c) Q wq := by
  have hgo : (Value.slice (some ⟨g, 0, none⟩) n c).ownBlock = some g := rfl
  obtain ⟨hgb, cur, hgblk⟩ := own_blk h.own hgo
  refine ⟨hown, fun q hq => ?_, fun q hq => ?_, ?_⟩
  · have := h.is_ q (hsub q hq)
    rw [hgo] at this
    exact this.keep hk (by intro y hy; left; simpa using hy)
  · have := h.new q (hsub q hq)
    exact ⟨this.1, this.2.1, this.2.2.keep hk (fun x hx => .inr ⟨35, cur, by rw [List.mem_singleton.1 hx]; exact hgblk, by decide⟩)⟩
  · exact (h.kp.nil.trans hk).mono (fun y hy => .inr (by rw [List.mem_singleton.1 hy]; exact hgb))

/-- The end of Net. -/
theorem delsort (w wr : World) (v : Value) (P : List PQ) (hP : NetR w v P wr) (hs : ∀ p ∈ P, Small p.2) (hn : P.length ≤ 1000000) :
    Calls Try.prog 34 #[v, .func (.func 35) #[] #[]] wr fun e w' => ∃ A c Q, e = .returned (.slice A Q.length c) ∧ Q = P.filter full ∧ NetR w (.slice A Q.length c) Q w' := by
  rcases Nat.eq_zero_or_pos P.length with h0 | h0
  · obtain rfl : P = [] := List.eq_nil_of_length_eq_zero h0
    obtain ⟨A, c, rfl, _⟩ := own_slice hP.own
    refine (del_nil wr A c _).mono ?_
    rintro e w' ⟨rfl, rfl⟩
    exact ⟨A, c, [], rfl, rfl, hP⟩
  · obtain ⟨g, c, cur, rfl, hb, hg⟩ := hP.slice h0
    refine (del_any wr [g] w.heap.size g P.length c P rfl hP.own hP.is_ (by simp) hs hn).mono ?_
    rintro e w' ⟨rfl, ho, hk⟩
    exact ⟨_, c, P.filter full, rfl, rfl, hP.cut (fun q hq => (List.mem_filter.1 hq).1) ho hk⟩
theorem sorted (w wr : World) (A : Option Addr) (c : Nat) (P : List PQ) (hP : NetR w (.slice A P.length c) P wr) (hn : P.length ≤ 1000000) :
    Calls Try.prog 36 #[.slice A P.length c, .func (.func 37) #[] #[]] wr fun e w' => e = .returned (.tuple #[]) ∧ ∃ Q, Q.Perm P ∧ AscC (Q.map (·.2)) ∧ NetR w (.slice A P.length c) Q w' := by
  rcases Nat.eq_zero_or_pos P.length with h0 | h0
  · obtain rfl : P = [] := List.eq_nil_of_length_eq_zero h0
    refine (Try.slices_SortFunc_none (α := PQ) A c _ wr).mono ?_
    rintro e w' ⟨rfl, rfl⟩
    exact ⟨rfl, [], List.Perm.refl _, List.Pairwise.nil, hP⟩
  · obtain ⟨g, c', cur, hv, hb, hg⟩ := hP.slice h0
    injection hv with hA _ hc
    subst hA hc
    refine (sort_any wr w.heap.size g P.length c P rfl hP.own (by omega)).mono ?_
    rintro e w' ⟨rfl, S, hp, ha, ho, hk⟩
    have hl : S.length = P.length := hp.length_eq
    rw [← hl] at ho
    have hN := hP.cut (fun q hq => hp.mem_iff.1 hq) ho hk
    rw [hl] at hN
    exact ⟨rfl, S, hp, ascC_of ha hN.is_, hN⟩

theorem take_snoc {α : Type} {l : List α} {k : Nat} {x : α} (h : l[k]? = some x) : l.take (k + 1) = l.take k ++ [x] := by rw [List.take_add_one, h]; rfl

theorem small_put {M : List Chg} {c : Chg} (h : ∀ b ∈ M, Small b) (hc : Small c) : ∀ b ∈ put M c, Small b := by
  intro b hb
  unfold put at hb
  split at hb
  · rename_i i hp
    obtain ⟨h1, b', h2, _⟩ := pos_lt hp
    rcases List.mem_or_eq_of_mem_set hb with hb | rfl
    · exact h b hb
    · rw [cAt_of h2]
      exact ⟨(h b' (List.mem_of_getElem? h2)).1, hc.2⟩
  · rcases List.mem_append.1 hb with hb | hb
    · exact h b hb
    · rw [List.mem_singleton.1 hb]; exact hc
theorem small_net {L : List Chg} (h : ∀ b ∈ L, Small b) : ∀ b ∈ netM L, Small b := by
  have : ∀ (L M : List Chg), (∀ b ∈ L, Small b) → (∀ b ∈ M, Small b) → ∀ b ∈ L.foldl put M, Small b := by
    intro L
    induction L with
    | nil => intro M _ hM; exact hM
    | cons c L ih => intro M hL hM; exact ih (put M c) (fun b hb => hL b (List.mem_cons_of_mem _ hb)) (small_put hM (hL c (by simp)))
  exact this L [] h (fun b hb => by simp at hb)

set_option maxRecDepth 100000 in
set_option maxHeartbeats 8000000 in
theorem net_any (w : World) (base gl : Nat) (A : Option Addr) (n c : Nat) (sv : Value) (R : List Raw) (L : List Chg) (X : List Nat) (hB : Blk w gl 64 #[.slice A n c, sv]) (hO : w.ownsRow base 35 4 (.slice A n c) n (flatC R)) (hn : R.length = n) (hR : RawsIs w X R L)
    (hsL : ∀ b ∈ L, Small b) (hwL : ∀ b ∈ L, wfC b) (hnn : n ≤ 1000000) :
    Calls Try.prog 15 #[.pointer (some ⟨gl, 0, none⟩)] w (NetPost w L) := by
  have hA : Hid (0 < n → ∃ ga, A = some ⟨ga, 0, none⟩ ∧ RawsAt w ga 0 R) := Lib.hid (fun h0 => by
    obtain ⟨ga, h1, _, _, h2⟩ := raws_of_own hO hn h0
    exact ⟨ga, h1, h2⟩)
  have hlL : Hid (L.length = n) := Lib.hid (by rw [← hR.1, hn])
  have hlR : Hid (R.length = n) := Lib.hid hn
  have hmm := @run_makeMap Try.prog
  have k0 : Keeps [] w (w.alloc (.map #[] 0)) := (Keeps.refl [] w).alloc _
  have z0 := (hB.keep k0 (by simp)).cell
  obtain ⟨bm, hbm⟩ : ∃ b, b = w.heap.size := ⟨_, rfl⟩
  have hmap0 : Hid (MapR bm 0 (.map []) (netM []) (w.alloc (.map #[] 0))) := Lib.hid ⟨by rw [hbm]; exact World.ownsMap_made _ _ _ _, idx_nil⟩
  have hR0 : Hid (NetR w (.slice none 0 0) [] (w.alloc (.map #[] 0))) := Lib.hid ⟨⟨rfl, .inl ⟨rfl, rfl⟩⟩, fun p hp => by simp at hp, fun p hp => by simp at hp, k0⟩
  have hbm' : Hid (w.heap.size ≤ bm) := Lib.hid (by omega)
  replace hR := Lib.hid hR
  replace hsL := Lib.hid hsL
  replace hwL := Lib.hid hwL
  clear hB hO hn k0
  go_enter Try.func15, Try.ntmps15
  go_wp2_with fail
  rw [← hbm]
  generalize w.alloc (.map #[] 0) = W0 at *
  clear hbm hmm
  go_loopw [4, 16] (fun v4 i wr => ∃ (k : Nat) (P : List PQ) (D : DataW Unit), k ≤ n ∧ i = .int .i64 k ∧ Hid (P.map (·.2) = netM (L.take k)) ∧ Hid (NetR w v4 P wr) ∧ Hid (MapR bm k D (netM (L.take k)) wr)) (fun _ i _ => n - (intOf i).toNat)
  case atStart => exact ⟨0, [], .map [], Nat.zero_le _, rfl, Lib.hid rfl, hR0, hmap0⟩
  case round =>
    obtain ⟨k, P, D, hk, rfl, hnet, hN, hM⟩ := hrel
    clear z0 hmap0 hR0
    obtain ⟨wo, hwo⟩ : ∃ x, x = wr := ⟨_, rfl⟩
    subst hwo
    have hPl : Hid (P.length = (netM (L.take k)).length ∧ P.length ≤ k) := Lib.hid (by
      have h1 := net_le (L.take k)
      have h2 : P.length = (netM (L.take k)).length := by rw [← hnet.out, List.length_map]
      rw [List.length_take] at h1
      exact ⟨h2, by omega⟩)
    obtain ⟨A4, c4, rfl, _⟩ := own_slice hN.out.own
    by_cases hlt : k < n
    · obtain ⟨ga, rfl, hga⟩ := hA.out (by omega)
      obtain ⟨⟨t, id, Ao, no, co, An, nn, cn⟩, hr⟩ : ∃ r, R[k]? = some r := ⟨R[k]'(by rw [hlR.out]; exact hlt), List.getElem?_eq_getElem _⟩
      obtain ⟨ch, hch⟩ : ∃ x, L[k]? = some x := ⟨L[k]'(by rw [hlL.out]; exact hlt), List.getElem?_eq_getElem _⟩
      obtain ⟨c0, c1, c2, c3⟩ := hga k _ hr
      replace c0 := hN.out.kp.cellEq c0 (by simp)
      replace c1 := hN.out.kp.cellEq c1 (by simp)
      replace c2 := hN.out.kp.cellEq c2 (by simp)
      replace c3 := hN.out.kp.cellEq c3 (by simp)
      have hsm := Lib.hid (hsL.out ch (List.mem_of_getElem? hch))
      have hwf := Lib.hid (hwL.out ch (List.mem_of_getElem? hch))
      have hraw := Lib.hid ((hR.out.2 k _ _ hr hch).keep hN.out.kp (by simp))
      obtain ⟨ht, hid, hno, hnn', _, _⟩ := hraw.out
      dsimp only at ht hid hno hnn' c0 c1 c2 c3
      rw [Nat.zero_add] at c0 c1 c2 c3
      subst ht hid
      have hkn : (k : Int) < (n : Int) := by omega
      have ka : Keeps [] wo ((wo.alloc (.cells #[.int .i64 ch.t, .int .i64 ch.id, .slice Ao no co, .slice An nn cn] 35)).alloc (.cells #[.int .i64 ch.t, .int .i64 ch.id] 71)) := ((Keeps.refl [] wo).alloc _).alloc _
      have hM2 := Lib.hid (hM.out.step ka)
      have hN2 := Lib.hid (hN.out.step ka)
      have hraw2 := Lib.hid (hraw.out.keep ka (by simp))
      have B6 : Hid (Blk ((wo.alloc (.cells #[.int .i64 ch.t, .int .i64 ch.id, .slice Ao no co, .slice An nn cn] 35)).alloc (.cells #[.int .i64 ch.t, .int .i64 ch.id] 71)) wo.heap.size 35 #[.int .i64 ch.t, .int .i64 ch.id, .slice Ao no co, .slice An nn cn]) := Lib.hid ((Blk.new wo 35 _).alloc _)
      have hsnoc : Hid (netM (L.take (k + 1)) = put (netM (L.take k)) ch) := Lib.hid (by rw [take_snoc hch, netM_snoc])
      have hidx := hM.out.2.2 ch hwf.out
      have hkk : Hid (P.length ≤ 1000000 ∧ k ≤ 1000000) := Lib.hid (by have := hPl.out.2; omega)
      have hnnH := Lib.hid hnn'
      replace hr := Lib.hid hr
      replace hch := Lib.hid hch
      replace hga := Lib.hid hga
      clear ka hno hnn'
      cases hp : pos ch (netM (L.take k)) with
      | some i =>
        rw [hp] at hidx
        dsimp only at hidx
        obtain ⟨hhas, hat'⟩ := hidx
        have hil : Hid (i < P.length) := Lib.hid (by have := (pos_lt hp).1; have := hPl.out.1; omega)
        obtain ⟨g, cv, cur, hv, hgb, hgw⟩ := hN.out.slice (by have := hil.out; omega)
        injection hv with hA4 _ hc4
        subst hA4 hc4
        obtain ⟨pl, hpl⟩ : ∃ pl, pl = P.length := ⟨_, rfl⟩
        rw [← hpl] at hil hkk hN2 ⊢
        have hii : (i : Int) < (pl : Int) := by have := hil.out; omega
        have HC := Lib.hid (clone_cel _ X An ch.new nn cn hnnH.out hraw2.out.new (by have := hsm.out.2; have := hnnH.out; omega))
        replace hp := Lib.hid hp
        replace hat' := Lib.hid hat'
        replace hpl := Lib.hid hpl
        replace hgb := Lib.hid hgb
        go_wp2_with (at_lookup; refine wpList_lookup_own_ok_int _ rfl _ _ 69 rfl 71 3 .i64 law71 Try.underlying69 Try.underlying3 (Try.zeroValue3 _) bm k D rfl hM2.out.1 (kv ch.t ch.id) _ rfl (key71 hwf.out.1 hwf.out.2) ?_; intro ci hat hwc; obtain rfl : ci = (i : Int) := (by have := hat'.out (.lit (.int .i64 0)); rw [hat] at this; injection this with this; injection this); clear hat hwc)
        refine HC.out.mono ?_
        rintro e w3 ⟨A3, c3', rfl, ra3, fr3, k3, ce3⟩
        have hN3 := Lib.hid (hN2.out.step k3.out)
        have hM3 := Lib.hid (hM2.out.step k3.out)
        have fz : w3.frozen? ⟨g, i * 4 + 3, none⟩ = false := by
          obtain ⟨_, cur, hb⟩ := own_blk hN3.out.own (g := g) rfl
          exact hb.frozen _
        obtain ⟨u3, z3⟩ : ∃ u, w3.cell? ⟨g, i * 4 + 3, none⟩ = some u := by
          have hi := hil.out
          rw [hpl.out] at hi
          obtain ⟨p, hpi⟩ : ∃ p, P[i]? = some p := ⟨P[i], List.getElem?_eq_getElem hi⟩
          obtain ⟨_, _, _, h3⟩ := flatC_get (P.map (·.1)) i p.1 (by rw [List.getElem?_map, hpi]; rfl)
          obtain ⟨g', c', hv, _, _, _, _, hcell, _⟩ := own_row3 hN3.out.own (by omega)
          injection hv with hA _ _
          cases hA
          exact ⟨_, hcell _ _ h3⟩
        obtain ⟨P', hnet', hN', hM'⟩ := NetR.old (c3 := c3') hN3.out hnet.out hM3.out hp.out ra3.out (fr3.out.mono hN2.out.kp.size) ce3.out nn hnnH.out
        rw [← hsnoc.out] at hnet' hM'
        replace hnet' := Lib.hid hnet'
        replace hN' := Lib.hid hN'
        replace hM' := Lib.hid hM'
        clear HC hN3 hM3 ra3 fr3 k3 ce3 hM2 hN2 B6 c0 c1 c2 c3
        go_wp2_with fail
        go_roundw
        case rel => exact ⟨k + 1, P', D, by omega, by go_num, hnet', hN', hM'⟩
        case measure => simp [intOf]; omega
      | none =>
        rw [hp] at hidx
        dsimp only at hidx
        replace hp := Lib.hid hp
        obtain ⟨pl, hpl⟩ : ∃ pl, pl = P.length := ⟨_, rfl⟩
        rw [← hpl] at hkk hN2 ⊢
        replace hpl := Lib.hid hpl
        obtain ⟨i5, hi5, hy0, hy1, hy2⟩ := info_parts info35
        replace hi5 := Lib.hid hi5
        replace hy0 := Lib.hid hy0
        replace hy1 := Lib.hid hy1
        replace hy2 := Lib.hid hy2
        have HC : Hid (∀ w', ((wo.alloc (.cells #[.int .i64 ch.t, .int .i64 ch.id, .slice Ao no co, .slice An nn cn] 35)).alloc (.cells #[.int .i64 ch.t, .int .i64 ch.id] 71)).grownBy w' (some bm) → Calls Try.prog 31 #[.agg #[.int .i64 ch.t, .int .i64 ch.id, .slice Ao no co, .slice An nn cn]] w' (ChgCel w' ch)) := Lib.hid (fun w' hg => by
          obtain ⟨a1, a2, a3, a4, a5, a6⟩ := hraw2.out
          exact clonec_cel w' X ⟨ch.t, ch.id, Ao, no, co, An, nn, cn⟩ ch ⟨a1, a2, a3, a4, a5.turn hg hM2.out.obj, a6.turn hg hM2.out.obj⟩ hsm.out)
        go_wp2_with (first
          | (at_lookup; refine wpList_lookup_own_ok_int _ rfl _ _ 69 rfl 71 3 .i64 law71 Try.underlying69 Try.underlying3 (Try.zeroValue3 _) bm k D rfl hM2.out.1 (kv ch.t ch.id) _ rfl (key71 hwf.out.1 hwf.out.2) ?_; intro ci hat hwc; clear hat hwc)
          | (at_mapUpdate; refine wpList_mapUpdate_own _ rfl _ _ _ 69 rfl 71 3 law71 Try.underlying69 _ bm k D rfl hM2.out.1 (by have := hkk.out; unfold maxLen; omega) (kv ch.t ch.id) (.int .i64 (pl : Int)) (kl ch.t ch.id) rfl rfl (key71 hwf.out.1 hwf.out.2) (.lit (.int .i64 (pl : Int))) [] (plainElem_int Try.underlying3 (WalkArith.wf_i64 (by have := hkk.out; omega))) ?_; intro w3 hown3 hgrow3; have z63 := (blk_turn B6.out hgrow3 hM2.out.obj).cell; replace hgrow3 := Lib.hid hgrow3; replace hown3 := Lib.hid hown3))
        refine (HC.out _ hgrow3.out).mono ?_
        rintro e w4 ⟨⟨t4, i4, Ao4, no4, co4, An4, nn4, cn4⟩, rfl, ri4, fr4, k4, ce4⟩
        dsimp only [Raw.cells]
        have hN3 := NetR.turn hN2.out hgrow3.out hM2.out.obj hbm'.out
        have hM3 : MapR bm (k + 1) (D.put (kl ch.t ch.id) (.lit (.int .i64 (pl : Int)))) (put (netM (L.take k)) ch) w3 := ⟨hown3.out, by
          have := idx_new hM2.out.2 hwf.out hp.out
          rw [show (netM (L.take k)).length = pl by have := hPl.out.1; have := hpl.out; omega] at this
          exact this⟩
        have ka4 : Keeps [] w4 (w4.alloc (.cells #[.int .i64 t4, .int .i64 i4, .slice Ao4 no4 co4, .slice An4 nn4 cn4] 35)) := (Keeps.refl [] w4).alloc _
        have hN5 := Lib.hid ((hN3.step k4.out).step ka4)
        have hM5 := Lib.hid ((hM3.step k4.out).step ka4)
        have ri5 := Lib.hid (ri4.out.keep ka4 (by simp))
        have fr5 : Hid (Fresh w.heap.size Ao4 ∧ Fresh w.heap.size An4) := Lib.hid ⟨fr4.out.1.mono hN3.kp.size, fr4.out.2.mono hN3.kp.size⟩
        have ce5 : Hid (Cel (w4.alloc (.cells #[.int .i64 t4, .int .i64 i4, .slice Ao4 no4 co4, .slice An4 nn4 cn4] 35)) Ao4 ∧ Cel (w4.alloc (.cells #[.int .i64 t4, .int .i64 i4, .slice Ao4 no4 co4, .slice An4 nn4 cn4] 35)) An4) := Lib.hid ⟨ce4.out.1.keep0 ka4, ce4.out.2.keep0 ka4⟩
        have Bn := Lib.hid (Blk.new w4 35 #[.int .i64 t4, .int .i64 i4, .slice Ao4 no4 co4, .slice An4 nn4 cn4])
        have hown5 : Hid ((w4.alloc (.cells #[.int .i64 t4, .int .i64 i4, .slice Ao4 no4 co4, .slice An4 nn4 cn4] 35)).ownsRow w.heap.size 35 4 (.slice A4 pl c4) pl (rows P)) := Lib.hid (by have := hN5.out.own; rw [← hpl.out] at this; exact this)
        have hsz5 := Lib.hid hN5.out.kp.size
        clear HC hN3 hM3 ri4 fr4 k4 ce4 ka4 hM2 hN2 B6 c0 c1 c2 c3 z63 hown3 hgrow3
        go_wp2_with (at_builtin; refine wpList_append_row (by rfl) (.tmp 43) (.tmp 46) 28 rfl w.heap.size 35 i5 (.agg #[.int .i64 0, .int .i64 0, .slice none 0 0, .slice none 0 0]) 4 64 Try.underlying28 hi5.out hy0.out hy1.out hy2.out rfl (by decide) (.slice A4 pl c4) pl (rows P) rfl hown5.out (some ⟨w4.heap.size, 0, none⟩) 1 1 [.int .i64 t4, .int .i64 i4, .slice Ao4 no4 co4, .slice An4 nn4 cn4] rfl rfl (src_raw (r := ⟨t4, i4, Ao4, no4, co4, An4, nn4, cn4⟩) Bn.out) (by simp [Value.oneCell']) (by have := hkk.out; unfold maxLen; omega) (by have := hkk.out; omega) hsz5.out ?_; intro v8 w8 q1 q2 q3 q4)
        have hN8 : Hid (NetR w v8 (P ++ [(⟨t4, i4, Ao4, no4, co4, An4, nn4, cn4⟩, ch)]) w8) := Lib.hid (NetR.add hN5.out hsz5.out ri5.out fr5.out ce5.out.1 ce5.out.2 (by rw [← hpl.out]; exact q1.out) q2.out q4.out)
        have hM8 : Hid (MapR bm (k + 1) (D.put (kl ch.t ch.id) (.lit (.int .i64 (pl : Int)))) (netM (L.take (k + 1))) w8) := Lib.hid (by
          rw [hsnoc.out]
          exact hM5.out.grown q2.out (fun r hr => by obtain ⟨_, cur, hb⟩ := own_blk hN5.out.own hr; exact ⟨35, cur, hb⟩))
        have hnet8 : Hid ((P ++ [((⟨t4, i4, Ao4, no4, co4, An4, nn4, cn4⟩, ch) : PQ)]).map (·.2) = netM (L.take (k + 1))) := Lib.hid (by
          rw [hsnoc.out, List.map_append, hnet.out]
          unfold put
          rw [hp.out]
          rfl)
        clear hN5 hM5 ri5 fr5 ce5 Bn hown5 q1 q2 q3 q4
        go_roundw
        case rel => exact ⟨k + 1, _, _, by omega, by go_num, hnet8, hN8, hM8⟩
        case measure => simp [intOf]; omega
    · obtain rfl : k = n := by omega
      have hD := Lib.hid (delsort w wo (.slice A4 P.length c4) P hN.out (fun p hp => small_net (fun b hb => hsL.out b (List.mem_of_mem_take hb)) p.2 (by rw [← hnet.out]; exact List.mem_map_of_mem hp)) (by have := hPl.out.2; omega))
      have hjf : ¬ (k : Int) < (k : Int) := by omega
      go_wp2_with fail
      refine hD.out.mono ?_
      rintro e w5 ⟨A5, c5, Q, rfl, hQ, hN5⟩
      have hQl : Hid (Q.length ≤ k) := Lib.hid (by rw [hQ]; exact Nat.le_trans (List.length_filter_le _ _) hPl.out.2)
      have hS := Lib.hid (sorted w w5 A5 c5 Q hN5 (by have := hQl.out; omega))
      replace hQ := Lib.hid hQ
      clear hN5 hD
      go_wp2_with fail
      refine hS.out.mono ?_
      rintro e w6 ⟨rfl, S, hp, ha, hN6⟩
      have hl := hp.length_eq
      have hfin : Hid (NetPost w L (.returned (.slice A5 Q.length c5)) w6) := Lib.hid (by
        refine ⟨A5, c5, S, _, rfl, ⟨?_, ha⟩, by rw [hl], by rw [hl]; exact hN6⟩
        have := (hp.map (·.2))
        rw [hQ.out, filter_map, hnet.out, List.take_of_length_le (by rw [hlL.out]; exact Nat.le_refl _)] at this
        exact this)
      clear hS hp ha hN6 hl
      go_wp2_with fail
      go_ret
      exact hfin.out
end Go.Proofs.Ytmclfbhcddcebaa
