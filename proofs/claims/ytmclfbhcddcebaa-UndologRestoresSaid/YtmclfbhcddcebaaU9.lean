/- The contract of remove. -/
import Derived.Test.YtmclfbhcddcebaaU8
namespace Go.Proofs.Ytmclfbhcddcebaa
open Go.RowKit Go.Shelf
set_option linter.unusedSimpArgs false
set_option linter.unusedVariables false

attribute [local go_sem] Oper.semAt_some

theorem RowAt.turn {w w' : World} {row : Option Nat} {X : List Nat} {A : Option Addr} {l : List Val} (h : RowAt w X A l) (hg : w.grownBy w' row) (hr : ∀ r, row = some r → ∃ o : Obj, w.heap[r]? = some o ∧ o.isCells = false) : RowAt w' X A l := by
  intro i v hi
  obtain ⟨g, off, rfl, hx, h1, h2, h3⟩ := h i v hi
  exact ⟨g, off, rfl, hx, cell_kept h1 hg hr, cell_kept h2 hg hr, cell_kept h3 hg hr⟩
theorem RawsIs.turn {w w' : World} {row : Option Nat} {X : List Nat} {R : List Raw} {L : List Chg} (h : RawsIs w X R L) (hg : w.grownBy w' row) (hr : ∀ r, row = some r → ∃ o : Obj, w.heap[r]? = some o ∧ o.isCells = false) : RawsIs w' X R L :=
  ⟨h.1, fun i r c h1 h2 => by
    obtain ⟨a1, a2, a3, a4, a5, a6⟩ := h.2 i r c h1 h2
    exact ⟨a1, a2, a3, a4, a5.turn hg hr, a6.turn hg hr⟩⟩
theorem own_turn {w w' : World} {row : Option Nat} {base e size n : Nat} {v : Value} {xs : List Value} (h : w.ownsRow base e size v n xs) (hg : w.grownBy w' row) (hr : ∀ r, row = some r → ∃ o : Obj, w.heap[r]? = some o ∧ o.isCells = false) : w'.ownsRow base e size v n xs := by
  have k : Keeps row.toList w w' := Keeps.grown hg (by intro g h; rw [h]; simp)
  refine own_keep h k (fun g hgv hm => ?_)
  obtain ⟨_, cur, hb⟩ := own_blk h hgv
  obtain ⟨o, ho, hc⟩ := hr g (Option.mem_toList.1 hm)
  have h1 : w.heap[g]? = some (.cells cur e (0, 0)) := hb
  rw [h1] at ho
  cases ho
  cases hc
theorem keepsFrom_of2 {X : List Nat} {B : Nat} {W W' : World} (h : Keeps X W W') (hX : ∀ x ∈ X, x < B ∨ ∃ t cs, Blk W x t cs) : KeepsFrom B W W' :=
  ⟨h.size, fun k o hB hk ho => by
    have hlt : k < W.heap.size := by
      rcases Nat.lt_or_ge k W.heap.size with h1 | h1
      · exact h1
      · rw [Array.getElem?_eq_none h1] at hk; cases hk
    rw [h.block k hlt (fun hm => by
      rcases hX k hm with h1 | ⟨t, cs, h1⟩
      · omega
      · have h2 : W.heap[k]? = some (.cells cs t (0, 0)) := h1
        rw [hk] at h2
        cases h2
        cases ho)]
    exact hk⟩
def GaAt (w : World) (A : Option Addr) (ga off : Nat) (R : List Raw) : Prop := R = [] ∨ (A = some ⟨ga, off, none⟩ ∧ ga < w.heap.size ∧ RawsAt w ga off R)
/-- What the loop of remove keeps. -/
def IRem (g6 : Nat) (L : List Chg) (W0 : World) (pre : List Nat) (W : World) : Prop :=
  ∃ v Rr, Blk W g6 28 #[v] ∧ W.ownsRow W0.heap.size 35 4 v pre.length (flatC Rr) ∧ RawsIs W (g6 :: v.ownBlock.toList) Rr (pre.map (fun k => inv (cAt L k))) ∧ (∀ (i : Nat) (r : Raw), Rr[i]? = some r → Fresh W0.heap.size r.Ao ∧ Fresh W0.heap.size r.An) ∧ Keeps [g6] W0 W
theorem irem_own (g6 : Nat) (L : List Chg) (W0 : World) : OwnFrom W0.heap.size (IRem g6 L W0) := by
  intro s W W' row hs hg hr
  obtain ⟨v, Rr, h1, h2, h3, h4, h5⟩ := hs
  exact ⟨v, Rr, blk_turn h1 hg (fun r e => (hr r e).2), own_turn h2 hg (fun r e => (hr r e).2), h3.turn hg (fun r e => (hr r e).2), h4, own_keeps (β := Unit) () W W' row h5 hg hr⟩
theorem upto_rev (L : List Chg) : (upto (fun j => L.length - 1 - j) L.length).map (fun k => inv (cAt L k)) = L.reverse.map inv := by
  refine List.ext_getElem (by simp [upto]) (fun i h1 h2 => ?_)
  have hi : i < L.length := by simpa [upto] using h1
  have h3 := rev_at (L := L) hi
  have h4 : i < L.reverse.length := by simpa using hi
  rw [List.getElem?_eq_getElem h4] at h3
  simp only [upto, List.getElem_map, List.getElem_range]
  rw [Option.some.inj h3]

theorem own_le {w : World} {base base' : Nat} {e : TypeId} {size n : Nat} {v : Value} {xs : List Value} (h : w.ownsRow base' e size v n xs) (hb : base ≤ base') : w.ownsRow base e size v n xs :=
  ⟨h.1, by
    rcases h.2 with h1 | ⟨g, cap, cur, h1, h2, h3⟩
    · exact .inl h1
    · exact .inr ⟨g, cap, cur, h1, Nat.le_trans hb h2, h3⟩⟩
def RemPost (w : World) (gl m kp : Nat) (A : Option Addr) (cc : Nat) (sv : Value) (L' : List Chg) (e : Ending) (w' : World) : Prop :=
  ∃ A' c' Rr, e = .returned (.slice A' m c') ∧ w'.ownsRow w.heap.size 35 4 (.slice A' m c') m (flatC Rr) ∧ RawsIs w' [] Rr (L'.reverse.map inv) ∧ (∀ (i : Nat) (r : Raw), Rr[i]? = some r → Fresh w.heap.size r.Ao ∧ Fresh w.heap.size r.An) ∧ Blk w' gl 64 #[.slice A kp cc, sv] ∧ Keeps [gl] w w'

set_option maxRecDepth 100000 in
set_option maxHeartbeats 8000000 in
theorem remove_any (w : World) (base gl : Nat) (A : Option Addr) (nc cc kp m : Nat) (sv : Value) (R : List Raw) (L : List Chg) (X : List Nat) (hB : Blk w gl 64 #[.slice A nc cc, sv]) (hO : w.ownsRow base 35 4 (.slice A nc cc) nc (flatC R)) (hn : R.length = nc) (hR : RawsIs w X R L)
    (hsL : ∀ b ∈ L, Small b) (hnc : nc ≤ 1000000) (hkm : kp + m = nc) :
    Calls Try.prog 42 #[.pointer (some ⟨gl, 0, none⟩), .int .i64 m] w (RemPost w gl m kp A cc sv (L.drop kp)) := by
  refine (callsIn_wide (n := 5)).1 ?_
  obtain rfl : nc = kp + m := hkm.symm
  have hk1 : (kp : Int) ≤ (kp : Int) + (m : Int) := by omega
  have hk0 : ¬ ((kp : Int) < 0) := by omega
  have hcc : kp + m ≤ cc := by
    obtain ⟨A', c', hv, h1, _⟩ := own_slice hO
    injection hv with _ _ hc
    omega
  have hcci : (kp : Int) + (m : Int) ≤ (cc : Int) := by omega
  have hkcc : (kp : Int) ≤ (cc : Int) := by omega
  have z1 := (hB.keep ((Keeps.refl [] w).alloc (.cells #[.slice none 0 0] 28)) (by simp)).cell
  have z0 := hB.cell
  have hgl := Lib.hid hB.lt
  have hRd : Hid (RawsIs w X (R.drop kp) (L.drop kp)) := Lib.hid ⟨by rw [List.length_drop, List.length_drop, hR.1], fun i r c h1 h2 => by rw [List.getElem?_drop] at h1 h2; exact hR.2 _ r c h1 h2⟩
  have hRl : Hid ((R.drop kp).length = m) := Lib.hid (by rw [List.length_drop]; omega)
  have hsD : Hid (∀ b ∈ L.drop kp, Small b) := Lib.hid (fun b hb => hsL b (List.mem_of_mem_drop hb))
  have hLl : Hid ((L.drop kp).length = m) := Lib.hid (by rw [List.length_drop, ← hR.1]; omega)
  replace hB := Lib.hid hB
  obtain ⟨g6, hg6⟩ : ∃ g, g = w.heap.size := ⟨_, rfl⟩
  obtain ⟨gB, hgB⟩ : ∃ g, g = w.heap.size + 1 := ⟨_, rfl⟩
  have hgg := Lib.hid (show w.heap.size ≤ g6 ∧ w.heap.size ≤ gB ∧ gB ≠ g6 by omega)
  -- where the cells of the changes lie
  have harm : (A = none ∧ kp = 0 ∧ cc = 0 ∧ m = 0) ∨ ∃ g, A = some ⟨g, 0, none⟩ ∧ g < w.heap.size ∧ (kp + m = 0 ∨ RawsAt w g 0 R) := by
    rcases Nat.eq_zero_or_pos (kp + m) with h0 | h0
    · rcases hO.2 with ⟨hv, _⟩ | ⟨g, cap, cur, hv, _, hb, _⟩
      · injection hv with h1 _ h2
        exact .inl ⟨h1, by omega, h2, by omega⟩
      · injection hv with h1 _ h2
        exact .inr ⟨g, h1, Blk.lt (cs := cur) (t := 35) hb, .inl h0⟩
    · obtain ⟨g, h1, h2, _, h3⟩ := raws_of_own hO hn h0
      exact .inr ⟨g, h1, h2, .inr h3⟩
  replace hO := Lib.hid hO
  replace hn := Lib.hid hn
  replace hR := Lib.hid hR
  replace hsL := Lib.hid hsL
  refine callsIn_of_wp_marks Try.func42 rfl trivial ?_ rfl
  refine wpIn_wide.2 ?_
  simp only [Try.ntmps42, List.size_toArray, List.length_cons, List.length_nil, Nat.reduceAdd, Nat.reduceSub, Array.replicate_succ, Array.replicate_zero, List.push_toArray, List.append_toArray, List.nil_append, List.cons_append]
  rcases harm with ⟨rfl, rfl, rfl, rfl⟩ | ⟨ga, rfl, hgaw, hga⟩
  · have hga : Hid (R.drop 0 = [] ∨ ((none : Option Addr) = some ⟨0, 0, none⟩ ∧ 0 < w.heap.size ∧ RawsAt w 0 0 (R.drop 0))) := Lib.hid (.inl (List.eq_nil_of_length_eq_zero (by rw [hRl.out])))
    have hga' : Hid (GaAt w none gB 0 (R.drop 0)) := Lib.hid (.inl (List.eq_nil_of_length_eq_zero (by rw [hRl.out])))
    clear hga
    go_wp2_with fail
    refine (callsIn_wide.1 (back_in Fence.wide 4 trivial rfl _ _ _ _)).mono ?_
    rintro e w' ⟨rfl, rfl⟩
    clear z0 z1
    have k0 : Keeps [] w ((w.alloc (.cells #[.slice none 0 0] 28)).alloc (.cells #[.slice (none : Option Addr) 0 0] 28)) := ((Keeps.refl [] w).alloc _).alloc _
    have B6 : Blk ((w.alloc (.cells #[.slice none 0 0] 28)).alloc (.cells #[.slice (none : Option Addr) 0 0] 28)) g6 28 #[.slice none 0 0] := by rw [hg6]; exact (Blk.new w 28 _).alloc _
    have BB : Blk ((w.alloc (.cells #[.slice none 0 0] 28)).alloc (.cells #[.slice (none : Option Addr) 0 0] 28)) gB 28 #[.slice (none : Option Addr) 0 0] := by
      rw [hgB]
      have := Blk.new (w.alloc (.cells #[.slice none 0 0] 28)) 28 #[.slice (none : Option Addr) 0 0]
      simpa using this
    have hB0 := Lib.hid (hB.out.keep k0 (by simp))
    have hgaX : Hid (GaAt ((w.alloc (.cells #[.slice none 0 0] 28)).alloc (.cells #[.slice (none : Option Addr) 0 0] 28)) (none : Option Addr) gB (0) (R.drop 0)) := Lib.hid (by
      rcases hga'.out with h | ⟨h1, h2, h3⟩
      · exact .inl h
      · exact .inr ⟨h1, Nat.lt_of_lt_of_le h2 k0.size, fun i r hi => by
          obtain ⟨a0, a1, a2, a3⟩ := h3 i r hi
          exact ⟨k0.cellEq a0 (by simp), k0.cellEq a1 (by simp), k0.cellEq a2 (by simp), k0.cellEq a3 (by simp)⟩⟩)
    replace k0 := Lib.hid k0
    replace B6 := Lib.hid B6
    replace BB := Lib.hid BB
    go_wp2_with fail
    generalize (w.alloc (.cells #[.slice none 0 0] 28)).alloc (.cells #[.slice (none : Option Addr) 0 0] 28) = W0 at *
    rw [← hgB, ← hg6]
    replace hg6 := Lib.hid hg6
    replace hgB := Lib.hid hgB
    clear hga'
    refine (wpIn_wide (n := 5)).1 (loop_back (px := 8) gB gB (0) 0 (none : Option Addr) (R.drop 0) (by rw [hRl.out]; omega) (by rfl) BB.out.lt (by rw [hRl.out]; exact BB.out.cell 0) hgaX.out (IRem g6 (L.drop 0) W0) (fun _ _ _ => False) (irem_own g6 (L.drop 0) W0) (fun _ _ _ _ _ h _ _ => h)
      ⟨.slice none 0 0, [], B6.out, ⟨rfl, .inl ⟨rfl, rfl⟩⟩, ⟨rfl, fun i r c h _ => by simp at h⟩, fun i r h => by simp at h, Keeps.refl _ _⟩ (fun pre W h => by obtain ⟨_, _, _, _, _, _, h⟩ := h; exact h.size) ?_ ?_ ?_ ?_)
    · intro l k W K hK
      unfold slotsB at hK
      generalize rAt (R.drop 0) k = rr at *
      obtain ⟨t', id', Ao', no', co', An', nn', cn'⟩ := rr
      unfold Raw.cells at *
      dsimp only at *
      gi_wp2
      exact hK
    · intro l pre k Bx W hl hI hBx bX hpl
      obtain ⟨v, Rr, hBox, hown, hraw, hfr, hk⟩ := hI
      have raw := hRd.out.at_ k
      have hsc : Small (cAt (L.drop 0) k) := by
        unfold cAt
        cases hq : (L.drop 0)[k]? with
        | none => exact ⟨Nat.zero_le _, Nat.zero_le _⟩
        | some b => exact hsD.out b (List.mem_of_getElem? hq)
      have Kw : Keeps [] w W := (k0.out.nil.trans hk).mono (fun y hy => .inr (by rw [List.mem_singleton.1 hy]; exact hgg.out.1))
      rw [hRl.out] at hpl
      unfold slotsB
      generalize rAt (R.drop 0) k = rr at *
      obtain ⟨t', id', Ao', no', co', An', nn', cn'⟩ := rr
      have HI : Hid (∀ w', Keeps [] W.drew w' → Calls Try.prog 18 #[.agg #[.int .i64 t', .int .i64 id', .slice Ao' no' co', .slice An' nn' cn']] w' (ChgCopy w' (inv (cAt (L.drop 0) k)))) := Lib.hid (fun w' hk' => inverse_any w' X ⟨t', id', Ao', no', co', An', nn', cn'⟩ (cAt (L.drop 0) k) (raw.keep (Kw.drew.trans hk') (by simp)) hsc)
      unfold Raw.cells at *
      dsimp only at bX ⊢
      have HSf : Hid (∀ w', Keeps [] W.drew w' → w'.cell? ⟨g6, 0, none⟩ = some v) := Lib.hid (fun w' hk' => hk'.cellEq (hBox.drew.cell 0) (by simp))
      have h0 := HSf.out _ (Keeps.refl [] W.drew)
      have hBoxd := Lib.hid hBox.drew
      have bXd := Lib.hid bX.out.drew
      have hownd : Hid (W.drew.ownsRow W0.heap.size 35 4 v pre.length (flatC Rr)) := Lib.hid hown
      have hrawd := Lib.hid (hraw.keep (Keeps.refl [] W).drew (by simp))
      have hsz : Hid (W0.heap.size ≤ W.drew.heap.size) := Lib.hid hk.size
      have hszW : Hid (W0.heap.size ≤ W.heap.size) := Lib.hid hk.size
      have hnv : Hid (g6 ∉ v.ownBlock.toList) := Lib.hid (fun hx => by obtain ⟨_, cur, h1⟩ := own_blk hown (Option.mem_toList.1 hx); exact Blk.ne_ h1 hBox (by decide) rfl)
      have hkd := Lib.hid hk.drew
      have hpl' : Hid (pre.length < 0 ∧ 0 ≤ 1000000) := Lib.hid ⟨hpl, by omega⟩
      have hplH : Hid (pre.length ≤ 1000000) := Lib.hid (by omega)
      replace hfr := Lib.hid hfr
      have hvb : Hid (∀ g, v.ownBlock = some g → W0.heap.size ≤ g ∧ ∃ cur, Blk W g 35 cur) := Lib.hid (fun g hg => own_blk hown hg)
      have hBX6 : Hid (gB ≠ g6 ∧ gB ≠ g6 ∨ True) := Lib.hid (.inr trivial)
      have hKdW : Hid (Keeps [] W W.drew) := Lib.hid (Keeps.refl [] W).drew
      obtain ⟨i5, hi5, hy0, hy1, hy2⟩ := info_parts info35
      replace hi5 := Lib.hid hi5
      replace hy0 := Lib.hid hy0
      replace hy1 := Lib.hid hy1
      replace hy2 := Lib.hid hy2
      clear raw hsc Kw hpl hgaX hBox bX hown hraw hk
      gi_wp2
      refine round_region_J l 3 (S := (fun w' : World => w'.cell? ⟨g6, 0, none⟩ = some v)) (n := 5) (by kernel_rfl) (by kernel_rfl) ?_
      generalize W.drew = wd at *
      have HS := h0
      have xX := bXd.out.cell
      have Kx := Lib.hid (Keeps.refl [] wd)
      refine wpAnyJ_take (i := 0) (v := ?_) (by kernel_rfl) rfl (by kernel_rfl) (by kernel_rfl) (by kernel_rfl) (fun _ _ _ h => h) HS (Or.inl ⟨by rfl, ?_⟩) ?_
      rotate_left
      · (intro w hSw; obtain y1 := hSw; go_simp; try with_reducible rfl)
      try simp only [Act.put, List.getElem_toArray, List.getElem_cons_succ, List.getElem_cons_zero, List.setIfInBounds_toArray, List.set_cons_zero, List.set_cons_succ]
      refine wpAnyJ_one (i := 1) rfl (by kernel_rfl) (fun K hK => ?_)
      dsimp only [List.getElem_toArray, List.getElem_cons_succ, List.getElem_cons_zero]
      go_simp
      refine hK _ _ (Or.inr HS) ?_
      clear hK K xX
      try simp only [Act.put, List.getElem_toArray, List.getElem_cons_succ, List.getElem_cons_zero, List.setIfInBounds_toArray, List.set_cons_zero, List.set_cons_succ]
      refine wpAnyJ_one (i := 2) rfl (by kernel_rfl) (fun K hK => ?_)
      dsimp only [List.getElem_toArray, List.getElem_cons_succ, List.getElem_cons_zero]
      go_simp
      refine (HI.out _ Kx.out).mono ?_
      rintro e w6 ⟨⟨t6, i6, Ao6, no6, co6, An6, nn6, cn6⟩, rfl, ri6, fr6, k6⟩
      dsimp only [Raw.cells]
      have h6f : Hid (Fresh wd.heap.size Ao6 ∧ Fresh wd.heap.size An6) := Lib.hid ⟨fr6.out.1.mono Kx.out.size, fr6.out.2.mono Kx.out.size⟩
      replace Kx := Lib.hid (Kx.out.trans k6.out)
      have HS := HSf.out _ Kx.out
      clear k6 fr6
      refine hK _ _ (Or.inr HS) ?_
      clear hK K
      try simp only [Act.put, List.getElem_toArray, List.getElem_cons_succ, List.getElem_cons_zero, List.setIfInBounds_toArray, List.set_cons_zero, List.set_cons_succ]
      refine wpAnyJ_one (i := 3) rfl (by kernel_rfl) (fun K hK => ?_)
      dsimp only [List.getElem_toArray, List.getElem_cons_succ, List.getElem_cons_zero]
      go_simp
      have ka7 : Keeps [] w6 (w6.alloc (.cells #[.int .i64 t6, .int .i64 i6, .slice Ao6 no6 co6, .slice An6 nn6 cn6] 35)) := (Keeps.refl [] w6).alloc _
      have Bn := Lib.hid (Blk.new w6 35 #[.int .i64 t6, .int .i64 i6, .slice Ao6 no6 co6, .slice An6 nn6 cn6])
      replace ri6 := Lib.hid (ri6.out.keep ka7 (by simp))
      have HS := HSf.out _ (Kx.out.trans ka7)
      replace Kx := Lib.hid (Kx.out.trans ka7)
      refine hK _ _ (Or.inr HS) ?_
      clear hK K ka7
      obtain ⟨g7, hg7⟩ : ∃ g, g = w6.heap.size := ⟨_, rfl⟩
      rw [← hg7] at Bn ⊢
      clear hg7
      generalize w6.alloc (.cells #[.int .i64 t6, .int .i64 i6, .slice Ao6 no6 co6, .slice An6 nn6 cn6] 35) = w7 at *
      try simp only [Act.put, List.getElem_toArray, List.getElem_cons_succ, List.getElem_cons_zero, List.setIfInBounds_toArray, List.set_cons_zero, List.set_cons_succ]
      refine wpAnyJ_one (i := 4) rfl (by kernel_rfl) (fun K hK => ?_)
      dsimp only [List.getElem_toArray, List.getElem_cons_succ, List.getElem_cons_zero]
      rw [if_pos (by rfl)]
      have ow7 := Lib.hid (own_keep0 hownd.out Kx.out)
      have hb7 : W0.heap.size ≤ w7.heap.size := Nat.le_trans hsz.out Kx.out.size
      refine wp_append_row (.tmp 25) (.tmp 28) 28 (by rfl) W0.heap.size 35 i5 (.agg #[.int .i64 0, .int .i64 0, .slice none 0 0, .slice none 0 0]) 4 64 Try.underlying28 hi5.out hy0.out hy1.out hy2.out rfl (by decide) v pre.length (flatC Rr) (by rfl) ow7.out (some ⟨g7, 0, none⟩) 1 1 [.int .i64 t6, .int .i64 i6, .slice Ao6 no6 co6, .slice An6 nn6 cn6] (by rfl) rfl (src_raw (r := ⟨t6, i6, Ao6, no6, co6, An6, nn6, cn6⟩) Bn.out) (by simp [Value.oneCell']) (by have := hplH.out; unfold maxLen; omega) (by have := hplH.out; omega) hb7 ?_
      intro v8 w8 q1 q2 q3 q4
      obtain ⟨A8, c8, rfl, _⟩ := own_slice q1.out
      have k8 : Hid (Keeps v.ownBlock.toList w7 w8) := Lib.hid (Keeps.grown q2.out (fun g hg => Option.mem_toList.2 hg))
      have B8 := Lib.hid ((hBoxd.out.keep Kx.out (by simp)).keep k8.out hnv.out)
      have fz := B8.out.frozen 0
      have HS := k8.out.cellEq HS hnv.out
      refine hK _ _ (Or.inr HS) ?_
      clear hK K
      try simp only [Act.put, List.getElem_toArray, List.getElem_cons_succ, List.getElem_cons_zero, List.setIfInBounds_toArray, List.set_cons_zero, List.set_cons_succ]
      refine wpAnyJ_one (i := 5) rfl (by kernel_rfl) (fun K hK => ?_)
      dsimp only [List.getElem_toArray, List.getElem_cons_succ, List.getElem_cons_zero]
      go_simp
      refine hK _ _ (Or.inl (by omega)) ?_
      clear hK K
      try simp only [Act.put, List.getElem_toArray, List.getElem_cons_succ, List.getElem_cons_zero, List.setIfInBounds_toArray, List.set_cons_zero, List.set_cons_succ]
      refine wpAnyJ_done (by kernel_rfl) ?_ _
      have K8 : Keeps v.ownBlock.toList W w8 := (hKdW.out.trans Kx.out).nil.trans k8.out
      have Kf : Keeps (g6 :: v.ownBlock.toList) W (w8.setCell ⟨g6, 0, none⟩ (.slice A8 (pre.length + 1) c8)) := (K8.mono (fun x hx => .inl (List.mem_cons_of_mem _ hx))).setCell (p := ⟨g6, 0, none⟩) (.inl List.mem_cons_self) _
      have k78 : Keeps (g6 :: v.ownBlock.toList) w7 (w8.setCell ⟨g6, 0, none⟩ (.slice A8 (pre.length + 1) c8)) := (k8.out.mono (fun x hx => .inl (List.mem_cons_of_mem _ hx))).setCell (p := ⟨g6, 0, none⟩) (.inl List.mem_cons_self) _
      have hg6W : g6 < W0.heap.size := B6.out.lt
      have hsW : W.heap.size ≤ w7.heap.size := (hKdW.out.trans Kx.out).size
      have hs8 : w7.heap.size ≤ (w8.setCell ⟨g6, 0, none⟩ (.slice A8 (pre.length + 1) c8)).heap.size := k78.size
      have hvW : ∀ g, v.ownBlock = some g → g < W.heap.size := fun g hg => by obtain ⟨_, cur, h1⟩ := hvb.out g hg; exact h1.lt
      have hq4 : ∀ g, (Value.slice A8 (pre.length + 1) c8).ownBlock = some g → v.ownBlock = some g ∨ g = w7.heap.size := fun g hg => by
        rcases q4.out with h | h
        · exact .inl (h.symm.trans hg)
        · rw [h] at hg; cases hg; exact .inr rfl
      have hsz' : W0.heap.size ≤ W.heap.size := hszW.out
      show KeepsFrom W0.heap.size W _ ∧ Kp2 gB gB W _ ∧ IRem g6 (L.drop 0) W0 (pre ++ [k]) _
      refine ⟨keepsFrom_of2 Kf (fun x hx => ?_), Kp2.of_keeps Kf (fun hx => ?_) (fun hx => ?_), .slice A8 (pre.length + 1) c8, Rr ++ [⟨t6, i6, Ao6, no6, co6, An6, nn6, cn6⟩], B8.out.set_ 0 _, ?_, ?_, ?_, ?_⟩
      · rcases List.mem_cons.1 hx with rfl | hx
        · exact .inl hg6W
        · obtain ⟨_, cur, h1⟩ := hvb.out x (Option.mem_toList.1 hx)
          exact .inr ⟨35, cur, h1⟩
      · rcases List.mem_cons.1 hx with h | h
        · exact hgg.out.2.2 h
        · have := (hvb.out _ (Option.mem_toList.1 h)).1; have := BB.out.lt; omega
      · rcases List.mem_cons.1 hx with h | h
        · have h1 := hgg.out.1; have h2 := hgg.out.2.2; omega
        · have h1 := (hvb.out _ (Option.mem_toList.1 h)).1; have h2 := k0.out.size; have h3 := BB.out.lt; omega
      · rw [flatC_append, List.length_append]
        refine own_keep q1.out ((Keeps.refl [g6] w8).setCell (p := ⟨g6, 0, none⟩) (.inl (List.mem_singleton.2 rfl)) _) (fun g hg hx => ?_)
        rw [List.mem_singleton.1 hx] at hg
        rcases hq4 g6 hg with h | h
        · exact hnv.out (Option.mem_toList.2 h)
        · omega
      · obtain ⟨b1, b2⟩ := hrawd.out
        refine ⟨by simp [b1], fun i r c h1 h2 => ?_⟩
        have hX' : ∀ y ∈ g6 :: (Value.slice A8 (pre.length + 1) c8).ownBlock.toList, y ∈ g6 :: v.ownBlock.toList ∨ y = w7.heap.size := fun y hy => by
          rcases List.mem_cons.1 hy with rfl | hy
          · exact .inl List.mem_cons_self
          · rcases hq4 y (Option.mem_toList.1 hy) with h | h
            · exact .inl (List.mem_cons_of_mem _ (Option.mem_toList.2 h))
            · exact .inr h
        rw [List.map_append] at h2
        rcases Nat.lt_or_ge i Rr.length with hi | hi
        · rw [List.getElem?_append_left hi] at h1
          rw [List.getElem?_append_left (by rw [← b1]; exact hi)] at h2
          have a := (b2 i r c h1 h2).keep Kx.out (by simp)
          exact (a.other (Y := g6 :: (Value.slice A8 (pre.length + 1) c8).ownBlock.toList ++ (g6 :: v.ownBlock.toList)) (fun y hy => by
            rcases List.mem_append.1 hy with h | h
            · rcases hX' y h with h | h
              · exact .inl h
              · exact .inr (by omega)
            · exact .inl h)).keep k78 (fun y hy => .inl (List.mem_append_right _ hy)) |>.other (fun y hy => .inl (List.mem_append_left _ hy))
        · rw [List.getElem?_append_right hi] at h1
          rw [List.getElem?_append_right (by rw [← b1]; exact hi), ← b1] at h2
          obtain ⟨j, hj⟩ : ∃ j, j = i - Rr.length := ⟨_, rfl⟩
          rw [← hj] at h1 h2
          cases j with
          | succ j => simp at h1
          | zero =>
            simp at h1 h2
            subst h1 h2
            obtain ⟨a1, a2, a3, a4, a5, a6⟩ := ri6.out
            have hb : ∀ y ∈ g6 :: v.ownBlock.toList, y < wd.heap.size := fun y hy => by
              have hw := hsz.out
              rcases List.mem_cons.1 hy with rfl | hy
              · omega
              · exact Nat.lt_of_lt_of_le (hvW y (Option.mem_toList.1 hy)) hKdW.out.size
            have a : RawIs w7 (g6 :: v.ownBlock.toList) ⟨t6, i6, Ao6, no6, co6, An6, nn6, cn6⟩ (inv (cAt (L.drop 0) k)) := ⟨a1, a2, a3, a4, a5.fresh h6f.out.1 hb, a6.fresh h6f.out.2 hb⟩
            exact (a.other (Y := g6 :: (Value.slice A8 (pre.length + 1) c8).ownBlock.toList ++ (g6 :: v.ownBlock.toList)) (fun y hy => by
              rcases List.mem_append.1 hy with h | h
              · rcases hX' y h with h | h
                · exact .inl h
                · exact .inr (by omega)
              · exact .inl h)).keep k78 (fun y hy => .inl (List.mem_append_right _ hy)) |>.other (fun y hy => .inl (List.mem_append_left _ hy))
      · intro i r h1
        rcases Nat.lt_or_ge i Rr.length with hi | hi
        · rw [List.getElem?_append_left hi] at h1
          exact hfr.out i r h1
        · rw [List.getElem?_append_right hi] at h1
          obtain ⟨j, hj⟩ : ∃ j, j = i - Rr.length := ⟨_, rfl⟩
          rw [← hj] at h1
          cases j with
          | succ j => simp at h1
          | zero =>
            simp at h1
            subst h1
            exact ⟨h6f.out.1.mono hsz.out, h6f.out.2.mono hsz.out⟩
      · refine ((hkd.out.mono (Y := g6 :: v.ownBlock.toList) (fun x hx => .inl (by rw [List.mem_singleton.1 hx]; exact List.mem_cons_self))).trans ((Kx.out.nil.trans k78))).mono (fun x hx => ?_)
        rcases List.mem_cons.1 hx with rfl | hx
        · exact .inl (List.mem_singleton.2 rfl)
        · exact .inr (hvb.out x (Option.mem_toList.1 hx)).1
    · intro D xs W hD hx hI hd
      obtain ⟨v, Rr, hBox, hown, hraw, hfr, hk⟩ := hI
      have hlx : xs.length = 0 := by rw [hx, upto_length, hRl.out]
      have hmap : xs.map (fun k => inv (cAt (L.drop 0) k)) = (L.drop 0).reverse.map inv := by
        have hul := upto_rev (L.drop 0)
        rw [hLl.out] at hul
        rw [hx, hRl.out]
        exact hul
      rw [hmap] at hraw
      rw [hlx] at hown
      obtain ⟨A8, c8, rfl, _⟩ := own_slice hown
      have hX : Keeps [g6] W0 W := hk
      have hg6W : g6 < W0.heap.size := B6.out.lt
      have hglg : gl ≠ g6 := by have := hgl.out; have := hgg.out.1; omega
      have B64 := hB0.out.keep hk (by simp; exact hglg)
      have Kw : Keeps [] w W := (k0.out.nil.trans hk).mono (fun y hy => .inr (by rw [List.mem_singleton.1 hy]; exact hgg.out.1))
      have z2 := B64.cell
      have f2 := B64.frozen
      have b2 := hBox.cell
      have Kf : Keeps [gl] W (W.setCell ⟨gl, 0, none⟩ (.slice (none : Option Addr) 0 0)) := (Keeps.refl [gl] W).setCell (p := ⟨gl, 0, none⟩) (.inl (List.mem_singleton.2 rfl)) _
      have b3 := (hBox.keep Kf (by simp; exact hglg.symm)).cell
      have hDn : D ≠ gl := by have := hgl.out; have := k0.out.size; omega
      have hdf : (W.setCell ⟨gl, 0, none⟩ (.slice (none : Option Addr) 0 0)).heap[D]? = some (.deferred (some [])) := (Below.heap_setCell W ⟨gl, 0, none⟩ (.slice (none : Option Addr) 0 0) D hDn).trans hd
      have Kz : Keeps [gl, D] W ((W.setCell ⟨gl, 0, none⟩ (.slice (none : Option Addr) 0 0)).putObj D (.deferred none)) := (Kf.mono (fun x hx => .inl (by rw [List.mem_singleton.1 hx]; simp))).trans (Keeps.grown (grownBy_putObj' _ D _) (fun k e => by cases e; simp))
      have hDlt : D < W.heap.size := (Array.getElem?_eq_some_iff.1 hd).1
      have hD0 : w.heap.size ≤ D := Nat.le_trans k0.out.size hD
      have hszk : W0.heap.size ≤ W.heap.size := hk.size
      have hfin : RemPost w gl 0 0 (none : Option Addr) 0 sv (L.drop 0) (.returned (.slice A8 0 c8)) ((W.setCell ⟨gl, 0, none⟩ (.slice (none : Option Addr) 0 0)).putObj D (.deferred none)) := by
        have hob : ∀ g, (Value.slice A8 0 c8).ownBlock = some g → W0.heap.size ≤ g ∧ ∃ cur, Blk W g 35 cur := fun g hg => own_blk hown hg
        refine ⟨A8, c8, Rr, rfl, ?_, ?_, fun i r h => ⟨(hfr i r h).1.mono k0.out.size, (hfr i r h).2.mono k0.out.size⟩, ?_, ?_⟩
        · refine own_le (own_keep hown Kz (fun g hg hx => ?_)) k0.out.size
          obtain ⟨h1, cur, h2⟩ := hob g hg
          simp at hx
          rcases hx with rfl | rfl
          · have := hgl.out; have := k0.out.size; omega
          · have h3 : W.heap[g]? = some (.cells cur 35 (0, 0)) := h2
            rw [hd] at h3
            cases h3
        · refine ⟨hraw.1, fun i r c h1 h2 => ?_⟩
          obtain ⟨a1, a2, a3, a4, a5, a6⟩ := hraw.2 i r c h1 h2
          have hnx : ∀ {A : Option Addr} {l : List Val}, RowAt W (g6 :: (Value.slice A8 0 c8).ownBlock.toList) A l → Fresh W0.heap.size A → RowAt ((W.setCell ⟨gl, 0, none⟩ (.slice (none : Option Addr) 0 0)).putObj D (.deferred none)) [] A l := fun {A l} h hf i v hi => by
            obtain ⟨g, off, rfl, _, c1, c2, c3⟩ := h i v hi
            have hg0 := hf _ rfl
            have hgne : g ∉ [gl, D] := by
              intro hx
              simp at hx
              rcases hx with rfl | rfl
              · have := hgl.out; have := k0.out.size; dsimp only at hg0; omega
              · obtain ⟨o, ho, hc⟩ := cells_of_cell c1
                dsimp only at ho
                rw [hd] at ho
                cases ho
                cases hc
            exact ⟨g, off, rfl, by simp, Kz.cellEq c1 hgne, Kz.cellEq c2 hgne, Kz.cellEq c3 hgne⟩
          exact ⟨a1, a2, a3, a4, hnx a5 (hfr i r h1).1, hnx a6 (hfr i r h1).2⟩
        · exact (B64.set_ 0 (.slice (none : Option Addr) 0 0)).keep (Keeps.grown (grownBy_putObj' _ D (.deferred none)) (X := [D]) (fun k e => by cases e; simp)) (by simp; exact fun h => hDn h.symm)
        · exact ((Kw.nil.trans Kz)).mono (fun x hx => by
            simp at hx
            rcases hx with rfl | rfl
            · exact .inl (List.mem_singleton.2 rfl)
            · exact .inr hD0)
      replace hfin := Lib.hid hfin
      replace hdf := Lib.hid hdf
      clear hX hx hlx hmap hown hraw hfr hk B64 Kw Kf Kz hd hgaX
      go_wp2_with fail
      refine ⟨by simp, .inl ⟨_, _, rfl, run_takeDeferred hdf.out, ?_⟩⟩
      exact ⟨_, by simp [results, Try.f42, go_sem], hfin.out⟩
    · intro D cd pre W _ _ h _
      exact h.elim
  · by_cases hck : cc = kp
    · have hck' := hck.symm
      subst hck'
      obtain rfl : 0 = m := by omega
      have hga' : Hid (GaAt w (some ⟨ga, 0, none⟩) ga 0 (R.drop kp)) := Lib.hid (.inl (List.eq_nil_of_length_eq_zero (by rw [hRl.out])))
      clear hga hck
      go_wp2_with fail
      refine (callsIn_wide.1 (back_in Fence.wide 4 trivial rfl _ _ _ _)).mono ?_
      rintro e w' ⟨rfl, rfl⟩
      clear z0 z1
      have k0 : Keeps [] w ((w.alloc (.cells #[.slice none 0 0] 28)).alloc (.cells #[.slice (some (⟨ga, 0, none⟩ : Addr)) 0 0] 28)) := ((Keeps.refl [] w).alloc _).alloc _
      have B6 : Blk ((w.alloc (.cells #[.slice none 0 0] 28)).alloc (.cells #[.slice (some (⟨ga, 0, none⟩ : Addr)) 0 0] 28)) g6 28 #[.slice none 0 0] := by rw [hg6]; exact (Blk.new w 28 _).alloc _
      have BB : Blk ((w.alloc (.cells #[.slice none 0 0] 28)).alloc (.cells #[.slice (some (⟨ga, 0, none⟩ : Addr)) 0 0] 28)) gB 28 #[.slice (some (⟨ga, 0, none⟩ : Addr)) 0 0] := by
        rw [hgB]
        have := Blk.new (w.alloc (.cells #[.slice none 0 0] 28)) 28 #[.slice (some (⟨ga, 0, none⟩ : Addr)) 0 0]
        simpa using this
      have hB0 := Lib.hid (hB.out.keep k0 (by simp))
      have hgaX : Hid (GaAt ((w.alloc (.cells #[.slice none 0 0] 28)).alloc (.cells #[.slice (some (⟨ga, 0, none⟩ : Addr)) 0 0] 28)) (some (⟨ga, 0, none⟩ : Addr)) ga (0) (R.drop kp)) := Lib.hid (by
        rcases hga'.out with h | ⟨h1, h2, h3⟩
        · exact .inl h
        · exact .inr ⟨h1, Nat.lt_of_lt_of_le h2 k0.size, fun i r hi => by
            obtain ⟨a0, a1, a2, a3⟩ := h3 i r hi
            exact ⟨k0.cellEq a0 (by simp), k0.cellEq a1 (by simp), k0.cellEq a2 (by simp), k0.cellEq a3 (by simp)⟩⟩)
      replace k0 := Lib.hid k0
      replace B6 := Lib.hid B6
      replace BB := Lib.hid BB
      go_wp2_with fail
      generalize (w.alloc (.cells #[.slice none 0 0] 28)).alloc (.cells #[.slice (some (⟨ga, 0, none⟩ : Addr)) 0 0] 28) = W0 at *
      rw [← hgB, ← hg6]
      replace hg6 := Lib.hid hg6
      replace hgB := Lib.hid hgB
      clear hga'
      refine (wpIn_wide (n := 5)).1 (loop_back (px := 8) gB ga (0) 0 (some (⟨ga, 0, none⟩ : Addr)) (R.drop kp) (by rw [hRl.out]; omega) (by rfl) BB.out.lt (by rw [hRl.out]; exact BB.out.cell 0) hgaX.out (IRem g6 (L.drop kp) W0) (fun _ _ _ => False) (irem_own g6 (L.drop kp) W0) (fun _ _ _ _ _ h _ _ => h)
        ⟨.slice none 0 0, [], B6.out, ⟨rfl, .inl ⟨rfl, rfl⟩⟩, ⟨rfl, fun i r c h _ => by simp at h⟩, fun i r h => by simp at h, Keeps.refl _ _⟩ (fun pre W h => by obtain ⟨_, _, _, _, _, _, h⟩ := h; exact h.size) ?_ ?_ ?_ ?_)
      · intro l k W K hK
        unfold slotsB at hK
        generalize rAt (R.drop kp) k = rr at *
        obtain ⟨t', id', Ao', no', co', An', nn', cn'⟩ := rr
        unfold Raw.cells at *
        dsimp only at *
        gi_wp2
        exact hK
      · intro l pre k Bx W hl hI hBx bX hpl
        obtain ⟨v, Rr, hBox, hown, hraw, hfr, hk⟩ := hI
        have raw := hRd.out.at_ k
        have hsc : Small (cAt (L.drop kp) k) := by
          unfold cAt
          cases hq : (L.drop kp)[k]? with
          | none => exact ⟨Nat.zero_le _, Nat.zero_le _⟩
          | some b => exact hsD.out b (List.mem_of_getElem? hq)
        have Kw : Keeps [] w W := (k0.out.nil.trans hk).mono (fun y hy => .inr (by rw [List.mem_singleton.1 hy]; exact hgg.out.1))
        rw [hRl.out] at hpl
        unfold slotsB
        generalize rAt (R.drop kp) k = rr at *
        obtain ⟨t', id', Ao', no', co', An', nn', cn'⟩ := rr
        have HI : Hid (∀ w', Keeps [] W.drew w' → Calls Try.prog 18 #[.agg #[.int .i64 t', .int .i64 id', .slice Ao' no' co', .slice An' nn' cn']] w' (ChgCopy w' (inv (cAt (L.drop kp) k)))) := Lib.hid (fun w' hk' => inverse_any w' X ⟨t', id', Ao', no', co', An', nn', cn'⟩ (cAt (L.drop kp) k) (raw.keep (Kw.drew.trans hk') (by simp)) hsc)
        unfold Raw.cells at *
        dsimp only at bX ⊢
        have HSf : Hid (∀ w', Keeps [] W.drew w' → w'.cell? ⟨g6, 0, none⟩ = some v) := Lib.hid (fun w' hk' => hk'.cellEq (hBox.drew.cell 0) (by simp))
        have h0 := HSf.out _ (Keeps.refl [] W.drew)
        have hBoxd := Lib.hid hBox.drew
        have bXd := Lib.hid bX.out.drew
        have hownd : Hid (W.drew.ownsRow W0.heap.size 35 4 v pre.length (flatC Rr)) := Lib.hid hown
        have hrawd := Lib.hid (hraw.keep (Keeps.refl [] W).drew (by simp))
        have hsz : Hid (W0.heap.size ≤ W.drew.heap.size) := Lib.hid hk.size
        have hszW : Hid (W0.heap.size ≤ W.heap.size) := Lib.hid hk.size
        have hnv : Hid (g6 ∉ v.ownBlock.toList) := Lib.hid (fun hx => by obtain ⟨_, cur, h1⟩ := own_blk hown (Option.mem_toList.1 hx); exact Blk.ne_ h1 hBox (by decide) rfl)
        have hkd := Lib.hid hk.drew
        have hpl' : Hid (pre.length < 0 ∧ 0 ≤ 1000000) := Lib.hid ⟨hpl, by omega⟩
        have hplH : Hid (pre.length ≤ 1000000) := Lib.hid (by omega)
        replace hfr := Lib.hid hfr
        have hvb : Hid (∀ g, v.ownBlock = some g → W0.heap.size ≤ g ∧ ∃ cur, Blk W g 35 cur) := Lib.hid (fun g hg => own_blk hown hg)
        have hBX6 : Hid (gB ≠ g6 ∧ ga ≠ g6 ∨ True) := Lib.hid (.inr trivial)
        have hKdW : Hid (Keeps [] W W.drew) := Lib.hid (Keeps.refl [] W).drew
        obtain ⟨i5, hi5, hy0, hy1, hy2⟩ := info_parts info35
        replace hi5 := Lib.hid hi5
        replace hy0 := Lib.hid hy0
        replace hy1 := Lib.hid hy1
        replace hy2 := Lib.hid hy2
        clear raw hsc Kw hpl hgaX hBox bX hown hraw hk
        gi_wp2
        refine round_region_J l 3 (S := (fun w' : World => w'.cell? ⟨g6, 0, none⟩ = some v)) (n := 5) (by kernel_rfl) (by kernel_rfl) ?_
        generalize W.drew = wd at *
        have HS := h0
        have xX := bXd.out.cell
        have Kx := Lib.hid (Keeps.refl [] wd)
        refine wpAnyJ_take (i := 0) (v := ?_) (by kernel_rfl) rfl (by kernel_rfl) (by kernel_rfl) (by kernel_rfl) (fun _ _ _ h => h) HS (Or.inl ⟨by rfl, ?_⟩) ?_
        rotate_left
        · (intro w hSw; obtain y1 := hSw; go_simp; try with_reducible rfl)
        try simp only [Act.put, List.getElem_toArray, List.getElem_cons_succ, List.getElem_cons_zero, List.setIfInBounds_toArray, List.set_cons_zero, List.set_cons_succ]
        refine wpAnyJ_one (i := 1) rfl (by kernel_rfl) (fun K hK => ?_)
        dsimp only [List.getElem_toArray, List.getElem_cons_succ, List.getElem_cons_zero]
        go_simp
        refine hK _ _ (Or.inr HS) ?_
        clear hK K xX
        try simp only [Act.put, List.getElem_toArray, List.getElem_cons_succ, List.getElem_cons_zero, List.setIfInBounds_toArray, List.set_cons_zero, List.set_cons_succ]
        refine wpAnyJ_one (i := 2) rfl (by kernel_rfl) (fun K hK => ?_)
        dsimp only [List.getElem_toArray, List.getElem_cons_succ, List.getElem_cons_zero]
        go_simp
        refine (HI.out _ Kx.out).mono ?_
        rintro e w6 ⟨⟨t6, i6, Ao6, no6, co6, An6, nn6, cn6⟩, rfl, ri6, fr6, k6⟩
        dsimp only [Raw.cells]
        have h6f : Hid (Fresh wd.heap.size Ao6 ∧ Fresh wd.heap.size An6) := Lib.hid ⟨fr6.out.1.mono Kx.out.size, fr6.out.2.mono Kx.out.size⟩
        replace Kx := Lib.hid (Kx.out.trans k6.out)
        have HS := HSf.out _ Kx.out
        clear k6 fr6
        refine hK _ _ (Or.inr HS) ?_
        clear hK K
        try simp only [Act.put, List.getElem_toArray, List.getElem_cons_succ, List.getElem_cons_zero, List.setIfInBounds_toArray, List.set_cons_zero, List.set_cons_succ]
        refine wpAnyJ_one (i := 3) rfl (by kernel_rfl) (fun K hK => ?_)
        dsimp only [List.getElem_toArray, List.getElem_cons_succ, List.getElem_cons_zero]
        go_simp
        have ka7 : Keeps [] w6 (w6.alloc (.cells #[.int .i64 t6, .int .i64 i6, .slice Ao6 no6 co6, .slice An6 nn6 cn6] 35)) := (Keeps.refl [] w6).alloc _
        have Bn := Lib.hid (Blk.new w6 35 #[.int .i64 t6, .int .i64 i6, .slice Ao6 no6 co6, .slice An6 nn6 cn6])
        replace ri6 := Lib.hid (ri6.out.keep ka7 (by simp))
        have HS := HSf.out _ (Kx.out.trans ka7)
        replace Kx := Lib.hid (Kx.out.trans ka7)
        refine hK _ _ (Or.inr HS) ?_
        clear hK K ka7
        obtain ⟨g7, hg7⟩ : ∃ g, g = w6.heap.size := ⟨_, rfl⟩
        rw [← hg7] at Bn ⊢
        clear hg7
        generalize w6.alloc (.cells #[.int .i64 t6, .int .i64 i6, .slice Ao6 no6 co6, .slice An6 nn6 cn6] 35) = w7 at *
        try simp only [Act.put, List.getElem_toArray, List.getElem_cons_succ, List.getElem_cons_zero, List.setIfInBounds_toArray, List.set_cons_zero, List.set_cons_succ]
        refine wpAnyJ_one (i := 4) rfl (by kernel_rfl) (fun K hK => ?_)
        dsimp only [List.getElem_toArray, List.getElem_cons_succ, List.getElem_cons_zero]
        rw [if_pos (by rfl)]
        have ow7 := Lib.hid (own_keep0 hownd.out Kx.out)
        have hb7 : W0.heap.size ≤ w7.heap.size := Nat.le_trans hsz.out Kx.out.size
        refine wp_append_row (.tmp 25) (.tmp 28) 28 (by rfl) W0.heap.size 35 i5 (.agg #[.int .i64 0, .int .i64 0, .slice none 0 0, .slice none 0 0]) 4 64 Try.underlying28 hi5.out hy0.out hy1.out hy2.out rfl (by decide) v pre.length (flatC Rr) (by rfl) ow7.out (some ⟨g7, 0, none⟩) 1 1 [.int .i64 t6, .int .i64 i6, .slice Ao6 no6 co6, .slice An6 nn6 cn6] (by rfl) rfl (src_raw (r := ⟨t6, i6, Ao6, no6, co6, An6, nn6, cn6⟩) Bn.out) (by simp [Value.oneCell']) (by have := hplH.out; unfold maxLen; omega) (by have := hplH.out; omega) hb7 ?_
        intro v8 w8 q1 q2 q3 q4
        obtain ⟨A8, c8, rfl, _⟩ := own_slice q1.out
        have k8 : Hid (Keeps v.ownBlock.toList w7 w8) := Lib.hid (Keeps.grown q2.out (fun g hg => Option.mem_toList.2 hg))
        have B8 := Lib.hid ((hBoxd.out.keep Kx.out (by simp)).keep k8.out hnv.out)
        have fz := B8.out.frozen 0
        have HS := k8.out.cellEq HS hnv.out
        refine hK _ _ (Or.inr HS) ?_
        clear hK K
        try simp only [Act.put, List.getElem_toArray, List.getElem_cons_succ, List.getElem_cons_zero, List.setIfInBounds_toArray, List.set_cons_zero, List.set_cons_succ]
        refine wpAnyJ_one (i := 5) rfl (by kernel_rfl) (fun K hK => ?_)
        dsimp only [List.getElem_toArray, List.getElem_cons_succ, List.getElem_cons_zero]
        go_simp
        refine hK _ _ (Or.inl (by omega)) ?_
        clear hK K
        try simp only [Act.put, List.getElem_toArray, List.getElem_cons_succ, List.getElem_cons_zero, List.setIfInBounds_toArray, List.set_cons_zero, List.set_cons_succ]
        refine wpAnyJ_done (by kernel_rfl) ?_ _
        have K8 : Keeps v.ownBlock.toList W w8 := (hKdW.out.trans Kx.out).nil.trans k8.out
        have Kf : Keeps (g6 :: v.ownBlock.toList) W (w8.setCell ⟨g6, 0, none⟩ (.slice A8 (pre.length + 1) c8)) := (K8.mono (fun x hx => .inl (List.mem_cons_of_mem _ hx))).setCell (p := ⟨g6, 0, none⟩) (.inl List.mem_cons_self) _
        have k78 : Keeps (g6 :: v.ownBlock.toList) w7 (w8.setCell ⟨g6, 0, none⟩ (.slice A8 (pre.length + 1) c8)) := (k8.out.mono (fun x hx => .inl (List.mem_cons_of_mem _ hx))).setCell (p := ⟨g6, 0, none⟩) (.inl List.mem_cons_self) _
        have hg6W : g6 < W0.heap.size := B6.out.lt
        have hsW : W.heap.size ≤ w7.heap.size := (hKdW.out.trans Kx.out).size
        have hs8 : w7.heap.size ≤ (w8.setCell ⟨g6, 0, none⟩ (.slice A8 (pre.length + 1) c8)).heap.size := k78.size
        have hvW : ∀ g, v.ownBlock = some g → g < W.heap.size := fun g hg => by obtain ⟨_, cur, h1⟩ := hvb.out g hg; exact h1.lt
        have hq4 : ∀ g, (Value.slice A8 (pre.length + 1) c8).ownBlock = some g → v.ownBlock = some g ∨ g = w7.heap.size := fun g hg => by
          rcases q4.out with h | h
          · exact .inl (h.symm.trans hg)
          · rw [h] at hg; cases hg; exact .inr rfl
        have hsz' : W0.heap.size ≤ W.heap.size := hszW.out
        show KeepsFrom W0.heap.size W _ ∧ Kp2 gB ga W _ ∧ IRem g6 (L.drop kp) W0 (pre ++ [k]) _
        refine ⟨keepsFrom_of2 Kf (fun x hx => ?_), Kp2.of_keeps Kf (fun hx => ?_) (fun hx => ?_), .slice A8 (pre.length + 1) c8, Rr ++ [⟨t6, i6, Ao6, no6, co6, An6, nn6, cn6⟩], B8.out.set_ 0 _, ?_, ?_, ?_, ?_⟩
        · rcases List.mem_cons.1 hx with rfl | hx
          · exact .inl hg6W
          · obtain ⟨_, cur, h1⟩ := hvb.out x (Option.mem_toList.1 hx)
            exact .inr ⟨35, cur, h1⟩
        · rcases List.mem_cons.1 hx with h | h
          · exact hgg.out.2.2 h
          · have := (hvb.out _ (Option.mem_toList.1 h)).1; have := BB.out.lt; omega
        · rcases List.mem_cons.1 hx with h | h
          · have h1 := hgg.out.1; have h2 := hgg.out.2.2; omega
          · have h1 := (hvb.out _ (Option.mem_toList.1 h)).1; have h2 := k0.out.size; have h3 := BB.out.lt; omega
        · rw [flatC_append, List.length_append]
          refine own_keep q1.out ((Keeps.refl [g6] w8).setCell (p := ⟨g6, 0, none⟩) (.inl (List.mem_singleton.2 rfl)) _) (fun g hg hx => ?_)
          rw [List.mem_singleton.1 hx] at hg
          rcases hq4 g6 hg with h | h
          · exact hnv.out (Option.mem_toList.2 h)
          · omega
        · obtain ⟨b1, b2⟩ := hrawd.out
          refine ⟨by simp [b1], fun i r c h1 h2 => ?_⟩
          have hX' : ∀ y ∈ g6 :: (Value.slice A8 (pre.length + 1) c8).ownBlock.toList, y ∈ g6 :: v.ownBlock.toList ∨ y = w7.heap.size := fun y hy => by
            rcases List.mem_cons.1 hy with rfl | hy
            · exact .inl List.mem_cons_self
            · rcases hq4 y (Option.mem_toList.1 hy) with h | h
              · exact .inl (List.mem_cons_of_mem _ (Option.mem_toList.2 h))
              · exact .inr h
          rw [List.map_append] at h2
          rcases Nat.lt_or_ge i Rr.length with hi | hi
          · rw [List.getElem?_append_left hi] at h1
            rw [List.getElem?_append_left (by rw [← b1]; exact hi)] at h2
            have a := (b2 i r c h1 h2).keep Kx.out (by simp)
            exact (a.other (Y := g6 :: (Value.slice A8 (pre.length + 1) c8).ownBlock.toList ++ (g6 :: v.ownBlock.toList)) (fun y hy => by
              rcases List.mem_append.1 hy with h | h
              · rcases hX' y h with h | h
                · exact .inl h
                · exact .inr (by omega)
              · exact .inl h)).keep k78 (fun y hy => .inl (List.mem_append_right _ hy)) |>.other (fun y hy => .inl (List.mem_append_left _ hy))
          · rw [List.getElem?_append_right hi] at h1
            rw [List.getElem?_append_right (by rw [← b1]; exact hi), ← b1] at h2
            obtain ⟨j, hj⟩ : ∃ j, j = i - Rr.length := ⟨_, rfl⟩
            rw [← hj] at h1 h2
            cases j with
            | succ j => simp at h1
            | zero =>
              simp at h1 h2
              subst h1 h2
              obtain ⟨a1, a2, a3, a4, a5, a6⟩ := ri6.out
              have hb : ∀ y ∈ g6 :: v.ownBlock.toList, y < wd.heap.size := fun y hy => by
                have hw := hsz.out
                rcases List.mem_cons.1 hy with rfl | hy
                · omega
                · exact Nat.lt_of_lt_of_le (hvW y (Option.mem_toList.1 hy)) hKdW.out.size
              have a : RawIs w7 (g6 :: v.ownBlock.toList) ⟨t6, i6, Ao6, no6, co6, An6, nn6, cn6⟩ (inv (cAt (L.drop kp) k)) := ⟨a1, a2, a3, a4, a5.fresh h6f.out.1 hb, a6.fresh h6f.out.2 hb⟩
              exact (a.other (Y := g6 :: (Value.slice A8 (pre.length + 1) c8).ownBlock.toList ++ (g6 :: v.ownBlock.toList)) (fun y hy => by
                rcases List.mem_append.1 hy with h | h
                · rcases hX' y h with h | h
                  · exact .inl h
                  · exact .inr (by omega)
                · exact .inl h)).keep k78 (fun y hy => .inl (List.mem_append_right _ hy)) |>.other (fun y hy => .inl (List.mem_append_left _ hy))
        · intro i r h1
          rcases Nat.lt_or_ge i Rr.length with hi | hi
          · rw [List.getElem?_append_left hi] at h1
            exact hfr.out i r h1
          · rw [List.getElem?_append_right hi] at h1
            obtain ⟨j, hj⟩ : ∃ j, j = i - Rr.length := ⟨_, rfl⟩
            rw [← hj] at h1
            cases j with
            | succ j => simp at h1
            | zero =>
              simp at h1
              subst h1
              exact ⟨h6f.out.1.mono hsz.out, h6f.out.2.mono hsz.out⟩
        · refine ((hkd.out.mono (Y := g6 :: v.ownBlock.toList) (fun x hx => .inl (by rw [List.mem_singleton.1 hx]; exact List.mem_cons_self))).trans ((Kx.out.nil.trans k78))).mono (fun x hx => ?_)
          rcases List.mem_cons.1 hx with rfl | hx
          · exact .inl (List.mem_singleton.2 rfl)
          · exact .inr (hvb.out x (Option.mem_toList.1 hx)).1
      · intro D xs W hD hx hI hd
        obtain ⟨v, Rr, hBox, hown, hraw, hfr, hk⟩ := hI
        have hlx : xs.length = 0 := by rw [hx, upto_length, hRl.out]
        have hmap : xs.map (fun k => inv (cAt (L.drop kp) k)) = (L.drop kp).reverse.map inv := by
          have hul := upto_rev (L.drop kp)
          rw [hLl.out] at hul
          rw [hx, hRl.out]
          exact hul
        rw [hmap] at hraw
        rw [hlx] at hown
        obtain ⟨A8, c8, rfl, _⟩ := own_slice hown
        have hX : Keeps [g6] W0 W := hk
        have hg6W : g6 < W0.heap.size := B6.out.lt
        have hglg : gl ≠ g6 := by have := hgl.out; have := hgg.out.1; omega
        have B64 := hB0.out.keep hk (by simp; exact hglg)
        have Kw : Keeps [] w W := (k0.out.nil.trans hk).mono (fun y hy => .inr (by rw [List.mem_singleton.1 hy]; exact hgg.out.1))
        have z2 := B64.cell
        have f2 := B64.frozen
        have b2 := hBox.cell
        have Kf : Keeps [gl] W (W.setCell ⟨gl, 0, none⟩ (.slice (some (⟨ga, 0, none⟩ : Addr)) kp kp)) := (Keeps.refl [gl] W).setCell (p := ⟨gl, 0, none⟩) (.inl (List.mem_singleton.2 rfl)) _
        have b3 := (hBox.keep Kf (by simp; exact hglg.symm)).cell
        have hDn : D ≠ gl := by have := hgl.out; have := k0.out.size; omega
        have hdf : (W.setCell ⟨gl, 0, none⟩ (.slice (some (⟨ga, 0, none⟩ : Addr)) kp kp)).heap[D]? = some (.deferred (some [])) := (Below.heap_setCell W ⟨gl, 0, none⟩ (.slice (some (⟨ga, 0, none⟩ : Addr)) kp kp) D hDn).trans hd
        have Kz : Keeps [gl, D] W ((W.setCell ⟨gl, 0, none⟩ (.slice (some (⟨ga, 0, none⟩ : Addr)) kp kp)).putObj D (.deferred none)) := (Kf.mono (fun x hx => .inl (by rw [List.mem_singleton.1 hx]; simp))).trans (Keeps.grown (grownBy_putObj' _ D _) (fun k e => by cases e; simp))
        have hDlt : D < W.heap.size := (Array.getElem?_eq_some_iff.1 hd).1
        have hD0 : w.heap.size ≤ D := Nat.le_trans k0.out.size hD
        have hszk : W0.heap.size ≤ W.heap.size := hk.size
        have hfin : RemPost w gl 0 kp (some (⟨ga, 0, none⟩ : Addr)) kp sv (L.drop kp) (.returned (.slice A8 0 c8)) ((W.setCell ⟨gl, 0, none⟩ (.slice (some (⟨ga, 0, none⟩ : Addr)) kp kp)).putObj D (.deferred none)) := by
          have hob : ∀ g, (Value.slice A8 0 c8).ownBlock = some g → W0.heap.size ≤ g ∧ ∃ cur, Blk W g 35 cur := fun g hg => own_blk hown hg
          refine ⟨A8, c8, Rr, rfl, ?_, ?_, fun i r h => ⟨(hfr i r h).1.mono k0.out.size, (hfr i r h).2.mono k0.out.size⟩, ?_, ?_⟩
          · refine own_le (own_keep hown Kz (fun g hg hx => ?_)) k0.out.size
            obtain ⟨h1, cur, h2⟩ := hob g hg
            simp at hx
            rcases hx with rfl | rfl
            · have := hgl.out; have := k0.out.size; omega
            · have h3 : W.heap[g]? = some (.cells cur 35 (0, 0)) := h2
              rw [hd] at h3
              cases h3
          · refine ⟨hraw.1, fun i r c h1 h2 => ?_⟩
            obtain ⟨a1, a2, a3, a4, a5, a6⟩ := hraw.2 i r c h1 h2
            have hnx : ∀ {A : Option Addr} {l : List Val}, RowAt W (g6 :: (Value.slice A8 0 c8).ownBlock.toList) A l → Fresh W0.heap.size A → RowAt ((W.setCell ⟨gl, 0, none⟩ (.slice (some (⟨ga, 0, none⟩ : Addr)) kp kp)).putObj D (.deferred none)) [] A l := fun {A l} h hf i v hi => by
              obtain ⟨g, off, rfl, _, c1, c2, c3⟩ := h i v hi
              have hg0 := hf _ rfl
              have hgne : g ∉ [gl, D] := by
                intro hx
                simp at hx
                rcases hx with rfl | rfl
                · have := hgl.out; have := k0.out.size; dsimp only at hg0; omega
                · obtain ⟨o, ho, hc⟩ := cells_of_cell c1
                  dsimp only at ho
                  rw [hd] at ho
                  cases ho
                  cases hc
              exact ⟨g, off, rfl, by simp, Kz.cellEq c1 hgne, Kz.cellEq c2 hgne, Kz.cellEq c3 hgne⟩
            exact ⟨a1, a2, a3, a4, hnx a5 (hfr i r h1).1, hnx a6 (hfr i r h1).2⟩
          · exact (B64.set_ 0 (.slice (some (⟨ga, 0, none⟩ : Addr)) kp kp)).keep (Keeps.grown (grownBy_putObj' _ D (.deferred none)) (X := [D]) (fun k e => by cases e; simp)) (by simp; exact fun h => hDn h.symm)
          · exact ((Kw.nil.trans Kz)).mono (fun x hx => by
              simp at hx
              rcases hx with rfl | rfl
              · exact .inl (List.mem_singleton.2 rfl)
              · exact .inr hD0)
        replace hfin := Lib.hid hfin
        replace hdf := Lib.hid hdf
        clear hX hx hlx hmap hown hraw hfr hk B64 Kw Kf Kz hd hgaX
        go_wp2_with fail
        refine ⟨by simp, .inl ⟨_, _, rfl, run_takeDeferred hdf.out, ?_⟩⟩
        exact ⟨_, by simp [results, Try.f42, go_sem], hfin.out⟩
      · intro D cd pre W _ _ h _
        exact h.elim
    · have hga' : Hid (GaAt w (some ⟨ga, kp * 4, none⟩) ga (kp * 4) (R.drop kp)) := Lib.hid (by
        rcases hga with h0 | h0
        · exact .inl (List.eq_nil_of_length_eq_zero (by rw [List.length_drop, hn.out]; omega))
        · exact .inr ⟨rfl, hgaw, fun i r hi => by
            rw [List.getElem?_drop] at hi
            obtain ⟨a0, a1, a2, a3⟩ := h0 (kp + i) r hi
            rw [Nat.zero_add] at a0 a1 a2 a3
            rw [show kp * 4 + i * 4 = (kp + i) * 4 by omega]
            exact ⟨a0, a1, a2, a3⟩⟩)
      clear hga
      go_wp2_with fail
      refine (callsIn_wide.1 (back_in Fence.wide 4 trivial rfl _ _ _ _)).mono ?_
      rintro e w' ⟨rfl, rfl⟩
      clear z0 z1
      have k0 : Keeps [] w ((w.alloc (.cells #[.slice none 0 0] 28)).alloc (.cells #[.slice (some (⟨ga, kp * 4, none⟩ : Addr)) m (cc - kp)] 28)) := ((Keeps.refl [] w).alloc _).alloc _
      have B6 : Blk ((w.alloc (.cells #[.slice none 0 0] 28)).alloc (.cells #[.slice (some (⟨ga, kp * 4, none⟩ : Addr)) m (cc - kp)] 28)) g6 28 #[.slice none 0 0] := by rw [hg6]; exact (Blk.new w 28 _).alloc _
      have BB : Blk ((w.alloc (.cells #[.slice none 0 0] 28)).alloc (.cells #[.slice (some (⟨ga, kp * 4, none⟩ : Addr)) m (cc - kp)] 28)) gB 28 #[.slice (some (⟨ga, kp * 4, none⟩ : Addr)) m (cc - kp)] := by
        rw [hgB]
        have := Blk.new (w.alloc (.cells #[.slice none 0 0] 28)) 28 #[.slice (some (⟨ga, kp * 4, none⟩ : Addr)) m (cc - kp)]
        simpa using this
      have hB0 := Lib.hid (hB.out.keep k0 (by simp))
      have hgaX : Hid (GaAt ((w.alloc (.cells #[.slice none 0 0] 28)).alloc (.cells #[.slice (some (⟨ga, kp * 4, none⟩ : Addr)) m (cc - kp)] 28)) (some (⟨ga, kp * 4, none⟩ : Addr)) ga (kp * 4) (R.drop kp)) := Lib.hid (by
        rcases hga'.out with h | ⟨h1, h2, h3⟩
        · exact .inl h
        · exact .inr ⟨h1, Nat.lt_of_lt_of_le h2 k0.size, fun i r hi => by
            obtain ⟨a0, a1, a2, a3⟩ := h3 i r hi
            exact ⟨k0.cellEq a0 (by simp), k0.cellEq a1 (by simp), k0.cellEq a2 (by simp), k0.cellEq a3 (by simp)⟩⟩)
      replace k0 := Lib.hid k0
      replace B6 := Lib.hid B6
      replace BB := Lib.hid BB
      go_wp2_with fail
      generalize (w.alloc (.cells #[.slice none 0 0] 28)).alloc (.cells #[.slice (some (⟨ga, kp * 4, none⟩ : Addr)) m (cc - kp)] 28) = W0 at *
      rw [← hgB, ← hg6]
      replace hg6 := Lib.hid hg6
      replace hgB := Lib.hid hgB
      clear hga'
      refine (wpIn_wide (n := 5)).1 (loop_back (px := 8) gB ga (kp * 4) (cc - kp) (some (⟨ga, kp * 4, none⟩ : Addr)) (R.drop kp) (by rw [hRl.out]; omega) (by rfl) BB.out.lt (by rw [hRl.out]; exact BB.out.cell 0) hgaX.out (IRem g6 (L.drop kp) W0) (fun _ _ _ => False) (irem_own g6 (L.drop kp) W0) (fun _ _ _ _ _ h _ _ => h)
        ⟨.slice none 0 0, [], B6.out, ⟨rfl, .inl ⟨rfl, rfl⟩⟩, ⟨rfl, fun i r c h _ => by simp at h⟩, fun i r h => by simp at h, Keeps.refl _ _⟩ (fun pre W h => by obtain ⟨_, _, _, _, _, _, h⟩ := h; exact h.size) ?_ ?_ ?_ ?_)
      · intro l k W K hK
        unfold slotsB at hK
        generalize rAt (R.drop kp) k = rr at *
        obtain ⟨t', id', Ao', no', co', An', nn', cn'⟩ := rr
        unfold Raw.cells at *
        dsimp only at *
        gi_wp2
        exact hK
      · intro l pre k Bx W hl hI hBx bX hpl
        obtain ⟨v, Rr, hBox, hown, hraw, hfr, hk⟩ := hI
        have raw := hRd.out.at_ k
        have hsc : Small (cAt (L.drop kp) k) := by
          unfold cAt
          cases hq : (L.drop kp)[k]? with
          | none => exact ⟨Nat.zero_le _, Nat.zero_le _⟩
          | some b => exact hsD.out b (List.mem_of_getElem? hq)
        have Kw : Keeps [] w W := (k0.out.nil.trans hk).mono (fun y hy => .inr (by rw [List.mem_singleton.1 hy]; exact hgg.out.1))
        rw [hRl.out] at hpl
        unfold slotsB
        generalize rAt (R.drop kp) k = rr at *
        obtain ⟨t', id', Ao', no', co', An', nn', cn'⟩ := rr
        have HI : Hid (∀ w', Keeps [] W.drew w' → Calls Try.prog 18 #[.agg #[.int .i64 t', .int .i64 id', .slice Ao' no' co', .slice An' nn' cn']] w' (ChgCopy w' (inv (cAt (L.drop kp) k)))) := Lib.hid (fun w' hk' => inverse_any w' X ⟨t', id', Ao', no', co', An', nn', cn'⟩ (cAt (L.drop kp) k) (raw.keep (Kw.drew.trans hk') (by simp)) hsc)
        unfold Raw.cells at *
        dsimp only at bX ⊢
        have HSf : Hid (∀ w', Keeps [] W.drew w' → w'.cell? ⟨g6, 0, none⟩ = some v) := Lib.hid (fun w' hk' => hk'.cellEq (hBox.drew.cell 0) (by simp))
        have h0 := HSf.out _ (Keeps.refl [] W.drew)
        have hBoxd := Lib.hid hBox.drew
        have bXd := Lib.hid bX.out.drew
        have hownd : Hid (W.drew.ownsRow W0.heap.size 35 4 v pre.length (flatC Rr)) := Lib.hid hown
        have hrawd := Lib.hid (hraw.keep (Keeps.refl [] W).drew (by simp))
        have hsz : Hid (W0.heap.size ≤ W.drew.heap.size) := Lib.hid hk.size
        have hszW : Hid (W0.heap.size ≤ W.heap.size) := Lib.hid hk.size
        have hnv : Hid (g6 ∉ v.ownBlock.toList) := Lib.hid (fun hx => by obtain ⟨_, cur, h1⟩ := own_blk hown (Option.mem_toList.1 hx); exact Blk.ne_ h1 hBox (by decide) rfl)
        have hkd := Lib.hid hk.drew
        have hpl' : Hid (pre.length < m ∧ m ≤ 1000000) := Lib.hid ⟨hpl, by omega⟩
        have hplH : Hid (pre.length ≤ 1000000) := Lib.hid (by omega)
        replace hfr := Lib.hid hfr
        have hvb : Hid (∀ g, v.ownBlock = some g → W0.heap.size ≤ g ∧ ∃ cur, Blk W g 35 cur) := Lib.hid (fun g hg => own_blk hown hg)
        have hBX6 : Hid (gB ≠ g6 ∧ ga ≠ g6 ∨ True) := Lib.hid (.inr trivial)
        have hKdW : Hid (Keeps [] W W.drew) := Lib.hid (Keeps.refl [] W).drew
        obtain ⟨i5, hi5, hy0, hy1, hy2⟩ := info_parts info35
        replace hi5 := Lib.hid hi5
        replace hy0 := Lib.hid hy0
        replace hy1 := Lib.hid hy1
        replace hy2 := Lib.hid hy2
        clear raw hsc Kw hpl hgaX hBox bX hown hraw hk
        gi_wp2
        refine round_region_J l 3 (S := (fun w' : World => w'.cell? ⟨g6, 0, none⟩ = some v)) (n := 5) (by kernel_rfl) (by kernel_rfl) ?_
        generalize W.drew = wd at *
        have HS := h0
        have xX := bXd.out.cell
        have Kx := Lib.hid (Keeps.refl [] wd)
        refine wpAnyJ_take (i := 0) (v := ?_) (by kernel_rfl) rfl (by kernel_rfl) (by kernel_rfl) (by kernel_rfl) (fun _ _ _ h => h) HS (Or.inl ⟨by rfl, ?_⟩) ?_
        rotate_left
        · (intro w hSw; obtain y1 := hSw; go_simp; try with_reducible rfl)
        try simp only [Act.put, List.getElem_toArray, List.getElem_cons_succ, List.getElem_cons_zero, List.setIfInBounds_toArray, List.set_cons_zero, List.set_cons_succ]
        refine wpAnyJ_one (i := 1) rfl (by kernel_rfl) (fun K hK => ?_)
        dsimp only [List.getElem_toArray, List.getElem_cons_succ, List.getElem_cons_zero]
        go_simp
        refine hK _ _ (Or.inr HS) ?_
        clear hK K xX
        try simp only [Act.put, List.getElem_toArray, List.getElem_cons_succ, List.getElem_cons_zero, List.setIfInBounds_toArray, List.set_cons_zero, List.set_cons_succ]
        refine wpAnyJ_one (i := 2) rfl (by kernel_rfl) (fun K hK => ?_)
        dsimp only [List.getElem_toArray, List.getElem_cons_succ, List.getElem_cons_zero]
        go_simp
        refine (HI.out _ Kx.out).mono ?_
        rintro e w6 ⟨⟨t6, i6, Ao6, no6, co6, An6, nn6, cn6⟩, rfl, ri6, fr6, k6⟩
        dsimp only [Raw.cells]
        have h6f : Hid (Fresh wd.heap.size Ao6 ∧ Fresh wd.heap.size An6) := Lib.hid ⟨fr6.out.1.mono Kx.out.size, fr6.out.2.mono Kx.out.size⟩
        replace Kx := Lib.hid (Kx.out.trans k6.out)
        have HS := HSf.out _ Kx.out
        clear k6 fr6
        refine hK _ _ (Or.inr HS) ?_
        clear hK K
        try simp only [Act.put, List.getElem_toArray, List.getElem_cons_succ, List.getElem_cons_zero, List.setIfInBounds_toArray, List.set_cons_zero, List.set_cons_succ]
        refine wpAnyJ_one (i := 3) rfl (by kernel_rfl) (fun K hK => ?_)
        dsimp only [List.getElem_toArray, List.getElem_cons_succ, List.getElem_cons_zero]
        go_simp
        have ka7 : Keeps [] w6 (w6.alloc (.cells #[.int .i64 t6, .int .i64 i6, .slice Ao6 no6 co6, .slice An6 nn6 cn6] 35)) := (Keeps.refl [] w6).alloc _
        have Bn := Lib.hid (Blk.new w6 35 #[.int .i64 t6, .int .i64 i6, .slice Ao6 no6 co6, .slice An6 nn6 cn6])
        replace ri6 := Lib.hid (ri6.out.keep ka7 (by simp))
        have HS := HSf.out _ (Kx.out.trans ka7)
        replace Kx := Lib.hid (Kx.out.trans ka7)
        refine hK _ _ (Or.inr HS) ?_
        clear hK K ka7
        obtain ⟨g7, hg7⟩ : ∃ g, g = w6.heap.size := ⟨_, rfl⟩
        rw [← hg7] at Bn ⊢
        clear hg7
        generalize w6.alloc (.cells #[.int .i64 t6, .int .i64 i6, .slice Ao6 no6 co6, .slice An6 nn6 cn6] 35) = w7 at *
        try simp only [Act.put, List.getElem_toArray, List.getElem_cons_succ, List.getElem_cons_zero, List.setIfInBounds_toArray, List.set_cons_zero, List.set_cons_succ]
        refine wpAnyJ_one (i := 4) rfl (by kernel_rfl) (fun K hK => ?_)
        dsimp only [List.getElem_toArray, List.getElem_cons_succ, List.getElem_cons_zero]
        rw [if_pos (by rfl)]
        have ow7 := Lib.hid (own_keep0 hownd.out Kx.out)
        have hb7 : W0.heap.size ≤ w7.heap.size := Nat.le_trans hsz.out Kx.out.size
        refine wp_append_row (.tmp 25) (.tmp 28) 28 (by rfl) W0.heap.size 35 i5 (.agg #[.int .i64 0, .int .i64 0, .slice none 0 0, .slice none 0 0]) 4 64 Try.underlying28 hi5.out hy0.out hy1.out hy2.out rfl (by decide) v pre.length (flatC Rr) (by rfl) ow7.out (some ⟨g7, 0, none⟩) 1 1 [.int .i64 t6, .int .i64 i6, .slice Ao6 no6 co6, .slice An6 nn6 cn6] (by rfl) rfl (src_raw (r := ⟨t6, i6, Ao6, no6, co6, An6, nn6, cn6⟩) Bn.out) (by simp [Value.oneCell']) (by have := hplH.out; unfold maxLen; omega) (by have := hplH.out; omega) hb7 ?_
        intro v8 w8 q1 q2 q3 q4
        obtain ⟨A8, c8, rfl, _⟩ := own_slice q1.out
        have k8 : Hid (Keeps v.ownBlock.toList w7 w8) := Lib.hid (Keeps.grown q2.out (fun g hg => Option.mem_toList.2 hg))
        have B8 := Lib.hid ((hBoxd.out.keep Kx.out (by simp)).keep k8.out hnv.out)
        have fz := B8.out.frozen 0
        have HS := k8.out.cellEq HS hnv.out
        refine hK _ _ (Or.inr HS) ?_
        clear hK K
        try simp only [Act.put, List.getElem_toArray, List.getElem_cons_succ, List.getElem_cons_zero, List.setIfInBounds_toArray, List.set_cons_zero, List.set_cons_succ]
        refine wpAnyJ_one (i := 5) rfl (by kernel_rfl) (fun K hK => ?_)
        dsimp only [List.getElem_toArray, List.getElem_cons_succ, List.getElem_cons_zero]
        go_simp
        refine hK _ _ (Or.inl (by omega)) ?_
        clear hK K
        try simp only [Act.put, List.getElem_toArray, List.getElem_cons_succ, List.getElem_cons_zero, List.setIfInBounds_toArray, List.set_cons_zero, List.set_cons_succ]
        refine wpAnyJ_done (by kernel_rfl) ?_ _
        have K8 : Keeps v.ownBlock.toList W w8 := (hKdW.out.trans Kx.out).nil.trans k8.out
        have Kf : Keeps (g6 :: v.ownBlock.toList) W (w8.setCell ⟨g6, 0, none⟩ (.slice A8 (pre.length + 1) c8)) := (K8.mono (fun x hx => .inl (List.mem_cons_of_mem _ hx))).setCell (p := ⟨g6, 0, none⟩) (.inl List.mem_cons_self) _
        have k78 : Keeps (g6 :: v.ownBlock.toList) w7 (w8.setCell ⟨g6, 0, none⟩ (.slice A8 (pre.length + 1) c8)) := (k8.out.mono (fun x hx => .inl (List.mem_cons_of_mem _ hx))).setCell (p := ⟨g6, 0, none⟩) (.inl List.mem_cons_self) _
        have hg6W : g6 < W0.heap.size := B6.out.lt
        have hsW : W.heap.size ≤ w7.heap.size := (hKdW.out.trans Kx.out).size
        have hs8 : w7.heap.size ≤ (w8.setCell ⟨g6, 0, none⟩ (.slice A8 (pre.length + 1) c8)).heap.size := k78.size
        have hvW : ∀ g, v.ownBlock = some g → g < W.heap.size := fun g hg => by obtain ⟨_, cur, h1⟩ := hvb.out g hg; exact h1.lt
        have hq4 : ∀ g, (Value.slice A8 (pre.length + 1) c8).ownBlock = some g → v.ownBlock = some g ∨ g = w7.heap.size := fun g hg => by
          rcases q4.out with h | h
          · exact .inl (h.symm.trans hg)
          · rw [h] at hg; cases hg; exact .inr rfl
        have hsz' : W0.heap.size ≤ W.heap.size := hszW.out
        show KeepsFrom W0.heap.size W _ ∧ Kp2 gB ga W _ ∧ IRem g6 (L.drop kp) W0 (pre ++ [k]) _
        refine ⟨keepsFrom_of2 Kf (fun x hx => ?_), Kp2.of_keeps Kf (fun hx => ?_) (fun hx => ?_), .slice A8 (pre.length + 1) c8, Rr ++ [⟨t6, i6, Ao6, no6, co6, An6, nn6, cn6⟩], B8.out.set_ 0 _, ?_, ?_, ?_, ?_⟩
        · rcases List.mem_cons.1 hx with rfl | hx
          · exact .inl hg6W
          · obtain ⟨_, cur, h1⟩ := hvb.out x (Option.mem_toList.1 hx)
            exact .inr ⟨35, cur, h1⟩
        · rcases List.mem_cons.1 hx with h | h
          · exact hgg.out.2.2 h
          · have := (hvb.out _ (Option.mem_toList.1 h)).1; have := BB.out.lt; omega
        · rcases List.mem_cons.1 hx with h | h
          · have h1 := hgg.out.1; have h2 := hgg.out.2.2; omega
          · have h1 := (hvb.out _ (Option.mem_toList.1 h)).1; have h2 := k0.out.size; have h3 := BB.out.lt; omega
        · rw [flatC_append, List.length_append]
          refine own_keep q1.out ((Keeps.refl [g6] w8).setCell (p := ⟨g6, 0, none⟩) (.inl (List.mem_singleton.2 rfl)) _) (fun g hg hx => ?_)
          rw [List.mem_singleton.1 hx] at hg
          rcases hq4 g6 hg with h | h
          · exact hnv.out (Option.mem_toList.2 h)
          · omega
        · obtain ⟨b1, b2⟩ := hrawd.out
          refine ⟨by simp [b1], fun i r c h1 h2 => ?_⟩
          have hX' : ∀ y ∈ g6 :: (Value.slice A8 (pre.length + 1) c8).ownBlock.toList, y ∈ g6 :: v.ownBlock.toList ∨ y = w7.heap.size := fun y hy => by
            rcases List.mem_cons.1 hy with rfl | hy
            · exact .inl List.mem_cons_self
            · rcases hq4 y (Option.mem_toList.1 hy) with h | h
              · exact .inl (List.mem_cons_of_mem _ (Option.mem_toList.2 h))
              · exact .inr h
          rw [List.map_append] at h2
          rcases Nat.lt_or_ge i Rr.length with hi | hi
          · rw [List.getElem?_append_left hi] at h1
            rw [List.getElem?_append_left (by rw [← b1]; exact hi)] at h2
            have a := (b2 i r c h1 h2).keep Kx.out (by simp)
            exact (a.other (Y := g6 :: (Value.slice A8 (pre.length + 1) c8).ownBlock.toList ++ (g6 :: v.ownBlock.toList)) (fun y hy => by
              rcases List.mem_append.1 hy with h | h
              · rcases hX' y h with h | h
                · exact .inl h
                · exact .inr (by omega)
              · exact .inl h)).keep k78 (fun y hy => .inl (List.mem_append_right _ hy)) |>.other (fun y hy => .inl (List.mem_append_left _ hy))
          · rw [List.getElem?_append_right hi] at h1
            rw [List.getElem?_append_right (by rw [← b1]; exact hi), ← b1] at h2
            obtain ⟨j, hj⟩ : ∃ j, j = i - Rr.length := ⟨_, rfl⟩
            rw [← hj] at h1 h2
            cases j with
            | succ j => simp at h1
            | zero =>
              simp at h1 h2
              subst h1 h2
              obtain ⟨a1, a2, a3, a4, a5, a6⟩ := ri6.out
              have hb : ∀ y ∈ g6 :: v.ownBlock.toList, y < wd.heap.size := fun y hy => by
                have hw := hsz.out
                rcases List.mem_cons.1 hy with rfl | hy
                · omega
                · exact Nat.lt_of_lt_of_le (hvW y (Option.mem_toList.1 hy)) hKdW.out.size
              have a : RawIs w7 (g6 :: v.ownBlock.toList) ⟨t6, i6, Ao6, no6, co6, An6, nn6, cn6⟩ (inv (cAt (L.drop kp) k)) := ⟨a1, a2, a3, a4, a5.fresh h6f.out.1 hb, a6.fresh h6f.out.2 hb⟩
              exact (a.other (Y := g6 :: (Value.slice A8 (pre.length + 1) c8).ownBlock.toList ++ (g6 :: v.ownBlock.toList)) (fun y hy => by
                rcases List.mem_append.1 hy with h | h
                · rcases hX' y h with h | h
                  · exact .inl h
                  · exact .inr (by omega)
                · exact .inl h)).keep k78 (fun y hy => .inl (List.mem_append_right _ hy)) |>.other (fun y hy => .inl (List.mem_append_left _ hy))
        · intro i r h1
          rcases Nat.lt_or_ge i Rr.length with hi | hi
          · rw [List.getElem?_append_left hi] at h1
            exact hfr.out i r h1
          · rw [List.getElem?_append_right hi] at h1
            obtain ⟨j, hj⟩ : ∃ j, j = i - Rr.length := ⟨_, rfl⟩
            rw [← hj] at h1
            cases j with
            | succ j => simp at h1
            | zero =>
              simp at h1
              subst h1
              exact ⟨h6f.out.1.mono hsz.out, h6f.out.2.mono hsz.out⟩
        · refine ((hkd.out.mono (Y := g6 :: v.ownBlock.toList) (fun x hx => .inl (by rw [List.mem_singleton.1 hx]; exact List.mem_cons_self))).trans ((Kx.out.nil.trans k78))).mono (fun x hx => ?_)
          rcases List.mem_cons.1 hx with rfl | hx
          · exact .inl (List.mem_singleton.2 rfl)
          · exact .inr (hvb.out x (Option.mem_toList.1 hx)).1
      · intro D xs W hD hx hI hd
        obtain ⟨v, Rr, hBox, hown, hraw, hfr, hk⟩ := hI
        have hlx : xs.length = m := by rw [hx, upto_length, hRl.out]
        have hmap : xs.map (fun k => inv (cAt (L.drop kp) k)) = (L.drop kp).reverse.map inv := by
          have hul := upto_rev (L.drop kp)
          rw [hLl.out] at hul
          rw [hx, hRl.out]
          exact hul
        rw [hmap] at hraw
        rw [hlx] at hown
        obtain ⟨A8, c8, rfl, _⟩ := own_slice hown
        have hX : Keeps [g6] W0 W := hk
        have hg6W : g6 < W0.heap.size := B6.out.lt
        have hglg : gl ≠ g6 := by have := hgl.out; have := hgg.out.1; omega
        have B64 := hB0.out.keep hk (by simp; exact hglg)
        have Kw : Keeps [] w W := (k0.out.nil.trans hk).mono (fun y hy => .inr (by rw [List.mem_singleton.1 hy]; exact hgg.out.1))
        have z2 := B64.cell
        have f2 := B64.frozen
        have b2 := hBox.cell
        have Kf : Keeps [gl] W (W.setCell ⟨gl, 0, none⟩ (.slice (some (⟨ga, 0, none⟩ : Addr)) kp cc)) := (Keeps.refl [gl] W).setCell (p := ⟨gl, 0, none⟩) (.inl (List.mem_singleton.2 rfl)) _
        have b3 := (hBox.keep Kf (by simp; exact hglg.symm)).cell
        have hDn : D ≠ gl := by have := hgl.out; have := k0.out.size; omega
        have hdf : (W.setCell ⟨gl, 0, none⟩ (.slice (some (⟨ga, 0, none⟩ : Addr)) kp cc)).heap[D]? = some (.deferred (some [])) := (Below.heap_setCell W ⟨gl, 0, none⟩ (.slice (some (⟨ga, 0, none⟩ : Addr)) kp cc) D hDn).trans hd
        have Kz : Keeps [gl, D] W ((W.setCell ⟨gl, 0, none⟩ (.slice (some (⟨ga, 0, none⟩ : Addr)) kp cc)).putObj D (.deferred none)) := (Kf.mono (fun x hx => .inl (by rw [List.mem_singleton.1 hx]; simp))).trans (Keeps.grown (grownBy_putObj' _ D _) (fun k e => by cases e; simp))
        have hDlt : D < W.heap.size := (Array.getElem?_eq_some_iff.1 hd).1
        have hD0 : w.heap.size ≤ D := Nat.le_trans k0.out.size hD
        have hszk : W0.heap.size ≤ W.heap.size := hk.size
        have hfin : RemPost w gl m kp (some (⟨ga, 0, none⟩ : Addr)) cc sv (L.drop kp) (.returned (.slice A8 m c8)) ((W.setCell ⟨gl, 0, none⟩ (.slice (some (⟨ga, 0, none⟩ : Addr)) kp cc)).putObj D (.deferred none)) := by
          have hob : ∀ g, (Value.slice A8 m c8).ownBlock = some g → W0.heap.size ≤ g ∧ ∃ cur, Blk W g 35 cur := fun g hg => own_blk hown hg
          refine ⟨A8, c8, Rr, rfl, ?_, ?_, fun i r h => ⟨(hfr i r h).1.mono k0.out.size, (hfr i r h).2.mono k0.out.size⟩, ?_, ?_⟩
          · refine own_le (own_keep hown Kz (fun g hg hx => ?_)) k0.out.size
            obtain ⟨h1, cur, h2⟩ := hob g hg
            simp at hx
            rcases hx with rfl | rfl
            · have := hgl.out; have := k0.out.size; omega
            · have h3 : W.heap[g]? = some (.cells cur 35 (0, 0)) := h2
              rw [hd] at h3
              cases h3
          · refine ⟨hraw.1, fun i r c h1 h2 => ?_⟩
            obtain ⟨a1, a2, a3, a4, a5, a6⟩ := hraw.2 i r c h1 h2
            have hnx : ∀ {A : Option Addr} {l : List Val}, RowAt W (g6 :: (Value.slice A8 m c8).ownBlock.toList) A l → Fresh W0.heap.size A → RowAt ((W.setCell ⟨gl, 0, none⟩ (.slice (some (⟨ga, 0, none⟩ : Addr)) kp cc)).putObj D (.deferred none)) [] A l := fun {A l} h hf i v hi => by
              obtain ⟨g, off, rfl, _, c1, c2, c3⟩ := h i v hi
              have hg0 := hf _ rfl
              have hgne : g ∉ [gl, D] := by
                intro hx
                simp at hx
                rcases hx with rfl | rfl
                · have := hgl.out; have := k0.out.size; dsimp only at hg0; omega
                · obtain ⟨o, ho, hc⟩ := cells_of_cell c1
                  dsimp only at ho
                  rw [hd] at ho
                  cases ho
                  cases hc
              exact ⟨g, off, rfl, by simp, Kz.cellEq c1 hgne, Kz.cellEq c2 hgne, Kz.cellEq c3 hgne⟩
            exact ⟨a1, a2, a3, a4, hnx a5 (hfr i r h1).1, hnx a6 (hfr i r h1).2⟩
          · exact (B64.set_ 0 (.slice (some (⟨ga, 0, none⟩ : Addr)) kp cc)).keep (Keeps.grown (grownBy_putObj' _ D (.deferred none)) (X := [D]) (fun k e => by cases e; simp)) (by simp; exact fun h => hDn h.symm)
          · exact ((Kw.nil.trans Kz)).mono (fun x hx => by
              simp at hx
              rcases hx with rfl | rfl
              · exact .inl (List.mem_singleton.2 rfl)
              · exact .inr hD0)
        replace hfin := Lib.hid hfin
        replace hdf := Lib.hid hdf
        clear hX hx hlx hmap hown hraw hfr hk B64 Kw Kf Kz hd hgaX
        go_wp2_with fail
        refine ⟨by simp, .inl ⟨_, _, rfl, run_takeDeferred hdf.out, ?_⟩⟩
        exact ⟨_, by simp [results, Try.f42, go_sem], hfin.out⟩
      · intro D cd pre W _ _ h _
        exact h.elim
end Go.Proofs.Ytmclfbhcddcebaa
