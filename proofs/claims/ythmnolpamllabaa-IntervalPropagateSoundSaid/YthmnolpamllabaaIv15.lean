/- Meet: its plain laws; the reference's Meet. -/
import Derived.Test.YthmnolpamllabaaIv14
import Derived.Deep.QuietTactic
import Derived.BigQuiet
namespace Go.Proofs.Ythmnolpamllabaa
open Go.RowKit Go.Lib
set_option linter.unusedSimpArgs false
set_option linter.unusedVariables false

theorem canon_append : ∀ {a b : List Iv}, Canon a → Canon b → (∀ x ∈ a, ∀ y ∈ b, x.2 + 1 < y.1) → Canon (a ++ b)
  | [], b, _, hb, _ => hb
  | x :: r, b, ha, hb, h => by
    refine ⟨ha.1, fun y hy => ?_, canon_append ha.2.2 hb (fun z hz y hy => h z (List.mem_cons_of_mem _ hz) y hy)⟩
    rcases List.mem_append.1 hy with hy | hy
    · exact ha.2.1 y hy
    · exact h x List.mem_cons_self y hy
theorem meet1_mem {x z : Iv} {b : List Iv} : z ∈ meet1 x b ↔ ∃ y ∈ b, cutI x y = z ∧ z.1 ≤ z.2 := by
  unfold meet1
  rw [List.mem_filter, List.mem_map]
  constructor
  · rintro ⟨⟨y, hy, rfl⟩, hf⟩
    exact ⟨y, hy, rfl, by unfold full at hf; simpa using hf⟩
  · rintro ⟨y, hy, rfl, hf⟩
    exact ⟨⟨y, hy, rfl⟩, by unfold full; simpa using hf⟩
theorem meetL_mem {z : Iv} {a b : List Iv} : z ∈ meetL a b ↔ ∃ x ∈ a, ∃ y ∈ b, cutI x y = z ∧ z.1 ≤ z.2 := by
  unfold meetL
  rw [List.mem_flatMap]
  constructor
  · rintro ⟨x, hx, h⟩
    exact ⟨x, hx, meet1_mem.1 h⟩
  · rintro ⟨x, hx, h⟩
    exact ⟨x, hx, meet1_mem.2 h⟩
theorem cut_in {x y : Iv} {n : Int} : ((cutI x y).1 ≤ n ∧ n ≤ (cutI x y).2) ↔ (x.1 ≤ n ∧ n ≤ x.2) ∧ (y.1 ≤ n ∧ n ≤ y.2) := by
  unfold cutI
  dsimp only
  omega
theorem meetL_inn {a b : List Iv} {n : Int} : inn (meetL a b) n ↔ inn a n ∧ inn b n := by
  constructor
  · rintro ⟨z, hz, h1, h2⟩
    obtain ⟨x, hx, y, hy, rfl, _⟩ := meetL_mem.1 hz
    obtain ⟨h3, h4⟩ := cut_in.1 ⟨h1, h2⟩
    exact ⟨⟨x, hx, h3⟩, ⟨y, hy, h4⟩⟩
  · rintro ⟨⟨x, hx, h3⟩, ⟨y, hy, h4⟩⟩
    obtain ⟨h1, h2⟩ := cut_in.2 ⟨h3, h4⟩
    exact ⟨_, meetL_mem.2 ⟨x, hx, y, hy, rfl, by omega⟩, h1, h2⟩
theorem meet1_canon : ∀ {x : Iv} {b : List Iv}, Canon b → Canon (meet1 x b)
  | x, [], _ => trivial
  | x, y :: s, h => by
    have ih := meet1_canon (x := x) h.2.2
    by_cases hf : full (cutI x y) = true
    · have e : meet1 x (y :: s) = cutI x y :: meet1 x s := by unfold meet1; rw [List.map_cons, List.filter_cons_of_pos hf]
      rw [e]
      refine ⟨by unfold full at hf; simpa using hf, fun z hz => ?_, ih⟩
      obtain ⟨v, hv, rfl, _⟩ := meet1_mem.1 hz
      have := h.2.1 v hv
      unfold cutI
      dsimp only
      omega
    · have e : meet1 x (y :: s) = meet1 x s := by unfold meet1; rw [List.map_cons, List.filter_cons_of_neg hf]
      rw [e]
      exact ih
theorem meetL_canon : ∀ {a b : List Iv}, Canon a → Canon b → Canon (meetL a b)
  | [], b, _, _ => trivial
  | x :: r, b, ha, hb => by
    have e : meetL (x :: r) b = meet1 x b ++ meetL r b := by simp [meetL]
    rw [e]
    refine canon_append (meet1_canon hb) (meetL_canon ha.2.2 hb) (fun z hz v hv => ?_)
    obtain ⟨y, _, rfl, _⟩ := meet1_mem.1 hz
    obtain ⟨x', hx', y', _, rfl, _⟩ := meetL_mem.1 hv
    have := ha.2.1 x' hx'
    unfold cutI
    dsimp only
    omega
theorem meetL_all64 {a b : List Iv} (ha : All64 a) (hb : All64 b) : All64 (meetL a b) := fun z hz => by
  obtain ⟨x, hx, y, hy, rfl, _⟩ := meetL_mem.1 hz
  have h1 := ha x hx
  have h2 := hb y hy
  unfold In64 cutI at *
  dsimp only
  omega

/-- All cuts, the empty ones too. -/
def cut1 (x : Iv) (b : List Iv) : List Iv := b.map (cutI x)
def cutL (a b : List Iv) : List Iv := a.flatMap (fun x => cut1 x b)
theorem cutL_step {a b : List Iv} {k : Nat} {x : Iv} (hx : a[k]? = some x) : cutL (a.take (k + 1)) b = cutL (a.take k) b ++ cut1 x b := by
  unfold cutL
  rw [List.take_add_one, hx, List.flatMap_append]
  simp
theorem cut1_step {x y : Iv} {b : List Iv} {j : Nat} (hy : b[j]? = some y) : cut1 x (b.take (j + 1)) = cut1 x (b.take j) ++ [cutI x y] := by
  unfold cut1
  rw [List.take_add_one, hy, List.map_append]
  simp
theorem cut1_len (x : Iv) (b : List Iv) : (cut1 x b).length = b.length := by unfold cut1; simp
theorem cutL_len : ∀ (a b : List Iv), (cutL a b).length = a.length * b.length
  | [], b => by simp [cutL]
  | x :: r, b => by
    have : cutL (x :: r) b = cut1 x b ++ cutL r b := by simp [cutL]
    rw [this, List.length_append, List.length_cons, Nat.succ_mul, cut1_len, cutL_len]
    omega
theorem cutL_inn {a b : List Iv} {n : Int} : inn (cutL a b) n ↔ inn a n ∧ inn b n := by
  unfold cutL cut1
  constructor
  · rintro ⟨z, hz, h⟩
    obtain ⟨x, hx, hz⟩ := List.mem_flatMap.1 hz
    obtain ⟨y, hy, rfl⟩ := List.mem_map.1 hz
    obtain ⟨h3, h4⟩ := cut_in.1 h
    exact ⟨⟨x, hx, h3⟩, ⟨y, hy, h4⟩⟩
  · rintro ⟨⟨x, hx, h3⟩, ⟨y, hy, h4⟩⟩
    exact ⟨_, List.mem_flatMap.2 ⟨x, hx, List.mem_map.2 ⟨y, hy, rfl⟩⟩, cut_in.2 ⟨h3, h4⟩⟩
theorem cutL_all64 {a b : List Iv} (ha : All64 a) (hb : All64 b) : All64 (cutL a b) := fun z hz => by
  obtain ⟨x, hx, hz⟩ := List.mem_flatMap.1 hz
  obtain ⟨y, hy, rfl⟩ := List.mem_map.1 hz
  have h1 := ha x hx
  have h2 := hb y hy
  unfold In64 cutI at *
  dsimp only
  omega
theorem keeps_via {w w1 w2 : World} {g : Nat} (hk : Keeps [] w w1) (hg : w.heap.size ≤ g) (h : Keeps [g] w1 w2) : Keeps [] w w2 :=
  (hk.nil.trans h).mono (fun y hy => .inr (by rw [List.mem_singleton.1 hy]; exact hg))
theorem flat_one1 (x : Iv) : ∀ u ∈ ([.int .i64 x.1, .int .i64 x.2] : List Value), u.oneCell' = true := by simp [Value.oneCell']

set_option maxHeartbeats 6400000 in
set_option maxRecDepth 100000 in
theorem rmeet_any (w : World) (B : Nat) (A1 A2 : Option Addr) (l1 l2 : List Iv) (n1 n2 c1 c2 : Nat) (h1 : l1.length = n1) (h2 : l2.length = n2) (hn1 : n1 ≤ 1000) (hn2 : n2 ≤ 1000) (hO1 : IvAt w B A1 l1) (hO2 : IvAt w B A2 l2) (hB : B ≤ w.heap.size) (h64a : All64 l1) (h64b : All64 l2) :
    Calls Try.prog 31 #[.slice A1 n1 c1, .slice A2 n2 c2] w fun e w' => ∃ out, Hid (IsOf (cutL l1 l2) out) ∧ Got 38 out w w' e := by
  obtain ⟨i0, hi, hz0, hz1, hz2⟩ := info_parts info38
  have h64 := Lib.hid (cutL_all64 h64a h64b)
  replace hO1 := Lib.hid hO1
  replace hO2 := Lib.hid hO2
  replace h1 := Lib.hid h1
  replace h2 := Lib.hid h2
  replace hi := Lib.hid hi
  replace hz0 := Lib.hid hz0
  replace hz1 := Lib.hid hz1
  replace hz2 := Lib.hid hz2
  clear h64a h64b
  go_enter Try.func31, Try.ntmps31
  go_wp2_with fail
  go_loopw [6, 5] (fun i v wr => ∃ k : Nat, k ≤ n1 ∧ i = .int .i64 k ∧ Hid (wr.ownsRow w.heap.size 38 2 v (cutL (l1.take k) l2).length (flat (cutL (l1.take k) l2))) ∧ Hid (Keeps [] w wr)) (fun i _ _ => n1 - (intOf i).toNat)
  case atStart => exact ⟨0, Nat.zero_le _, rfl, Lib.hid ⟨rfl, .inl ⟨rfl, rfl⟩⟩, Lib.hid (Keeps.refl [] w)⟩
  case round =>
    obtain ⟨k, hk, rfl, hown, hkw⟩ := hrel
    obtain ⟨wo, hwX⟩ : ∃ x, x = wr := ⟨_, rfl⟩
    subst hwX
    by_cases hlt : k < n1
    · obtain ⟨⟨x1, x2⟩, hx⟩ : ∃ x, l1[k]? = some x := ⟨l1[k]'(by rw [h1.out]; exact hlt), List.getElem?_eq_getElem _⟩
      have hstep := Lib.hid (cutL_step (b := l2) hx)
      have hml : Hid ((cutL (l1.take k) l2).length = k * n2) := Lib.hid (by
        have := cutL_len (l1.take k) l2
        rw [List.length_take, h2.out, h1.out, Nat.min_eq_left hk] at this
        exact this)
      have hkm : Hid (k * n2 ≤ 1000000) := Lib.hid (Nat.le_trans (Nat.mul_le_mul (Nat.le_trans hk hn1) hn2) (by omega))
      have hki : (k : Int) < (n1 : Int) := by omega
      replace hx := Lib.hid hx
      go_wp2_with fail
      generalize cutL (l1.take k) l2 = M at *
      go_loopw [7, 5] (fun i v wr => ∃ j : Nat, j ≤ n2 ∧ i = .int .i64 j ∧ Hid (wr.ownsRow w.heap.size 38 2 v (M ++ cut1 (x1, x2) (l2.take j)).length (flat (M ++ cut1 (x1, x2) (l2.take j)))) ∧ Hid (Keeps [] w wr)) (fun i _ _ => n2 - (intOf i).toNat)
      case atStart =>
        refine ⟨0, Nat.zero_le _, rfl, ?_, hkw⟩
        rw [show M ++ cut1 (x1, x2) (l2.take 0) = M by simp [cut1]]
        exact hown
      case round =>
        obtain ⟨j, hj, rfl, ho, hkr⟩ := hrel
        clear hown hkw
        obtain ⟨wi, hwX⟩ : ∃ x, x = wr := ⟨_, rfl⟩
        subst hwX
        by_cases hjl : j < n2
        · obtain ⟨⟨y1, y2⟩, hy⟩ : ∃ x, l2[j]? = some x := ⟨l2[j]'(by rw [h2.out]; exact hjl), List.getElem?_eq_getElem _⟩
          obtain ⟨ga, oa, rfl, _, a0, a1⟩ := (hO1.out.keep hkr.out (by simp)) k _ hx.out
          obtain ⟨gb, ob, rfl, hgb, d0, d1⟩ := (hO2.out.keep hkr.out (by simp)) j _ hy
          dsimp only at a0 a1 d0 d1
          have hji : (j : Int) < (n2 : Int) := by omega
          have hcut := Lib.hid (cut1_step (x := (x1, x2)) hy)
          have hl1m : Hid ((cut1 (x1, x2) (l2.take j)).length ≤ j) := Lib.hid (by rw [cut1_len, List.length_take]; omega)
          have hbs := Lib.hid (show w.heap.size ≤ wi.heap.size from hkr.out.size)
          replace hy := Lib.hid hy
          have kb : Keeps [] wi (wi.alloc (.cells #[.int .i64 x1, .int .i64 x2] 38)) := (Keeps.refl [] wi).alloc _
          have B8 := Lib.hid (Blk.new wi 38 #[.int .i64 x1, .int .i64 x2])
          have o8 := Lib.hid (own_keep0 ho.out kb)
          have hne : Hid (∀ g, u5.ownBlock = some g → g ∉ [wi.heap.size]) := Lib.hid (fun g hg => by obtain ⟨_, cur, h⟩ := own_blk ho.out hg; have := h.lt; simp; omega)
          have k8 := Lib.hid (hkr.out.trans kb)
          have b0 := kb.cellEq d0 (by simp)
          have b1 := kb.cellEq d1 (by simp)
          have hgn : gb ≠ wi.heap.size := by have := hbs.out; omega
          have hlen : Hid ((M ++ cut1 (x1, x2) (l2.take j)).length ≤ 1001000) := Lib.hid (by rw [List.length_append]; have := hml.out; have := hkm.out; have := hl1m.out; omega)
          generalize cut1 (x1, x2) (l2.take j) = MJ at *
          clear kb d0 d1 hlt
          go_wp2_with fail
          clear a0 a1
          generalize wi.alloc (.cells #[.int .i64 x1, .int .i64 x2] 38) = w8 at *
          generalize wi.heap.size = g8 at *
          have K8 := Lib.hid (Keeps.refl [g8] w8)
          have z0 : w8.cell? ⟨g8, 0, none⟩ = some (.int .i64 x1) := B8.out.cell 0
          by_cases p1 : x1 < y1
          · replace p1 := p1
            go_quiet (fail)
            have q0 : (w8.drewN nq).cell? ⟨gb, ob + j * 2, none⟩ = some (.int .i64 y1) := b0
            have q1 : (w8.drewN nq).cell? ⟨gb, ob + j * 2 + 1, none⟩ = some (.int .i64 y2) := b1
            have B9 : Hid (Blk (w8.drewN nq) g8 38 #[.int .i64 x1, .int .i64 x2]) := B8
            have K9 := Lib.hid (K8.out.drewN nq)
            clear b0 b1 B8 K8 z0
            generalize w8.drewN nq = w9 at *
            have f0 := B9.out.frozen 0
            have zc : w9.cell? ⟨g8, 0, none⟩ = some (.int .i64 x1) := B9.out.cell 0
            have hlo : Hid (max x1 y1 = y1) := Lib.hid (by omega)
            have z1 : (w9.setCell ⟨g8, 0, none⟩ (.int .i64 y1)).cell? ⟨g8, 1, none⟩ = some (.int .i64 x2) := (B9.out.set_ 0 (.int .i64 y1)).cell 1
            have B10 : Hid (Blk (w9.setCell ⟨g8, 0, none⟩ (.int .i64 y1)) g8 38 #[.int .i64 y1, .int .i64 x2]) := Lib.hid (B9.out.set_ 0 (.int .i64 y1))
            have K10 := Lib.hid (K9.out.setCell (p := ⟨g8, 0, none⟩) (.inl (List.mem_singleton.2 rfl)) (.int .i64 y1))
            have q2 := K10.out
            replace q2 := Keeps.trans (K9.out) (Keeps.refl [g8] w9)
            have r1 : (w9.setCell ⟨g8, 0, none⟩ (.int .i64 y1)).cell? ⟨gb, ob + j * 2 + 1, none⟩ = some (.int .i64 y2) := ((Keeps.refl [g8] w9).setCell (p := ⟨g8, 0, none⟩) (.inl (List.mem_singleton.2 rfl)) (.int .i64 y1)).cellEq q1 (by simp; exact hgn)
            clear q2
            by_cases p2 : y2 < x2
            · replace p2 := p2
              go_wp2_with fail
              go_quiet (fail)
              have s1 : ((w9.setCell ⟨g8, 0, none⟩ (.int .i64 y1)).drewN nq).cell? ⟨gb, ob + j * 2 + 1, none⟩ = some (.int .i64 y2) := r1
              have B11 : Hid (Blk ((w9.setCell ⟨g8, 0, none⟩ (.int .i64 y1)).drewN nq) g8 38 #[.int .i64 y1, .int .i64 x2]) := B10
              have K11 := Lib.hid (K10.out.drewN nq)
              clear r1 B10 K10 z1 q0 q1 B9 K9 f0 zc
              generalize (w9.setCell ⟨g8, 0, none⟩ (.int .i64 y1)).drewN nq = wb at *
              have f1 := B11.out.frozen 1
              have hhi : Hid (min x2 y2 = y2) := Lib.hid (by omega)
              have B12 : Hid (Blk (wb.setCell ⟨g8, 1, none⟩ (.int .i64 y2)) g8 38 #[.int .i64 y1, .int .i64 y2]) := Lib.hid (B11.out.set_ 1 (.int .i64 y2))
              have K12 := Lib.hid (K11.out.setCell (p := ⟨g8, 1, none⟩) (.inl (List.mem_singleton.2 rfl)) (.int .i64 y2))
              have z := B11.out.cell
              have on := own_keep o8.out K12.out hne.out
              have kn := keeps_via k8.out hbs.out K12.out
              have hsz : w.heap.size ≤ (wb.setCell ⟨g8, 1, none⟩ (.int .i64 y2)).heap.size := kn.size
              have hsz2 : w.heap.size ≤ ((wb.setCell ⟨g8, 1, none⟩ (.int .i64 y2)).alloc (.cells #[.int .i64 y1, .int .i64 y2] 38)).heap.size := (kn.alloc _).size
              replace on := Lib.hid on
              replace kn := Lib.hid kn
              have oq := Lib.hid (own_keep0 on.out ((Keeps.refl [] (wb.setCell ⟨g8, 1, none⟩ (.int .i64 y2))).alloc (.cells #[.int .i64 y1, .int .i64 y2] 38)))
              have hsrc : Hid (SrcAt ((wb.setCell ⟨g8, 1, none⟩ (.int .i64 y2)).alloc (.cells #[.int .i64 y1, .int .i64 y2] 38)) (some ⟨wb.heap.size, 0, none⟩) 1 [.int .i64 y1, .int .i64 y2]) := Lib.hid (by have := src_iv (iv_new (wb.setCell ⟨g8, 1, none⟩ (.int .i64 y2)) 38 [(y1, y2)]); rw [show (wb.setCell ⟨g8, 1, none⟩ (.int .i64 y2)).heap.size = wb.heap.size by simp] at this; exact this)
              have hdone : Hid (flat (M ++ MJ) ++ [.int .i64 y1, .int .i64 y2] = flat (M ++ cut1 (x1, x2) (l2.take (j + 1)))) := Lib.hid (by rw [hcut.out, ← List.append_assoc, flat_append (M ++ MJ)]; unfold cutI; dsimp only; rw [hlo.out, hhi.out]; rfl)
              go_wp2_with (at_builtin; refine wpList_append_row (by rfl) (.tmp 53) (.tmp 55) 23 rfl w.heap.size 38 i0 (.agg #[.int .i64 0, .int .i64 0]) 2 16 Try.underlying23 hi.out hz0.out hz1.out hz2.out rfl (by decide) _ (M ++ MJ).length (flat (M ++ MJ)) rfl oq.out (some ⟨wb.heap.size, 0, none⟩) 1 1 [.int .i64 y1, .int .i64 y2] rfl rfl hsrc.out (flat_one1 (y1, y2)) (by have := hlen.out; unfold maxLen; omega) (by have := hlen.out; omega) hsz2 ?_; intro v' wq q1 q2 q3 q4)
              go_roundw
              case rel =>
                refine ⟨j + 1, by omega, by go_num, ?_, Lib.hid (keeps_append kn.out ((Keeps.refl [] (wb.setCell ⟨g8, 1, none⟩ (.int .i64 y2))).alloc _) on.out q2.out)⟩
                have := q1.out
                rw [hdone.out] at this
                rw [hcut.out, ← List.append_assoc, List.length_append (bs := [_])]
                rw [hcut.out, ← List.append_assoc] at this
                exact Lib.hid this
              case measure => simp [intOf]; omega
            · replace p2 := p2
              go_wp2_with fail
              go_quiet (fail)
              have s1 : ((w9.setCell ⟨g8, 0, none⟩ (.int .i64 y1)).drewN nq).cell? ⟨gb, ob + j * 2 + 1, none⟩ = some (.int .i64 y2) := r1
              have B11 : Hid (Blk ((w9.setCell ⟨g8, 0, none⟩ (.int .i64 y1)).drewN nq) g8 38 #[.int .i64 y1, .int .i64 x2]) := B10
              have K11 := Lib.hid (K10.out.drewN nq)
              clear r1 B10 K10 z1 q0 q1 B9 K9 f0 zc
              generalize (w9.setCell ⟨g8, 0, none⟩ (.int .i64 y1)).drewN nq = wb at *
              have hhi : Hid (min x2 y2 = x2) := Lib.hid (by omega)
              have B12 := B11
              have K12 := K11
              have z := B11.out.cell
              have on := own_keep o8.out K12.out hne.out
              have kn := keeps_via k8.out hbs.out K12.out
              have hsz : w.heap.size ≤ wb.heap.size := kn.size
              have hsz2 : w.heap.size ≤ (wb.alloc (.cells #[.int .i64 y1, .int .i64 x2] 38)).heap.size := (kn.alloc _).size
              replace on := Lib.hid on
              replace kn := Lib.hid kn
              have oq := Lib.hid (own_keep0 on.out ((Keeps.refl [] wb).alloc (.cells #[.int .i64 y1, .int .i64 x2] 38)))
              have hsrc : Hid (SrcAt (wb.alloc (.cells #[.int .i64 y1, .int .i64 x2] 38)) (some ⟨wb.heap.size, 0, none⟩) 1 [.int .i64 y1, .int .i64 x2]) := Lib.hid (by have := src_iv (iv_new wb 38 [(y1, x2)]); exact this)
              have hdone : Hid (flat (M ++ MJ) ++ [.int .i64 y1, .int .i64 x2] = flat (M ++ cut1 (x1, x2) (l2.take (j + 1)))) := Lib.hid (by rw [hcut.out, ← List.append_assoc, flat_append (M ++ MJ)]; unfold cutI; dsimp only; rw [hlo.out, hhi.out]; rfl)
              go_wp2_with (at_builtin; refine wpList_append_row (by rfl) (.tmp 53) (.tmp 55) 23 rfl w.heap.size 38 i0 (.agg #[.int .i64 0, .int .i64 0]) 2 16 Try.underlying23 hi.out hz0.out hz1.out hz2.out rfl (by decide) _ (M ++ MJ).length (flat (M ++ MJ)) rfl oq.out (some ⟨wb.heap.size, 0, none⟩) 1 1 [.int .i64 y1, .int .i64 x2] rfl rfl hsrc.out (flat_one1 (y1, x2)) (by have := hlen.out; unfold maxLen; omega) (by have := hlen.out; omega) hsz2 ?_; intro v' wq q1 q2 q3 q4)
              go_roundw
              case rel =>
                refine ⟨j + 1, by omega, by go_num, ?_, Lib.hid (keeps_append kn.out ((Keeps.refl [] wb).alloc _) on.out q2.out)⟩
                have := q1.out
                rw [hdone.out] at this
                rw [hcut.out, ← List.append_assoc, List.length_append (bs := [_])]
                rw [hcut.out, ← List.append_assoc] at this
                exact Lib.hid this
              case measure => simp [intOf]; omega
          · replace p1 := p1
            go_quiet (fail)
            have q0 : (w8.drewN nq).cell? ⟨gb, ob + j * 2, none⟩ = some (.int .i64 y1) := b0
            have q1 : (w8.drewN nq).cell? ⟨gb, ob + j * 2 + 1, none⟩ = some (.int .i64 y2) := b1
            have B9 : Hid (Blk (w8.drewN nq) g8 38 #[.int .i64 x1, .int .i64 x2]) := B8
            have K9 := Lib.hid (K8.out.drewN nq)
            clear b0 b1 B8 K8 z0
            generalize w8.drewN nq = w9 at *
            have hlo : Hid (max x1 y1 = x1) := Lib.hid (by omega)
            have z1 : w9.cell? ⟨g8, 1, none⟩ = some (.int .i64 x2) := B9.out.cell 1
            have B10 := B9
            have K10 := K9
            have r1 := q1
            by_cases p2 : y2 < x2
            · replace p2 := p2
              go_wp2_with fail
              go_quiet (fail)
              have s1 : (w9.drewN nq).cell? ⟨gb, ob + j * 2 + 1, none⟩ = some (.int .i64 y2) := r1
              have B11 : Hid (Blk (w9.drewN nq) g8 38 #[.int .i64 x1, .int .i64 x2]) := B10
              have K11 := Lib.hid (K10.out.drewN nq)
              clear r1 B10 K10 z1 q0 q1 B9 K9
              generalize w9.drewN nq = wb at *
              have f1 := B11.out.frozen 1
              have hhi : Hid (min x2 y2 = y2) := Lib.hid (by omega)
              have B12 : Hid (Blk (wb.setCell ⟨g8, 1, none⟩ (.int .i64 y2)) g8 38 #[.int .i64 x1, .int .i64 y2]) := Lib.hid (B11.out.set_ 1 (.int .i64 y2))
              have K12 := Lib.hid (K11.out.setCell (p := ⟨g8, 1, none⟩) (.inl (List.mem_singleton.2 rfl)) (.int .i64 y2))
              have z := B11.out.cell
              have on := own_keep o8.out K12.out hne.out
              have kn := keeps_via k8.out hbs.out K12.out
              have hsz : w.heap.size ≤ (wb.setCell ⟨g8, 1, none⟩ (.int .i64 y2)).heap.size := kn.size
              have hsz2 : w.heap.size ≤ ((wb.setCell ⟨g8, 1, none⟩ (.int .i64 y2)).alloc (.cells #[.int .i64 x1, .int .i64 y2] 38)).heap.size := (kn.alloc _).size
              replace on := Lib.hid on
              replace kn := Lib.hid kn
              have oq := Lib.hid (own_keep0 on.out ((Keeps.refl [] (wb.setCell ⟨g8, 1, none⟩ (.int .i64 y2))).alloc (.cells #[.int .i64 x1, .int .i64 y2] 38)))
              have hsrc : Hid (SrcAt ((wb.setCell ⟨g8, 1, none⟩ (.int .i64 y2)).alloc (.cells #[.int .i64 x1, .int .i64 y2] 38)) (some ⟨wb.heap.size, 0, none⟩) 1 [.int .i64 x1, .int .i64 y2]) := Lib.hid (by have := src_iv (iv_new (wb.setCell ⟨g8, 1, none⟩ (.int .i64 y2)) 38 [(x1, y2)]); rw [show (wb.setCell ⟨g8, 1, none⟩ (.int .i64 y2)).heap.size = wb.heap.size by simp] at this; exact this)
              have hdone : Hid (flat (M ++ MJ) ++ [.int .i64 x1, .int .i64 y2] = flat (M ++ cut1 (x1, x2) (l2.take (j + 1)))) := Lib.hid (by rw [hcut.out, ← List.append_assoc, flat_append (M ++ MJ)]; unfold cutI; dsimp only; rw [hlo.out, hhi.out]; rfl)
              go_wp2_with (at_builtin; refine wpList_append_row (by rfl) (.tmp 53) (.tmp 55) 23 rfl w.heap.size 38 i0 (.agg #[.int .i64 0, .int .i64 0]) 2 16 Try.underlying23 hi.out hz0.out hz1.out hz2.out rfl (by decide) _ (M ++ MJ).length (flat (M ++ MJ)) rfl oq.out (some ⟨wb.heap.size, 0, none⟩) 1 1 [.int .i64 x1, .int .i64 y2] rfl rfl hsrc.out (flat_one1 (x1, y2)) (by have := hlen.out; unfold maxLen; omega) (by have := hlen.out; omega) hsz2 ?_; intro v' wq q1 q2 q3 q4)
              go_roundw
              case rel =>
                refine ⟨j + 1, by omega, by go_num, ?_, Lib.hid (keeps_append kn.out ((Keeps.refl [] (wb.setCell ⟨g8, 1, none⟩ (.int .i64 y2))).alloc _) on.out q2.out)⟩
                have := q1.out
                rw [hdone.out] at this
                rw [hcut.out, ← List.append_assoc, List.length_append (bs := [_])]
                rw [hcut.out, ← List.append_assoc] at this
                exact Lib.hid this
              case measure => simp [intOf]; omega
            · replace p2 := p2
              go_wp2_with fail
              go_quiet (fail)
              have s1 : (w9.drewN nq).cell? ⟨gb, ob + j * 2 + 1, none⟩ = some (.int .i64 y2) := r1
              have B11 : Hid (Blk (w9.drewN nq) g8 38 #[.int .i64 x1, .int .i64 x2]) := B10
              have K11 := Lib.hid (K10.out.drewN nq)
              clear r1 B10 K10 z1 q0 q1 B9 K9
              generalize w9.drewN nq = wb at *
              have hhi : Hid (min x2 y2 = x2) := Lib.hid (by omega)
              have B12 := B11
              have K12 := K11
              have z := B11.out.cell
              have on := own_keep o8.out K12.out hne.out
              have kn := keeps_via k8.out hbs.out K12.out
              have hsz : w.heap.size ≤ wb.heap.size := kn.size
              have hsz2 : w.heap.size ≤ (wb.alloc (.cells #[.int .i64 x1, .int .i64 x2] 38)).heap.size := (kn.alloc _).size
              replace on := Lib.hid on
              replace kn := Lib.hid kn
              have oq := Lib.hid (own_keep0 on.out ((Keeps.refl [] wb).alloc (.cells #[.int .i64 x1, .int .i64 x2] 38)))
              have hsrc : Hid (SrcAt (wb.alloc (.cells #[.int .i64 x1, .int .i64 x2] 38)) (some ⟨wb.heap.size, 0, none⟩) 1 [.int .i64 x1, .int .i64 x2]) := Lib.hid (by have := src_iv (iv_new wb 38 [(x1, x2)]); exact this)
              have hdone : Hid (flat (M ++ MJ) ++ [.int .i64 x1, .int .i64 x2] = flat (M ++ cut1 (x1, x2) (l2.take (j + 1)))) := Lib.hid (by rw [hcut.out, ← List.append_assoc, flat_append (M ++ MJ)]; unfold cutI; dsimp only; rw [hlo.out, hhi.out]; rfl)
              go_wp2_with (at_builtin; refine wpList_append_row (by rfl) (.tmp 53) (.tmp 55) 23 rfl w.heap.size 38 i0 (.agg #[.int .i64 0, .int .i64 0]) 2 16 Try.underlying23 hi.out hz0.out hz1.out hz2.out rfl (by decide) _ (M ++ MJ).length (flat (M ++ MJ)) rfl oq.out (some ⟨wb.heap.size, 0, none⟩) 1 1 [.int .i64 x1, .int .i64 x2] rfl rfl hsrc.out (flat_one1 (x1, x2)) (by have := hlen.out; unfold maxLen; omega) (by have := hlen.out; omega) hsz2 ?_; intro v' wq q1 q2 q3 q4)
              go_roundw
              case rel =>
                refine ⟨j + 1, by omega, by go_num, ?_, Lib.hid (keeps_append kn.out ((Keeps.refl [] wb).alloc _) on.out q2.out)⟩
                have := q1.out
                rw [hdone.out] at this
                rw [hcut.out, ← List.append_assoc, List.length_append (bs := [_])]
                rw [hcut.out, ← List.append_assoc] at this
                exact Lib.hid this
              case measure => simp [intOf]; omega
        · obtain rfl : j = n2 := by omega
          have hfull : Hid (M ++ cut1 (x1, x2) (l2.take j) = cutL (l1.take (k + 1)) l2) := Lib.hid (by rw [hstep.out, List.take_of_length_le (by rw [h2.out]; exact Nat.le_refl _)])
          have hjf : ¬ (j : Int) < (j : Int) := by omega
          have ho2 : Hid _ := ho
          rw [hfull.out] at ho2
          go_wp2_with fail
          go_roundw
          case rel => exact ⟨k + 1, by omega, by go_num, ho2, hkr⟩
          case measure => simp [intOf]; omega
    · obtain rfl : k = n1 := by omega
      have hkf : ¬ (k : Int) < (k : Int) := by omega
      rw [List.take_of_length_le (by rw [h1.out]; exact Nat.le_refl _)] at hown
      have hll : Hid ((cutL l1 l2).length ≤ 1000000) := Lib.hid (by rw [cutL_len, h1.out, h2.out]; exact Nat.le_trans (Nat.mul_le_mul hn1 hn2) (by omega))
      obtain ⟨L, hLe⟩ : ∃ L, cutL l1 l2 = L := ⟨_, rfl⟩
      rw [hLe] at hown h64 hll
      replace hLe := Lib.hid hLe
      obtain ⟨A, c, rfl, _⟩ := own_slice hown.out
      have HR := Lib.hid (rof_got wo wo.heap.size A c L (Nat.le_refl _) (IvAt.of_own hown.out rfl) h64.out hll.out)
      clear hown
      go_wp2_with fail
      refine HR.out.mono ?_
      rintro e w9 ⟨out, hio, A9, c9, rfl, o9, n9, k9⟩
      have hfin : Hid (Got 38 out w w9 (.returned (.slice A9 out.length c9))) := Lib.hid ⟨A9, c9, rfl, Lib.hid (own_le2 o9.out hkw.out.size), n9, Lib.hid (hkw.out.trans k9.out)⟩
      clear HR o9 n9 k9
      go_wp2_with fail
      go_ret
      exact ⟨out, by rw [hLe.out]; exact hio, hfin.out⟩
end Go.Proofs.Ythmnolpamllabaa
