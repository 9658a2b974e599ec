/- Stored rows in memory; Perform of the reference. -/
import Derived.Test.YtmclfbhcddcebaaU37
namespace Go.Proofs.Ytmclfbhcddcebaa
open Go.RowKit Go.Shelf
set_option linter.unusedSimpArgs false
set_option linter.unusedVariables false

/-- A stored row as a value: its cells. -/
structure RawC where
  t : Int
  id : Int
  A : Option Addr
  n : Nat
  c : Nat
def RawC.cells (r : RawC) : List Value := [.int .i64 r.t, .int .i64 r.id, .slice r.A r.n r.c]
structure RawCIs (w : World) (X : List Nat) (r : RawC) (x : Cl) : Prop where
  t : r.t = x.t
  id : r.id = x.id
  n : x.row.length = r.n
  row : RowAt w X r.A x.row
theorem RawCIs.keep {w w' : World} {X Y : List Nat} {r : RawC} {c : Cl} (h : RawCIs w X r c) (hk : Keeps Y w w') (hY : ∀ y ∈ Y, y ∈ X ∨ w.heap.size ≤ y) : RawCIs w' X r c := ⟨h.t, h.id, h.n, h.row.keep hk hY⟩
theorem RawCIs.other {w : World} {X Y : List Nat} {r : RawC} {c : Cl} (h : RawCIs w X r c) (hY : ∀ y ∈ Y, y ∈ X ∨ w.heap.size ≤ y) : RawCIs w Y r c := ⟨h.t, h.id, h.n, h.row.other hY⟩
def flatL : List (RawC × Cl) → List Value
  | [] => []
  | p :: r => .int .i64 p.1.t :: .int .i64 p.1.id :: .slice p.1.A p.1.n p.1.c :: flatL r
theorem flatL_len : ∀ l, (flatL l).length = l.length * 3
  | [] => rfl
  | v :: r => by
    show (flatL r).length + 1 + 1 + 1 = (r.length + 1) * 3
    rw [flatL_len]
    omega
theorem flatL_append : ∀ a b, flatL (a ++ b) = flatL a ++ flatL b
  | [], _ => rfl
  | r :: a, b => by
    show _ :: _ :: _ :: flatL (a ++ b) = _ :: _ :: _ :: (flatL a ++ flatL b)
    rw [flatL_append]
theorem flatL_get : ∀ (l : List (RawC × Cl)) (i : Nat) (p : RawC × Cl), l[i]? = some p → (flatL l)[i * 3]? = some (.int .i64 p.1.t) ∧ (flatL l)[i * 3 + 1]? = some (.int .i64 p.1.id) ∧ (flatL l)[i * 3 + 2]? = some (.slice p.1.A p.1.n p.1.c)
  | [], i, v, h => by cases h
  | x :: r, 0, v, h => by
    obtain rfl : x = v := by simpa using h
    exact ⟨rfl, rfl, rfl⟩
  | x :: r, i + 1, v, h => by
    have ih := flatL_get r i v (by simpa using h)
    rw [show (i + 1) * 3 = i * 3 + 1 + 1 + 1 by omega]
    exact ih
/-- Stored rows behind an address, in a block that is none of X. -/
def ClsAt (w : World) (X : List Nat) (A : Option Addr) (s : List Cl) : Prop :=
  ∀ i x, s[i]? = some x → ∃ g off r, A = some ⟨g, off, none⟩ ∧ g ∉ X ∧ w.cell? ⟨g, off + i * 3, none⟩ = some (.int .i64 r.t) ∧ w.cell? ⟨g, off + i * 3 + 1, none⟩ = some (.int .i64 r.id) ∧ w.cell? ⟨g, off + i * 3 + 2, none⟩ = some (.slice r.A r.n r.c) ∧ RawCIs w X r x
theorem ClsAt.keep {w w' : World} {X Y : List Nat} {A : Option Addr} {l : List Cl} (h : ClsAt w X A l) (hk : Keeps Y w w') (hY : ∀ y ∈ Y, y ∈ X ∨ w.heap.size ≤ y) : ClsAt w' X A l := by
  intro i v hi
  obtain ⟨g, off, r, rfl, hg, h1, h2, h3, h5⟩ := h i v hi
  have hn : g ∉ Y := fun hy => by
    rcases hY g hy with h6 | h6
    · exact hg h6
    · have := block_lt_of_cell h1
      simp at this
      omega
  exact ⟨g, off, r, rfl, hg, hk.cellEq h1 hn, hk.cellEq h2 hn, hk.cellEq h3 hn, h5.keep hk hY⟩
theorem ClsAt.nil (w : World) (X : List Nat) (A : Option Addr) : ClsAt w X A [] := fun i x h => by simp at h
theorem ClsAt.of {w : World} {b n c : Nat} {X : List Nat} {A : Option Addr} {Q : List (RawC × Cl)} (h : w.ownsRow b 87 3 (.slice A n c) n (flatL Q)) (hn : Q.length = n) (hR : ∀ p ∈ Q, RawCIs w X p.1 p.2) (hA : ∀ x ∈ X, x < b) : ClsAt w X A (Q.map (·.2)) := fun i x hi => by
  rw [List.getElem?_map] at hi
  cases hp : Q[i]? with
  | none => rw [hp] at hi; cases hi
  | some p =>
    rw [hp] at hi
    obtain rfl : p.2 = x := by simpa using hi
    have hlt := (List.getElem?_eq_some_iff.1 hp).1
    obtain ⟨g, c', hv, _, _, hb, _, hcell, _⟩ := own_row3 h (by omega)
    injection hv with hA' _ _
    obtain ⟨h0, h1, h2⟩ := flatL_get Q i p hp
    exact ⟨g, 0, p.1, hA', fun hm => by have := hA g hm; omega, by rw [Nat.zero_add]; exact hcell _ _ h0, by rw [Nat.zero_add]; exact hcell _ _ h1, by rw [Nat.zero_add]; exact hcell _ _ h2, hR p (List.mem_of_getElem? hp)⟩
theorem info87 : (Try.prog.info? 87).map (fun i => (i.zero, i.size, i.bytes)) = some (some (.agg #[.int .i64 0, .int .i64 0, .slice none 0 0]), 3, 40) := by kernel_rfl
theorem src_cell {w : World} {g : Nat} {r : RawC} (h : Blk w g 87 r.cells.toArray) : SrcAt w (some ⟨g, 0, none⟩) 1 r.cells := .inr ⟨g, 0, rfl, fun j u hj => by rw [Nat.zero_add, h.cell]; simpa using hj⟩

/-- Changes behind an address, their rows in no block of X. -/
def ChsR (w : World) (X : List Nat) (A : Option Addr) (L : List Chg) : Prop :=
  ∀ i c, L[i]? = some c → ∃ g off r, A = some ⟨g, off, none⟩ ∧ w.cell? ⟨g, off + i * 4, none⟩ = some (.int .i64 r.t) ∧ w.cell? ⟨g, off + i * 4 + 1, none⟩ = some (.int .i64 r.id) ∧ w.cell? ⟨g, off + i * 4 + 2, none⟩ = some (.slice r.Ao r.no r.co) ∧ w.cell? ⟨g, off + i * 4 + 3, none⟩ = some (.slice r.An r.nn r.cn) ∧ RawIs w X r c
theorem ChsR.of {w : World} {X : List Nat} {A : Option Addr} {L : List Chg} (h : ChsAt w X A L) : ChsR w X A L := fun i c hi => by
  obtain ⟨g, off, r, h1, _, h2⟩ := h i c hi
  exact ⟨g, off, r, h1, h2⟩
theorem ChsR.keep0 {w w' : World} {X : List Nat} {A : Option Addr} {l : List Chg} (h : ChsR w X A l) (hk : Keeps [] w w') : ChsR w' X A l := by
  intro i v hi
  obtain ⟨g, off, r, h0, h1, h2, h3, h4, h5⟩ := h i v hi
  exact ⟨g, off, r, h0, hk.cellEq h1 (by simp), hk.cellEq h2 (by simp), hk.cellEq h3 (by simp), hk.cellEq h4 (by simp), h5.keep hk (by simp)⟩
theorem glog_chs {tl ts : TypeId} {b : Nat} {w : World} {X F : List Nat} {gl : Nat} {L : List Chg} {S : List Pnt} (h : GLog tl ts b w X F gl L S) : ∃ A c, w.cell? ⟨gl, 0, none⟩ = some (.slice A L.length c) ∧ ChsR w X A L := by
  obtain ⟨A, c, Ap, cp, R, hB, hO, hP, hR, hF⟩ := h.ex
  refine ⟨A, c, hB.cell 0, fun i ch hi => ?_⟩
  have hlt : i < L.length := (List.getElem?_eq_some_iff.1 hi).1
  obtain ⟨g, h1, h2, h3, h4⟩ := raws_of_own hO hR.1 (by omega)
  have hlt' : i < R.length := by rw [hR.1]; exact hlt
  obtain ⟨c0, c1, c2, c3⟩ := h4 i _ (List.getElem?_eq_getElem hlt')
  exact ⟨g, 0, _, h1, c0, c1, c2, c3, hR.2 i _ ch (List.getElem?_eq_getElem hlt') hi⟩
theorem ChsR.other_nil {w : World} {X : List Nat} {A : Option Addr} {L : List Chg} (h : ChsR w X A L) : ChsR w [] A L := fun i c hi => by
  obtain ⟨g, off, r, h0, h1, h2, h3, h4, h5⟩ := h i c hi
  exact ⟨g, off, r, h0, h1, h2, h3, h4, h5.other (by simp)⟩
theorem ClsAt.other {w : World} {X Y : List Nat} {A : Option Addr} {l : List Cl} (h : ClsAt w X A l) (hY : ∀ y ∈ Y, y ∈ X ∨ w.heap.size ≤ y) : ClsAt w Y A l := by
  intro i v hi
  obtain ⟨g, off, r, rfl, hg, h1, h2, h3, h5⟩ := h i v hi
  refine ⟨g, off, r, rfl, fun hy => ?_, h1, h2, h3, h5.other hY⟩
  rcases hY g hy with h6 | h6
  · exact hg h6
  · have := block_lt_of_cell h1
    simp at this
    omega

theorem others_yes {s : List Cl} {c : Chg} {k : Nat} {x : Cl} (h : s[k]? = some x) (hs : sees c x = true) : others (s.take (k + 1)) c = others (s.take k) c := by
  unfold others
  rw [take_snoc h, List.filter_append]
  simp [hs]
theorem others_no {s : List Cl} {c : Chg} {k : Nat} {x : Cl} (h : s[k]? = some x) (hs : sees c x = false) : others (s.take (k + 1)) c = others (s.take k) c ++ [x] := by
  unfold others
  rw [take_snoc h, List.filter_append]
  simp [hs]
theorem oldOf_yes {s : List Cl} {c : Chg} {k : Nat} {x : Cl} (h : s[k]? = some x) (hs : sees c x = true) : oldOf (s.take (k + 1)) c = x.row := by
  unfold oldOf
  rw [take_snoc h, List.filter_append]
  simp [hs]
theorem oldOf_no {s : List Cl} {c : Chg} {k : Nat} {x : Cl} (h : s[k]? = some x) (hs : sees c x = false) : oldOf (s.take (k + 1)) c = oldOf (s.take k) c := by
  unfold oldOf
  rw [take_snoc h, List.filter_append]
  simp [hs]
theorem others_le (s : List Cl) (c : Chg) : (others s c).length ≤ s.length := List.length_filter_le _ _
theorem perf_snoc {s s' : List Cl} {l : List Chg} {i : Nat} {c : Chg} (h : perf s (l.take i) = some s') (hi : l[i]? = some c) : perf s (l.take (i + 1)) = perf1 s' c := by
  rw [take_snoc hi, perf_append, h]
  show (perf1 s' c).bind _ = _
  cases perf1 s' c <;> rfl
theorem perf_stop {s s' : List Cl} {l : List Chg} {i : Nat} {c : Chg} (h : perf s (l.take i) = some s') (hi : l[i]? = some c) (hn : perf1 s' c = none) : perf s l = none := by
  have e : l = l.take (i + 1) ++ l.drop (i + 1) := (List.take_append_drop _ _).symm
  rw [e, perf_append, perf_snoc h hi, hn]
  rfl
theorem perf1_len {s s' : List Cl} {c : Chg} (h : perf1 s c = some s') : s'.length ≤ s.length + 1 := by
  unfold perf1 at h
  split at h
  · cases h
    have := others_le s c
    rw [List.length_append]
    have : (cel c).length ≤ 1 := by unfold cel; split <;> simp
    omega
  · cases h

theorem perf1_small {s s' : List Cl} {c : Chg} (h : ∀ x ∈ s, x.row.length ≤ 1000000) (hc : Small c) (hp : perf1 s c = some s') : ∀ x ∈ s', x.row.length ≤ 1000000 := by
  unfold perf1 at hp
  split at hp
  · cases hp
    intro x hx
    rcases List.mem_append.1 hx with hx | hx
    · exact h x (List.mem_filter.1 hx).1
    · rw [(cel_sees c x hx).2.1]; exact hc.2
  · cases hp
theorem perf_small {s' : List Cl} : ∀ {l : List Chg} {s : List Cl}, (∀ x ∈ s, x.row.length ≤ 1000000) → (∀ c ∈ l, Small c) → perf s l = some s' → ∀ x ∈ s', x.row.length ≤ 1000000
  | [], s, h, _, hp => by cases hp; exact h
  | c :: l, s, h, hl, hp => by
    unfold perf at hp
    cases h1 : perf1 s c with
    | none => rw [h1] at hp; cases hp
    | some s1 => rw [h1] at hp; exact perf_small (perf1_small h (hl c (by simp)) h1) (fun d hd => hl d (by simp [hd])) hp
theorem oldOf_small {s : List Cl} {c : Chg} (h : ∀ x ∈ s, x.row.length ≤ 1000000) : (oldOf s c).length ≤ 1000000 := by
  unfold oldOf
  cases hq : (s.filter (sees c)).getLast? with
  | none => simp
  | some x => exact h x (List.mem_filter.1 (List.mem_of_getLast? hq)).1
theorem perf_len {s' : List Cl} : ∀ {l : List Chg} {s : List Cl}, perf s l = some s' → s'.length ≤ s.length + l.length
  | [], s, hp => by cases hp; simp
  | c :: l, s, hp => by
    unfold perf at hp
    cases h1 : perf1 s c with
    | none => rw [h1] at hp; cases hp
    | some s1 =>
      rw [h1] at hp
      have := perf_len hp
      have := perf1_len h1
      simp only [List.length_cons]
      omega
/-- What Perform returns. -/
def PerfP (w : World) (X : List Nat) (o : Option (List Cl)) (e : Ending) (w' : World) : Prop :=
  Hid (Keeps [] w w') ∧ match o with
  | some s' => ∃ A c, e = .returned (.tuple #[.slice A s'.length c, .bool true]) ∧ Hid (ClsAt w' X A s')
  | none => ∃ v, e = .returned (.tuple #[v, .bool false])

set_option maxRecDepth 100000 in
set_option maxHeartbeats 16000000 in
theorem perf_any (w : World) (X : List Nat) (A0 Al : Option Addr) (s : List Cl) (l : List Chg) (n0 c0 m cl : Nat) (hs : ClsAt w X A0 s) (hl : ChsR w X Al l) (hn : s.length = n0) (hm : l.length = m) (hb : n0 + m ≤ 1000000) (hsm : ∀ c ∈ l, Small c) (hsr : ∀ x ∈ s, x.row.length ≤ 1000000) (hX : ∀ x ∈ X, x < w.heap.size) :
    Calls Try.prog 26 #[.slice A0 n0 c0, .slice Al m cl] w (PerfP w X (perf s l)) := by
  have hsA := Lib.hid hs
  have hlA := Lib.hid hl
  obtain ⟨i8, hi8, hx0, hx1, hx2⟩ := info_parts info87
  replace hi8 := Lib.hid hi8
  replace hx0 := Lib.hid hx0
  replace hx1 := Lib.hid hx1
  replace hx2 := Lib.hid hx2
  replace hn := Lib.hid hn
  replace hm := Lib.hid hm
  replace hsm := Lib.hid hsm
  replace hX := Lib.hid hX
  replace hsr := Lib.hid hsr
  clear hs hl
  have hb6 : n0 + m ≤ 1000000 := hb
  go_enter Try.func26, Try.ntmps26
  go_wp2_with fail
  go_loopw [0, 6] (fun v iv wr => ∃ (i nn : Nat) (A : Option Addr) (cx : Nat) (s' : List Cl), i ≤ m ∧ iv = .int .i64 i ∧ v = .slice A nn cx ∧ Hid (perf s (l.take i) = some s') ∧ Hid (s'.length = nn ∧ nn ≤ n0 + i) ∧ Hid (ClsAt wr X A s') ∧ Hid (Keeps [] w wr)) (fun _ iv _ => m - (intOf iv).toNat)
  case atStart => exact ⟨0, n0, A0, c0, s, Nat.zero_le _, rfl, rfl, Lib.hid rfl, Lib.hid ⟨hn.out, by omega⟩, hsA, Lib.hid (Keeps.refl _ _)⟩
  case round =>
    obtain ⟨i, nn0, As, cs, s', hi, rfl, rfl, hperf, hns, hcl, hkw⟩ := hrel
    obtain ⟨wq, hwq⟩ : ∃ x, x = wr := ⟨_, rfl⟩
    subst hwq
    have hnb : nn0 ≤ 1000000 := by have := hns.out.2; omega
    by_cases hlt : i < m
    · obtain ⟨⟨ct, ci, cold, cnew⟩, hc⟩ : ∃ c, l[i]? = some c := ⟨l[i]'(by rw [hm.out]; exact hlt), List.getElem?_eq_getElem _⟩
      obtain ⟨gc, oc, ⟨ct', ci', cO, cno, cco, cN, cnn, ccn⟩, rfl, y0, y1, y2, y3, hcr⟩ := (hlA.out.keep0 hkw.out) i _ hc
      obtain ⟨ht, hid, hno, hnn, hcO, hcN⟩ := hcr
      dsimp only at ht hid hno hnn hcO hcN y0 y1 y2 y3
      obtain rfl : ct = ct' := ht.symm
      obtain rfl : ci = ci' := hid.symm
      have him : (i : Int) < (m : Int) := by omega
      have hXw : Hid (∀ x ∈ X, x < wq.heap.size) := Lib.hid (fun x hx => Nat.lt_of_lt_of_le (hX.out x hx) hkw.out.size)
      have hcf : Hid (∀ w', Keeps [] wq w' → (w'.cell? ⟨gc, oc + i * 4, none⟩ = some (.int .i64 ct) ∧ w'.cell? ⟨gc, oc + i * 4 + 1, none⟩ = some (.int .i64 ci) ∧ w'.cell? ⟨gc, oc + i * 4 + 2, none⟩ = some (.slice cO cno cco) ∧ w'.cell? ⟨gc, oc + i * 4 + 3, none⟩ = some (.slice cN cnn ccn))) := Lib.hid (fun w' k => ⟨k.cellEq y0 (by simp), k.cellEq y1 (by simp), k.cellEq y2 (by simp), k.cellEq y3 (by simp)⟩)
      have hsc : Hid (cold.length ≤ 1000000 ∧ cnew.length ≤ 1000000) := Lib.hid (hsm.out _ (List.mem_of_getElem? hc))
      have hrO := Lib.hid hcO
      have hrN := Lib.hid hcN
      have hno' := Lib.hid hno
      have hnn' := Lib.hid hnn
      obtain ⟨ch, hch⟩ : ∃ c : Chg, c = ⟨ct, ci, cold, cnew⟩ := ⟨_, rfl⟩
      rw [← hch] at hc
      have hst : Hid (oldOf s' ch = cold → perf s (l.take (i + 1)) = some (others s' ch ++ cel ch)) := Lib.hid (fun e => by
        rw [perf_snoc hperf.out hc]
        unfold perf1
        rw [if_pos (by rw [e, hch])])
      have hstop : Hid (¬ oldOf s' ch = cold → perf s l = none) := Lib.hid (fun e => perf_stop hperf.out hc (by
        unfold perf1
        rw [if_neg (by rw [hch] at e ⊢; exact e)]))
      have hsees : Hid (∀ x : Cl, sees ch x = (decide (x.t = ct) && decide (x.id = ci))) := Lib.hid (fun x => by rw [hch]; rfl)
      replace hch := Lib.hid hch
      replace hc := Lib.hid hc
      clear y0 y1 y2 y3 hno hnn hcO hcN
      go_wp2_with fail
      go_loopw [7, 8, 9] (fun v7 v8 kv wr => ∃ (k on : Nat) (Ao : Option Addr) (co : Nat) (Q : List (RawC × Cl)), k ≤ nn0 ∧ kv = .int .i64 k ∧ v8 = .slice Ao on co ∧ Hid (Q.map (·.2) = others (s'.take k) ch) ∧ Hid (wr.ownsRow wq.heap.size 87 3 v7 Q.length (flatL Q)) ∧ Hid (∀ p ∈ Q, RawCIs wq X p.1 p.2) ∧ Hid (RowAt wq X Ao (oldOf (s'.take k) ch) ∧ (oldOf (s'.take k) ch).length = on) ∧ Hid (Keeps [] wq wr)) (fun _ _ kv _ => nn0 - (intOf kv).toNat)
      case atStart => exact ⟨0, 0, none, 0, [], Nat.zero_le _, rfl, rfl, Lib.hid rfl, Lib.hid ⟨rfl, .inl ⟨rfl, rfl⟩⟩, Lib.hid (by simp), Lib.hid ⟨RowAt.nil _ _ _, rfl⟩, Lib.hid (Keeps.refl _ _)⟩
      case round =>
        obtain ⟨k, on, Ao, co, Q, hk, rfl, rfl, hQ, hown, hQr, hold, hkq⟩ := hrel
        obtain ⟨wo, hwo⟩ : ∃ x, x = wr := ⟨_, rfl⟩
        subst hwo
        obtain ⟨A7, c7, rfl, _⟩ := own_slice hown.out
        obtain ⟨ql, hql⟩ : ∃ q, q = Q.length := ⟨_, rfl⟩
        rw [← hql] at hown ⊢
        have hqk : Hid (ql ≤ k) := Lib.hid (by
          have h1 := others_le (s'.take k) ch
          rw [← hQ.out, List.length_map, List.length_take] at h1
          omega)
        replace hql := Lib.hid hql
        obtain ⟨y0, y1, y2, y3⟩ := hcf.out _ hkq.out
        by_cases hkm : k < nn0
        · obtain ⟨⟨xt, xi, xr⟩, hx⟩ : ∃ x, s'[k]? = some x := ⟨s'[k]'(by rw [hns.out.1]; exact hkm), List.getElem?_eq_getElem _⟩
          obtain ⟨gs, os, ⟨rt, ri, rA, rn, rc⟩, rfl, _, x0, x1, x2, hxr⟩ := hcl.out k _ hx
          obtain ⟨ht, hid, hxn, hxrow⟩ := hxr
          dsimp only at ht hid hxn hxrow x0 x1 x2
          subst ht hid
          replace x0 := hkq.out.cellEq x0 (by simp)
          replace x1 := hkq.out.cellEq x1 (by simp)
          replace x2 := hkq.out.cellEq x2 (by simp)
          have hkmi : (k : Int) < (nn0 : Int) := by omega
          have hse := hsees.out ⟨rt, ri, xr⟩
          dsimp only at hse
          have hxr' : Hid (RawCIs wq X ⟨rt, ri, rA, rn, rc⟩ ⟨rt, ri, xr⟩) := Lib.hid ⟨rfl, rfl, hxn, hxrow⟩
          by_cases e1 : rt = ct
          · have b1 : (rt == ct) = true := by simpa using e1
            by_cases e2 : ri = ci
            · have b2 : (ri == ci) = true := by simpa using e2
              have hs1 : sees ch ⟨rt, ri, xr⟩ = true := by rw [hse, decide_eq_true e1, decide_eq_true e2]; rfl
              have ho := Lib.hid (others_yes hx hs1)
              have hol := Lib.hid (oldOf_yes hx hs1)
              obtain rfl := e1.symm
              obtain rfl := e2.symm
              replace hx := Lib.hid hx
              replace hse := Lib.hid hse
              replace hs1 := Lib.hid hs1
              have hrow : Hid (RowAt wq X rA (oldOf (s'.take (k + 1)) ch) ∧ (oldOf (s'.take (k + 1)) ch).length = rn) := Lib.hid (by rw [hol.out]; exact ⟨hxrow, hxn⟩)
              have hZ : Hid (∀ q, (wo.drewN q).ownsRow wq.heap.size 87 3 (.slice A7 Q.length c7) Q.length (flatL Q)) := Lib.hid (fun q => by rw [← hql.out]; exact hown.out)
              clear hxn hxrow
              go_wp2_with fail
              go_quiet (fail)
              go_wp2_with fail
              go_roundw
              case rel => exact ⟨k + 1, rn, rA, rc, Q, by omega, by go_num, rfl, by rw [ho.out]; exact hQ, by rw [← hql.out]; exact Lib.hid hown.out, hQr, hrow, Lib.hid (hkq.out.drewN _)⟩
              case measure => simp [intOf]; omega
            · have b2 : (ri == ci) = false := by simpa using e2
              have hs1 : sees ch ⟨rt, ri, xr⟩ = false := by rw [hse, decide_eq_false e2]; simp
              obtain rfl := e1.symm
              replace e2 := Lib.hid e2
              have ho := Lib.hid (others_no hx hs1)
              have hol := Lib.hid (oldOf_no hx hs1)
              replace hx := Lib.hid hx
              replace hse := Lib.hid hse
              replace hs1 := Lib.hid hs1
              have hrow : Hid (RowAt wq X Ao (oldOf (s'.take (k + 1)) ch) ∧ (oldOf (s'.take (k + 1)) ch).length = on) := Lib.hid (by rw [hol.out]; exact hold.out)
              have hxc : Hid (∀ q, (wo.drewN q).cell? ⟨gs, os + k * 3, none⟩ = some (.int .i64 ct) ∧ (wo.drewN q).cell? ⟨gs, os + k * 3 + 1, none⟩ = some (.int .i64 ri) ∧ (wo.drewN q).cell? ⟨gs, os + k * 3 + 2, none⟩ = some (.slice rA rn rc)) := Lib.hid (fun q => ⟨x0, x1, x2⟩)
              clear hxn hxrow
              go_wp2_with fail
              go_quiet (fail)
              obtain ⟨x0, x1, x2⟩ := hxc.out nq
              have hownq : Hid ((wo.drewN nq).ownsRow wq.heap.size 87 3 (.slice A7 ql c7) ql (flatL Q)) := Lib.hid hown.out
              have hkqq := Lib.hid (hkq.out.drewN nq)
              generalize wo.drewN nq = wz at *
              have ka : Keeps [] wz (wz.alloc (.cells #[.int .i64 ct, .int .i64 ri, .slice rA rn rc] 87)) := (Keeps.refl [] wz).alloc _
              have o8 := Lib.hid (own_keep0 hownq.out ka)
              have Bn := Lib.hid (Blk.new wz 87 #[.int .i64 ct, .int .i64 ri, .slice rA rn rc])
              have k8 := Lib.hid (hkqq.out.trans ka)
              have H9 : Hid (∀ (w9 : World) (v9 : Value), Hid ((wz.alloc (.cells #[.int .i64 ct, .int .i64 ri, .slice rA rn rc] 87)).grownBy w9 (Value.slice A7 ql c7).ownBlock) → Hid (w9.ownsRow wq.heap.size 87 3 v9 (ql + 1) (flatL Q ++ [.int .i64 ct, .int .i64 ri, .slice rA rn rc])) → Hid ((Q ++ [((⟨ct, ri, rA, rn, rc⟩, ⟨ct, ri, xr⟩) : RawC × Cl)]).map (·.2) = others (s'.take (k + 1)) ch) ∧ Hid (w9.ownsRow wq.heap.size 87 3 v9 (Q ++ [((⟨ct, ri, rA, rn, rc⟩, ⟨ct, ri, xr⟩) : RawC × Cl)]).length (flatL (Q ++ [((⟨ct, ri, rA, rn, rc⟩, ⟨ct, ri, xr⟩) : RawC × Cl)]))) ∧ Hid (∀ p ∈ Q ++ [((⟨ct, ri, rA, rn, rc⟩, ⟨ct, ri, xr⟩) : RawC × Cl)], RawCIs wq X p.1 p.2) ∧ Hid (Keeps [] wq w9)) := Lib.hid (fun w9 v9 q o => by
                refine ⟨Lib.hid (by rw [List.map_append, hQ.out, ho.out]; rfl), Lib.hid (by rw [flatL_append, List.length_append, ← hql.out]; exact o.out), Lib.hid (fun p hp => ?_), Lib.hid (keeps_append k8.out (Keeps.refl [] _) o8.out q.out)⟩
                rcases List.mem_append.1 hp with hp | hp
                · exact hQr.out p hp
                · rw [List.mem_singleton.1 hp]; exact hxr'.out)
              clear hxc hownq hkqq ka
              go_wp2_with (at_builtin; refine wpList_append_row (by rfl) (.tmp 51) (.tmp 56) 56 rfl wq.heap.size 87 i8 (.agg #[.int .i64 0, .int .i64 0, .slice none 0 0]) 3 40 Try.underlying56 hi8.out hx0.out hx1.out hx2.out rfl (by decide) (.slice A7 ql c7) ql (flatL Q) rfl o8.out (some ⟨wz.heap.size, 0, none⟩) 1 1 [.int .i64 ct, .int .i64 ri, .slice rA rn rc] rfl rfl (src_cell (r := ⟨ct, ri, rA, rn, rc⟩) Bn.out) (by simp [Value.oneCell']) (by have := hqk.out; unfold maxLen; omega) (by have := hqk.out; omega) k8.out.size ?_; intro v9 w9 q1 q2 q3 q4; obtain ⟨hN1, hN2, hN3, hN4⟩ := H9.out w9 v9 q2 q1; clear q1 q2 q3 q4)
              go_roundw
              case rel => exact ⟨k + 1, on, Ao, co, _, by omega, by go_num, rfl, hN1, hN2, hN3, hrow, hN4⟩
              case measure => simp [intOf]; omega
          · have b1 : (rt == ct) = false := by simpa using e1
            have hs1 : sees ch ⟨rt, ri, xr⟩ = false := by rw [hse, decide_eq_false e1]; rfl
            replace e1 := Lib.hid e1
            have ho := Lib.hid (others_no hx hs1)
            have hol := Lib.hid (oldOf_no hx hs1)
            replace hx := Lib.hid hx
            replace hse := Lib.hid hse
            replace hs1 := Lib.hid hs1
            have hrow : Hid (RowAt wq X Ao (oldOf (s'.take (k + 1)) ch) ∧ (oldOf (s'.take (k + 1)) ch).length = on) := Lib.hid (by rw [hol.out]; exact hold.out)
            have hxc : Hid (∀ q, (wo.drewN q).cell? ⟨gs, os + k * 3, none⟩ = some (.int .i64 rt) ∧ (wo.drewN q).cell? ⟨gs, os + k * 3 + 1, none⟩ = some (.int .i64 ri) ∧ (wo.drewN q).cell? ⟨gs, os + k * 3 + 2, none⟩ = some (.slice rA rn rc)) := Lib.hid (fun q => ⟨x0, x1, x2⟩)
            clear hxn hxrow
            go_wp2_with fail
            go_quiet (fail)
            obtain ⟨x0, x1, x2⟩ := hxc.out nq
            have hownq : Hid ((wo.drewN nq).ownsRow wq.heap.size 87 3 (.slice A7 ql c7) ql (flatL Q)) := Lib.hid hown.out
            have hkqq := Lib.hid (hkq.out.drewN nq)
            generalize wo.drewN nq = wz at *
            have ka : Keeps [] wz (wz.alloc (.cells #[.int .i64 rt, .int .i64 ri, .slice rA rn rc] 87)) := (Keeps.refl [] wz).alloc _
            have o8 := Lib.hid (own_keep0 hownq.out ka)
            have Bn := Lib.hid (Blk.new wz 87 #[.int .i64 rt, .int .i64 ri, .slice rA rn rc])
            have k8 := Lib.hid (hkqq.out.trans ka)
            have H9 : Hid (∀ (w9 : World) (v9 : Value), Hid ((wz.alloc (.cells #[.int .i64 rt, .int .i64 ri, .slice rA rn rc] 87)).grownBy w9 (Value.slice A7 ql c7).ownBlock) → Hid (w9.ownsRow wq.heap.size 87 3 v9 (ql + 1) (flatL Q ++ [.int .i64 rt, .int .i64 ri, .slice rA rn rc])) → Hid ((Q ++ [((⟨rt, ri, rA, rn, rc⟩, ⟨rt, ri, xr⟩) : RawC × Cl)]).map (·.2) = others (s'.take (k + 1)) ch) ∧ Hid (w9.ownsRow wq.heap.size 87 3 v9 (Q ++ [((⟨rt, ri, rA, rn, rc⟩, ⟨rt, ri, xr⟩) : RawC × Cl)]).length (flatL (Q ++ [((⟨rt, ri, rA, rn, rc⟩, ⟨rt, ri, xr⟩) : RawC × Cl)]))) ∧ Hid (∀ p ∈ Q ++ [((⟨rt, ri, rA, rn, rc⟩, ⟨rt, ri, xr⟩) : RawC × Cl)], RawCIs wq X p.1 p.2) ∧ Hid (Keeps [] wq w9)) := Lib.hid (fun w9 v9 q o => by
              refine ⟨Lib.hid (by rw [List.map_append, hQ.out, ho.out]; rfl), Lib.hid (by rw [flatL_append, List.length_append, ← hql.out]; exact o.out), Lib.hid (fun p hp => ?_), Lib.hid (keeps_append k8.out (Keeps.refl [] _) o8.out q.out)⟩
              rcases List.mem_append.1 hp with hp | hp
              · exact hQr.out p hp
              · rw [List.mem_singleton.1 hp]; exact hxr'.out)
            clear hxc hownq hkqq ka
            go_wp2_with (at_builtin; refine wpList_append_row (by rfl) (.tmp 51) (.tmp 56) 56 rfl wq.heap.size 87 i8 (.agg #[.int .i64 0, .int .i64 0, .slice none 0 0]) 3 40 Try.underlying56 hi8.out hx0.out hx1.out hx2.out rfl (by decide) (.slice A7 ql c7) ql (flatL Q) rfl o8.out (some ⟨wz.heap.size, 0, none⟩) 1 1 [.int .i64 rt, .int .i64 ri, .slice rA rn rc] rfl rfl (src_cell (r := ⟨rt, ri, rA, rn, rc⟩) Bn.out) (by simp [Value.oneCell']) (by have := hqk.out; unfold maxLen; omega) (by have := hqk.out; omega) k8.out.size ?_; intro v9 w9 q1 q2 q3 q4; obtain ⟨hN1, hN2, hN3, hN4⟩ := H9.out w9 v9 q2 q1; clear q1 q2 q3 q4)
            go_roundw
            case rel => exact ⟨k + 1, on, Ao, co, _, by omega, by go_num, rfl, hN1, hN2, hN3, hrow, hN4⟩
            case measure => simp [intOf]; omega
        · obtain rfl : k = nn0 := by omega
          have hkf : ¬ (k : Int) < (k : Int) := by omega
          have htk : s'.take k = s' := List.take_of_length_le (by rw [hns.out.1]; exact Nat.le_refl _)
          rw [htk] at hQ hold
          have HRow : Hid (Calls Try.prog 32 #[.slice Ao on co, .slice cO cno cco] wo fun e w' => e = .returned (.bool (decide (oldOf s' ch = cold))) ∧ Keeps [] wo w') := Lib.hid (rows_any wo X X Ao cO (oldOf s' ch) cold on co cno cco hold.out.2 hno'.out (hold.out.1.keep hkq.out (by simp)) (hrO.out.keep hkq.out (by simp)) (by have := oldOf_small (c := ch) (perf_small hsr.out (fun c hc => hsm.out c (List.mem_of_mem_take hc)) hperf.out); have := hold.out.2; omega))
          cases hb : decide (oldOf s' ch = cold)
          · have hnone := Lib.hid (hstop.out (of_decide_eq_false hb))
            rw [hb] at HRow
            replace hb := Lib.hid hb
            go_wp2_with fail
            refine HRow.out.mono ?_
            rintro e wf ⟨rfl, kf⟩
            have hend : Hid (∀ v, PerfP w X (perf s l) (.returned (.tuple #[v, .bool false])) wf) := Lib.hid (fun v => by
              rw [hnone.out]
              exact ⟨Lib.hid (hkw.out.trans (hkq.out.trans kf)), v, rfl⟩)
            clear HRow kf
            go_wp2_with fail
            go_ret2
            exact hend.out _
          · have hsome := Lib.hid (hst.out (of_decide_eq_true hb))
            rw [hb] at HRow
            replace hb := Lib.hid hb
            go_wp2_with fail
            refine HRow.out.mono ?_
            rintro e wf ⟨rfl, kf⟩
            obtain ⟨y0, y1, y2, y3⟩ := hcf.out _ (hkq.out.trans kf)
            have hkf' := Lib.hid (hkq.out.trans kf)
            have hown7 : Hid (∀ w', Keeps [] wf w' → w'.ownsRow wq.heap.size 87 3 (.slice A7 ql c7) ql (flatL Q)) := Lib.hid (fun w' k' => own_keep0 (own_keep0 hown.out kf) k')
            have hlen : Hid ((others s' ch).length = ql ∧ ql ≤ k) := Lib.hid ⟨by rw [← hQ.out, List.length_map, ← hql.out], hqk.out⟩
            have hnewc : Hid (ch.new = cnew ∧ ch.t = ct ∧ ch.id = ci) := Lib.hid (by rw [hch.out]; exact ⟨rfl, rfl, rfl⟩)
            have hnk := hns.out.2
            clear HRow kf
            by_cases hz : cnn = 0
            · have hcel : Hid (cel ch = []) := Lib.hid (by
                unfold cel
                rw [if_pos]
                rw [hnewc.out.1]
                exact List.eq_nil_of_length_eq_zero (by rw [hnn'.out, hz]))
              have hgz : ¬ ((0 : Int) < (cnn : Int)) := by omega
              have hcls : Hid (ClsAt wf X A7 (others s' ch)) := Lib.hid (by
                rw [← hQ.out]
                exact ClsAt.of (hown7.out wf (Keeps.refl _ _)) hql.out.symm (fun p hp => (hQr.out p hp).keep hkf'.out (by simp)) hXw.out)
              replace hz := Lib.hid hz
              go_wp2_with fail
              go_roundw
              case rel => exact ⟨i + 1, ql, A7, c7, others s' ch, by omega, by go_num, rfl, Lib.hid (hsome.out.trans (by rw [hcel.out, List.append_nil])), Lib.hid ⟨hlen.out.1, by have := hlen.out.2; omega⟩, hcls, Lib.hid (hkw.out.trans hkf'.out)⟩
              case measure => simp [intOf]; omega
            · have hcel : Hid (cel ch = [⟨ct, ci, cnew⟩]) := Lib.hid (by
                unfold cel
                rw [if_neg, hnewc.out.1, hnewc.out.2.1, hnewc.out.2.2]
                rw [hnewc.out.1]
                intro e
                have := hnn'.out
                rw [e] at this
                simp at this
                omega)
              have hgz : (0 : Int) < (cnn : Int) := by omega
              have hS15 : Hid (∀ w', Keeps [] wq w' → (fun w' : World => w'.cell? ⟨gc, oc + i * 4, none⟩ = some (.int .i64 ct) ∧ w'.cell? ⟨gc, oc + i * 4 + 1, none⟩ = some (.int .i64 ci) ∧ w'.cell? ⟨gc, oc + i * 4 + 3, none⟩ = some (.slice cN cnn ccn)) w') := Lib.hid (fun w' h => by
                obtain ⟨q0, q1, q2, q3⟩ := hcf.out _ h
                exact ⟨q0, q1, q3⟩)
              have hT15 : Hid (∀ (w7 w8 : World) (A8 : Option Addr) (c8 : Nat), Hid (Keeps [] wq w7) → Hid (w7.ownsRow wq.heap.size 87 3 (.slice A7 ql c7) ql (flatL Q)) → Hid (w8.ownsRow wq.heap.size 87 3 (.slice A8 (ql + 1) c8) (ql + 1) (flatL Q ++ [.int .i64 ct, .int .i64 ci, .slice cN cnn ccn])) → Hid (w7.grownBy w8 (Value.slice A7 ql c7).ownBlock) → Hid (Keeps [] wq w8) ∧ Hid (ClsAt w8 X A8 (others s' ch ++ [⟨ct, ci, cnew⟩]))) := Lib.hid (fun w7 w8 A8 c8 k7 o7 o8 q => by
                have k8 := keeps_append k7.out (Keeps.refl [] _) o7.out q.out
                refine ⟨Lib.hid k8, Lib.hid ?_⟩
                have := ClsAt.of (X := X) (Q := Q ++ [((⟨ct, ci, cN, cnn, ccn⟩, ⟨ct, ci, cnew⟩) : RawC × Cl)]) (A := A8) (b := wq.heap.size) (n := ql + 1) (c := c8) (w := w8) (by rw [flatL_append]; exact o8.out) (by rw [List.length_append, ← hql.out]; rfl) (fun p hp => by
                  rcases List.mem_append.1 hp with hp | hp
                  · exact (hQr.out p hp).keep k8 (by simp)
                  · rw [List.mem_singleton.1 hp]
                    exact RawCIs.keep ⟨rfl, rfl, hnn'.out, hrN.out⟩ k8 (by simp)) hXw.out
                rw [List.map_append, hQ.out] at this
                exact this)
              replace hz := Lib.hid hz
              clear y2
              go_wp2_with fail
              refine wp_region_I (S := (fun w' : World => w'.cell? ⟨gc, oc + i * 4, none⟩ = some (.int .i64 ct) ∧ w'.cell? ⟨gc, oc + i * 4 + 1, none⟩ = some (.int .i64 ci) ∧ w'.cell? ⟨gc, oc + i * 4 + 3, none⟩ = some (.slice cN cnn ccn))) (n := 20) (by kernel_rfl) ?_
              have ow0 : Hid (wf.drew.ownsRow wq.heap.size 87 3 (.slice A7 ql c7) ql (flatL Q)) := Lib.hid (hown7.out _ (Keeps.refl [] wf).drew)
              have kd : Hid (Keeps [] wq wf.drew) := Lib.hid hkf'.out.drew
              generalize wf.drew = wc at *
              have HS := hS15.out _ kd.out
              refine wpAnyI_takeN (i := 0) (v := ?_) (by kernel_rfl) rfl (by kernel_rfl) (by kernel_rfl) (by kernel_rfl) (fun _ _ _ h => h) HS (Or.inl ⟨by rfl, ?_⟩) ?_
              rotate_left
              · (intro w hSw; obtain ⟨y1, y2, y3⟩ := hSw; go_simp; try with_reducible rfl)
              try simp only [Act.put, List.getElem_toArray, List.getElem_cons_succ, List.getElem_cons_zero, List.setIfInBounds_toArray, List.set_cons_zero, List.set_cons_succ]
              refine wpAnyI_takeN (i := 1) (v := ?_) (by kernel_rfl) rfl (by kernel_rfl) (by kernel_rfl) (by kernel_rfl) (fun _ _ _ h => h) HS (Or.inl ⟨by rfl, ?_⟩) ?_
              rotate_left
              · (intro w hSw; obtain ⟨y1, y2, y3⟩ := hSw; go_simp; try with_reducible rfl)
              try simp only [Act.put, List.getElem_toArray, List.getElem_cons_succ, List.getElem_cons_zero, List.setIfInBounds_toArray, List.set_cons_zero, List.set_cons_succ]
              refine wpAnyI_takeN (i := 2) (v := ?_) (by kernel_rfl) rfl (by kernel_rfl) (by kernel_rfl) (by kernel_rfl) (fun _ _ _ h => h) HS (Or.inl ⟨by rfl, ?_⟩) ?_
              rotate_left
              · (intro w hSw; obtain ⟨y1, y2, y3⟩ := hSw; go_simp; try with_reducible rfl)
              try simp only [Act.put, List.getElem_toArray, List.getElem_cons_succ, List.getElem_cons_zero, List.setIfInBounds_toArray, List.set_cons_zero, List.set_cons_succ]
              refine wpAnyI_takeN (i := 3) (v := ?_) (by kernel_rfl) rfl (by kernel_rfl) (by kernel_rfl) (by kernel_rfl) (fun _ _ _ h => h) HS (Or.inl ⟨by rfl, ?_⟩) ?_
              rotate_left
              · (intro w hSw; obtain ⟨y1, y2, y3⟩ := hSw; go_simp; try with_reducible rfl)
              try simp only [Act.put, List.getElem_toArray, List.getElem_cons_succ, List.getElem_cons_zero, List.setIfInBounds_toArray, List.set_cons_zero, List.set_cons_succ]
              refine wpAnyI_takeN (i := 4) (v := ?_) (by kernel_rfl) rfl (by kernel_rfl) (by kernel_rfl) (by kernel_rfl) (fun _ _ _ h => h) HS (Or.inl ⟨by rfl, ?_⟩) ?_
              rotate_left
              · (intro w hSw; obtain ⟨y1, y2, y3⟩ := hSw; go_simp; try with_reducible rfl)
              try simp only [Act.put, List.getElem_toArray, List.getElem_cons_succ, List.getElem_cons_zero, List.setIfInBounds_toArray, List.set_cons_zero, List.set_cons_succ]
              refine wpAnyI_takeN (i := 5) (v := ?_) (by kernel_rfl) rfl (by kernel_rfl) (by kernel_rfl) (by kernel_rfl) (fun _ _ _ h => h) HS (Or.inl ⟨by rfl, ?_⟩) ?_
              rotate_left
              · (intro w hSw; obtain ⟨y1, y2, y3⟩ := hSw; go_simp; try with_reducible rfl)
              try simp only [Act.put, List.getElem_toArray, List.getElem_cons_succ, List.getElem_cons_zero, List.setIfInBounds_toArray, List.set_cons_zero, List.set_cons_succ]
              refine wpAnyI_takeN (i := 6) (v := ?_) (by kernel_rfl) rfl (by kernel_rfl) (by kernel_rfl) (by kernel_rfl) (fun _ _ _ h => h) HS (Or.inl ⟨by rfl, ?_⟩) ?_
              rotate_left
              · (intro w hSw; obtain ⟨y1, y2, y3⟩ := hSw; go_simp; try with_reducible rfl)
              try simp only [Act.put, List.getElem_toArray, List.getElem_cons_succ, List.getElem_cons_zero, List.setIfInBounds_toArray, List.set_cons_zero, List.set_cons_succ]
              refine wpAnyI_takeN (i := 7) (v := ?_) (by kernel_rfl) rfl (by kernel_rfl) (by kernel_rfl) (by kernel_rfl) (fun _ _ _ h => h) HS (Or.inl ⟨by rfl, ?_⟩) ?_
              rotate_left
              · (intro w hSw; obtain ⟨y1, y2, y3⟩ := hSw; go_simp; try with_reducible rfl)
              try simp only [Act.put, List.getElem_toArray, List.getElem_cons_succ, List.getElem_cons_zero, List.setIfInBounds_toArray, List.set_cons_zero, List.set_cons_succ]
              refine wpAnyI_takeN (i := 8) (v := ?_) (by kernel_rfl) rfl (by kernel_rfl) (by kernel_rfl) (by kernel_rfl) (fun _ _ _ h => h) HS (Or.inl ⟨by rfl, ?_⟩) ?_
              rotate_left
              · (intro w hSw; obtain ⟨y1, y2, y3⟩ := hSw; go_simp; try with_reducible rfl)
              try simp only [Act.put, List.getElem_toArray, List.getElem_cons_succ, List.getElem_cons_zero, List.setIfInBounds_toArray, List.set_cons_zero, List.set_cons_succ]
              refine wpAnyI_takeN (i := 9) (v := ?_) (by kernel_rfl) rfl (by kernel_rfl) (by kernel_rfl) (by kernel_rfl) (fun _ _ _ h => h) HS (Or.inl ⟨by rfl, ?_⟩) ?_
              rotate_left
              · (intro w hSw; obtain ⟨y1, y2, y3⟩ := hSw; go_simp; try with_reducible rfl)
              try simp only [Act.put, List.getElem_toArray, List.getElem_cons_succ, List.getElem_cons_zero, List.setIfInBounds_toArray, List.set_cons_zero, List.set_cons_succ]
              refine wpAnyI_takeN (i := 10) (v := ?_) (by kernel_rfl) rfl (by kernel_rfl) (by kernel_rfl) (by kernel_rfl) (fun _ _ _ h => h) HS (Or.inl ⟨by rfl, ?_⟩) ?_
              rotate_left
              · (intro w hSw; obtain ⟨y1, y2, y3⟩ := hSw; go_simp; try with_reducible rfl)
              try simp only [Act.put, List.getElem_toArray, List.getElem_cons_succ, List.getElem_cons_zero, List.setIfInBounds_toArray, List.set_cons_zero, List.set_cons_succ]
              refine wpAnyI_takeN (i := 11) (v := ?_) (by kernel_rfl) rfl (by kernel_rfl) (by kernel_rfl) (by kernel_rfl) (fun _ _ _ h => h) HS (Or.inl ⟨by rfl, ?_⟩) ?_
              rotate_left
              · (intro w hSw; obtain ⟨y1, y2, y3⟩ := hSw; go_simp; try with_reducible rfl)
              try simp only [Act.put, List.getElem_toArray, List.getElem_cons_succ, List.getElem_cons_zero, List.setIfInBounds_toArray, List.set_cons_zero, List.set_cons_succ]
              refine wpAnyI_takeN (i := 12) (v := ?_) (by kernel_rfl) rfl (by kernel_rfl) (by kernel_rfl) (by kernel_rfl) (fun _ _ _ h => h) HS (Or.inl ⟨by rfl, ?_⟩) ?_
              rotate_left
              · (intro w hSw; obtain ⟨y1, y2, y3⟩ := hSw; go_simp; try with_reducible rfl)
              try simp only [Act.put, List.getElem_toArray, List.getElem_cons_succ, List.getElem_cons_zero, List.setIfInBounds_toArray, List.set_cons_zero, List.set_cons_succ]
              refine wpAnyI_takeN (i := 13) (v := ?_) (by kernel_rfl) rfl (by kernel_rfl) (by kernel_rfl) (by kernel_rfl) (fun _ _ _ h => h) HS (Or.inl ⟨by rfl, ?_⟩) ?_
              rotate_left
              · (intro w hSw; obtain ⟨y1, y2, y3⟩ := hSw; go_simp; try with_reducible rfl)
              try simp only [Act.put, List.getElem_toArray, List.getElem_cons_succ, List.getElem_cons_zero, List.setIfInBounds_toArray, List.set_cons_zero, List.set_cons_succ]
              refine wpAnyI_takeN (i := 14) (v := ?_) (by kernel_rfl) rfl (by kernel_rfl) (by kernel_rfl) (by kernel_rfl) (fun _ _ _ h => h) HS (Or.inl ⟨by rfl, ?_⟩) ?_
              rotate_left
              · (intro w hSw; obtain ⟨y1, y2, y3⟩ := hSw; go_simp; try with_reducible rfl)
              try simp only [Act.put, List.getElem_toArray, List.getElem_cons_succ, List.getElem_cons_zero, List.setIfInBounds_toArray, List.set_cons_zero, List.set_cons_succ]
              refine wpAnyI_takeN (i := 15) (v := ?_) (by kernel_rfl) rfl (by kernel_rfl) (by kernel_rfl) (by kernel_rfl) (fun _ _ _ h => h) HS (Or.inl ⟨by rfl, ?_⟩) ?_
              rotate_left
              · (intro w hSw; obtain ⟨y1, y2, y3⟩ := hSw; go_simp; try with_reducible rfl)
              try simp only [Act.put, List.getElem_toArray, List.getElem_cons_succ, List.getElem_cons_zero, List.setIfInBounds_toArray, List.set_cons_zero, List.set_cons_succ]
              refine wpAnyI_takeN (i := 16) (v := ?_) (by kernel_rfl) rfl (by kernel_rfl) (by kernel_rfl) (by kernel_rfl) (fun _ _ _ h => h) HS (Or.inl ⟨by rfl, ?_⟩) ?_
              rotate_left
              · (intro w hSw; obtain ⟨y1, y2, y3⟩ := hSw; go_simp; try with_reducible rfl)
              try simp only [Act.put, List.getElem_toArray, List.getElem_cons_succ, List.getElem_cons_zero, List.setIfInBounds_toArray, List.set_cons_zero, List.set_cons_succ]
              refine wpAnyI_one (i := 17) rfl (by kernel_rfl) (fun K hK => ?_)
              dsimp only [List.getElem_toArray, List.getElem_cons_succ, List.getElem_cons_zero]
              go_simp
              have ka : Keeps [] wc (wc.alloc (.cells #[.int .i64 ct, .int .i64 ci, .slice cN cnn ccn] 87)) := (Keeps.refl [] wc).alloc _
              have Bn := Lib.hid (Blk.new wc 87 #[.int .i64 ct, .int .i64 ci, .slice cN cnn ccn])
              have HS := hS15.out _ (kd.out.trans ka)
              have ow := Lib.hid (own_keep0 ow0.out ka)
              have k47 : Hid (Keeps [] wq (wc.alloc (.cells #[.int .i64 ct, .int .i64 ci, .slice cN cnn ccn] 87))) := Lib.hid (kd.out.trans ka)
              have hb7 := Lib.hid k47.out.size
              refine hK _ _ (Or.inr HS) ?_
              clear hK K ka
              obtain ⟨g7, hg7⟩ : ∃ g, g = wc.heap.size := ⟨_, rfl⟩
              rw [← hg7] at Bn ⊢
              clear hg7
              generalize wc.alloc (.cells #[.int .i64 ct, .int .i64 ci, .slice cN cnn ccn] 87) = w7 at *
              try simp only [Act.put, List.getElem_toArray, List.getElem_cons_succ, List.getElem_cons_zero, List.setIfInBounds_toArray, List.set_cons_zero, List.set_cons_succ]
              refine wpAnyI_one (i := 18) rfl (by kernel_rfl) (fun K hK => ?_)
              dsimp only [List.getElem_toArray, List.getElem_cons_succ, List.getElem_cons_zero]
              rw [if_pos (by rfl)]
              refine wp_append_row (.tmp 74) (.tmp 91) 56 (by rfl) wq.heap.size 87 i8 (.agg #[.int .i64 0, .int .i64 0, .slice none 0 0]) 3 40 Try.underlying56 hi8.out hx0.out hx1.out hx2.out rfl (by decide) (.slice A7 ql c7) ql (flatL Q) (by rfl) ow.out (some ⟨g7, 0, none⟩) 1 1 [.int .i64 ct, .int .i64 ci, .slice cN cnn ccn] (by rfl) rfl (src_cell (r := ⟨ct, ci, cN, cnn, ccn⟩) Bn.out) (by simp [Value.oneCell']) (by have := hlen.out.2; unfold maxLen; omega) (by have := hlen.out.2; omega) hb7.out ?_
              intro v8 w8 q1 q2 q3 q4
              obtain ⟨A8, c8, rfl, _⟩ := own_slice q1.out
              obtain ⟨hkw8, hnew8⟩ := hT15.out w7 w8 A8 c8 k47 ow q1 q2
              have HS := hS15.out _ hkw8.out
              refine hK _ _ (Or.inr HS) ?_
              clear hK K q1 q2 q3 q4 ow k47
              try simp only [Act.put, List.getElem_toArray, List.getElem_cons_succ, List.getElem_cons_zero, List.setIfInBounds_toArray, List.set_cons_zero, List.set_cons_succ]
              refine wpAnyI_one (i := 19) rfl (by kernel_rfl) (fun K hK => ?_)
              dsimp only [List.getElem_toArray, List.getElem_cons_succ, List.getElem_cons_zero]
              go_simp
              refine hK _ _ (Or.inr HS) ?_
              clear hK K
              try simp only [Act.put, List.getElem_toArray, List.getElem_cons_succ, List.getElem_cons_zero, List.setIfInBounds_toArray, List.set_cons_zero, List.set_cons_succ]
              refine wpAnyI_done (by kernel_rfl) ?_ _
              go_wp2_with fail
              go_roundw
              case rel => exact ⟨i + 1, ql + 1, A8, c8, _, by omega, by go_num, rfl, Lib.hid (hsome.out.trans (by rw [hcel.out])), Lib.hid ⟨by rw [List.length_append, hlen.out.1]; rfl, by have := hlen.out.2; omega⟩, hnew8, Lib.hid (hkw.out.trans hkw8.out)⟩
              case measure => simp [intOf]; omega
    · obtain rfl : i = m := by omega
      have hmf : ¬ (i : Int) < (i : Int) := by omega
      have hend : Hid (PerfP w X (perf s l) (.returned (.tuple #[.slice As nn0 cs, .bool true])) wq) := Lib.hid (by
        have := hperf.out
        rw [List.take_of_length_le (by rw [hm.out]; exact Nat.le_refl _)] at this
        rw [this]
        exact ⟨hkw, As, cs, by rw [hns.out.1], hcl⟩)
      go_wp2_with fail
      go_ret2
      exact hend.out
end Go.Proofs.Ytmclfbhcddcebaa
