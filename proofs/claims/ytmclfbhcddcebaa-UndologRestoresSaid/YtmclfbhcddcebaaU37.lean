/- The reference's Net. -/
import Derived.Test.YtmclfbhcddcebaaU36
import Derived.Test.YtmclfbhcddcebaaLawNested
namespace Go.Proofs.Ytmclfbhcddcebaa
open Go.RowKit Go.Shelf
set_option linter.unusedSimpArgs false
set_option linter.unusedVariables false

theorem rows_get4 {P : List PQ} {k : Nat} {p : PQ} (h : P[k]? = some p) : (rows P)[k * 4]? = some (.int .i64 p.1.t) ∧ (rows P)[k * 4 + 1]? = some (.int .i64 p.1.id) ∧ (rows P)[k * 4 + 2]? = some (.slice p.1.Ao p.1.no p.1.co) ∧ (rows P)[k * 4 + 3]? = some (.slice p.1.An p.1.nn p.1.cn) :=
  flatC_get (P.map (fun q : PQ => q.1)) k p.1 (by rw [List.getElem?_map, h]; rfl)
theorem rows_one (P : List PQ) : ∀ u ∈ rows P, u.oneCell' = true := flatC_oneR _
/-- Cells of changes that a call has made. -/
theorem own_at {w : World} {b n c : Nat} {A : Option Addr} {P : List PQ} (h : w.ownsRow b 35 4 (.slice A n c) n (rows P)) (hl : P.length = n) {k : Nat} {p : PQ} (hp : P[k]? = some p) : ∃ g, A = some ⟨g, 0, none⟩ ∧ g < w.heap.size ∧ b ≤ g ∧ (w.cell? ⟨g, k * 4, none⟩ = some (.int .i64 p.1.t) ∧ w.cell? ⟨g, k * 4 + 1, none⟩ = some (.int .i64 p.1.id) ∧ w.cell? ⟨g, k * 4 + 2, none⟩ = some (.slice p.1.Ao p.1.no p.1.co) ∧ w.cell? ⟨g, k * 4 + 3, none⟩ = some (.slice p.1.An p.1.nn p.1.cn)) := by
  have hlt := (List.getElem?_eq_some_iff.1 hp).1
  obtain ⟨g, c', hv, _, _, hb, hg, hcell, _⟩ := own_row3 h (by omega)
  injection hv with hA _ _
  obtain ⟨h0, h1, h2, h3⟩ := rows_get4 hp
  exact ⟨g, hA, hg, hb, hcell _ _ h0, hcell _ _ h1, hcell _ _ h2, hcell _ _ h3⟩
theorem src_own {w : World} {b n c : Nat} {A : Option Addr} {P : List PQ} (h : w.ownsRow b 35 4 (.slice A n c) n (rows P)) (hl : P.length = n) (k : Nat) (hk : k ≤ n) : SrcAt w A k (rows (P.take k)) := by
  rcases Nat.eq_zero_or_pos k with h0 | h0
  · exact .inl h0
  · obtain ⟨g, c', hv, _, _, hb, hg, hcell, _⟩ := own_row3 h (by omega)
    injection hv with hA _ _
    refine .inr ⟨g, 0, hA, fun j u hj => ?_⟩
    rw [Nat.zero_add]
    refine hcell _ _ ?_
    have : rows P = rows (P.take k) ++ rows (P.drop k) := by rw [← rows_append, List.take_append_drop]
    rw [this, List.getElem?_append_left (List.getElem?_eq_some_iff.1 hj).1]
    exact hj
theorem src_own_drop {w : World} {b n c g : Nat} {P : List PQ} (h : w.ownsRow b 35 4 (.slice (some ⟨g, 0, none⟩) n c) n (rows P)) (hl : P.length = n) (k : Nat) (hk : k ≤ n) (A : Option Addr) (hA : k < n → A = some ⟨g, k * 4, none⟩) : SrcAt w A (n - k) (rows (P.drop k)) := by
  rcases Nat.lt_or_ge k n with hlt | hge
  · obtain ⟨g', c', hv, _, _, hb, hg, hcell, _⟩ := own_row3 h (by omega)
    cases hv
    refine .inr ⟨g, k * 4, hA hlt, fun j u hj => ?_⟩
    refine hcell _ _ ?_
    have : rows P = rows (P.take k) ++ rows (P.drop k) := by rw [← rows_append, List.take_append_drop]
    have hl4 : (rows (P.take k)).length = k * 4 := by rw [rows_len, List.length_take]; omega
    rw [this, List.getElem?_append_right (by omega), hl4]
    rw [show k * 4 + j - k * 4 = j by omega]
    exact hj
  · exact .inl (by omega)
theorem rows_set : ∀ (P : List PQ) (k : Nat) (t id : Int) (Ao : Option Addr) (no co : Nat) (An : Option Addr) (nn cn : Nat) (c : Chg) (A3 : Option Addr) (n3 c3 : Nat) (c' : Chg), P[k]? = some ((⟨t, id, Ao, no, co, An, nn, cn⟩, c) : PQ) → (rows P).set (k * 4 + 3) (.slice A3 n3 c3) = rows (P.set k (⟨t, id, Ao, no, co, A3, n3, c3⟩, c'))
  | [], k, _, _, _, _, _, _, _, _, _, _, _, _, _, h => by cases h
  | x :: P, 0, t, id, Ao, no, co, An, nn, cn, c, A3, n3, c3, c', h => by
    obtain rfl : x = _ := by simpa using h
    rfl
  | x :: P, k + 1, t, id, Ao, no, co, An, nn, cn, c, A3, n3, c3, c', h => by
    have := rows_set P k t id Ao no co An nn cn c A3 n3 c3 c' (by simpa using h)
    show (Value.int .i64 x.1.t :: .int .i64 x.1.id :: .slice x.1.Ao x.1.no x.1.co :: .slice x.1.An x.1.nn x.1.cn :: rows P).set ((k + 1) * 4 + 3) _ = _ :: _ :: _ :: _ :: rows (P.set k _)
    rw [show (k + 1) * 4 + 3 = (k * 4 + 3) + 1 + 1 + 1 + 1 by omega]
    simp only [List.set_cons_succ]
    rw [this]
theorem spot_more {c : Chg} {A : List Chg} {k : Nat} (h : ∀ x ∈ A.take k, ltK (kq x) (kq c)) {b : Chg} (hb : A[k]? = some b) (hlt : ltK (kq b) (kq c)) : ∀ x ∈ A.take (k + 1), ltK (kq x) (kq c) := fun x hx => by
  rw [take_snoc hb] at hx
  rcases List.mem_append.1 hx with hx | hx
  · exact h x hx
  · rw [List.mem_singleton.1 hx]; exact hlt
theorem netA_len (L : List Chg) : (netA L).length ≤ L.length := by
  rw [(netA_is L).2.length_eq]
  exact net_le L
/-- The insertion. -/
theorem putR_new {A : List Chg} {c : Chg} {k : Nat} (hk : spot c A = k) (hh : ∀ b, A[k]? = some b → hits c b = false) : putR A c = A.take k ++ c :: A.drop k := by
  unfold putR
  rw [hk, if_neg]
  unfold hitAt
  cases hb : A[k]? with
  | none => simp
  | some b => simp [hh b hb]
theorem putR_old {A : List Chg} {c b : Chg} {k : Nat} (hk : spot c A = k) (hb : A[k]? = some b) (hh : hits c b = true) : putR A c = A.set k { b with new := c.new } := by
  unfold putR
  rw [hk, if_pos (by unfold hitAt; rw [hb]; exact hh), cAt_of hb]
/-- What the reference's Net has. -/
structure RN (w : World) (X : List Nat) (v : Value) (P : List PQ) (wr : World) : Prop where
  own : wr.ownsRow w.heap.size 35 4 v P.length (rows P)
  is_ : PIs w X P
  kp : Keeps [] w wr
theorem RN.step {w : World} {X : List Nat} {v : Value} {P : List PQ} {wr wq : World} (h : RN w X v P wr) (k : Keeps [] wr wq) : RN w X v P wq := ⟨own_keep0 h.own k, h.is_, h.kp.trans k⟩
theorem RN.zero (w : World) (X : List Nat) {wr : World} (k : Keeps [] w wr) : RN w X (.slice none 0 0) [] wr := ⟨⟨rfl, .inl ⟨rfl, rfl⟩⟩, (fun p hp => by cases hp), k⟩
theorem RN.chs {w : World} {X : List Nat} {A : Option Addr} {c n : Nat} {P : List PQ} {wr : World} (h : RN w X (.slice A n c) P wr) (hn : P.length = n) (hX : ∀ x ∈ X, x < w.heap.size) : ChsAt wr X A (P.map (·.2)) := by
  subst hn
  refine ChsAt.of h.own (by simp) (rawsIs_of (P := P) ?_) (fun g hg hm => ?_)
  · exact fun p hp => (h.is_ p hp).keep h.kp (by simp)
  · have := (own_lo h.own hg).1
    have := hX g hm
    omega
/-- The new row of one is stored. -/
theorem RN.put {w : World} {X : List Nat} {g n cv k : Nat} {P : List PQ} {wr : World} (h : RN w X (.slice (some ⟨g, 0, none⟩) n cv) P wr) {t id : Int} {Ao : Option Addr} {no co : Nat} {An : Option Addr} {nn cn : Nat} {b : Chg} (hp : P[k]? = some ((⟨t, id, Ao, no, co, An, nn, cn⟩, b) : PQ)) {r : Raw} {c : Chg} (hr : RawIs w X r c) (hn : P.length = n) :
    RN w X (.slice (some ⟨g, 0, none⟩) n cv) (P.set k (⟨t, id, Ao, no, co, r.An, r.nn, r.cn⟩, { b with new := c.new })) (wr.setCell ⟨g, k * 4 + 3, none⟩ (.slice r.An r.nn r.cn)) := by
  subst hn
  have hgb : w.heap.size ≤ g := (own_blk h.own rfl).1
  obtain ⟨hst, _⟩ := h.own.stored (k * 4 + 3) (.slice r.An r.nn r.cn)
  refine ⟨?_, ?_, h.kp.setCell (.inr hgb) _⟩
  · rw [List.length_set, ← rows_set P k t id Ao no co An nn cn b r.An r.nn r.cn { b with new := c.new } hp]
    exact hst
  · intro q hq
    rcases List.mem_or_eq_of_mem_set hq with hq | rfl
    · exact h.is_ q hq
    · obtain ⟨a1, a2, a3, a4, a5, a6⟩ := h.is_ _ (List.mem_of_getElem? hp)
      exact ⟨a1, a2, a3, hr.nn, a5, hr.new⟩
/-- One more at the end. -/
theorem RN.snoc {w : World} {X : List Nat} {v v' : Value} {P : List PQ} {wr wq : World} {p : PQ} (h : RN w X v P wr) (hp : RawIs w X p.1 p.2) (ho : wq.ownsRow w.heap.size 35 4 v' (P.length + 1) (rows P ++ rows [p])) (hg : wr.grownBy wq v.ownBlock) : RN w X v' (P ++ [p]) wq := by
  refine ⟨by rw [rows_append, List.length_append]; exact ho, fun q hq => ?_, ?_⟩
  · rcases List.mem_append.1 hq with hq | hq
    · exact h.is_ q hq
    · rw [List.mem_singleton.1 hq]; exact hp
  · exact (h.kp.nil.trans (Keeps.grown (X := v.ownBlock.toList) hg (by intro g h; rw [h]; simp))).mono (fun y hy => .inr (own_blk h.own (Option.mem_toList.1 hy)).1)

theorem own_keeps6 {w6 w9 : World} {n : Nat} {e : TypeId} {sz : Nat} {v6 : Value} {xs : List Value} {wz : World} (k : Hid (Keeps [] wz w6)) (o : Hid (w6.ownsRow wz.heap.size e sz v6 n xs)) (q : Hid (w6.grownBy w9 v6.ownBlock)) : Hid (Keeps [] wz w9) := Lib.hid (keeps_append k.out (Keeps.refl [] _) o.out q.out)
/-- One is put into the middle. -/
theorem RN.ins {w : World} {X : List Nat} {v v9 : Value} {P : List PQ} {wz w9 : World} {k q : Nat} {p : PQ} (h : RN w X v P wz) (hp : RawIs w X p.1 p.2) (k9 : Keeps [] wz w9) (hk : k ≤ P.length) (ho : q = P.length + 1 ∧ w9.ownsRow wz.heap.size 35 4 v9 q ((rows (P.take k) ++ p.1.cells) ++ rows (P.drop k))) : RN w X v9 (P.take k ++ p :: P.drop k) w9 := by
  have e : P.take k ++ p :: P.drop k = P.take k ++ [p] ++ P.drop k := by simp
  refine ⟨?_, fun x hx => ?_, h.kp.trans k9⟩
  · have hl : (P.take k ++ p :: P.drop k).length = q := by rw [ho.1]; simp; omega
    rw [hl, e, rows_append, rows_append]
    exact own_le ho.2 h.kp.size
  · rcases List.mem_append.1 hx with hx | hx
    · exact h.is_ x (List.mem_of_mem_take hx)
    · rcases List.mem_cons.1 hx with rfl | hx
      · exact hp
      · exact h.is_ x (List.mem_of_mem_drop hx)

def RNetP (w : World) (X : List Nat) (L : List Chg) (e : Ending) (w' : World) : Prop := ∃ A c, e = .returned (.slice A (netOut L).length c) ∧ Hid (ChsAt w' X A (netOut L)) ∧ Hid (Keeps [] w w')
set_option maxRecDepth 100000 in
set_option maxHeartbeats 16000000 in
theorem rnet_log (b : Nat) (w : World) (X F : List Nat) (gl : Nat) (L : List Chg) (S : List Pnt) (h : RLog b w X F gl L S) (hL : L.length ≤ 1000000) :
    Calls Try.prog 17 #[.pointer (some ⟨gl, 0, none⟩)] w (RNetP w X L) := by
  obtain ⟨A, cc, Ap, cp, R, hB, hO, hP, hR, hF⟩ := h.ex
  obtain ⟨n, hn⟩ : ∃ n, n = L.length := ⟨_, rfl⟩
  have hXw := Lib.hid h.hi
  have hsm : Hid (∀ c ∈ L, Small c) := Lib.hid (fun c hc => (h.sm c hc).1)
  have hz : Hid (∀ wr, Keeps [] w wr → wr.cell? ⟨gl, 0, none⟩ = some (.slice A n cc)) := Lib.hid (fun wr k => k.cellEq (by rw [hn]; exact hB.cell 0) (by simp))
  have hlR := hR.1
  have hel : Hid (∀ wr, Keeps [] w wr → ∀ q ch, L[q]? = some ch → ∃ g r, A = some ⟨g, 0, none⟩ ∧ (wr.cell? ⟨g, q * 4, none⟩ = some (.int .i64 r.t) ∧ wr.cell? ⟨g, q * 4 + 1, none⟩ = some (.int .i64 r.id) ∧ wr.cell? ⟨g, q * 4 + 2, none⟩ = some (.slice r.Ao r.no r.co) ∧ wr.cell? ⟨g, q * 4 + 3, none⟩ = some (.slice r.An r.nn r.cn)) ∧ Hid (RawIs w X r ch)) := Lib.hid (fun wr kw q ch hq => by
    have hlt := (List.getElem?_eq_some_iff.1 hq).1
    obtain ⟨r, hr⟩ : ∃ r, R[q]? = some r := ⟨R[q]'(by rw [hlR]; exact hlt), List.getElem?_eq_getElem _⟩
    obtain ⟨g, h1, _, _, h2⟩ := raws_of_own hO hlR (by omega)
    obtain ⟨c0, c1, c2, c3⟩ := h2 q r hr
    rw [Nat.zero_add] at c0 c1 c2 c3
    exact ⟨g, r, h1, ⟨kw.cellEq c0 (by simp), kw.cellEq c1 (by simp), kw.cellEq c2 (by simp), kw.cellEq c3 (by simp)⟩, Lib.hid (hR.2 q r ch hr hq)⟩)
  obtain ⟨i5, hi5, hy0, hy1, hy2⟩ := info_parts info35
  replace hi5 := Lib.hid hi5
  replace hy0 := Lib.hid hy0
  replace hy1 := Lib.hid hy1
  replace hy2 := Lib.hid hy2
  have hn6 : n ≤ 1000000 := by omega
  replace hn := Lib.hid hn
  clear hB hO hP hR hF h hlR
  go_enter Try.func17, Try.ntmps17
  go_wp2_with fail
  go_loopw [3, 4] (fun v i wr => ∃ (i' : Nat) (P : List PQ), i' ≤ n ∧ i = .int .i64 i' ∧ Hid (P.map (·.2) = netA (L.take i')) ∧ Hid (RN w X v P wr)) (fun _ i _ => n - (intOf i).toNat)
  case atStart => exact ⟨0, [], Nat.zero_le _, rfl, Lib.hid rfl, Lib.hid (RN.zero w X (Keeps.refl _ _))⟩
  case round =>
    obtain ⟨i, P, hi, rfl, hPA, hN⟩ := hrel
    obtain ⟨wq, hwq⟩ : ∃ x, x = wr := ⟨_, rfl⟩
    subst hwq
    have zg := hz.out _ hN.out.kp
    obtain ⟨A3, c3, rfl, hc3⟩ := own_slice hN.out.own
    obtain ⟨m, hm⟩ : ∃ m, m = P.length := ⟨_, rfl⟩
    rw [← hm] at hN hc3 ⊢
    have hmi : m ≤ i := by
      have h1 := netA_len (L.take i)
      rw [← hPA.out, List.length_map, List.length_take] at h1
      omega
    replace hm := Lib.hid hm
    by_cases hlt : i < n
    · obtain ⟨ch, hch⟩ : ∃ c, L[i]? = some c := ⟨L[i]'(by rw [← hn.out]; omega), List.getElem?_eq_getElem _⟩
      obtain ⟨ga0, ⟨t, id, Ao, no, co, An, nn, cn⟩, rfl, ⟨c0, c1, c2, c4⟩, hraw⟩ := hel.out _ hN.out.kp i ch hch
      dsimp only at c0 c1 c2 c4
      have hii : (i : Int) < (n : Int) := by omega
      have hnx : Hid (netA (L.take (i + 1)) = putR (netA (L.take i)) ch) := Lib.hid (by rw [take_snoc hch, netA_snoc])
      replace hch := Lib.hid hch
      have ka : Keeps [] wq (wq.alloc (.cells #[.int .i64 t, .int .i64 id, .slice Ao no co, .slice An nn cn] 35)) := (Keeps.refl [] wq).alloc _
      have B5 := Lib.hid (Blk.new wq 35 #[.int .i64 t, .int .i64 id, .slice Ao no co, .slice An nn cn])
      have hN5 := Lib.hid (hN.out.step ka)
      clear hN ka
      go_wp2_with fail
      obtain ⟨g5, hg5⟩ : ∃ g, g = wq.heap.size := ⟨_, rfl⟩
      rw [← hg5] at B5 ⊢
      generalize wq.alloc (.cells #[.int .i64 t, .int .i64 id, .slice Ao no co, .slice An nn cn] 35) = wo at *
      clear hg5 zg c0 c1 c2 c4
      have hA3 : (A3 = none ∧ m = 0 ∧ c3 = 0) ∨ ∃ g, A3 = some ⟨g, 0, none⟩ := by
        rcases hN5.out.own.2 with ⟨hv, h0⟩ | ⟨g, cap, cur, hv, _⟩
        · injection hv with h1 _ h2
          exact .inl ⟨h1, by rw [hm.out]; exact h0, h2⟩
        · injection hv with h1 _ h2
          exact .inr ⟨g, h1⟩
      go_loopw [6] (fun kv wr => ∃ k : Nat, k ≤ m ∧ kv = .int .i64 k ∧ Hid (∀ x ∈ (P.map (·.2)).take k, ltK (kq x) (kq ch)) ∧ Hid (Keeps [] wo wr)) (fun kv _ => m - (intOf kv).toNat)
      case atStart => exact ⟨0, Nat.zero_le _, rfl, Lib.hid (by simp), Lib.hid (Keeps.refl _ _)⟩
      case round =>
        obtain ⟨k, hk, rfl, hlt', hkw⟩ := hrel
        obtain ⟨wk, hwk⟩ : ∃ x, x = wr := ⟨_, rfl⟩
        subst hwk
        have hNk := Lib.hid (hN5.out.step hkw.out)
        have B5k := Lib.hid (B5.out.keep hkw.out (by simp))
        by_cases hkm : k < m
        · obtain ⟨⟨⟨pt, pi, pO, pno, pco, pN, pnn, pcn⟩, pc⟩, hp⟩ : ∃ p, P[k]? = some p := ⟨P[k]'(by rw [← hm.out]; exact hkm), List.getElem?_eq_getElem _⟩
          obtain ⟨ga, rfl, hgaw, hgab, x0, x1, x2, x3⟩ := own_at (by have := hNk.out.own; rw [← hm.out] at this; exact this) hm.out.symm hp
          dsimp only at x0 x1 x2 x3
          have hpr := hNk.out.is_ _ (List.mem_of_getElem? hp)
          have hbe := befR_lt hpr hraw.out
          dsimp only at hbe
          have hpc : Hid ((P.map (·.2))[k]? = some pc) := Lib.hid (by rw [List.getElem?_map, hp]; rfl)
          have hkmi : (k : Int) < (m : Int) := by omega
          have hS7 : Hid (∀ w', Keeps [] wk w' → (fun w' : World => (w'.cell? ⟨g5, 0, none⟩ = some (.int .i64 t) ∧ w'.cell? ⟨g5, 1, none⟩ = some (.int .i64 id) ∧ w'.cell? ⟨g5, 2, none⟩ = some (.slice Ao no co) ∧ w'.cell? ⟨g5, 3, none⟩ = some (.slice An nn cn)) ∧ (w'.cell? ⟨ga, k * 4, none⟩ = some (.int .i64 pt) ∧ w'.cell? ⟨ga, k * 4 + 1, none⟩ = some (.int .i64 pi) ∧ w'.cell? ⟨ga, k * 4 + 2, none⟩ = some (.slice pO pno pco) ∧ w'.cell? ⟨ga, k * 4 + 3, none⟩ = some (.slice pN pnn pcn))) w') := Lib.hid (fun w' h => ⟨⟨h.cellEq (B5k.out.cell 0) (by simp), h.cellEq (B5k.out.cell 1) (by simp), h.cellEq (B5k.out.cell 2) (by simp), h.cellEq (B5k.out.cell 3) (by simp)⟩, ⟨h.cellEq x0 (by simp), h.cellEq x1 (by simp), h.cellEq x2 (by simp), h.cellEq x3 (by simp)⟩⟩)
          clear x0 x1 x2 x3
          by_cases hbt : ltK (kq pc) (kq ch)
          · have hbf : Hid (befR ⟨pt, pi, pO, pno, pco, pN, pnn, pcn⟩ ⟨t, id, Ao, no, co, An, nn, cn⟩ = true) := Lib.hid (hbe.trans (decide_eq_true hbt))
            have hmore := Lib.hid (spot_more hlt'.out hpc.out hbt)
            replace hp := Lib.hid hp
            replace hbe := Lib.hid hbe
            replace hbt := Lib.hid hbt
            replace hpr := Lib.hid hpr
            go_wp2_with fail
            refine wp_region_I (S := (fun w' : World => (w'.cell? ⟨g5, 0, none⟩ = some (.int .i64 t) ∧ w'.cell? ⟨g5, 1, none⟩ = some (.int .i64 id) ∧ w'.cell? ⟨g5, 2, none⟩ = some (.slice Ao no co) ∧ w'.cell? ⟨g5, 3, none⟩ = some (.slice An nn cn)) ∧ (w'.cell? ⟨ga, k * 4, none⟩ = some (.int .i64 pt) ∧ w'.cell? ⟨ga, k * 4 + 1, none⟩ = some (.int .i64 pi) ∧ w'.cell? ⟨ga, k * 4 + 2, none⟩ = some (.slice pO pno pco) ∧ w'.cell? ⟨ga, k * 4 + 3, none⟩ = some (.slice pN pnn pcn)))) (n := 12) (by kernel_rfl) ?_
            have HS := hS7.out wk.drew (Keeps.refl [] wk).drew
            have kd : Hid (Keeps [] wk wk.drew) := Lib.hid (Keeps.refl [] wk).drew
            generalize wk.drew = wc at *
            refine wpAnyI_takeN (i := 0) (v := ?_) (by kernel_rfl) rfl (by kernel_rfl) (by kernel_rfl) (by kernel_rfl) (fun _ _ _ h => h) HS (Or.inl ⟨by rfl, ?_⟩) ?_
            rotate_left
            · (intro w hSw; obtain ⟨⟨y1, y2, y3, y4⟩, ⟨x1, x2, x3, x4⟩⟩ := hSw; go_simp; try with_reducible rfl)
            try simp only [Act.put, List.getElem_toArray, List.getElem_cons_succ, List.getElem_cons_zero, List.setIfInBounds_toArray, List.set_cons_zero, List.set_cons_succ]
            refine wpAnyI_takeN (i := 1) (v := ?_) (by kernel_rfl) rfl (by kernel_rfl) (by kernel_rfl) (by kernel_rfl) (fun _ _ _ h => h) HS (Or.inl ⟨by rfl, ?_⟩) ?_
            rotate_left
            · (intro w hSw; obtain ⟨⟨y1, y2, y3, y4⟩, ⟨x1, x2, x3, x4⟩⟩ := hSw; go_simp; try with_reducible rfl)
            try simp only [Act.put, List.getElem_toArray, List.getElem_cons_succ, List.getElem_cons_zero, List.setIfInBounds_toArray, List.set_cons_zero, List.set_cons_succ]
            refine wpAnyI_takeN (i := 2) (v := ?_) (by kernel_rfl) rfl (by kernel_rfl) (by kernel_rfl) (by kernel_rfl) (fun _ _ _ h => h) HS (Or.inl ⟨by rfl, ?_⟩) ?_
            rotate_left
            · (intro w hSw; obtain ⟨⟨y1, y2, y3, y4⟩, ⟨x1, x2, x3, x4⟩⟩ := hSw; go_simp; try with_reducible rfl)
            try simp only [Act.put, List.getElem_toArray, List.getElem_cons_succ, List.getElem_cons_zero, List.setIfInBounds_toArray, List.set_cons_zero, List.set_cons_succ]
            refine wpAnyI_takeN (i := 3) (v := ?_) (by kernel_rfl) rfl (by kernel_rfl) (by kernel_rfl) (by kernel_rfl) (fun _ _ _ h => h) HS (Or.inl ⟨by rfl, ?_⟩) ?_
            rotate_left
            · (intro w hSw; obtain ⟨⟨y1, y2, y3, y4⟩, ⟨x1, x2, x3, x4⟩⟩ := hSw; go_simp; try with_reducible rfl)
            try simp only [Act.put, List.getElem_toArray, List.getElem_cons_succ, List.getElem_cons_zero, List.setIfInBounds_toArray, List.set_cons_zero, List.set_cons_succ]
            refine wpAnyI_takeN (i := 4) (v := ?_) (by kernel_rfl) rfl (by kernel_rfl) (by kernel_rfl) (by kernel_rfl) (fun _ _ _ h => h) HS (Or.inl ⟨by rfl, ?_⟩) ?_
            rotate_left
            · (intro w hSw; obtain ⟨⟨y1, y2, y3, y4⟩, ⟨x1, x2, x3, x4⟩⟩ := hSw; go_simp; try with_reducible rfl)
            try simp only [Act.put, List.getElem_toArray, List.getElem_cons_succ, List.getElem_cons_zero, List.setIfInBounds_toArray, List.set_cons_zero, List.set_cons_succ]
            refine wpAnyI_takeN (i := 5) (v := ?_) (by kernel_rfl) rfl (by kernel_rfl) (by kernel_rfl) (by kernel_rfl) (fun _ _ _ h => h) HS (Or.inl ⟨by rfl, ?_⟩) ?_
            rotate_left
            · (intro w hSw; obtain ⟨⟨y1, y2, y3, y4⟩, ⟨x1, x2, x3, x4⟩⟩ := hSw; go_simp; try with_reducible rfl)
            try simp only [Act.put, List.getElem_toArray, List.getElem_cons_succ, List.getElem_cons_zero, List.setIfInBounds_toArray, List.set_cons_zero, List.set_cons_succ]
            refine wpAnyI_takeN (i := 6) (v := ?_) (by kernel_rfl) rfl (by kernel_rfl) (by kernel_rfl) (by kernel_rfl) (fun _ _ _ h => h) HS (Or.inl ⟨by rfl, ?_⟩) ?_
            rotate_left
            · (intro w hSw; obtain ⟨⟨y1, y2, y3, y4⟩, ⟨x1, x2, x3, x4⟩⟩ := hSw; go_simp; try with_reducible rfl)
            try simp only [Act.put, List.getElem_toArray, List.getElem_cons_succ, List.getElem_cons_zero, List.setIfInBounds_toArray, List.set_cons_zero, List.set_cons_succ]
            refine wpAnyI_takeN (i := 7) (v := ?_) (by kernel_rfl) rfl (by kernel_rfl) (by kernel_rfl) (by kernel_rfl) (fun _ _ _ h => h) HS (Or.inl ⟨by rfl, ?_⟩) ?_
            rotate_left
            · (intro w hSw; obtain ⟨⟨y1, y2, y3, y4⟩, ⟨x1, x2, x3, x4⟩⟩ := hSw; go_simp; try with_reducible rfl)
            try simp only [Act.put, List.getElem_toArray, List.getElem_cons_succ, List.getElem_cons_zero, List.setIfInBounds_toArray, List.set_cons_zero, List.set_cons_succ]
            refine wpAnyI_takeN (i := 8) (v := ?_) (by kernel_rfl) rfl (by kernel_rfl) (by kernel_rfl) (by kernel_rfl) (fun _ _ _ h => h) HS (Or.inl ⟨by rfl, ?_⟩) ?_
            rotate_left
            · (intro w hSw; obtain ⟨⟨y1, y2, y3, y4⟩, ⟨x1, x2, x3, x4⟩⟩ := hSw; go_simp; try with_reducible rfl)
            try simp only [Act.put, List.getElem_toArray, List.getElem_cons_succ, List.getElem_cons_zero, List.setIfInBounds_toArray, List.set_cons_zero, List.set_cons_succ]
            refine wpAnyI_takeN (i := 9) (v := ?_) (by kernel_rfl) rfl (by kernel_rfl) (by kernel_rfl) (by kernel_rfl) (fun _ _ _ h => h) HS (Or.inl ⟨by rfl, ?_⟩) ?_
            rotate_left
            · (intro w hSw; obtain ⟨⟨y1, y2, y3, y4⟩, ⟨x1, x2, x3, x4⟩⟩ := hSw; go_simp; try with_reducible rfl)
            try simp only [Act.put, List.getElem_toArray, List.getElem_cons_succ, List.getElem_cons_zero, List.setIfInBounds_toArray, List.set_cons_zero, List.set_cons_succ]
            refine wpAnyI_one (i := 10) rfl (by kernel_rfl) (fun K hK => ?_)
            dsimp only [List.getElem_toArray, List.getElem_cons_succ, List.getElem_cons_zero]
            go_simp
            refine (before_any wc ⟨pt, pi, pO, pno, pco, pN, pnn, pcn⟩ ⟨t, id, Ao, no, co, An, nn, cn⟩).mono ?_
            rintro e wn ⟨rfl, kn⟩
            have HS := hS7.out _ (kd.out.trans kn)
            have kn' : Hid (Keeps [] wk wn) := Lib.hid (kd.out.trans kn)
            rw [hbf.out]
            refine hK _ _ (Or.inr HS) ?_
            clear hK K kn kd
            try simp only [Act.put, List.getElem_toArray, List.getElem_cons_succ, List.getElem_cons_zero, List.setIfInBounds_toArray, List.set_cons_zero, List.set_cons_succ]
            refine wpAnyI_one (i := 11) rfl (by kernel_rfl) (fun K hK => ?_)
            dsimp only [List.getElem_toArray, List.getElem_cons_succ, List.getElem_cons_zero]
            go_simp
            refine hK _ _ (Or.inr HS) ?_
            clear hK K
            try simp only [Act.put, List.getElem_toArray, List.getElem_cons_succ, List.getElem_cons_zero, List.setIfInBounds_toArray, List.set_cons_zero, List.set_cons_succ]
            refine wpAnyI_done (by kernel_rfl) ?_ _
            go_wp2_with fail
            go_roundw
            case rel => exact ⟨k + 1, by omega, by go_num, hmore, Lib.hid (hkw.out.trans kn'.out)⟩
            case measure => simp [intOf]; omega
          · have hbf : Hid (befR ⟨pt, pi, pO, pno, pco, pN, pnn, pcn⟩ ⟨t, id, Ao, no, co, An, nn, cn⟩ = false) := Lib.hid (hbe.trans (decide_eq_false hbt))
            have hsp := Lib.hid (spot_is ch _ k pc hlt'.out hpc.out hbt)
            replace hp := Lib.hid hp
            replace hbe := Lib.hid hbe
            replace hbt := Lib.hid hbt
            replace hpr := Lib.hid hpr
            go_wp2_with fail
            refine wp_region_I (S := (fun w' : World => (w'.cell? ⟨g5, 0, none⟩ = some (.int .i64 t) ∧ w'.cell? ⟨g5, 1, none⟩ = some (.int .i64 id) ∧ w'.cell? ⟨g5, 2, none⟩ = some (.slice Ao no co) ∧ w'.cell? ⟨g5, 3, none⟩ = some (.slice An nn cn)) ∧ (w'.cell? ⟨ga, k * 4, none⟩ = some (.int .i64 pt) ∧ w'.cell? ⟨ga, k * 4 + 1, none⟩ = some (.int .i64 pi) ∧ w'.cell? ⟨ga, k * 4 + 2, none⟩ = some (.slice pO pno pco) ∧ w'.cell? ⟨ga, k * 4 + 3, none⟩ = some (.slice pN pnn pcn)))) (n := 12) (by kernel_rfl) ?_
            have HS := hS7.out wk.drew (Keeps.refl [] wk).drew
            have kd : Hid (Keeps [] wk wk.drew) := Lib.hid (Keeps.refl [] wk).drew
            generalize wk.drew = wc at *
            refine wpAnyI_takeN (i := 0) (v := ?_) (by kernel_rfl) rfl (by kernel_rfl) (by kernel_rfl) (by kernel_rfl) (fun _ _ _ h => h) HS (Or.inl ⟨by rfl, ?_⟩) ?_
            rotate_left
            · (intro w hSw; obtain ⟨⟨y1, y2, y3, y4⟩, ⟨x1, x2, x3, x4⟩⟩ := hSw; go_simp; try with_reducible rfl)
            try simp only [Act.put, List.getElem_toArray, List.getElem_cons_succ, List.getElem_cons_zero, List.setIfInBounds_toArray, List.set_cons_zero, List.set_cons_succ]
            refine wpAnyI_takeN (i := 1) (v := ?_) (by kernel_rfl) rfl (by kernel_rfl) (by kernel_rfl) (by kernel_rfl) (fun _ _ _ h => h) HS (Or.inl ⟨by rfl, ?_⟩) ?_
            rotate_left
            · (intro w hSw; obtain ⟨⟨y1, y2, y3, y4⟩, ⟨x1, x2, x3, x4⟩⟩ := hSw; go_simp; try with_reducible rfl)
            try simp only [Act.put, List.getElem_toArray, List.getElem_cons_succ, List.getElem_cons_zero, List.setIfInBounds_toArray, List.set_cons_zero, List.set_cons_succ]
            refine wpAnyI_takeN (i := 2) (v := ?_) (by kernel_rfl) rfl (by kernel_rfl) (by kernel_rfl) (by kernel_rfl) (fun _ _ _ h => h) HS (Or.inl ⟨by rfl, ?_⟩) ?_
            rotate_left
            · (intro w hSw; obtain ⟨⟨y1, y2, y3, y4⟩, ⟨x1, x2, x3, x4⟩⟩ := hSw; go_simp; try with_reducible rfl)
            try simp only [Act.put, List.getElem_toArray, List.getElem_cons_succ, List.getElem_cons_zero, List.setIfInBounds_toArray, List.set_cons_zero, List.set_cons_succ]
            refine wpAnyI_takeN (i := 3) (v := ?_) (by kernel_rfl) rfl (by kernel_rfl) (by kernel_rfl) (by kernel_rfl) (fun _ _ _ h => h) HS (Or.inl ⟨by rfl, ?_⟩) ?_
            rotate_left
            · (intro w hSw; obtain ⟨⟨y1, y2, y3, y4⟩, ⟨x1, x2, x3, x4⟩⟩ := hSw; go_simp; try with_reducible rfl)
            try simp only [Act.put, List.getElem_toArray, List.getElem_cons_succ, List.getElem_cons_zero, List.setIfInBounds_toArray, List.set_cons_zero, List.set_cons_succ]
            refine wpAnyI_takeN (i := 4) (v := ?_) (by kernel_rfl) rfl (by kernel_rfl) (by kernel_rfl) (by kernel_rfl) (fun _ _ _ h => h) HS (Or.inl ⟨by rfl, ?_⟩) ?_
            rotate_left
            · (intro w hSw; obtain ⟨⟨y1, y2, y3, y4⟩, ⟨x1, x2, x3, x4⟩⟩ := hSw; go_simp; try with_reducible rfl)
            try simp only [Act.put, List.getElem_toArray, List.getElem_cons_succ, List.getElem_cons_zero, List.setIfInBounds_toArray, List.set_cons_zero, List.set_cons_succ]
            refine wpAnyI_takeN (i := 5) (v := ?_) (by kernel_rfl) rfl (by kernel_rfl) (by kernel_rfl) (by kernel_rfl) (fun _ _ _ h => h) HS (Or.inl ⟨by rfl, ?_⟩) ?_
            rotate_left
            · (intro w hSw; obtain ⟨⟨y1, y2, y3, y4⟩, ⟨x1, x2, x3, x4⟩⟩ := hSw; go_simp; try with_reducible rfl)
            try simp only [Act.put, List.getElem_toArray, List.getElem_cons_succ, List.getElem_cons_zero, List.setIfInBounds_toArray, List.set_cons_zero, List.set_cons_succ]
            refine wpAnyI_takeN (i := 6) (v := ?_) (by kernel_rfl) rfl (by kernel_rfl) (by kernel_rfl) (by kernel_rfl) (fun _ _ _ h => h) HS (Or.inl ⟨by rfl, ?_⟩) ?_
            rotate_left
            · (intro w hSw; obtain ⟨⟨y1, y2, y3, y4⟩, ⟨x1, x2, x3, x4⟩⟩ := hSw; go_simp; try with_reducible rfl)
            try simp only [Act.put, List.getElem_toArray, List.getElem_cons_succ, List.getElem_cons_zero, List.setIfInBounds_toArray, List.set_cons_zero, List.set_cons_succ]
            refine wpAnyI_takeN (i := 7) (v := ?_) (by kernel_rfl) rfl (by kernel_rfl) (by kernel_rfl) (by kernel_rfl) (fun _ _ _ h => h) HS (Or.inl ⟨by rfl, ?_⟩) ?_
            rotate_left
            · (intro w hSw; obtain ⟨⟨y1, y2, y3, y4⟩, ⟨x1, x2, x3, x4⟩⟩ := hSw; go_simp; try with_reducible rfl)
            try simp only [Act.put, List.getElem_toArray, List.getElem_cons_succ, List.getElem_cons_zero, List.setIfInBounds_toArray, List.set_cons_zero, List.set_cons_succ]
            refine wpAnyI_takeN (i := 8) (v := ?_) (by kernel_rfl) rfl (by kernel_rfl) (by kernel_rfl) (by kernel_rfl) (fun _ _ _ h => h) HS (Or.inl ⟨by rfl, ?_⟩) ?_
            rotate_left
            · (intro w hSw; obtain ⟨⟨y1, y2, y3, y4⟩, ⟨x1, x2, x3, x4⟩⟩ := hSw; go_simp; try with_reducible rfl)
            try simp only [Act.put, List.getElem_toArray, List.getElem_cons_succ, List.getElem_cons_zero, List.setIfInBounds_toArray, List.set_cons_zero, List.set_cons_succ]
            refine wpAnyI_takeN (i := 9) (v := ?_) (by kernel_rfl) rfl (by kernel_rfl) (by kernel_rfl) (by kernel_rfl) (fun _ _ _ h => h) HS (Or.inl ⟨by rfl, ?_⟩) ?_
            rotate_left
            · (intro w hSw; obtain ⟨⟨y1, y2, y3, y4⟩, ⟨x1, x2, x3, x4⟩⟩ := hSw; go_simp; try with_reducible rfl)
            try simp only [Act.put, List.getElem_toArray, List.getElem_cons_succ, List.getElem_cons_zero, List.setIfInBounds_toArray, List.set_cons_zero, List.set_cons_succ]
            refine wpAnyI_one (i := 10) rfl (by kernel_rfl) (fun K hK => ?_)
            dsimp only [List.getElem_toArray, List.getElem_cons_succ, List.getElem_cons_zero]
            go_simp
            refine (before_any wc ⟨pt, pi, pO, pno, pco, pN, pnn, pcn⟩ ⟨t, id, Ao, no, co, An, nn, cn⟩).mono ?_
            rintro e wn ⟨rfl, kn⟩
            have HS := hS7.out _ (kd.out.trans kn)
            have kn' : Hid (Keeps [] wk wn) := Lib.hid (kd.out.trans kn)
            rw [hbf.out]
            refine hK _ _ (Or.inr HS) ?_
            clear hK K kn kd
            try simp only [Act.put, List.getElem_toArray, List.getElem_cons_succ, List.getElem_cons_zero, List.setIfInBounds_toArray, List.set_cons_zero, List.set_cons_succ]
            refine wpAnyI_one (i := 11) rfl (by kernel_rfl) (fun K hK => ?_)
            dsimp only [List.getElem_toArray, List.getElem_cons_succ, List.getElem_cons_zero]
            go_simp
            refine hK _ _ (Or.inr HS) ?_
            clear hK K
            try simp only [Act.put, List.getElem_toArray, List.getElem_cons_succ, List.getElem_cons_zero, List.setIfInBounds_toArray, List.set_cons_zero, List.set_cons_succ]
            refine wpAnyI_done (by kernel_rfl) ?_ _
            go_wp2_with fail
            obtain ⟨⟨y0, y1, y2, y3⟩, ⟨x0, x1, x2, x3⟩⟩ := HS
            have HRN : Hid (∀ q, RN w X (.slice (some ⟨ga, 0, none⟩) m c3) P (wn.drewN q)) := Lib.hid (fun q => hNk.out.step (kn'.out.drewN q))
            have B5n : Hid (∀ q, Blk (wn.drewN q) g5 35 #[.int .i64 t, .int .i64 id, .slice Ao no co, .slice An nn cn]) := Lib.hid (fun q => (B5k.out.keep (kn'.out.drewN q) (by simp)))
            have hck : ¬ c3 = k := by omega
            have hkc : (k : Int) ≤ (c3 : Int) := by omega
            have hhit : Hid (hits ch pc = (decide (pt = t) && decide (pi = id))) := Lib.hid (by
              unfold hits
              have h1 := hpr.out.t
              have h2 := hpr.out.id
              have h3 := hraw.out.t
              have h4 := hraw.out.id
              dsimp only at h1 h2 h3 h4
              rw [← h1, ← h2, ← h3, ← h4])
            have hno : Hid (hits ch pc = false → (P.take k ++ ((⟨t, id, Ao, no, co, An, nn, cn⟩, ch) : PQ) :: P.drop k).map (·.2) = putR (netA (L.take i)) ch) := Lib.hid (fun hf => by
              rw [← hPA.out, putR_new hsp.out (fun b hb => by rw [hpc.out] at hb; cases hb; exact hf)]
              simp)
            have hold : Hid (hits ch pc = true → (P.set k (⟨pt, pi, pO, pno, pco, An, nn, cn⟩, { pc with new := ch.new })).map (·.2) = putR (netA (L.take i)) ch) := Lib.hid (fun hf => by
              rw [← hPA.out, putR_old hsp.out hpc.out hf, List.map_set])
            by_cases e1 : pt = t
            · have b1 : (pt == t) = true := by simpa using e1
              by_cases e2 : pi = id
              · have b2 : (pi == id) = true := by simpa using e2
                have hmap := Lib.hid (hold.out (by rw [hhit.out, decide_eq_true e1, decide_eq_true e2]; rfl))
                clear hno hold
                obtain rfl := e1.symm
                obtain rfl := e2.symm
                have hput : Hid (∀ q, RN w X (.slice (some ⟨ga, 0, none⟩) m c3) (P.set k (⟨t, id, pO, pno, pco, An, nn, cn⟩, { pc with new := ch.new })) ((wn.drewN q).setCell ⟨ga, k * 4 + 3, none⟩ (.slice An nn cn))) := Lib.hid (fun q => (HRN.out q).put (r := ⟨t, id, Ao, no, co, An, nn, cn⟩) hp.out hraw.out hm.out.symm)
                have hfz : Hid (∀ q, (wn.drewN q).frozen? ⟨ga, k * 4 + 3, none⟩ = false) := Lib.hid (fun q => by
                  obtain ⟨_, cur, hb⟩ := own_blk (HRN.out q).own (g := ga) rfl
                  exact hb.frozen _)
                clear hS7
                go_quiet (fail)
                have fz := hfz.out nq
                go_wp2_with fail
                replace hput := Lib.hid (hput.out nq)
                generalize (wn.drewN nq).setCell ⟨ga, k * 4 + 3, none⟩ (.slice An nn cn) = wz at *
                go_roundw
                case rel => exact ⟨i + 1, _, by omega, by go_num, Lib.hid (hmap.out.trans hnx.out.symm), hput⟩
                case measure => simp [intOf]; omega
              · have b2 : (pi == id) = false := by simpa using e2
                have hins := Lib.hid (hno.out (by rw [hhit.out, decide_eq_false e2]; simp))
                clear hno hold
                obtain rfl := e1.symm
                replace e2 := Lib.hid e2
                go_quiet (fail)
                have hNz := Lib.hid (HRN.out nq)
                have B5z := Lib.hid (B5n.out nq)
                clear y0 y1 y2 y3 x0 x1 x2 x3
                generalize wn.drewN nq = wz at *
                have ownz : Hid (wz.ownsRow wz.heap.size 35 4 (.slice none 0 0) 0 []) := Lib.hid ⟨rfl, .inl ⟨rfl, rfl⟩⟩
                have hfk : Hid ((rows (P.take k)).length = k * 4) := Lib.hid (by rw [rows_len, List.length_take]; have := hm.out; omega)
                have hsk : Hid (SrcAt wz (some ⟨ga, 0, none⟩) k (rows (P.take k))) := Lib.hid (src_own (by have := hNz.out.own; rw [← hm.out] at this; exact this) hm.out.symm k (by omega))
                have hfd : Hid ((rows (P.drop k)).length = (m - k) * 4) := Lib.hid (by rw [rows_len, List.length_drop]; have := hm.out; omega)
                have H4 : Hid (∀ w4, Hid (wz.grownBy w4 (Value.slice none 0 0).ownBlock) → Hid (Keeps [] wz w4)) := Lib.hid (fun w4 q => Lib.hid (Keeps.grown (X := []) q.out (by simp [Value.ownBlock])))
                have HB5 : Hid (∀ w4, Hid (Keeps [] wz w4) → (∀ j, w4.cell? ⟨g5, j, none⟩ = (#[.int .i64 t, .int .i64 id, .slice Ao no co, .slice An nn cn] : Array Value)[j]?)) := Lib.hid (fun w4 k => (B5z.out.keep k.out (by simp)).cell)
                have H5 : Hid (∀ (w4 : World) (v4 : Value), Hid (w4.ownsRow wz.heap.size 35 4 v4 (0 + k) ([] ++ rows (P.take k))) → Hid (Keeps [] wz w4) → Hid ((w4.alloc (.cells #[.int .i64 t, .int .i64 id, .slice Ao no co, .slice An nn cn] 35)).ownsRow wz.heap.size 35 4 v4 k (rows (P.take k))) ∧ Hid (SrcAt (w4.alloc (.cells #[.int .i64 t, .int .i64 id, .slice Ao no co, .slice An nn cn] 35)) (some ⟨w4.heap.size, 0, none⟩) 1 [.int .i64 t, .int .i64 id, .slice Ao no co, .slice An nn cn]) ∧ Hid (wz.heap.size ≤ (w4.alloc (.cells #[.int .i64 t, .int .i64 id, .slice Ao no co, .slice An nn cn] 35)).heap.size) ∧ Hid (Keeps [] wz (w4.alloc (.cells #[.int .i64 t, .int .i64 id, .slice Ao no co, .slice An nn cn] 35)))) := Lib.hid (fun w4 v4 q k => by
                  have ka : Keeps [] w4 (w4.alloc (.cells #[.int .i64 t, .int .i64 id, .slice Ao no co, .slice An nn cn] 35)) := (Keeps.refl [] w4).alloc _
                  exact ⟨Lib.hid (own_keep0 (own_zero q (Lib.hid rfl)).out ka), Lib.hid (src_raw (r := ⟨t, id, Ao, no, co, An, nn, cn⟩) (Blk.new w4 35 _)), Lib.hid (k.out.trans ka).size, Lib.hid (k.out.trans ka)⟩)
                have H6 : Hid (∀ (w5 w6 : World) (v4 v6 : Value), Hid (Keeps [] wz w5) → Hid (w5.ownsRow wz.heap.size 35 4 v4 k (rows (P.take k))) → Hid (w5.grownBy w6 v4.ownBlock) → Hid (Keeps [] wz w6)) := Lib.hid (fun w5 w6 v4 v6 k5 o5 q => Lib.hid (keeps_append k5.out (Keeps.refl [] _) o5.out q.out))
                have Hs6 : Hid (∀ (w6 : World) (AX : Option Addr), Hid (Keeps [] wz w6) → (k < m → AX = some ⟨ga, k * 4, none⟩) → Hid (SrcAt w6 AX (m - k) (rows (P.drop k)))) := Lib.hid (fun w6 AX k6 hAX => Lib.hid (src_own_drop (own_keep0 (by have := hNz.out.own; rw [← hm.out] at this; exact this) k6.out) hm.out.symm k (by omega) AX hAX))
                have H9 : Hid (∀ (w6 w9 : World) (v6 v9 : Value), Hid (Keeps [] wz w6) → Hid (w6.ownsRow wz.heap.size 35 4 v6 (k + 1) (rows (P.take k) ++ [.int .i64 t, .int .i64 id, .slice Ao no co, .slice An nn cn])) → Hid (w6.grownBy w9 v6.ownBlock) → Hid (w9.ownsRow wz.heap.size 35 4 v9 (k + 1 + (m - k)) ((rows (P.take k) ++ [.int .i64 t, .int .i64 id, .slice Ao no co, .slice An nn cn]) ++ rows (P.drop k))) → Hid (RN w X v9 (P.take k ++ ((⟨t, id, Ao, no, co, An, nn, cn⟩, ch) : PQ) :: P.drop k) w9)) := Lib.hid (fun w6 w9 v6 v9 k6 o6 q o9 => Lib.hid (RN.ins (q := k + 1 + (m - k)) (p := ((⟨t, id, Ao, no, co, An, nn, cn⟩, ch) : PQ)) hNz.out hraw.out (own_keeps6 k6 o6 q).out (by have := hm.out; omega) (by have := hm.out; exact ⟨by omega, o9.out⟩)))
                clear hS7
                go_wp2_with (first
                  | (at_builtin; refine wpList_append_row (by rfl) (.tmp 70) (.tmp 73) 28 rfl wz.heap.size 35 i5 (.agg #[.int .i64 0, .int .i64 0, .slice none 0 0, .slice none 0 0]) 4 64 Try.underlying28 hi5.out hy0.out hy1.out hy2.out rfl (by decide) (.slice none 0 0) 0 [] rfl ownz.out (some ⟨ga, 0, none⟩) k c3 (rows (P.take k)) rfl hfk.out hsk.out (rows_one _) (by unfold maxLen; omega) (by omega) (Nat.le_refl _) ?_; intro v4 w4 q1 q2 q3 q4; have k4 := H4.out w4 q2; have b0 := HB5.out w4 k4 0; have b1 := HB5.out w4 k4 1; have b2 := HB5.out w4 k4 2; have b3 := HB5.out w4 k4 3; obtain ⟨o5, sn5, hb5, k5⟩ := H5.out w4 v4 q1 k4; clear q1 q2 q3 q4)
                  | (at_builtin; refine wpList_append_row (by rfl) (.tmp 75) (.tmp 77) 28 rfl wz.heap.size 35 i5 (.agg #[.int .i64 0, .int .i64 0, .slice none 0 0, .slice none 0 0]) 4 64 Try.underlying28 hi5.out hy0.out hy1.out hy2.out rfl (by decide) v4 k (rows (P.take k)) rfl o5.out (some ⟨w4.heap.size, 0, none⟩) 1 1 [.int .i64 t, .int .i64 id, .slice Ao no co, .slice An nn cn] rfl rfl sn5.out (by simp [Value.oneCell']) (by unfold maxLen; omega) (by omega) hb5.out ?_; intro v6 w6 o6 q2 q3 q4; have k6 := H6.out _ w6 v4 v6 k5 o5 q2; clear b0 b1 b2 b3; clear q2 q3 q4)
                  | (at_builtin; refine wpList_append_row (by rfl) (.tmp 79) (.tmp 82) 28 rfl wz.heap.size 35 i5 (.agg #[.int .i64 0, .int .i64 0, .slice none 0 0, .slice none 0 0]) 4 64 Try.underlying28 hi5.out hy0.out hy1.out hy2.out rfl (by decide) v6 (k + 1) (rows (P.take k) ++ [.int .i64 t, .int .i64 id, .slice Ao no co, .slice An nn cn]) rfl o6.out (some ⟨ga, k * 4, none⟩) (m - k) (c3 - k) (rows (P.drop k)) rfl hfd.out (Hs6.out w6 _ k6 (fun _ => rfl)).out (rows_one _) (by unfold maxLen; omega) (by omega) k6.out.size ?_; intro v9 w9 o9 q2 q3 q4; have hN9 := H9.out w6 w9 v6 v9 k6 o6 q2 o9; clear o9 q2 q3 q4))
                go_roundw
                case rel => exact ⟨i + 1, _, by omega, by go_num, Lib.hid (hins.out.trans hnx.out.symm), hN9⟩
                case measure => simp [intOf]; omega
            · have b1 : (pt == t) = false := by simpa using e1
              have hins := Lib.hid (hno.out (by rw [hhit.out, decide_eq_false e1]; rfl))
              clear hno hold
              replace e1 := Lib.hid e1
              go_quiet (fail)
              have hNz := Lib.hid (HRN.out nq)
              have B5z := Lib.hid (B5n.out nq)
              clear y0 y1 y2 y3 x0 x1 x2 x3
              generalize wn.drewN nq = wz at *
              have ownz : Hid (wz.ownsRow wz.heap.size 35 4 (.slice none 0 0) 0 []) := Lib.hid ⟨rfl, .inl ⟨rfl, rfl⟩⟩
              have hfk : Hid ((rows (P.take k)).length = k * 4) := Lib.hid (by rw [rows_len, List.length_take]; have := hm.out; omega)
              have hsk : Hid (SrcAt wz (some ⟨ga, 0, none⟩) k (rows (P.take k))) := Lib.hid (src_own (by have := hNz.out.own; rw [← hm.out] at this; exact this) hm.out.symm k (by omega))
              have hfd : Hid ((rows (P.drop k)).length = (m - k) * 4) := Lib.hid (by rw [rows_len, List.length_drop]; have := hm.out; omega)
              have H4 : Hid (∀ w4, Hid (wz.grownBy w4 (Value.slice none 0 0).ownBlock) → Hid (Keeps [] wz w4)) := Lib.hid (fun w4 q => Lib.hid (Keeps.grown (X := []) q.out (by simp [Value.ownBlock])))
              have HB5 : Hid (∀ w4, Hid (Keeps [] wz w4) → (∀ j, w4.cell? ⟨g5, j, none⟩ = (#[.int .i64 t, .int .i64 id, .slice Ao no co, .slice An nn cn] : Array Value)[j]?)) := Lib.hid (fun w4 k => (B5z.out.keep k.out (by simp)).cell)
              have H5 : Hid (∀ (w4 : World) (v4 : Value), Hid (w4.ownsRow wz.heap.size 35 4 v4 (0 + k) ([] ++ rows (P.take k))) → Hid (Keeps [] wz w4) → Hid ((w4.alloc (.cells #[.int .i64 t, .int .i64 id, .slice Ao no co, .slice An nn cn] 35)).ownsRow wz.heap.size 35 4 v4 k (rows (P.take k))) ∧ Hid (SrcAt (w4.alloc (.cells #[.int .i64 t, .int .i64 id, .slice Ao no co, .slice An nn cn] 35)) (some ⟨w4.heap.size, 0, none⟩) 1 [.int .i64 t, .int .i64 id, .slice Ao no co, .slice An nn cn]) ∧ Hid (wz.heap.size ≤ (w4.alloc (.cells #[.int .i64 t, .int .i64 id, .slice Ao no co, .slice An nn cn] 35)).heap.size) ∧ Hid (Keeps [] wz (w4.alloc (.cells #[.int .i64 t, .int .i64 id, .slice Ao no co, .slice An nn cn] 35)))) := Lib.hid (fun w4 v4 q k => by
                have ka : Keeps [] w4 (w4.alloc (.cells #[.int .i64 t, .int .i64 id, .slice Ao no co, .slice An nn cn] 35)) := (Keeps.refl [] w4).alloc _
                exact ⟨Lib.hid (own_keep0 (own_zero q (Lib.hid rfl)).out ka), Lib.hid (src_raw (r := ⟨t, id, Ao, no, co, An, nn, cn⟩) (Blk.new w4 35 _)), Lib.hid (k.out.trans ka).size, Lib.hid (k.out.trans ka)⟩)
              have H6 : Hid (∀ (w5 w6 : World) (v4 v6 : Value), Hid (Keeps [] wz w5) → Hid (w5.ownsRow wz.heap.size 35 4 v4 k (rows (P.take k))) → Hid (w5.grownBy w6 v4.ownBlock) → Hid (Keeps [] wz w6)) := Lib.hid (fun w5 w6 v4 v6 k5 o5 q => Lib.hid (keeps_append k5.out (Keeps.refl [] _) o5.out q.out))
              have Hs6 : Hid (∀ (w6 : World) (AX : Option Addr), Hid (Keeps [] wz w6) → (k < m → AX = some ⟨ga, k * 4, none⟩) → Hid (SrcAt w6 AX (m - k) (rows (P.drop k)))) := Lib.hid (fun w6 AX k6 hAX => Lib.hid (src_own_drop (own_keep0 (by have := hNz.out.own; rw [← hm.out] at this; exact this) k6.out) hm.out.symm k (by omega) AX hAX))
              have H9 : Hid (∀ (w6 w9 : World) (v6 v9 : Value), Hid (Keeps [] wz w6) → Hid (w6.ownsRow wz.heap.size 35 4 v6 (k + 1) (rows (P.take k) ++ [.int .i64 t, .int .i64 id, .slice Ao no co, .slice An nn cn])) → Hid (w6.grownBy w9 v6.ownBlock) → Hid (w9.ownsRow wz.heap.size 35 4 v9 (k + 1 + (m - k)) ((rows (P.take k) ++ [.int .i64 t, .int .i64 id, .slice Ao no co, .slice An nn cn]) ++ rows (P.drop k))) → Hid (RN w X v9 (P.take k ++ ((⟨t, id, Ao, no, co, An, nn, cn⟩, ch) : PQ) :: P.drop k) w9)) := Lib.hid (fun w6 w9 v6 v9 k6 o6 q o9 => Lib.hid (RN.ins (q := k + 1 + (m - k)) (p := ((⟨t, id, Ao, no, co, An, nn, cn⟩, ch) : PQ)) hNz.out hraw.out (own_keeps6 k6 o6 q).out (by have := hm.out; omega) (by have := hm.out; exact ⟨by omega, o9.out⟩)))
              clear hS7
              go_wp2_with (first
                | (at_builtin; refine wpList_append_row (by rfl) (.tmp 70) (.tmp 73) 28 rfl wz.heap.size 35 i5 (.agg #[.int .i64 0, .int .i64 0, .slice none 0 0, .slice none 0 0]) 4 64 Try.underlying28 hi5.out hy0.out hy1.out hy2.out rfl (by decide) (.slice none 0 0) 0 [] rfl ownz.out (some ⟨ga, 0, none⟩) k c3 (rows (P.take k)) rfl hfk.out hsk.out (rows_one _) (by unfold maxLen; omega) (by omega) (Nat.le_refl _) ?_; intro v4 w4 q1 q2 q3 q4; have k4 := H4.out w4 q2; have b0 := HB5.out w4 k4 0; have b1 := HB5.out w4 k4 1; have b2 := HB5.out w4 k4 2; have b3 := HB5.out w4 k4 3; obtain ⟨o5, sn5, hb5, k5⟩ := H5.out w4 v4 q1 k4; clear q1 q2 q3 q4)
                | (at_builtin; refine wpList_append_row (by rfl) (.tmp 75) (.tmp 77) 28 rfl wz.heap.size 35 i5 (.agg #[.int .i64 0, .int .i64 0, .slice none 0 0, .slice none 0 0]) 4 64 Try.underlying28 hi5.out hy0.out hy1.out hy2.out rfl (by decide) v4 k (rows (P.take k)) rfl o5.out (some ⟨w4.heap.size, 0, none⟩) 1 1 [.int .i64 t, .int .i64 id, .slice Ao no co, .slice An nn cn] rfl rfl sn5.out (by simp [Value.oneCell']) (by unfold maxLen; omega) (by omega) hb5.out ?_; intro v6 w6 o6 q2 q3 q4; have k6 := H6.out _ w6 v4 v6 k5 o5 q2; clear b0 b1 b2 b3; clear q2 q3 q4)
                | (at_builtin; refine wpList_append_row (by rfl) (.tmp 79) (.tmp 82) 28 rfl wz.heap.size 35 i5 (.agg #[.int .i64 0, .int .i64 0, .slice none 0 0, .slice none 0 0]) 4 64 Try.underlying28 hi5.out hy0.out hy1.out hy2.out rfl (by decide) v6 (k + 1) (rows (P.take k) ++ [.int .i64 t, .int .i64 id, .slice Ao no co, .slice An nn cn]) rfl o6.out (some ⟨ga, k * 4, none⟩) (m - k) (c3 - k) (rows (P.drop k)) rfl hfd.out (Hs6.out w6 _ k6 (fun _ => rfl)).out (rows_one _) (by unfold maxLen; omega) (by omega) k6.out.size ?_; intro v9 w9 o9 q2 q3 q4; have hN9 := H9.out w6 w9 v6 v9 k6 o6 q2 o9; clear o9 q2 q3 q4))
              go_roundw
              case rel => exact ⟨i + 1, _, by omega, by go_num, Lib.hid (hins.out.trans hnx.out.symm), hN9⟩
              case measure => simp [intOf]; omega
        · obtain rfl : k = m := by omega
          have hkf : ¬ (k : Int) < (k : Int) := by omega
          have hPl : Hid ((P.map (·.2)).take k = P.map (·.2)) := Lib.hid (List.take_of_length_le (by rw [List.length_map, ← hm.out]; exact Nat.le_refl _))
          have hsp : Hid (spot ch (P.map (·.2)) = k) := Lib.hid (by rw [spot_all ch _ (fun x hx => hlt'.out x (by rw [hPl.out]; exact hx)), List.length_map, hm.out])
          have hins : Hid ((P.take k ++ ((⟨t, id, Ao, no, co, An, nn, cn⟩, ch) : PQ) :: P.drop k).map (·.2) = putR (netA (L.take i)) ch) := Lib.hid (by
            rw [← hPA.out, putR_new hsp.out (fun b hb => by
              have := (List.getElem?_eq_some_iff.1 hb).1
              rw [List.length_map, ← hm.out] at this
              omega)]
            simp)
          have hdr : Hid (P.drop k = []) := Lib.hid (List.drop_eq_nil_of_le (by rw [hm.out]; exact Nat.le_refl _))
          have HRN : Hid (∀ q, RN w X (.slice A3 k c3) P (wk.drewN q)) := Lib.hid (fun q => hNk.out.step (Keeps.drewN (Keeps.refl [] wk) q))
          have B5n : Hid (∀ q, Blk (wk.drewN q) g5 35 #[.int .i64 t, .int .i64 id, .slice Ao no co, .slice An nn cn]) := Lib.hid (fun q => (B5k.out.keep (Keeps.drewN (Keeps.refl [] wk) q) (by simp)))
          have hS7 := hm
          rcases hA3 with ⟨rfl, rfl, rfl⟩ | ⟨ga, rfl⟩
          · go_wp2_with fail
            go_quiet (fail)
            replace HRN := Lib.hid (fun q => (HRN.out nq).step (Keeps.drewN (Keeps.refl [] _) q))
            replace B5n := Lib.hid (fun q => (B5n.out nq).keep (Keeps.drewN (Keeps.refl [] _) q) (by simp))
            generalize wk.drewN nq = wy at *
            go_wp2_with fail
            go_quiet (fail)
            have hNz := Lib.hid (HRN.out nq)
            have B5z := Lib.hid (B5n.out nq)
            generalize wy.drewN nq = wz at *
            have ownz : Hid (wz.ownsRow wz.heap.size 35 4 (.slice none 0 0) 0 []) := Lib.hid ⟨rfl, .inl ⟨rfl, rfl⟩⟩
            have hfk : Hid ((rows (P.take 0)).length = 0 * 4) := Lib.hid (by rw [rows_len, List.length_take]; have := hm.out; omega)
            have hsk : Hid (SrcAt wz none 0 (rows (P.take 0))) := Lib.hid (.inl rfl)
            have hfd : Hid ((rows ([] : List PQ)).length = 0 * 4) := Lib.hid (rfl)
            have H4 : Hid (∀ w4, Hid (wz.grownBy w4 (Value.slice none 0 0).ownBlock) → Hid (Keeps [] wz w4)) := Lib.hid (fun w4 q => Lib.hid (Keeps.grown (X := []) q.out (by simp [Value.ownBlock])))
            have HB5 : Hid (∀ w4, Hid (Keeps [] wz w4) → (∀ j, w4.cell? ⟨g5, j, none⟩ = (#[.int .i64 t, .int .i64 id, .slice Ao no co, .slice An nn cn] : Array Value)[j]?)) := Lib.hid (fun w4 k => (B5z.out.keep k.out (by simp)).cell)
            have H5 : Hid (∀ (w4 : World) (v4 : Value), Hid (w4.ownsRow wz.heap.size 35 4 v4 (0 + 0) ([] ++ rows (P.take 0))) → Hid (Keeps [] wz w4) → Hid ((w4.alloc (.cells #[.int .i64 t, .int .i64 id, .slice Ao no co, .slice An nn cn] 35)).ownsRow wz.heap.size 35 4 v4 0 (rows (P.take 0))) ∧ Hid (SrcAt (w4.alloc (.cells #[.int .i64 t, .int .i64 id, .slice Ao no co, .slice An nn cn] 35)) (some ⟨w4.heap.size, 0, none⟩) 1 [.int .i64 t, .int .i64 id, .slice Ao no co, .slice An nn cn]) ∧ Hid (wz.heap.size ≤ (w4.alloc (.cells #[.int .i64 t, .int .i64 id, .slice Ao no co, .slice An nn cn] 35)).heap.size) ∧ Hid (Keeps [] wz (w4.alloc (.cells #[.int .i64 t, .int .i64 id, .slice Ao no co, .slice An nn cn] 35)))) := Lib.hid (fun w4 v4 q k => by
              have ka : Keeps [] w4 (w4.alloc (.cells #[.int .i64 t, .int .i64 id, .slice Ao no co, .slice An nn cn] 35)) := (Keeps.refl [] w4).alloc _
              exact ⟨Lib.hid (own_keep0 (own_zero q (Lib.hid rfl)).out ka), Lib.hid (src_raw (r := ⟨t, id, Ao, no, co, An, nn, cn⟩) (Blk.new w4 35 _)), Lib.hid (k.out.trans ka).size, Lib.hid (k.out.trans ka)⟩)
            have H6 : Hid (∀ (w5 w6 : World) (v4 v6 : Value), Hid (Keeps [] wz w5) → Hid (w5.ownsRow wz.heap.size 35 4 v4 0 (rows (P.take 0))) → Hid (w5.grownBy w6 v4.ownBlock) → Hid (Keeps [] wz w6)) := Lib.hid (fun w5 w6 v4 v6 k5 o5 q => Lib.hid (keeps_append k5.out (Keeps.refl [] _) o5.out q.out))
            have Hs6 : Hid (∀ (w6 : World) (AX : Option Addr), Hid (Keeps [] wz w6) → (True) → Hid (SrcAt w6 AX 0 (rows ([] : List PQ)))) := Lib.hid (fun w6 AX k6 _ => Lib.hid (.inl rfl))
            have H9 : Hid (∀ (w6 w9 : World) (v6 v9 : Value), Hid (Keeps [] wz w6) → Hid (w6.ownsRow wz.heap.size 35 4 v6 (0 + 1) (rows (P.take 0) ++ [.int .i64 t, .int .i64 id, .slice Ao no co, .slice An nn cn])) → Hid (w6.grownBy w9 v6.ownBlock) → Hid (w9.ownsRow wz.heap.size 35 4 v9 (0 + 1 + 0) ((rows (P.take 0) ++ [.int .i64 t, .int .i64 id, .slice Ao no co, .slice An nn cn]) ++ rows ([] : List PQ))) → Hid (RN w X v9 (P.take 0 ++ ((⟨t, id, Ao, no, co, An, nn, cn⟩, ch) : PQ) :: P.drop 0) w9)) := Lib.hid (fun w6 w9 v6 v9 k6 o6 q o9 => Lib.hid (RN.ins (q := 0 + 1 + 0) (p := ((⟨t, id, Ao, no, co, An, nn, cn⟩, ch) : PQ)) hNz.out hraw.out (own_keeps6 k6 o6 q).out (by have := hm.out; omega) (by have := hm.out; refine ⟨by omega, ?_⟩; rw [hdr.out]; exact o9.out)))
            clear hS7
            go_wp2_with (first
              | (at_builtin; refine wpList_append_row (by rfl) (.tmp 70) (.tmp 73) 28 rfl wz.heap.size 35 i5 (.agg #[.int .i64 0, .int .i64 0, .slice none 0 0, .slice none 0 0]) 4 64 Try.underlying28 hi5.out hy0.out hy1.out hy2.out rfl (by decide) (.slice none 0 0) 0 [] rfl ownz.out none 0 0 (rows (P.take 0)) rfl hfk.out hsk.out (rows_one _) (by unfold maxLen; omega) (by omega) (Nat.le_refl _) ?_; intro v4 w4 q1 q2 q3 q4; have k4 := H4.out w4 q2; have b0 := HB5.out w4 k4 0; have b1 := HB5.out w4 k4 1; have b2 := HB5.out w4 k4 2; have b3 := HB5.out w4 k4 3; obtain ⟨o5, sn5, hb5, k5⟩ := H5.out w4 v4 q1 k4; clear q1 q2 q3 q4)
              | (at_builtin; refine wpList_append_row (by rfl) (.tmp 75) (.tmp 77) 28 rfl wz.heap.size 35 i5 (.agg #[.int .i64 0, .int .i64 0, .slice none 0 0, .slice none 0 0]) 4 64 Try.underlying28 hi5.out hy0.out hy1.out hy2.out rfl (by decide) v4 0 (rows (P.take 0)) rfl o5.out (some ⟨w4.heap.size, 0, none⟩) 1 1 [.int .i64 t, .int .i64 id, .slice Ao no co, .slice An nn cn] rfl rfl sn5.out (by simp [Value.oneCell']) (by unfold maxLen; omega) (by omega) hb5.out ?_; intro v6 w6 o6 q2 q3 q4; have k6 := H6.out _ w6 v4 v6 k5 o5 q2; clear b0 b1 b2 b3; clear q2 q3 q4)
              | (at_builtin; refine wpList_append_row (by rfl) (.tmp 79) (.tmp 82) 28 rfl wz.heap.size 35 i5 (.agg #[.int .i64 0, .int .i64 0, .slice none 0 0, .slice none 0 0]) 4 64 Try.underlying28 hi5.out hy0.out hy1.out hy2.out rfl (by decide) v6 (0 + 1) (rows (P.take 0) ++ [.int .i64 t, .int .i64 id, .slice Ao no co, .slice An nn cn]) rfl o6.out none 0 0 (rows ([] : List PQ)) rfl hfd.out (Hs6.out w6 _ k6 trivial).out (rows_one _) (by unfold maxLen; omega) (by omega) k6.out.size ?_; intro v9 w9 o9 q2 q3 q4; have hN9 := H9.out w6 w9 v6 v9 k6 o6 q2 o9; clear o9 q2 q3 q4))
            go_roundw
            case rel => exact ⟨i + 1, _, by omega, by go_num, Lib.hid (hins.out.trans hnx.out.symm), hN9⟩
            case measure => simp [intOf]; omega
          · have hkc : (k : Int) ≤ (c3 : Int) := by omega
            by_cases hck : c3 = k
            · subst hck
              go_wp2_with fail
              go_quiet (fail)
              replace HRN := Lib.hid (fun q => (HRN.out nq).step (Keeps.drewN (Keeps.refl [] _) q))
              replace B5n := Lib.hid (fun q => (B5n.out nq).keep (Keeps.drewN (Keeps.refl [] _) q) (by simp))
              generalize wk.drewN nq = wy at *
              go_wp2_with fail
              go_quiet (fail)
              have hNz := Lib.hid (HRN.out nq)
              have B5z := Lib.hid (B5n.out nq)
              generalize wy.drewN nq = wz at *
              have ownz : Hid (wz.ownsRow wz.heap.size 35 4 (.slice none 0 0) 0 []) := Lib.hid ⟨rfl, .inl ⟨rfl, rfl⟩⟩
              have hfk : Hid ((rows (P.take c3)).length = c3 * 4) := Lib.hid (by rw [rows_len, List.length_take]; have := hm.out; omega)
              have hsk : Hid (SrcAt wz (some ⟨ga, 0, none⟩) c3 (rows (P.take c3))) := Lib.hid (src_own (by have := hNz.out.own; rw [← hm.out] at this; exact this) hm.out.symm c3 (by omega))
              have hfd : Hid ((rows ([] : List PQ)).length = 0 * 4) := Lib.hid (rfl)
              have H4 : Hid (∀ w4, Hid (wz.grownBy w4 (Value.slice none 0 0).ownBlock) → Hid (Keeps [] wz w4)) := Lib.hid (fun w4 q => Lib.hid (Keeps.grown (X := []) q.out (by simp [Value.ownBlock])))
              have HB5 : Hid (∀ w4, Hid (Keeps [] wz w4) → (∀ j, w4.cell? ⟨g5, j, none⟩ = (#[.int .i64 t, .int .i64 id, .slice Ao no co, .slice An nn cn] : Array Value)[j]?)) := Lib.hid (fun w4 k => (B5z.out.keep k.out (by simp)).cell)
              have H5 : Hid (∀ (w4 : World) (v4 : Value), Hid (w4.ownsRow wz.heap.size 35 4 v4 (0 + c3) ([] ++ rows (P.take c3))) → Hid (Keeps [] wz w4) → Hid ((w4.alloc (.cells #[.int .i64 t, .int .i64 id, .slice Ao no co, .slice An nn cn] 35)).ownsRow wz.heap.size 35 4 v4 c3 (rows (P.take c3))) ∧ Hid (SrcAt (w4.alloc (.cells #[.int .i64 t, .int .i64 id, .slice Ao no co, .slice An nn cn] 35)) (some ⟨w4.heap.size, 0, none⟩) 1 [.int .i64 t, .int .i64 id, .slice Ao no co, .slice An nn cn]) ∧ Hid (wz.heap.size ≤ (w4.alloc (.cells #[.int .i64 t, .int .i64 id, .slice Ao no co, .slice An nn cn] 35)).heap.size) ∧ Hid (Keeps [] wz (w4.alloc (.cells #[.int .i64 t, .int .i64 id, .slice Ao no co, .slice An nn cn] 35)))) := Lib.hid (fun w4 v4 q k => by
                have ka : Keeps [] w4 (w4.alloc (.cells #[.int .i64 t, .int .i64 id, .slice Ao no co, .slice An nn cn] 35)) := (Keeps.refl [] w4).alloc _
                exact ⟨Lib.hid (own_keep0 (own_zero q (Lib.hid rfl)).out ka), Lib.hid (src_raw (r := ⟨t, id, Ao, no, co, An, nn, cn⟩) (Blk.new w4 35 _)), Lib.hid (k.out.trans ka).size, Lib.hid (k.out.trans ka)⟩)
              have H6 : Hid (∀ (w5 w6 : World) (v4 v6 : Value), Hid (Keeps [] wz w5) → Hid (w5.ownsRow wz.heap.size 35 4 v4 c3 (rows (P.take c3))) → Hid (w5.grownBy w6 v4.ownBlock) → Hid (Keeps [] wz w6)) := Lib.hid (fun w5 w6 v4 v6 k5 o5 q => Lib.hid (keeps_append k5.out (Keeps.refl [] _) o5.out q.out))
              have Hs6 : Hid (∀ (w6 : World) (AX : Option Addr), Hid (Keeps [] wz w6) → (True) → Hid (SrcAt w6 AX 0 (rows ([] : List PQ)))) := Lib.hid (fun w6 AX k6 _ => Lib.hid (.inl rfl))
              have H9 : Hid (∀ (w6 w9 : World) (v6 v9 : Value), Hid (Keeps [] wz w6) → Hid (w6.ownsRow wz.heap.size 35 4 v6 (c3 + 1) (rows (P.take c3) ++ [.int .i64 t, .int .i64 id, .slice Ao no co, .slice An nn cn])) → Hid (w6.grownBy w9 v6.ownBlock) → Hid (w9.ownsRow wz.heap.size 35 4 v9 (c3 + 1 + 0) ((rows (P.take c3) ++ [.int .i64 t, .int .i64 id, .slice Ao no co, .slice An nn cn]) ++ rows ([] : List PQ))) → Hid (RN w X v9 (P.take c3 ++ ((⟨t, id, Ao, no, co, An, nn, cn⟩, ch) : PQ) :: P.drop c3) w9)) := Lib.hid (fun w6 w9 v6 v9 k6 o6 q o9 => Lib.hid (RN.ins (q := c3 + 1 + 0) (p := ((⟨t, id, Ao, no, co, An, nn, cn⟩, ch) : PQ)) hNz.out hraw.out (own_keeps6 k6 o6 q).out (by have := hm.out; omega) (by have := hm.out; refine ⟨by omega, ?_⟩; rw [hdr.out]; exact o9.out)))
              clear hS7
              go_wp2_with (first
                | (at_builtin; refine wpList_append_row (by rfl) (.tmp 70) (.tmp 73) 28 rfl wz.heap.size 35 i5 (.agg #[.int .i64 0, .int .i64 0, .slice none 0 0, .slice none 0 0]) 4 64 Try.underlying28 hi5.out hy0.out hy1.out hy2.out rfl (by decide) (.slice none 0 0) 0 [] rfl ownz.out (some ⟨ga, 0, none⟩) c3 c3 (rows (P.take c3)) rfl hfk.out hsk.out (rows_one _) (by unfold maxLen; omega) (by omega) (Nat.le_refl _) ?_; intro v4 w4 q1 q2 q3 q4; have k4 := H4.out w4 q2; have b0 := HB5.out w4 k4 0; have b1 := HB5.out w4 k4 1; have b2 := HB5.out w4 k4 2; have b3 := HB5.out w4 k4 3; obtain ⟨o5, sn5, hb5, k5⟩ := H5.out w4 v4 q1 k4; clear q1 q2 q3 q4)
                | (at_builtin; refine wpList_append_row (by rfl) (.tmp 75) (.tmp 77) 28 rfl wz.heap.size 35 i5 (.agg #[.int .i64 0, .int .i64 0, .slice none 0 0, .slice none 0 0]) 4 64 Try.underlying28 hi5.out hy0.out hy1.out hy2.out rfl (by decide) v4 c3 (rows (P.take c3)) rfl o5.out (some ⟨w4.heap.size, 0, none⟩) 1 1 [.int .i64 t, .int .i64 id, .slice Ao no co, .slice An nn cn] rfl rfl sn5.out (by simp [Value.oneCell']) (by unfold maxLen; omega) (by omega) hb5.out ?_; intro v6 w6 o6 q2 q3 q4; have k6 := H6.out _ w6 v4 v6 k5 o5 q2; clear b0 b1 b2 b3; clear q2 q3 q4)
                | (at_builtin; refine wpList_append_row (by rfl) (.tmp 79) (.tmp 82) 28 rfl wz.heap.size 35 i5 (.agg #[.int .i64 0, .int .i64 0, .slice none 0 0, .slice none 0 0]) 4 64 Try.underlying28 hi5.out hy0.out hy1.out hy2.out rfl (by decide) v6 (c3 + 1) (rows (P.take c3) ++ [.int .i64 t, .int .i64 id, .slice Ao no co, .slice An nn cn]) rfl o6.out _ 0 _ (rows ([] : List PQ)) rfl hfd.out (Hs6.out w6 _ k6 trivial).out (rows_one _) (by unfold maxLen; omega) (by omega) k6.out.size ?_; intro v9 w9 o9 q2 q3 q4; have hN9 := H9.out w6 w9 v6 v9 k6 o6 q2 o9; clear o9 q2 q3 q4))
              go_roundw
              case rel => exact ⟨i + 1, _, by omega, by go_num, Lib.hid (hins.out.trans hnx.out.symm), hN9⟩
              case measure => simp [intOf]; omega
            · go_wp2_with fail
              go_quiet (fail)
              replace HRN := Lib.hid (fun q => (HRN.out nq).step (Keeps.drewN (Keeps.refl [] _) q))
              replace B5n := Lib.hid (fun q => (B5n.out nq).keep (Keeps.drewN (Keeps.refl [] _) q) (by simp))
              generalize wk.drewN nq = wy at *
              go_wp2_with fail
              go_quiet (fail)
              have hNz := Lib.hid (HRN.out nq)
              have B5z := Lib.hid (B5n.out nq)
              generalize wy.drewN nq = wz at *
              have ownz : Hid (wz.ownsRow wz.heap.size 35 4 (.slice none 0 0) 0 []) := Lib.hid ⟨rfl, .inl ⟨rfl, rfl⟩⟩
              have hfk : Hid ((rows (P.take k)).length = k * 4) := Lib.hid (by rw [rows_len, List.length_take]; have := hm.out; omega)
              have hsk : Hid (SrcAt wz (some ⟨ga, 0, none⟩) k (rows (P.take k))) := Lib.hid (src_own (by have := hNz.out.own; rw [← hm.out] at this; exact this) hm.out.symm k (by omega))
              have hfd : Hid ((rows ([] : List PQ)).length = 0 * 4) := Lib.hid (rfl)
              have H4 : Hid (∀ w4, Hid (wz.grownBy w4 (Value.slice none 0 0).ownBlock) → Hid (Keeps [] wz w4)) := Lib.hid (fun w4 q => Lib.hid (Keeps.grown (X := []) q.out (by simp [Value.ownBlock])))
              have HB5 : Hid (∀ w4, Hid (Keeps [] wz w4) → (∀ j, w4.cell? ⟨g5, j, none⟩ = (#[.int .i64 t, .int .i64 id, .slice Ao no co, .slice An nn cn] : Array Value)[j]?)) := Lib.hid (fun w4 k => (B5z.out.keep k.out (by simp)).cell)
              have H5 : Hid (∀ (w4 : World) (v4 : Value), Hid (w4.ownsRow wz.heap.size 35 4 v4 (0 + k) ([] ++ rows (P.take k))) → Hid (Keeps [] wz w4) → Hid ((w4.alloc (.cells #[.int .i64 t, .int .i64 id, .slice Ao no co, .slice An nn cn] 35)).ownsRow wz.heap.size 35 4 v4 k (rows (P.take k))) ∧ Hid (SrcAt (w4.alloc (.cells #[.int .i64 t, .int .i64 id, .slice Ao no co, .slice An nn cn] 35)) (some ⟨w4.heap.size, 0, none⟩) 1 [.int .i64 t, .int .i64 id, .slice Ao no co, .slice An nn cn]) ∧ Hid (wz.heap.size ≤ (w4.alloc (.cells #[.int .i64 t, .int .i64 id, .slice Ao no co, .slice An nn cn] 35)).heap.size) ∧ Hid (Keeps [] wz (w4.alloc (.cells #[.int .i64 t, .int .i64 id, .slice Ao no co, .slice An nn cn] 35)))) := Lib.hid (fun w4 v4 q k => by
                have ka : Keeps [] w4 (w4.alloc (.cells #[.int .i64 t, .int .i64 id, .slice Ao no co, .slice An nn cn] 35)) := (Keeps.refl [] w4).alloc _
                exact ⟨Lib.hid (own_keep0 (own_zero q (Lib.hid rfl)).out ka), Lib.hid (src_raw (r := ⟨t, id, Ao, no, co, An, nn, cn⟩) (Blk.new w4 35 _)), Lib.hid (k.out.trans ka).size, Lib.hid (k.out.trans ka)⟩)
              have H6 : Hid (∀ (w5 w6 : World) (v4 v6 : Value), Hid (Keeps [] wz w5) → Hid (w5.ownsRow wz.heap.size 35 4 v4 k (rows (P.take k))) → Hid (w5.grownBy w6 v4.ownBlock) → Hid (Keeps [] wz w6)) := Lib.hid (fun w5 w6 v4 v6 k5 o5 q => Lib.hid (keeps_append k5.out (Keeps.refl [] _) o5.out q.out))
              have Hs6 : Hid (∀ (w6 : World) (AX : Option Addr), Hid (Keeps [] wz w6) → (True) → Hid (SrcAt w6 AX 0 (rows ([] : List PQ)))) := Lib.hid (fun w6 AX k6 _ => Lib.hid (.inl rfl))
              have H9 : Hid (∀ (w6 w9 : World) (v6 v9 : Value), Hid (Keeps [] wz w6) → Hid (w6.ownsRow wz.heap.size 35 4 v6 (k + 1) (rows (P.take k) ++ [.int .i64 t, .int .i64 id, .slice Ao no co, .slice An nn cn])) → Hid (w6.grownBy w9 v6.ownBlock) → Hid (w9.ownsRow wz.heap.size 35 4 v9 (k + 1 + 0) ((rows (P.take k) ++ [.int .i64 t, .int .i64 id, .slice Ao no co, .slice An nn cn]) ++ rows ([] : List PQ))) → Hid (RN w X v9 (P.take k ++ ((⟨t, id, Ao, no, co, An, nn, cn⟩, ch) : PQ) :: P.drop k) w9)) := Lib.hid (fun w6 w9 v6 v9 k6 o6 q o9 => Lib.hid (RN.ins (q := k + 1 + 0) (p := ((⟨t, id, Ao, no, co, An, nn, cn⟩, ch) : PQ)) hNz.out hraw.out (own_keeps6 k6 o6 q).out (by have := hm.out; omega) (by have := hm.out; refine ⟨by omega, ?_⟩; rw [hdr.out]; exact o9.out)))
              clear hS7
              go_wp2_with (first
                | (at_builtin; refine wpList_append_row (by rfl) (.tmp 70) (.tmp 73) 28 rfl wz.heap.size 35 i5 (.agg #[.int .i64 0, .int .i64 0, .slice none 0 0, .slice none 0 0]) 4 64 Try.underlying28 hi5.out hy0.out hy1.out hy2.out rfl (by decide) (.slice none 0 0) 0 [] rfl ownz.out (some ⟨ga, 0, none⟩) k c3 (rows (P.take k)) rfl hfk.out hsk.out (rows_one _) (by unfold maxLen; omega) (by omega) (Nat.le_refl _) ?_; intro v4 w4 q1 q2 q3 q4; have k4 := H4.out w4 q2; have b0 := HB5.out w4 k4 0; have b1 := HB5.out w4 k4 1; have b2 := HB5.out w4 k4 2; have b3 := HB5.out w4 k4 3; obtain ⟨o5, sn5, hb5, k5⟩ := H5.out w4 v4 q1 k4; clear q1 q2 q3 q4)
                | (at_builtin; refine wpList_append_row (by rfl) (.tmp 75) (.tmp 77) 28 rfl wz.heap.size 35 i5 (.agg #[.int .i64 0, .int .i64 0, .slice none 0 0, .slice none 0 0]) 4 64 Try.underlying28 hi5.out hy0.out hy1.out hy2.out rfl (by decide) v4 k (rows (P.take k)) rfl o5.out (some ⟨w4.heap.size, 0, none⟩) 1 1 [.int .i64 t, .int .i64 id, .slice Ao no co, .slice An nn cn] rfl rfl sn5.out (by simp [Value.oneCell']) (by unfold maxLen; omega) (by omega) hb5.out ?_; intro v6 w6 o6 q2 q3 q4; have k6 := H6.out _ w6 v4 v6 k5 o5 q2; clear b0 b1 b2 b3; clear q2 q3 q4)
                | (at_builtin; refine wpList_append_row (by rfl) (.tmp 79) (.tmp 82) 28 rfl wz.heap.size 35 i5 (.agg #[.int .i64 0, .int .i64 0, .slice none 0 0, .slice none 0 0]) 4 64 Try.underlying28 hi5.out hy0.out hy1.out hy2.out rfl (by decide) v6 (k + 1) (rows (P.take k) ++ [.int .i64 t, .int .i64 id, .slice Ao no co, .slice An nn cn]) rfl o6.out _ 0 _ (rows ([] : List PQ)) rfl hfd.out (Hs6.out w6 _ k6 trivial).out (rows_one _) (by unfold maxLen; omega) (by omega) k6.out.size ?_; intro v9 w9 o9 q2 q3 q4; have hN9 := H9.out w6 w9 v6 v9 k6 o6 q2 o9; clear o9 q2 q3 q4))
              go_roundw
              case rel => exact ⟨i + 1, _, by omega, by go_num, Lib.hid (hins.out.trans hnx.out.symm), hN9⟩
              case measure => simp [intOf]; omega
    · obtain rfl : i = n := by omega
      have hnf : ¬ (i : Int) < (i : Int) := by omega
      have hPN : Hid (P.map (·.2) = netA L) := Lib.hid (by rw [hPA.out, List.take_of_length_le (by rw [← hn.out]; exact Nat.le_refl _)])
      have hres : Hid ((P.filter full).map (·.2) = netOut L) := Lib.hid (by rw [filter_map, hPN.out]; rfl)
      go_wp2_with fail
      go_loopw [8, 9] (fun v jv wr => ∃ j : Nat, j ≤ m ∧ jv = .int .i64 j ∧ Hid (RN wq X v ((P.take j).filter full) wr)) (fun _ jv _ => m - (intOf jv).toNat)
      case atStart => exact ⟨0, Nat.zero_le _, rfl, Lib.hid (RN.zero wq X (Keeps.refl _ _))⟩
      case round =>
        obtain ⟨k, hk, rfl, hQ⟩ := hrel
        have hkw := Lib.hid hQ.out.kp
        obtain ⟨wo, hwo⟩ : ∃ x, x = wr := ⟨_, rfl⟩
        subst hwo
        obtain ⟨A8, c8, rfl, _⟩ := own_slice hQ.out.own
        have hNo := Lib.hid (hN.out.step hkw.out)
        obtain ⟨Q, hQe⟩ : ∃ Q, Q = (P.take k).filter full := ⟨_, rfl⟩
        obtain ⟨ql, hql⟩ : ∃ q, q = Q.length := ⟨_, rfl⟩
        have hqk : Hid (ql ≤ k) := Lib.hid (by rw [hql, hQe]; exact Nat.le_trans (List.length_filter_le _ _) (List.length_take_le _ _))
        rw [← hQe] at hQ ⊢
        rw [← hql] at hQ ⊢
        replace hQe := Lib.hid hQe
        replace hql := Lib.hid hql
        by_cases hkm : k < m
        · obtain ⟨⟨⟨pt, pi, pO, pno, pco, pN, pnn, pcn⟩, pc⟩, hp⟩ : ∃ p, P[k]? = some p := ⟨P[k]'(by rw [← hm.out]; exact hkm), List.getElem?_eq_getElem _⟩
          obtain ⟨ga, rfl, hgaw, hgab, x0, x1, x2, x3⟩ := own_at (by have := hNo.out.own; rw [← hm.out] at this; exact this) hm.out.symm hp
          dsimp only at x0 x1 x2 x3
          have hpr := Lib.hid (hNo.out.is_ _ (List.mem_of_getElem? hp))
          have hkmi : (k : Int) < (m : Int) := by omega
          have hS19 : Hid (∀ w', Keeps [] wo w' → (fun w' : World => w'.cell? ⟨ga, k * 4 + 2, none⟩ = some (.slice pO pno pco) ∧ w'.cell? ⟨ga, k * 4 + 3, none⟩ = some (.slice pN pnn pcn)) w') := Lib.hid (fun w' h => ⟨h.cellEq x2 (by simp), h.cellEq x3 (by simp)⟩)
          have hsmp : Hid (Small pc) := Lib.hid (by
            have h1 : pc ∈ netA L := by rw [← hPN.out]; exact List.mem_map_of_mem (f := fun q : PQ => q.2) (List.mem_of_getElem? hp)
            exact small_net hsm.out pc ((netA_is L).2.mem_iff.1 h1))
          have HRow : Hid (∀ w', Keeps [] wo w' → Calls Try.prog 32 #[.slice pO pno pco, .slice pN pnn pcn] w' fun e w'' => e = .returned (.bool (decide (pc.old = pc.new))) ∧ Keeps [] w' w'') := Lib.hid (fun w' h => by
            have kk := hNo.out.kp.trans h
            exact rows_any w' X X pO pN pc.old pc.new pno pco pnn pcn hpr.out.no hpr.out.nn (hpr.out.old.keep kk (by simp)) (hpr.out.new.keep kk (by simp)) (by have := hsmp.out.1; have := hpr.out.no; dsimp only at this; omega))
          by_cases hsame : pc.old = pc.new
          · have hb : Hid (decide (pc.old = pc.new) = true) := Lib.hid (decide_eq_true hsame)
            have hQn : Hid ((P.take (k + 1)).filter full = Q) := Lib.hid (by
              rw [take_snoc hp, List.filter_append, ← hQe.out]
              have hf : full ((⟨pt, pi, pO, pno, pco, pN, pnn, pcn⟩, pc) : PQ) = false := by unfold full; simp [hsame]
              simp [hf])
            replace hsame := Lib.hid hsame
            replace hp := Lib.hid hp
            clear x0 x1 x2 x3
            go_wp2_with fail
            refine wp_region_I (S := (fun w' : World => w'.cell? ⟨ga, k * 4 + 2, none⟩ = some (.slice pO pno pco) ∧ w'.cell? ⟨ga, k * 4 + 3, none⟩ = some (.slice pN pnn pcn))) (n := 12) (by kernel_rfl) ?_
            have HS := hS19.out wo.drew (Keeps.refl [] wo).drew
            have kd : Hid (Keeps [] wo wo.drew) := Lib.hid (Keeps.refl [] wo).drew
            generalize wo.drew = wc at *
            refine wpAnyI_takeN (i := 0) (v := ?_) (by kernel_rfl) rfl (by kernel_rfl) (by kernel_rfl) (by kernel_rfl) (fun _ _ _ h => h) HS (Or.inl ⟨by rfl, ?_⟩) ?_
            rotate_left
            · (intro w hSw; obtain ⟨y1, y2⟩ := hSw; go_simp; try with_reducible rfl)
            try simp only [Act.put, List.getElem_toArray, List.getElem_cons_succ, List.getElem_cons_zero, List.setIfInBounds_toArray, List.set_cons_zero, List.set_cons_succ]
            refine wpAnyI_takeN (i := 1) (v := ?_) (by kernel_rfl) rfl (by kernel_rfl) (by kernel_rfl) (by kernel_rfl) (fun _ _ _ h => h) HS (Or.inl ⟨by rfl, ?_⟩) ?_
            rotate_left
            · (intro w hSw; obtain ⟨y1, y2⟩ := hSw; go_simp; try with_reducible rfl)
            try simp only [Act.put, List.getElem_toArray, List.getElem_cons_succ, List.getElem_cons_zero, List.setIfInBounds_toArray, List.set_cons_zero, List.set_cons_succ]
            refine wpAnyI_takeN (i := 2) (v := ?_) (by kernel_rfl) rfl (by kernel_rfl) (by kernel_rfl) (by kernel_rfl) (fun _ _ _ h => h) HS (Or.inl ⟨by rfl, ?_⟩) ?_
            rotate_left
            · (intro w hSw; obtain ⟨y1, y2⟩ := hSw; go_simp; try with_reducible rfl)
            try simp only [Act.put, List.getElem_toArray, List.getElem_cons_succ, List.getElem_cons_zero, List.setIfInBounds_toArray, List.set_cons_zero, List.set_cons_succ]
            refine wpAnyI_takeN (i := 3) (v := ?_) (by kernel_rfl) rfl (by kernel_rfl) (by kernel_rfl) (by kernel_rfl) (fun _ _ _ h => h) HS (Or.inl ⟨by rfl, ?_⟩) ?_
            rotate_left
            · (intro w hSw; obtain ⟨y1, y2⟩ := hSw; go_simp; try with_reducible rfl)
            try simp only [Act.put, List.getElem_toArray, List.getElem_cons_succ, List.getElem_cons_zero, List.setIfInBounds_toArray, List.set_cons_zero, List.set_cons_succ]
            refine wpAnyI_takeN (i := 4) (v := ?_) (by kernel_rfl) rfl (by kernel_rfl) (by kernel_rfl) (by kernel_rfl) (fun _ _ _ h => h) HS (Or.inl ⟨by rfl, ?_⟩) ?_
            rotate_left
            · (intro w hSw; obtain ⟨y1, y2⟩ := hSw; go_simp; try with_reducible rfl)
            try simp only [Act.put, List.getElem_toArray, List.getElem_cons_succ, List.getElem_cons_zero, List.setIfInBounds_toArray, List.set_cons_zero, List.set_cons_succ]
            refine wpAnyI_takeN (i := 5) (v := ?_) (by kernel_rfl) rfl (by kernel_rfl) (by kernel_rfl) (by kernel_rfl) (fun _ _ _ h => h) HS (Or.inl ⟨by rfl, ?_⟩) ?_
            rotate_left
            · (intro w hSw; obtain ⟨y1, y2⟩ := hSw; go_simp; try with_reducible rfl)
            try simp only [Act.put, List.getElem_toArray, List.getElem_cons_succ, List.getElem_cons_zero, List.setIfInBounds_toArray, List.set_cons_zero, List.set_cons_succ]
            refine wpAnyI_takeN (i := 6) (v := ?_) (by kernel_rfl) rfl (by kernel_rfl) (by kernel_rfl) (by kernel_rfl) (fun _ _ _ h => h) HS (Or.inl ⟨by rfl, ?_⟩) ?_
            rotate_left
            · (intro w hSw; obtain ⟨y1, y2⟩ := hSw; go_simp; try with_reducible rfl)
            try simp only [Act.put, List.getElem_toArray, List.getElem_cons_succ, List.getElem_cons_zero, List.setIfInBounds_toArray, List.set_cons_zero, List.set_cons_succ]
            refine wpAnyI_takeN (i := 7) (v := ?_) (by kernel_rfl) rfl (by kernel_rfl) (by kernel_rfl) (by kernel_rfl) (fun _ _ _ h => h) HS (Or.inl ⟨by rfl, ?_⟩) ?_
            rotate_left
            · (intro w hSw; obtain ⟨y1, y2⟩ := hSw; go_simp; try with_reducible rfl)
            try simp only [Act.put, List.getElem_toArray, List.getElem_cons_succ, List.getElem_cons_zero, List.setIfInBounds_toArray, List.set_cons_zero, List.set_cons_succ]
            refine wpAnyI_takeN (i := 8) (v := ?_) (by kernel_rfl) rfl (by kernel_rfl) (by kernel_rfl) (by kernel_rfl) (fun _ _ _ h => h) HS (Or.inl ⟨by rfl, ?_⟩) ?_
            rotate_left
            · (intro w hSw; obtain ⟨y1, y2⟩ := hSw; go_simp; try with_reducible rfl)
            try simp only [Act.put, List.getElem_toArray, List.getElem_cons_succ, List.getElem_cons_zero, List.setIfInBounds_toArray, List.set_cons_zero, List.set_cons_succ]
            refine wpAnyI_takeN (i := 9) (v := ?_) (by kernel_rfl) rfl (by kernel_rfl) (by kernel_rfl) (by kernel_rfl) (fun _ _ _ h => h) HS (Or.inl ⟨by rfl, ?_⟩) ?_
            rotate_left
            · (intro w hSw; obtain ⟨y1, y2⟩ := hSw; go_simp; try with_reducible rfl)
            try simp only [Act.put, List.getElem_toArray, List.getElem_cons_succ, List.getElem_cons_zero, List.setIfInBounds_toArray, List.set_cons_zero, List.set_cons_succ]
            refine wpAnyI_one (i := 10) rfl (by kernel_rfl) (fun K hK => ?_)
            dsimp only [List.getElem_toArray, List.getElem_cons_succ, List.getElem_cons_zero]
            go_simp
            refine (HRow.out _ kd.out).mono ?_
            rintro e wn ⟨rfl, kn⟩
            have HS := hS19.out _ (kd.out.trans kn)
            have kn' : Hid (Keeps [] wo wn) := Lib.hid (kd.out.trans kn)
            rw [hb.out]
            refine hK _ _ (Or.inr HS) ?_
            clear hK K kn kd
            try simp only [Act.put, List.getElem_toArray, List.getElem_cons_succ, List.getElem_cons_zero, List.setIfInBounds_toArray, List.set_cons_zero, List.set_cons_succ]
            refine wpAnyI_one (i := 11) rfl (by kernel_rfl) (fun K hK => ?_)
            dsimp only [List.getElem_toArray, List.getElem_cons_succ, List.getElem_cons_zero]
            go_simp
            refine hK _ _ (Or.inr HS) ?_
            clear hK K
            try simp only [Act.put, List.getElem_toArray, List.getElem_cons_succ, List.getElem_cons_zero, List.setIfInBounds_toArray, List.set_cons_zero, List.set_cons_succ]
            refine wpAnyI_done (by kernel_rfl) ?_ _
            go_wp2_with fail
            go_roundw
            case rel => exact ⟨k + 1, by omega, by go_num, by rw [hQn.out]; exact Lib.hid (hQ.out.step kn'.out)⟩
            case measure => simp [intOf]; omega
          · have hb : Hid (decide (pc.old = pc.new) = false) := Lib.hid (decide_eq_false hsame)
            have hQn : Hid ((P.take (k + 1)).filter full = Q ++ [((⟨pt, pi, pO, pno, pco, pN, pnn, pcn⟩, pc) : PQ)]) := Lib.hid (by
              rw [take_snoc hp, List.filter_append, ← hQe.out]
              have hf : full ((⟨pt, pi, pO, pno, pco, pN, pnn, pcn⟩, pc) : PQ) = true := by unfold full; simp [hsame]
              simp [hf])
            replace hsame := Lib.hid hsame
            replace hp := Lib.hid hp
            have hX0 : Hid (∀ w', Keeps [] wo w' → w'.cell? ⟨ga, k * 4, none⟩ = some (.int .i64 pt) ∧ w'.cell? ⟨ga, k * 4 + 1, none⟩ = some (.int .i64 pi)) := Lib.hid (fun w' h => ⟨h.cellEq x0 (by simp), h.cellEq x1 (by simp)⟩)
            clear x0 x1 x2 x3
            go_wp2_with fail
            refine wp_region_I (S := (fun w' : World => w'.cell? ⟨ga, k * 4 + 2, none⟩ = some (.slice pO pno pco) ∧ w'.cell? ⟨ga, k * 4 + 3, none⟩ = some (.slice pN pnn pcn))) (n := 12) (by kernel_rfl) ?_
            have HS := hS19.out wo.drew (Keeps.refl [] wo).drew
            have kd : Hid (Keeps [] wo wo.drew) := Lib.hid (Keeps.refl [] wo).drew
            generalize wo.drew = wc at *
            refine wpAnyI_takeN (i := 0) (v := ?_) (by kernel_rfl) rfl (by kernel_rfl) (by kernel_rfl) (by kernel_rfl) (fun _ _ _ h => h) HS (Or.inl ⟨by rfl, ?_⟩) ?_
            rotate_left
            · (intro w hSw; obtain ⟨y1, y2⟩ := hSw; go_simp; try with_reducible rfl)
            try simp only [Act.put, List.getElem_toArray, List.getElem_cons_succ, List.getElem_cons_zero, List.setIfInBounds_toArray, List.set_cons_zero, List.set_cons_succ]
            refine wpAnyI_takeN (i := 1) (v := ?_) (by kernel_rfl) rfl (by kernel_rfl) (by kernel_rfl) (by kernel_rfl) (fun _ _ _ h => h) HS (Or.inl ⟨by rfl, ?_⟩) ?_
            rotate_left
            · (intro w hSw; obtain ⟨y1, y2⟩ := hSw; go_simp; try with_reducible rfl)
            try simp only [Act.put, List.getElem_toArray, List.getElem_cons_succ, List.getElem_cons_zero, List.setIfInBounds_toArray, List.set_cons_zero, List.set_cons_succ]
            refine wpAnyI_takeN (i := 2) (v := ?_) (by kernel_rfl) rfl (by kernel_rfl) (by kernel_rfl) (by kernel_rfl) (fun _ _ _ h => h) HS (Or.inl ⟨by rfl, ?_⟩) ?_
            rotate_left
            · (intro w hSw; obtain ⟨y1, y2⟩ := hSw; go_simp; try with_reducible rfl)
            try simp only [Act.put, List.getElem_toArray, List.getElem_cons_succ, List.getElem_cons_zero, List.setIfInBounds_toArray, List.set_cons_zero, List.set_cons_succ]
            refine wpAnyI_takeN (i := 3) (v := ?_) (by kernel_rfl) rfl (by kernel_rfl) (by kernel_rfl) (by kernel_rfl) (fun _ _ _ h => h) HS (Or.inl ⟨by rfl, ?_⟩) ?_
            rotate_left
            · (intro w hSw; obtain ⟨y1, y2⟩ := hSw; go_simp; try with_reducible rfl)
            try simp only [Act.put, List.getElem_toArray, List.getElem_cons_succ, List.getElem_cons_zero, List.setIfInBounds_toArray, List.set_cons_zero, List.set_cons_succ]
            refine wpAnyI_takeN (i := 4) (v := ?_) (by kernel_rfl) rfl (by kernel_rfl) (by kernel_rfl) (by kernel_rfl) (fun _ _ _ h => h) HS (Or.inl ⟨by rfl, ?_⟩) ?_
            rotate_left
            · (intro w hSw; obtain ⟨y1, y2⟩ := hSw; go_simp; try with_reducible rfl)
            try simp only [Act.put, List.getElem_toArray, List.getElem_cons_succ, List.getElem_cons_zero, List.setIfInBounds_toArray, List.set_cons_zero, List.set_cons_succ]
            refine wpAnyI_takeN (i := 5) (v := ?_) (by kernel_rfl) rfl (by kernel_rfl) (by kernel_rfl) (by kernel_rfl) (fun _ _ _ h => h) HS (Or.inl ⟨by rfl, ?_⟩) ?_
            rotate_left
            · (intro w hSw; obtain ⟨y1, y2⟩ := hSw; go_simp; try with_reducible rfl)
            try simp only [Act.put, List.getElem_toArray, List.getElem_cons_succ, List.getElem_cons_zero, List.setIfInBounds_toArray, List.set_cons_zero, List.set_cons_succ]
            refine wpAnyI_takeN (i := 6) (v := ?_) (by kernel_rfl) rfl (by kernel_rfl) (by kernel_rfl) (by kernel_rfl) (fun _ _ _ h => h) HS (Or.inl ⟨by rfl, ?_⟩) ?_
            rotate_left
            · (intro w hSw; obtain ⟨y1, y2⟩ := hSw; go_simp; try with_reducible rfl)
            try simp only [Act.put, List.getElem_toArray, List.getElem_cons_succ, List.getElem_cons_zero, List.setIfInBounds_toArray, List.set_cons_zero, List.set_cons_succ]
            refine wpAnyI_takeN (i := 7) (v := ?_) (by kernel_rfl) rfl (by kernel_rfl) (by kernel_rfl) (by kernel_rfl) (fun _ _ _ h => h) HS (Or.inl ⟨by rfl, ?_⟩) ?_
            rotate_left
            · (intro w hSw; obtain ⟨y1, y2⟩ := hSw; go_simp; try with_reducible rfl)
            try simp only [Act.put, List.getElem_toArray, List.getElem_cons_succ, List.getElem_cons_zero, List.setIfInBounds_toArray, List.set_cons_zero, List.set_cons_succ]
            refine wpAnyI_takeN (i := 8) (v := ?_) (by kernel_rfl) rfl (by kernel_rfl) (by kernel_rfl) (by kernel_rfl) (fun _ _ _ h => h) HS (Or.inl ⟨by rfl, ?_⟩) ?_
            rotate_left
            · (intro w hSw; obtain ⟨y1, y2⟩ := hSw; go_simp; try with_reducible rfl)
            try simp only [Act.put, List.getElem_toArray, List.getElem_cons_succ, List.getElem_cons_zero, List.setIfInBounds_toArray, List.set_cons_zero, List.set_cons_succ]
            refine wpAnyI_takeN (i := 9) (v := ?_) (by kernel_rfl) rfl (by kernel_rfl) (by kernel_rfl) (by kernel_rfl) (fun _ _ _ h => h) HS (Or.inl ⟨by rfl, ?_⟩) ?_
            rotate_left
            · (intro w hSw; obtain ⟨y1, y2⟩ := hSw; go_simp; try with_reducible rfl)
            try simp only [Act.put, List.getElem_toArray, List.getElem_cons_succ, List.getElem_cons_zero, List.setIfInBounds_toArray, List.set_cons_zero, List.set_cons_succ]
            refine wpAnyI_one (i := 10) rfl (by kernel_rfl) (fun K hK => ?_)
            dsimp only [List.getElem_toArray, List.getElem_cons_succ, List.getElem_cons_zero]
            go_simp
            refine (HRow.out _ kd.out).mono ?_
            rintro e wn ⟨rfl, kn⟩
            have HS := hS19.out _ (kd.out.trans kn)
            have kn' : Hid (Keeps [] wo wn) := Lib.hid (kd.out.trans kn)
            rw [hb.out]
            refine hK _ _ (Or.inr HS) ?_
            clear hK K kn kd
            try simp only [Act.put, List.getElem_toArray, List.getElem_cons_succ, List.getElem_cons_zero, List.setIfInBounds_toArray, List.set_cons_zero, List.set_cons_succ]
            refine wpAnyI_one (i := 11) rfl (by kernel_rfl) (fun K hK => ?_)
            dsimp only [List.getElem_toArray, List.getElem_cons_succ, List.getElem_cons_zero]
            go_simp
            refine hK _ _ (Or.inr HS) ?_
            clear hK K
            try simp only [Act.put, List.getElem_toArray, List.getElem_cons_succ, List.getElem_cons_zero, List.setIfInBounds_toArray, List.set_cons_zero, List.set_cons_succ]
            refine wpAnyI_done (by kernel_rfl) ?_ _
            obtain ⟨x2, x3⟩ := HS
            obtain ⟨x0, x1⟩ := hX0.out _ kn'.out
            have ka : Keeps [] wn (wn.alloc (.cells #[.int .i64 pt, .int .i64 pi, .slice pO pno pco, .slice pN pnn pcn] 35)) := (Keeps.refl [] wn).alloc _
            have hQ8 := Lib.hid ((hQ.out.step kn'.out).step ka)
            have o8 : Hid ((wn.alloc (.cells #[.int .i64 pt, .int .i64 pi, .slice pO pno pco, .slice pN pnn pcn] 35)).ownsRow wq.heap.size 35 4 (.slice A8 ql c8) ql (rows Q)) := Lib.hid (by have := hQ8.out.own; rw [← hql.out] at this; exact this)
            have Bn := Lib.hid (Blk.new wn 35 #[.int .i64 pt, .int .i64 pi, .slice pO pno pco, .slice pN pnn pcn])
            have hsz8 := Lib.hid hQ8.out.kp.size
            have H9 : Hid (∀ (w9 : World) (v9 : Value), Hid ((wn.alloc (.cells #[.int .i64 pt, .int .i64 pi, .slice pO pno pco, .slice pN pnn pcn] 35)).grownBy w9 (Value.slice A8 ql c8).ownBlock) → Hid (w9.ownsRow wq.heap.size 35 4 v9 (ql + 1) (rows Q ++ [.int .i64 pt, .int .i64 pi, .slice pO pno pco, .slice pN pnn pcn])) → Hid (RN wq X v9 ((P.take (k + 1)).filter full) w9) ) := Lib.hid (fun w9 v9 q o => by
              have h1 := RN.snoc (p := ((⟨pt, pi, pO, pno, pco, pN, pnn, pcn⟩, pc) : PQ)) hQ8.out (hpr.out.keep hN.out.kp (by simp)) (by rw [← hql.out]; exact o.out) q.out
              exact Lib.hid (by rw [hQn.out]; exact h1))
            clear hS19
            go_wp2_with (at_builtin; refine wpList_append_row (by rfl) (.tmp 102) (.tmp 107) 28 rfl wq.heap.size 35 i5 (.agg #[.int .i64 0, .int .i64 0, .slice none 0 0, .slice none 0 0]) 4 64 Try.underlying28 hi5.out hy0.out hy1.out hy2.out rfl (by decide) (.slice A8 ql c8) ql (rows Q) rfl o8.out (some ⟨wn.heap.size, 0, none⟩) 1 1 [.int .i64 pt, .int .i64 pi, .slice pO pno pco, .slice pN pnn pcn] rfl rfl (src_raw (r := ⟨pt, pi, pO, pno, pco, pN, pnn, pcn⟩) Bn.out) (by simp [Value.oneCell']) (by have := hqk.out; unfold maxLen; omega) (by have := hqk.out; omega) hsz8.out ?_; intro v9 w9 q1 q2 q3 q4; have hN9 := H9.out w9 v9 q2 q1; clear q1 q2 q3 q4)
            go_roundw
            case rel => exact ⟨k + 1, by omega, by go_num, hN9⟩
            case measure => simp [intOf]; omega
        · obtain rfl : k = m := by omega
          have hkf : ¬ (k : Int) < (k : Int) := by omega
          have hfin : Hid (RNetP w X L (.returned (.slice A8 ql c8)) wo) := Lib.hid (by
            have e1 : Q = P.filter full := by rw [hQe.out, List.take_of_length_le (by rw [← hm.out]; exact Nat.le_refl _)]
            have e2 : Q.map (·.2) = netOut L := by rw [e1, hres.out]
            have hch := hQ.out.chs hql.out.symm (fun x hx => Nat.lt_of_lt_of_le (hXw.out x hx) hN.out.kp.size)
            rw [e2] at hch
            refine ⟨A8, c8, ?_, Lib.hid hch, Lib.hid (hN.out.kp.trans hQ.out.kp)⟩
            rw [← e2, List.length_map, ← hql.out])
          go_wp2_with fail
          go_ret
          exact hfin.out
end Go.Proofs.Ytmclfbhcddcebaa
