/- One record more, on the program's log and on the reference's: what both do. -/
import Derived.Test.YtnoaahgjfknnlaaWal11
import Derived.Test.YtnoaahgjfknnlaaReg2
namespace Go.Proofs.Ytnoaahgjfknnlaa
open Go.RowKit
set_option linter.unusedSimpArgs false
set_option linter.unusedVariables false

theorem OutAt.keepX {base : Nat} {w w' : World} {v : Value} {rs : List (List UInt8)} {X : List Nat} (h : OutAt base w v rs) (hk : Keeps X w w') (hX : ∀ x ∈ X, x < base) : OutAt base w' v rs := by
  obtain ⟨vs, h1, h2⟩ := h
  refine ⟨vs, own_keep h1 hk (fun g hg hx => by have := (own_blk h1 hg).1; have := hX g hx; omega), fun j r hj => ?_⟩
  obtain ⟨B, c, e, hl, hm, hb, hx⟩ := h2 j r hj
  refine ⟨B, c, e, hl, hm, hb.keep hk (fun a ha hxx => by have := (hx a ha).1; have := hX _ hxx; omega), fun a ha => ?_⟩
  obtain ⟨h3, cur, h4⟩ := hx a ha
  exact ⟨h3, cur, h4.keep hk (fun hxx => by have := hX _ hxx; omega)⟩

theorem wpList_append_own2 {P : Program} {w : World} {ops : Array Oper} {rest : List Oper} {o : Oper} {a : Act} {Q : Exit → Act → World → Prop} (hgd : Region.wanted o (yielded ops a.tmps) = true) (s x : Operand) (t : TypeId)
    (ho : o.op = .call { callee := .builtin .append, args := #[s, x], argTypes := #[t, t] })
    (base : Nat) (e : TypeId) (i : TypeInfo) (z : Value) (size bytes : Nat) (ht : P.underlying t = some (.slice e)) (hi : P.info? e = some i) (hz : i.zero = some z)
    (hsize : i.size = size) (hby : i.bytes = bytes) (hzs : z.cells.size = size) (hsz : 0 < size)
    (v : Value) (n : Nat) (xs : List Value) (hs : a.eval s = v) (hown : w.ownsRow base e size v n xs)
    (ad : Addr) (m c : Nat) (news : List Value) (hx : a.eval x = .slice (some ad) m c) (hl : news.length = m * size) (hnews : ∀ j u, news[j]? = some u → w.cell? (ad.add j) = some u) (h1 : ∀ u ∈ news, u.oneCell' = true)
    (h63 : n + m ≤ maxLen) (hbytes : (n + m) * bytes ≤ 140737488355328) (hbase : base ≤ w.heap.size)
    (h : ∀ v' w', w'.ownsRow base e size v' (n + m) (xs ++ news) → w.grownBy w' v.ownBlock → (v' = .slice none 0 0 ↔ v = .slice none 0 0 ∧ m = 0) → wpList P ops Q rest (a.put o.dst v') w') : wpList P ops Q (o :: rest) a w :=
  wpList_wanted hgd fun _ hK => wp_append_own w s x t ho base e i z size bytes ht hi hz hsize hby hzs hsz v n xs hs hown ad m c news hx hl hnews h1 h63 hbytes hbase fun v' w' h2 h3 h4 => hK _ _ (h v' w' h2 h3 h4)

theorem keep_grown2 {X : List Nat} {w w1 w2 : World} {base : Nat} {e : TypeId} {size n : Nat} {v : Value} {xs : List Value} (hown : w1.ownsRow base e size v n xs) (k : Keeps X w w1) (hb : w.heap.size ≤ base) (hg : w1.grownBy w2 v.ownBlock) : Keeps X w w2 := by
  have h1 : Keeps (X ++ v.ownBlock.toList) w w1 := k.mono (fun x hx => .inl (by simp [hx]))
  have h2 : Keeps (X ++ v.ownBlock.toList) w1 w2 := (Keeps.grown (X := v.ownBlock.toList) hg (by intro g h; rw [h]; simp)).mono (fun x hx => .inl (List.mem_append_right _ hx))
  refine (h1.trans h2).mono ?_
  intro x hx
  rcases List.mem_append.1 hx with hx | hx
  · exact .inl hx
  · simp only [Option.mem_toList] at hx
    exact .inr (Nat.le_trans hb (own_blk hown hx).1)

/-- A run of appends so far: the disk stands, the records rs lie in the log; c0 bounds the writes before. -/
structure Run (c0 : Nat) (n fi co ep : Nat) (s : St) (rs : List (List UInt8)) (k : Nat) : Prop where
  down : s.down = false
  sz : s.n = n
  len : s.mem.length = 64 * n
  laid : Laid (sec s) fi co ep (encs rs)
  w0 : 0 ≤ s.writes
  w1 : s.writes ≤ c0 + 9 * k
  few : rs.length ≤ k
  small : ∀ x ∈ rs, x.length ≤ 400

theorem wrs_writes (ep : Nat) : ∀ (f : Nat) (s : St) (i : Nat) (d : List UInt8), 0 ≤ s.writes → 0 ≤ (wrs s i ep f d).1.writes ∧ (wrs s i ep f d).1.writes ≤ s.writes + f
  | 0, s, i, d, h => ⟨h, by show s.writes ≤ s.writes + (0 : Nat); omega⟩
  | f + 1, s, i, d, h => by
    by_cases hd : d = []
    · subst hd
      rw [wrs_nil]
      exact ⟨h, by show s.writes ≤ s.writes + ((f + 1 : Nat) : Int); omega⟩
    · have h1 := wr_writes s i (pack (d.take 59) ep) h
      by_cases h0 : (wr s i (pack (d.take 59) ep)).2 = 0
      · rw [wrs_ok hd h0]
        have := wrs_writes ep f (wr s i (pack (d.take 59) ep)).1 (i + 1) (d.drop 59) h1.1
        omega
      · rw [wrs_bad hd h0]
        omega

theorem LMod.five {w : World} {bq bm fi co ep rc : Nat} {L : List UInt8} {x : Option Nat} (h : LMod w bq bm fi co ep L rc x) : (∃ c1, Blk w bq 56 c1) ∧ ∀ g, x = some g → ∃ cur, Blk w g 5 cur := by
  obtain ⟨sv, b1, b2, b3⟩ := h.ex
  exact ⟨⟨_, b1⟩, fun g hg => (own_blk b2 (b3.trans hg)).2⟩

/-- One record more. -/
def Step (c0 n fi co ep : Nat) (s : St) (dn : List (List UInt8)) (rc k : Nat) (r : List UInt8) (f : Int) (s2 : St) (dn2 : List (List UInt8)) (rc2 : Nat) : Prop :=
  (f = 0 ∧ dn2 = dn ++ [r] ∧ rc2 = rc + 1 ∧ Run c0 n fi co ep s2 dn2 (k + 1) ∧ (s.left = 0 → s2.left = 0)) ∨
  (f = 16 ∧ dn2 = dn ∧ rc2 = rc ∧ s2 = s ∧ Run c0 n fi co ep s2 dn2 (k + 1)) ∨
  (f = 15 ∧ s.left ≠ 0 ∧ s2.n = n ∧ s2.mem.length = 64 * n ∧ 0 ≤ s2.writes ∧ s2.writes ≤ c0 + 9 * k + 500)

/-- Append of the program does that. -/
def LDoes (fi co ep : Nat) (s : St) (dn : List (List UInt8)) (rc : Nat) (r : List UInt8) (rl : Nat) (f : Int) (s2 : St) (dn2 : List (List UInt8)) (rc2 : Nat) : Prop :=
  ∀ (Z : List Nat) (w : World) (bl bd bs : Nat) (Ar : Option Addr) (c : Nat), DRep w bd bs s → LRep Z w bl bd fi co ep (encs dn) rc → Bts w Ar r → rl ≤ c → (∀ z ∈ Z, z < w.heap.size) →
    Calls Try.prog 17 #[.pointer (some ⟨bl, 0, none⟩), .slice Ar rl c] w fun e w' => e = .returned (.int .i64 f) ∧ DRep w' bd bs s2 ∧ (f ≠ 15 → LRep Z w' bl bd fi co ep (encs dn2) rc2) ∧ Keeps [bl, bd, bs] w w'
/-- Append of the reference does that. -/
def MDoes (fi co ep : Nat) (s : St) (dn : List (List UInt8)) (rc : Nat) (r : List UInt8) (rl : Nat) (f : Int) (s2 : St) (dn2 : List (List UInt8)) (rc2 : Nat) : Prop :=
  ∀ (w : World) (bq bm bS : Nat) (x : Option Nat) (Ar : Option Addr) (c : Nat), MRep x.toList w bm bS s → LMod w bq bm fi co ep (encs dn) rc x → Bts w Ar r → rl ≤ c → c ≤ maxLen → (r ≠ [] → ∀ a, Ar = some a → a.block ∉ x.toList ∧ a.block ≠ bq) →
    Calls Try.prog 31 #[.pointer (some ⟨bq, 0, none⟩), .slice Ar rl c] w fun e w' => e = .returned (.int .i64 f) ∧ ∃ x', (x' = x ∨ ∃ g, x' = some g ∧ w.heap.size ≤ g) ∧ (∀ z ∈ x'.toList, z < w'.heap.size) ∧ MRep x'.toList w' bm bS s2 ∧ (f ≠ 15 → LMod w' bq bm fi co ep (encs dn2) rc2 x') ∧ Keeps (bq :: bm :: bS :: x.toList) w w'

theorem step_ex {c0 n fi co ep : Nat} {s : St} {dn : List (List UInt8)} {rc k : Nat} {r : List UInt8} {rl : Nat} (hst : Run c0 n fi co ep s dn k) (hrl : r.length = rl) (hr4 : rl ≤ 400) (hok : fi + co ≤ n) (hn : n ≤ 12) (hc0 : c0 ≤ 100000) (hk : k ≤ 100) (hrc : rc ≤ k) :
    ∃ f s2 dn2 rc2, Step c0 n fi co ep s dn rc k r f s2 dn2 rc2 ∧ LDoes fi co ep s dn rc r rl f s2 dn2 rc2 ∧ MDoes fi co ep s dn rc r rl f s2 dn2 rc2 := by
  have hw0 := hst.w0
  have hw1 := hst.w1
  have hrun2 : Run c0 n fi co ep s dn (k + 1) := ⟨hst.down, hst.sz, hst.len, hst.laid, hst.w0, by have := hst.w1; omega, by have := hst.few; omega, hst.small⟩
  by_cases hfull : freeOf (59 * (co : Int) - ((encs dn).length : Int)) < (rl : Int)
  · refine ⟨16, s, dn, rc, .inr (.inl ⟨rfl, rfl, rfl, rfl, hrun2⟩), ?_, ?_⟩
    · intro Z w bl bd bs Ar c hD hL hB hc hZ
      refine (app_full Z w bl bd fi co ep rc (encs dn) r Ar rl c hL hrl hfull).mono ?_
      rintro e w' ⟨rfl, k1⟩
      exact ⟨rfl, hD.keep k1 (by simp) (by simp), fun _ => hL.keep k1 (by simp) (by simp), k1.nil⟩
    · intro w bq bm bS x Ar c hM hL hB hc hcm hA
      refine (rapp_full w bq bm fi co ep rc (encs dn) r x Ar rl c hL hrl hfull).mono ?_
      rintro e w' ⟨rfl, k1⟩
      exact ⟨rfl, x, .inl rfl, (fun z hz => by obtain ⟨cur, hc⟩ := hL.five.2 z (by simpa using hz); exact Nat.lt_of_lt_of_le hc.lt k1.size), hM.keep k1 (by simp) (by simp) (by simp), fun _ => hL.keep k1 (by simp) (by simp), k1.nil⟩
  · have hfull2 : (rl : Int) ≤ freeOf (59 * (co : Int) - ((encs dn).length : Int)) := by omega
    have hfr2 : rl + 4 + (encs dn).length ≤ 59 * co := by unfold freeOf at hfull2; omega
    have hDlen : ((encs dn).drop (59 * ((encs dn).length / 59)) ++ enc r).length = (encs dn).length - 59 * ((encs dn).length / 59) + (rl + 4) := by rw [List.length_append, List.length_drop, enc_len, hrl]
    have hlen' : s.mem.length = 64 * s.n := by rw [hst.sz]; exact hst.len
    have hfit5 : 59 * (fi + (encs dn).length / 59) + ((encs dn).drop (59 * ((encs dn).length / 59)) ++ enc r).length ≤ 59 * s.n := by rw [hst.sz, hDlen]; omega
    have hRun := wrs_armed ep _ s (fi + (encs dn).length / 59) ((encs dn).drop (59 * ((encs dn).length / 59)) ++ enc r) hst.down hlen' (Nat.le_refl _) hfit5
    have hG := fun hl => wrs_good ep _ s (fi + (encs dn).length / 59) ((encs dn).drop (59 * ((encs dn).length / 59)) ++ enc r) hst.down hl hlen' (Nat.le_refl _) hfit5
    have hWW := wrs_writes ep ((encs dn).drop (59 * ((encs dn).length / 59)) ++ enc r).length s (fi + (encs dn).length / 59) ((encs dn).drop (59 * ((encs dn).length / 59)) ++ enc r) hw0
    have HA := fun (Z : List Nat) (w : World) (bl bd bs : Nat) (Ar : Option Addr) (c : Nat) hD hL hB hc hZ => app_any Z w bl bd bs fi co ep rc s (encs dn) r Ar rl c hD hL hrl hc hB hfull2 hw0 (by omega) hZ (by omega)
    have HM := fun (w : World) (bq bm bS : Nat) (x : Option Nat) (Ar : Option Addr) (c : Nat) hM hL hB hc hcm hA => rapp_any w bq bm bS fi co ep rc s (encs dn) r x Ar rl c hM hL hrl hc hcm hB hA hfull2 hw0 (by omega) (by omega)
    generalize wrs s (fi + (encs dn).length / 59) ep ((encs dn).drop (59 * ((encs dn).length / 59)) ++ enc r).length ((encs dn).drop (59 * ((encs dn).length / 59)) ++ enc r) = q at *
    rw [hDlen] at hWW
    rcases hRun with hF | hT
    · refine ⟨0, q.1, dn ++ [r], rc + 1, .inl ⟨rfl, rfl, rfl, ?_, fun hl => (hG hl).left⟩, ?_, ?_⟩
      · have hw2 := hF.w1
        have hw3 := hF.w0
        rw [hDlen] at hw2
        refine ⟨hF.down, hF.n.trans hst.sz, by rw [hF.len, hst.sz], ?_, by omega, by omega, by rw [List.length_append, List.length_singleton]; have := hst.few; omega, ?_⟩
        · rw [encs_snoc]
          exact laid_append hst.laid hF.at_ hF.off
        · intro x hx
          rcases List.mem_append.1 hx with hx | hx
          · exact hst.small x hx
          · simp at hx; subst hx; omega
      · intro Z w bl bd bs Ar c hD hL hB hc hZ
        refine (HA Z w bl bd bs Ar c hD hL hB hc hZ).mono ?_
        rintro e w' ⟨rfl, h1, h2, h3⟩
        rw [hF.ok, if_pos rfl] at h2
        exact ⟨by rw [hF.ok], h1, fun _ => by rw [encs_snoc]; exact h2, h3⟩
      · intro w bq bm bS x Ar c hM hL hB hc hcm hA
        refine (HM w bq bm bS x Ar c hM hL hB hc hcm hA).mono ?_
        rintro e w' ⟨rfl, x', h1, h0, h2, h3, h4⟩
        exact ⟨by rw [hF.ok], x', h1, h0, h2, fun _ => by rw [encs_snoc]; exact h3 hF.ok, h4⟩
    · refine ⟨15, q.1, dn, rc, .inr (.inr ⟨rfl, ?_, hT.n.trans hst.sz, by rw [hT.len, hst.sz], hWW.1, by omega⟩), ?_, ?_⟩
      · intro hl
        have h1 := (hG hl).ok
        have h2 := hT.err
        omega
      · intro Z w bl bd bs Ar c hD hL hB hc hZ
        refine (HA Z w bl bd bs Ar c hD hL hB hc hZ).mono ?_
        rintro e w' ⟨rfl, h1, h2, h3⟩
        exact ⟨by rw [hT.err], h1, fun h => absurd rfl h, h3⟩
      · intro w bq bm bS x Ar c hM hL hB hc hcm hA
        refine (HM w bq bm bS x Ar c hM hL hB hc hcm hA).mono ?_
        rintro e w' ⟨rfl, x', h1, h0, h2, h3, h4⟩
        exact ⟨by rw [hT.err], x', h1, h0, h2, fun h => absurd rfl h, h4⟩

/-- The program's log, while the stream's row of the reference turns from x to x'. -/
theorem LRep.turn {w w' : World} {bl bd bm bS bq fi co ep rc : Nat} {L : List UInt8} {x x' : Option Nat} (h : LRep x.toList w bl bd fi co ep L rc) (hk : Keeps (bq :: bm :: bS :: x.toList) w w') {c1 c2 c3 : Array Value} (hq : Blk w bq 56 c1) (hm : Blk w bm 77 c2) (hS : Blk w bS 34 c3)
    (hx5 : ∀ g, x = some g → ∃ cur, Blk w g 5 cur) (hx : x' = x ∨ ∃ g, x' = some g ∧ w.heap.size ≤ g) : LRep x'.toList w' bl bd fi co ep L rc := by
  obtain ⟨_, _, hb, _⟩ := h.ex
  have n1 : bl ∉ bq :: bm :: bS :: x.toList := by
    intro hmm
    simp only [List.mem_cons] at hmm
    rcases hmm with rfl | rfl | rfl | hmm
    · exact hb.ne_ hq (by decide) rfl
    · exact hb.ne_ hm (by decide) rfl
    · exact hb.ne_ hS (by decide) rfl
    · obtain ⟨cur, hc⟩ := hx5 bl (by simpa using hmm)
      exact hb.ne_ hc (by decide) rfl
  have key : ∀ (g : Nat) (cur : Array Value), Blk w g 5 cur → g ∉ x.toList → g ∉ bq :: bm :: bS :: x.toList := by
    intro g cur hg hgx hmm
    simp only [List.mem_cons] at hmm
    rcases hmm with rfl | rfl | rfl | hmm
    · exact hg.ne_ hq (by decide) rfl
    · exact hg.ne_ hm (by decide) rfl
    · exact hg.ne_ hS (by decide) rfl
    · exact hgx hmm
  rcases hx with rfl | ⟨g, rfl, hg⟩
  · exact h.keep hk n1 key
  · exact ((h.more hg).keep hk n1 (fun g' cur hg' hgz => key g' cur hg' (fun hx => hgz (List.mem_cons_of_mem _ hx)))).less (by simp)

theorem MRep.blks {Z : List Nat} {w : World} {bm bS : Nat} {s : St} (h : MRep Z w bm bS s) : (∃ c, Blk w bm 77 c) ∧ ∃ c, Blk w bS 34 c := by
  obtain ⟨cap, cells, a1, a2, _⟩ := h.ex
  exact ⟨⟨_, a1⟩, _, a2⟩

theorem DoneAt.apart {base B : Nat} {w : World} {v : Value} {rs : List (List UInt8)} {X : List Nat} (h : DoneAt base B w v rs) (hX : ∀ y ∈ X, y < base ∨ ∃ cur, Blk w y 5 cur) : ∀ g, v.ownBlock = some g → g ∉ X := by
  intro g hg hx
  obtain ⟨vs, h1, _⟩ := h
  obtain ⟨h2, cur, hc⟩ := own_blk h1 hg
  rcases hX g hx with h3 | ⟨cur2, h3⟩
  · omega
  · exact h3.ne_ hc (by decide) rfl

/-- What the reference's Append leaves of the program's disk and log. -/
theorem pair_m {w w' : World} {bl bd bs bq bm bS fi co ep rc rc' : Nat} {s s' : St} {L L' : List UInt8} {x x' : Option Nat} (hd : DRep w bd bs s) (hl : LRep x.toList w bl bd fi co ep L rc) (hm : MRep x.toList w bm bS s') (hq : LMod w bq bm fi co ep L' rc' x)
    (hk : Keeps (bq :: bm :: bS :: x.toList) w w') (hx : x' = x ∨ ∃ g, x' = some g ∧ w.heap.size ≤ g) : DRep w' bd bs s ∧ LRep x'.toList w' bl bd fi co ep L rc := by
  obtain ⟨⟨c1, hq1⟩, hx5⟩ := hq.five
  obtain ⟨⟨c2, hm1⟩, c3, hS1⟩ := hm.blks
  refine ⟨hd.keep hk ?_ ?_, hl.turn hk hq1 hm1 hS1 hx5 hx⟩
  · intro hmm
    simp only [List.mem_cons] at hmm
    rcases hmm with rfl | rfl | rfl | hmm
    · exact hd.d.ne_ hq1 (by decide) rfl
    · exact hd.d.ne_ hm1 (by decide) rfl
    · exact hd.d.ne_ hS1 (by decide) rfl
    · obtain ⟨cur, hc⟩ := hx5 bd (by simpa using hmm)
      exact hd.d.ne_ hc (by decide) rfl
  · intro hmm
    simp only [List.mem_cons] at hmm
    rcases hmm with rfl | rfl | rfl | hmm
    · exact hd.m.ne_ hq1 (by decide) rfl
    · exact hd.m.ne_ hm1 (by decide) rfl
    · exact hd.m.ne_ hS1 (by decide) rfl
    · obtain ⟨cur, hc⟩ := hx5 bs (by simpa using hmm)
      exact hd.m.ne_ hc (by decide) rfl

/-- What the program's Append leaves of the reference's disk. -/
theorem pair_l1 {w w' : World} {bl bd bs bm bS : Nat} {s s' : St} {c0 : Array Value} {Z : List Nat} (hd : DRep w bd bs s) (hl : Blk w bl 67 c0) (hm : MRep Z w bm bS s') (hk : Keeps [bl, bd, bs] w w') : MRep Z w' bm bS s' := by
  obtain ⟨⟨c2, hm1⟩, c3, hS1⟩ := hm.blks
  refine hm.keep hk ?_ ?_ ?_
  · simp
    exact ⟨hm1.ne_ hl (by decide), hm1.ne_ hd.d (by decide), hm1.ne_ hd.m (by decide)⟩
  · simp
    exact ⟨hS1.ne_ hl (by decide), hS1.ne_ hd.d (by decide), hS1.ne_ hd.m (by decide)⟩
  · intro g cur hg _
    simp
    exact ⟨hg.ne_ hl (by decide), hg.ne_ hd.d (by decide), hg.ne_ hd.m (by decide)⟩
/-- .. and of the reference's log. -/
theorem pair_l2 {w w' : World} {bl bd bs bq bm fi co ep rc : Nat} {s : St} {c0 : Array Value} {L : List UInt8} {x : Option Nat} (hd : DRep w bd bs s) (hl : Blk w bl 67 c0) (hq : LMod w bq bm fi co ep L rc x) (hk : Keeps [bl, bd, bs] w w') : LMod w' bq bm fi co ep L rc x := by
  obtain ⟨⟨c1, hq1⟩, hx5⟩ := hq.five
  refine hq.keep hk ?_ ?_
  · simp
    exact ⟨hq1.ne_ hl (by decide), hq1.ne_ hd.d (by decide), hq1.ne_ hd.m (by decide)⟩
  · intro g hg
    obtain ⟨cur, hc⟩ := hx5 g hg
    simp
    exact ⟨hc.ne_ hl (by decide), hc.ne_ hd.d (by decide), hc.ne_ hd.m (by decide)⟩
end Go.Proofs.Ytnoaahgjfknnlaa
