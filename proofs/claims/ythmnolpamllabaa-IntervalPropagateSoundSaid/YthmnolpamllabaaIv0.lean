/- Rows of intervals in memory; the contracts of the law's of, to and few. -/
import Derived.Test.YthmnolpamllabaaMem
import Derived.Test.YthmnolpamllabaaIvP
import Derived.Test.YthmnolpamllabaaRows
namespace Go.Proofs.Ythmnolpamllabaa
open Go.RowKit
set_option linter.unusedSimpArgs false
set_option linter.unusedVariables false

/-- The cells of a row of intervals. -/
def flat : List Iv → List Value
  | [] => []
  | p :: ps => .int .i64 p.1 :: .int .i64 p.2 :: flat ps
theorem flat_len : ∀ ps, (flat ps).length = ps.length * 2
  | [] => rfl
  | p :: ps => by
    show (flat ps).length + 1 + 1 = (ps.length + 1) * 2
    rw [flat_len]
    omega
theorem flat_append : ∀ ps qs, flat (ps ++ qs) = flat ps ++ flat qs
  | [], _ => rfl
  | p :: ps, qs => by
    show _ :: _ :: flat (ps ++ qs) = _ :: _ :: (flat ps ++ flat qs)
    rw [flat_append]
theorem flat_get : ∀ (ps : List Iv) (n : Nat) (p : Iv), ps[n]? = some p → (flat ps)[n * 2]? = some (.int .i64 p.1) ∧ (flat ps)[n * 2 + 1]? = some (.int .i64 p.2)
  | [], n, p, h => by cases h
  | x :: ps, 0, p, h => by
    have : x = p := by simpa using h
    subst this
    exact ⟨rfl, rfl⟩
  | x :: ps, n + 1, p, h => by
    have ih := flat_get ps n p (by simpa using h)
    rw [show (n + 1) * 2 = n * 2 + 1 + 1 by omega]
    exact ih

/-- What an owned row says of the cells. -/
theorem own_row {w : World} {base : Nat} {e : TypeId} {size n : Nat} {v : Value} {xs : List Value} (h : w.ownsRow base e size v n xs) (hn : 0 < n) :
    ∃ g c, v = .slice (some ⟨g, 0, none⟩) n c ∧ n ≤ c ∧ c ≤ maxLen ∧ base ≤ g ∧ g < w.heap.size ∧ (∀ j u, xs[j]? = some u → w.cell? ⟨g, j, none⟩ = some u) ∧ ∃ cur, Blk w g e cur := by
  rcases h.2 with ⟨_, h2⟩ | ⟨g, cap, cur, hv, hb, hg, hc, hm, hs, ht⟩
  · omega
  · refine ⟨g, cap, hv, hc, hm, hb, Blk.lt (cs := cur) (t := e) hg, fun j u hj => ?_, cur, hg⟩
    rw [Blk.cell (cs := cur) (t := e) hg]
    rw [← ht, List.getElem?_take] at hj
    split at hj
    · simpa using hj
    · cases hj
theorem own_slice {w : World} {base : Nat} {e : TypeId} {size n : Nat} {v : Value} {xs : List Value} (h : w.ownsRow base e size v n xs) : ∃ A c, v = .slice A n c ∧ n ≤ c ∧ c ≤ maxLen := by
  rcases h.2 with ⟨rfl, rfl⟩ | ⟨g, cap, cur, hv, hb, hg, hc, hm, hs, ht⟩
  · exact ⟨none, 0, rfl, Nat.le_refl _, by simp [maxLen]⟩
  · exact ⟨_, cap, hv, hc, hm⟩
theorem own_keep0 {w w' : World} {base : Nat} {e : TypeId} {size n : Nat} {v : Value} {xs : List Value} (h : w.ownsRow base e size v n xs) (hk : Keeps [] w w') : w'.ownsRow base e size v n xs :=
  own_keep h hk (fun _ _ => by simp)
theorem keeps_append {w wr w1 : World} {e : TypeId} {size n : Nat} {v : Value} {xs : List Value} (hk : Keeps [] w wr) {wo : World} (ho : Keeps [] wr wo) (hown : wr.ownsRow w.heap.size e size v n xs)
    (hg : wo.grownBy w1 v.ownBlock) : Keeps [] w w1 := by
  have h3 : Keeps v.ownBlock.toList wo w1 := Keeps.grown hg (by intro g h; rw [h]; simp)
  refine ((hk.trans ho).nil.trans h3).mono ?_
  intro y hy
  right
  simp only [Option.mem_toList] at hy
  exact (own_blk hown hy).1

/-- Intervals behind an address, below block B. -/
def IvAt (w : World) (B : Nat) (A : Option Addr) (l : List Iv) : Prop :=
  ∀ i x, l[i]? = some x → ∃ g off, A = some ⟨g, off, none⟩ ∧ g < B ∧ w.cell? ⟨g, off + i * 2, none⟩ = some (.int .i64 x.1) ∧ w.cell? ⟨g, off + i * 2 + 1, none⟩ = some (.int .i64 x.2)
theorem IvAt.nil (w : World) (B : Nat) (A : Option Addr) : IvAt w B A [] := fun i x h => by simp at h
theorem IvAt.keep {w w' : World} {B : Nat} {A : Option Addr} {l : List Iv} {X : List Nat} (h : IvAt w B A l) (hk : Keeps X w w') (hX : ∀ x ∈ X, B ≤ x) : IvAt w' B A l := by
  intro i x hi
  obtain ⟨g, off, rfl, hg, h1, h2⟩ := h i x hi
  have hn : g ∉ X := fun hx => by have := hX g hx; omega
  exact ⟨g, off, rfl, hg, hk.cellEq h1 hn, hk.cellEq h2 hn⟩
theorem IvAt.mono {w : World} {B C : Nat} {A : Option Addr} {l : List Iv} (h : IvAt w B A l) (hb : B ≤ C) : IvAt w C A l := fun i x hi => by
  obtain ⟨g, off, rfl, hg, h1, h2⟩ := h i x hi
  exact ⟨g, off, rfl, by omega, h1, h2⟩
theorem IvAt.of_own {w : World} {base : Nat} {e : TypeId} {A : Option Addr} {n c : Nat} {l : List Iv} (h : w.ownsRow base e 2 (.slice A n c) n (flat l)) (hn : l.length = n) : IvAt w w.heap.size A l := by
  intro i x hi
  have hlt : i < l.length := by
    rcases Nat.lt_or_ge i l.length with h1 | h1
    · exact h1
    · rw [List.getElem?_eq_none h1] at hi; cases hi
  obtain ⟨g, c', hv, _, _, _, hgl, hc, _⟩ := own_row h (by omega)
  injection hv with hA _ _
  obtain ⟨h1, h2⟩ := flat_get l i x hi
  refine ⟨g, 0, hA, hgl, ?_, ?_⟩
  · rw [Nat.zero_add]; exact hc _ _ h1
  · rw [Nat.zero_add]; exact hc _ _ h2
/-- Behind one address. -/
theorem IvAt.one {w : World} {B : Nat} {A : Option Addr} {l : List Iv} (h : IvAt w B A l) (h0 : 0 < l.length) : ∃ g off, A = some ⟨g, off, none⟩ ∧ g < B ∧ ∀ i x, l[i]? = some x → w.cell? ⟨g, off + i * 2, none⟩ = some (.int .i64 x.1) ∧ w.cell? ⟨g, off + i * 2 + 1, none⟩ = some (.int .i64 x.2) := by
  obtain ⟨g, off, hA, hg, _, _⟩ := h 0 _ (List.getElem?_eq_getElem h0)
  refine ⟨g, off, hA, hg, fun i x hi => ?_⟩
  obtain ⟨g', off', hA', _, h1, h2⟩ := h i x hi
  rw [hA] at hA'
  injection hA' with hA'
  injection hA' with h3 h4 _
  subst h3 h4
  exact ⟨h1, h2⟩

def In64 (x : Int) : Prop := -9223372036854775808 ≤ x ∧ x ≤ 9223372036854775807
def All64 (l : List Iv) : Prop := ∀ x ∈ l, In64 x.1 ∧ In64 x.2

theorem info38 : (Try.prog.info? 38).map (fun i => (i.zero, i.size, i.bytes)) = some (some (.agg #[.int .i64 0, .int .i64 0]), 2, 16) := by kernel_rfl
theorem info39 : (Try.prog.info? 39).map (fun i => (i.zero, i.size, i.bytes)) = some (some (.agg #[.int .i64 0, .int .i64 0]), 2, 16) := by kernel_rfl

/-- A row is handed back. -/
def RowPost (e : TypeId) (l : List Iv) (w : World) (en : Ending) (w' : World) : Prop :=
  ∃ A c, en = .returned (.slice A l.length c) ∧ w'.ownsRow w.heap.size e 2 (.slice A l.length c) l.length (flat l) ∧ (A = none ↔ l.length = 0) ∧ Keeps [] w w'
theorem RowPost.mk' {e : TypeId} {l : List Iv} {w w' : World} {v : Value} {n : Nat} (hl : l.length = n) (ho : w'.ownsRow w.heap.size e 2 v n (flat l)) (hz : v = .slice none 0 0 ↔ n = 0) (hk : Keeps [] w w') : RowPost e l w (.returned v) w' := by
  obtain ⟨A, c, rfl, h1, h2⟩ := own_slice ho
  subst hl
  refine ⟨A, c, rfl, ho, ?_, hk⟩
  constructor
  · rintro rfl
    rcases Nat.eq_zero_or_pos l.length with h | h
    · exact h
    · obtain ⟨g, c', hv, _⟩ := own_row ho h
      simp at hv
  · intro h
    have := hz.2 h
    simp at this
    exact this.1

set_option maxHeartbeats 1600000 in
theorem of_any (w : World) (B : Nat) (A : Option Addr) (l : List Iv) (n c : Nat) (hl : l.length = n) (hB : B ≤ w.heap.size) (hO : IvAt w B A l) (h60 : n ≤ 1048576) :
    Calls Try.prog 17 #[.slice A n c] w (RowPost 38 l w) := by
  obtain ⟨i0, hi, hz0, hz1, hz2⟩ := info_parts info38
  replace hO := Lib.hid hO
  replace hl := Lib.hid hl
  replace hi := Lib.hid hi
  replace hz0 := Lib.hid hz0
  replace hz1 := Lib.hid hz1
  replace hz2 := Lib.hid hz2
  go_enter Try.func17, Try.ntmps17
  go_wp2_with fail
  go_loopw [3, 8] (fun out i wr => ∃ k : Nat, k ≤ n ∧ i = .int .i64 k ∧ Hid (Keeps [] w wr) ∧ Hid (wr.ownsRow w.heap.size 38 2 out k (flat (l.take k))) ∧ Hid (out = .slice none 0 0 ↔ k = 0)) (fun _ i _ => n - (intOf i).toNat)
  case atStart => exact ⟨0, Nat.zero_le _, rfl, Lib.hid (Keeps.refl _ _), Lib.hid ⟨rfl, .inl ⟨rfl, rfl⟩⟩, Lib.hid (by simp)⟩
  case round =>
    obtain ⟨k, hk, rfl, hkw, hown, hnil⟩ := hrel
    by_cases hlt : k < n
    · have hkl : k < l.length := by rw [hl.out]; exact hlt
      obtain ⟨⟨x1, x2⟩, hx⟩ : ∃ x, l[k]? = some x := ⟨l[k], List.getElem?_eq_getElem hkl⟩
      obtain ⟨g, off, rfl, hg, c1, c2⟩ := hO.out.keep hkw.out (by simp) k _ hx
      have hbs := hkw.out.size
      replace hx := Lib.hid hx
      dsimp only at c1 c2
      go_wp2_with (at_builtin; refine wpList_append_own _ rfl (.tmp 12) (.tmp 18) 23 rfl w.heap.size 38 i0 (.agg #[.int .i64 0, .int .i64 0]) 2 16 Try.underlying23 hi.out hz0.out hz1.out hz2.out rfl (by decide) u3 k (flat (l.take k)) rfl (own_keep0 hown.out (((Keeps.refl [] wr).alloc (.cells #[.int .i64 x1, .int .i64 x2] 39)).alloc (.cells #[.int .i64 x1, .int .i64 x2] 38))) ⟨wr.heap.size + 1, 0, none⟩ 1 1 [.int .i64 x1, .int .i64 x2] rfl rfl (World.news_of_block (cs := #[.int .i64 x1, .int .i64 x2]) (t := 38) (fr := (0, 0)) (by have := heap_alloc_new (wr.alloc (.cells #[.int .i64 x1, .int .i64 x2] 39)) (.cells #[.int .i64 x1, .int .i64 x2] 38); simpa using this)) (by simp [Value.oneCell']) (by unfold maxLen; omega) (by omega) (by simp; omega) ?_; intro v' w1 ho1 hg1 hn1; replace ho1 := Lib.hid ho1; replace hg1 := Lib.hid hg1; replace hn1 := Lib.hid hn1)
      go_roundw
      case rel =>
        refine ⟨k + 1, by omega, by go_num, Lib.hid (keeps_append hkw.out (((Keeps.refl [] wr).alloc _).alloc _) hown.out hg1.out), Lib.hid ?_, Lib.hid ?_⟩
        · rw [List.take_add_one, hx.out, flat_append]; exact ho1.out
        · have := hn1.out; simp at this ⊢; exact this
      case measure => simp [intOf]; omega
    · obtain rfl : k = n := by omega
      have h1 := hown.out
      rw [List.take_of_length_le (by rw [hl.out]; exact Nat.le_refl _)] at h1
      have h2 := Lib.hid (RowPost.mk' hl.out h1 hnil.out hkw.out)
      clear h1
      go_wp2_with fail
      go_ret
      exact h2.out

set_option maxHeartbeats 1600000 in
theorem to_any (w : World) (B : Nat) (A : Option Addr) (l : List Iv) (n c : Nat) (hl : l.length = n) (hB : B ≤ w.heap.size) (hO : IvAt w B A l) (h60 : n ≤ 1048576) :
    Calls Try.prog 14 #[.slice A n c] w (RowPost 39 l w) := by
  obtain ⟨i0, hi, hz0, hz1, hz2⟩ := info_parts info39
  replace hO := Lib.hid hO
  replace hl := Lib.hid hl
  replace hi := Lib.hid hi
  replace hz0 := Lib.hid hz0
  replace hz1 := Lib.hid hz1
  replace hz2 := Lib.hid hz2
  go_enter Try.func14, Try.ntmps14
  go_wp2_with fail
  go_loopw [3, 8] (fun out i wr => ∃ k : Nat, k ≤ n ∧ i = .int .i64 k ∧ Hid (Keeps [] w wr) ∧ Hid (wr.ownsRow w.heap.size 39 2 out k (flat (l.take k))) ∧ Hid (out = .slice none 0 0 ↔ k = 0)) (fun _ i _ => n - (intOf i).toNat)
  case atStart => exact ⟨0, Nat.zero_le _, rfl, Lib.hid (Keeps.refl _ _), Lib.hid ⟨rfl, .inl ⟨rfl, rfl⟩⟩, Lib.hid (by simp)⟩
  case round =>
    obtain ⟨k, hk, rfl, hkw, hown, hnil⟩ := hrel
    by_cases hlt : k < n
    · have hkl : k < l.length := by rw [hl.out]; exact hlt
      obtain ⟨⟨x1, x2⟩, hx⟩ : ∃ x, l[k]? = some x := ⟨l[k], List.getElem?_eq_getElem hkl⟩
      obtain ⟨g, off, rfl, hg, c1, c2⟩ := hO.out.keep hkw.out (by simp) k _ hx
      have hbs := hkw.out.size
      replace hx := Lib.hid hx
      dsimp only at c1 c2
      go_wp2_with (at_builtin; refine wpList_append_own _ rfl (.tmp 12) (.tmp 18) 28 rfl w.heap.size 39 i0 (.agg #[.int .i64 0, .int .i64 0]) 2 16 Try.underlying28 hi.out hz0.out hz1.out hz2.out rfl (by decide) u3 k (flat (l.take k)) rfl (own_keep0 hown.out (((Keeps.refl [] wr).alloc (.cells #[.int .i64 x1, .int .i64 x2] 38)).alloc (.cells #[.int .i64 x1, .int .i64 x2] 39))) ⟨wr.heap.size + 1, 0, none⟩ 1 1 [.int .i64 x1, .int .i64 x2] rfl rfl (World.news_of_block (cs := #[.int .i64 x1, .int .i64 x2]) (t := 39) (fr := (0, 0)) (by have := heap_alloc_new (wr.alloc (.cells #[.int .i64 x1, .int .i64 x2] 38)) (.cells #[.int .i64 x1, .int .i64 x2] 39); simpa using this)) (by simp [Value.oneCell']) (by unfold maxLen; omega) (by omega) (by simp; omega) ?_; intro v' w1 ho1 hg1 hn1; replace ho1 := Lib.hid ho1; replace hg1 := Lib.hid hg1; replace hn1 := Lib.hid hn1)
      go_roundw
      case rel =>
        refine ⟨k + 1, by omega, by go_num, Lib.hid (keeps_append hkw.out (((Keeps.refl [] wr).alloc _).alloc _) hown.out hg1.out), Lib.hid ?_, Lib.hid ?_⟩
        · rw [List.take_add_one, hx.out, flat_append]; exact ho1.out
        · have := hn1.out; simp at this ⊢; exact this
      case measure => simp [intOf]; omega
    · obtain rfl : k = n := by omega
      have h1 := hown.out
      rw [List.take_of_length_le (by rw [hl.out]; exact Nat.le_refl _)] at h1
      have h2 := Lib.hid (RowPost.mk' hl.out h1 hnil.out hkw.out)
      clear h1
      go_wp2_with fail
      go_ret
      exact h2.out
end Go.Proofs.Ythmnolpamllabaa
