/- Copies of rows and of changes; Inverse. -/
import Derived.Test.YtmclfbhcddcebaaU0
import Derived.Test.YtmclfbhcddcebaaRow
import Derived.Test.YtmclfbhcddcebaaReg3
import Derived.Test.YtmclfbhcddcebaaReg4
namespace Go.Proofs.Ytmclfbhcddcebaa
open Go.RowKit
set_option linter.unusedSimpArgs false
set_option linter.unusedVariables false

/-- The cells of a row of values. -/
def flatV : List Val → List Value
  | [] => []
  | v :: r => .int .i64 v.k :: .int .i64 v.n :: .string v.s :: flatV r
theorem flatV_len : ∀ l, (flatV l).length = l.length * 3
  | [] => rfl
  | v :: r => by
    show (flatV r).length + 1 + 1 + 1 = (r.length + 1) * 3
    rw [flatV_len]
    omega
theorem flatV_get : ∀ (l : List Val) (i : Nat) (v : Val), l[i]? = some v → (flatV l)[i * 3]? = some (.int .i64 v.k) ∧ (flatV l)[i * 3 + 1]? = some (.int .i64 v.n) ∧ (flatV l)[i * 3 + 2]? = some (.string v.s)
  | [], i, v, h => by cases h
  | x :: r, 0, v, h => by
    obtain rfl : x = v := by simpa using h
    exact ⟨rfl, rfl, rfl⟩
  | x :: r, i + 1, v, h => by
    have ih := flatV_get r i v (by simpa using h)
    rw [show (i + 1) * 3 = i * 3 + 1 + 1 + 1 by omega]
    exact ih
theorem flatV_one : ∀ (l : List Val), ∀ u ∈ flatV l, u.oneCell' = true
  | [], u, h => by cases h
  | v :: r, u, h => by
    simp only [flatV, List.mem_cons] at h
    rcases h with rfl | rfl | rfl | h
    · rfl
    · rfl
    · rfl
    · exact flatV_one r u h
theorem flatV_inv (l : List Val) (j : Nat) (u : Value) (h : (flatV l)[j]? = some u) : ∃ i v, l[i]? = some v ∧ ((j = i * 3 ∧ u = .int .i64 v.k) ∨ (j = i * 3 + 1 ∧ u = .int .i64 v.n) ∨ (j = i * 3 + 2 ∧ u = .string v.s)) := by
  have hj : j < l.length * 3 := by rw [← flatV_len]; exact (List.getElem?_eq_some_iff.1 h).1
  obtain ⟨v, hv⟩ : ∃ v, l[j / 3]? = some v := ⟨l[j / 3]'(by omega), List.getElem?_eq_getElem _⟩
  obtain ⟨h0, h1, h2⟩ := flatV_get l _ v hv
  refine ⟨j / 3, v, hv, ?_⟩
  have hm : j = j / 3 * 3 ∨ j = j / 3 * 3 + 1 ∨ j = j / 3 * 3 + 2 := by omega
  rcases hm with hm | hm | hm
  · rw [← hm] at h0
    rw [h0] at h
    cases h
    exact .inl ⟨hm, rfl⟩
  · rw [← hm] at h1
    rw [h1] at h
    cases h
    exact .inr (.inl ⟨hm, rfl⟩)
  · rw [← hm] at h2
    rw [h2] at h
    cases h
    exact .inr (.inr ⟨hm, rfl⟩)
theorem info41 : (Try.prog.info? 41).map (fun i => (i.zero, i.size, i.bytes)) = some (some (.agg #[.int .i64 0, .int .i64 0, .string ⟨#[]⟩]), 3, 32) := by kernel_rfl
theorem src_row {w : World} {X : List Nat} {A : Option Addr} {l : List Val} (h : RowAt w X A l) : SrcAt w A l.length (flatV l) := by
  cases l with
  | nil => exact .inl rfl
  | cons x r =>
    obtain ⟨g, off, rfl, _⟩ := h 0 x rfl
    refine .inr ⟨g, off, rfl, fun j u hj => ?_⟩
    obtain ⟨i, v, hv, hc⟩ := flatV_inv _ j u hj
    obtain ⟨g', off', he, _, c0, c1, c2⟩ := h i v hv
    simp only [Option.some.injEq, Addr.mk.injEq] at he
    obtain ⟨rfl, rfl, _⟩ := he
    rcases hc with ⟨rfl, rfl⟩ | ⟨rfl, rfl⟩ | ⟨rfl, rfl⟩
    · exact c0
    · rw [← Nat.add_assoc]; exact c1
    · rw [← Nat.add_assoc]; exact c2
theorem own_row3 {w : World} {base : Nat} {e : TypeId} {size n : Nat} {v : Value} {xs : List Value} (h : w.ownsRow base e size v n xs) (hn : 0 < n) :
    ∃ g c, v = .slice (some ⟨g, 0, none⟩) n c ∧ n ≤ c ∧ c ≤ maxLen ∧ base ≤ g ∧ g < w.heap.size ∧ (∀ j u, xs[j]? = some u → w.cell? ⟨g, j, none⟩ = some u) ∧ ∃ cur, Blk w g e cur := by
  rcases h.2 with ⟨_, h2⟩ | ⟨g, cap, cur, hv, hb, hg, hc, hm, hs, ht⟩
  · omega
  · refine ⟨g, cap, hv, hc, hm, hb, Blk.lt (cs := cur) (t := e) hg, fun j u hj => ?_, cur, hg⟩
    rw [Blk.cell (cs := cur) (t := e) hg]
    rw [← ht, List.getElem?_take] at hj
    split at hj
    · simpa using hj
    · cases hj
theorem own_slice {w : World} {base : Nat} {e : TypeId} {size n : Nat} {v : Value} {xs : List Value} (h : w.ownsRow base e size v n xs) : ∃ A c, v = .slice A n c ∧ n ≤ c ∧ c ≤ maxLen := by
  rcases h.2 with ⟨rfl, rfl⟩ | ⟨g, cap, cur, hv, hb, hg, hc, hm, hs, ht⟩
  · exact ⟨none, 0, rfl, Nat.le_refl _, by simp [maxLen]⟩
  · exact ⟨_, cap, hv, hc, hm⟩
theorem own_keep0 {w w' : World} {base : Nat} {e : TypeId} {size n : Nat} {v : Value} {xs : List Value} (h : w.ownsRow base e size v n xs) (hk : Keeps [] w w') : w'.ownsRow base e size v n xs :=
  own_keep h hk (fun _ _ => by simp)
theorem keeps_append {w wr w1 : World} {e : TypeId} {size n : Nat} {v : Value} {xs : List Value} (hk : Keeps [] w wr) {wo : World} (ho : Keeps [] wr wo) (hown : wr.ownsRow w.heap.size e size v n xs)
    (hg : wo.grownBy w1 v.ownBlock) : Keeps [] w w1 := by
  have h3 : Keeps v.ownBlock.toList wo w1 := Keeps.grown hg (by intro g h; rw [h]; simp)
  refine ((hk.trans ho).nil.trans h3).mono ?_
  intro y hy
  right
  simp only [Option.mem_toList] at hy
  exact (own_blk hown hy).1
/-- An address of a new block. -/
def Fresh (b : Nat) (A : Option Addr) : Prop := ∀ a, A = some a → b ≤ a.block
theorem row_of_own {w : World} {base e n c : Nat} {A : Option Addr} {l : List Val} (h : w.ownsRow base e 3 (.slice A n c) n (flatV l)) (hn : l.length = n) : RowAt w [] A l := by
  intro i v hi
  have hlt : i < l.length := (List.getElem?_eq_some_iff.1 hi).1
  obtain ⟨g, c', hv, _, _, _, _, hc, _⟩ := own_row3 h (by omega)
  injection hv with hA _ _
  obtain ⟨h0, h1, h2⟩ := flatV_get l i v hi
  exact ⟨g, 0, hA, by simp, by rw [Nat.zero_add]; exact hc _ _ h0, by rw [Nat.zero_add]; exact hc _ _ h1, by rw [Nat.zero_add]; exact hc _ _ h2⟩
theorem fresh_of_own {w : World} {base e size n c : Nat} {A : Option Addr} {xs : List Value} (h : w.ownsRow base e size (.slice A n c) n xs) : Fresh base A := by
  rintro a rfl
  rcases h.2 with ⟨hv, _⟩ | ⟨g, cap, cur, hv, hb, _⟩
  · simp at hv
  · injection hv with hA _ _
    cases hA
    exact hb
theorem own_void (w : World) (e : TypeId) (size : Nat) : (w.alloc (.cells #[] e)).ownsRow w.heap.size e size (.slice (some ⟨w.heap.size, 0, none⟩) 0 0) 0 [] :=
  ⟨by simp, .inr ⟨w.heap.size, 0, #[], rfl, Nat.le_refl _, Blk.new w e #[], Nat.le_refl _, by simp [maxLen], by simp, by simp⟩⟩

theorem RowAt.fresh {w : World} {X Y : List Nat} {A : Option Addr} {l : List Val} {b : Nat} (h : RowAt w X A l) (hf : Fresh b A) (hY : ∀ y ∈ Y, y < b) : RowAt w Y A l := by
  intro i v hi
  obtain ⟨g, off, rfl, hg, h1, h2, h3⟩ := h i v hi
  have hb := hf _ rfl
  exact ⟨g, off, rfl, fun hy => by have := hY g hy; dsimp only at hb; omega, h1, h2, h3⟩
theorem Fresh.mono {b c : Nat} {A : Option Addr} (h : Fresh b A) (hc : c ≤ b) : Fresh c A := fun a ha => Nat.le_trans hc (h a ha)
/-- A copy of a row. -/
def RowCopy (w : World) (l : List Val) (n : Nat) (e : Ending) (w' : World) : Prop := ∃ A c, e = .returned (.slice A n c) ∧ Hid (RowAt w' [] A l) ∧ Hid (Fresh w.heap.size A) ∧ Hid (Keeps [] w w')
set_option maxHeartbeats 1600000 in
set_option maxRecDepth 100000 in
theorem clone_any (w : World) (X : List Nat) (A : Option Addr) (l : List Val) (n c : Nat) (hl : l.length = n) (hO : RowAt w X A l) (hn : n ≤ 1000000) :
    Calls Try.prog 33 #[.slice A n c] w (RowCopy w l n) := by
  cases A with
  | none =>
    have hl0 : l = [] := by
      cases l with
      | nil => rfl
      | cons x r => obtain ⟨g, off, he, _⟩ := hO 0 x rfl; cases he
    subst hl0
    obtain rfl : 0 = n := hl
    have hq : ∀ w' : World, (binOp .eql 33 (.slice none 0 c) (.slice none 0 0)).run Try.prog w' = .ok (.bool true) w' := fun w' => Lib.run_eql_slice_nil w' 33 41 none 0 c 0 0 Try.underlying33
    have hfin : RowCopy w [] 0 (.returned (.slice none 0 0)) w := ⟨none, 0, rfl, Lib.hid (RowAt.nil _ _ _), Lib.hid (fun a h => by cases h), Lib.hid (Keeps.refl _ _)⟩
    replace hfin := Lib.hid hfin
    clear hO
    go_enter Try.func33, Try.ntmps33
    go_wp2_with fail
    go_ret
    exact hfin.out
  | some a =>
    obtain ⟨i0, hi, hz0, hz1, hz2⟩ := info_parts info41
    have hq : ∀ w' : World, (binOp .eql 33 (.slice (some a) n c) (.slice none 0 0)).run Try.prog w' = .ok (.bool false) w' := fun w' => Lib.run_eql_slice_nil w' 33 41 (some a) n c 0 0 Try.underlying33
    have hsrc := src_row (hO.keep ((Keeps.refl [] w).alloc (.cells #[] 41)) (by simp))
    rw [hl] at hsrc
    have hfl : Hid ((flatV l).length = n * 3) := Lib.hid (by rw [flatV_len, hl])
    replace hsrc := Lib.hid hsrc
    have hv := Lib.hid (own_void w 41 3)
    have hbs : w.heap.size ≤ (w.alloc (.cells #[] 41)).heap.size := (Keeps.alloc (Keeps.refl [] w) _).size
    replace hi := Lib.hid hi
    replace hz0 := Lib.hid hz0
    replace hz1 := Lib.hid hz1
    replace hz2 := Lib.hid hz2
    replace hl := Lib.hid hl
    clear hO
    go_enter Try.func33, Try.ntmps33
    go_wp2_with (at_builtin; refine wpList_append_row (by rfl) (.tmp 5) (.tmp 6) 33 rfl w.heap.size 41 i0 (.agg #[.int .i64 0, .int .i64 0, .string ⟨#[]⟩]) 3 32 Try.underlying33 hi.out hz0.out hz1.out hz2.out rfl (by decide) _ 0 [] rfl hv.out (some a) n c (flatV l) rfl hfl.out hsrc.out (flatV_one l) (by unfold maxLen; omega) (by omega) hbs ?_; intro v6 w1 q1 q2 q3 q4)
    have K1 := Lib.hid (keeps_append ((Keeps.refl [] w).alloc _) (Keeps.refl [] _) hv.out q2.out)
    have o6 : Hid (w1.ownsRow w.heap.size 41 3 v6 n (flatV l)) := Lib.hid (by have := q1.out; rw [List.nil_append, Nat.zero_add] at this; exact this)
    clear q1 q2 q3 q4 hsrc hv hbs
    obtain ⟨A6, c6, rfl, _⟩ := own_slice o6.out
    have hfin : Hid (RowCopy w l n (.returned (.slice A6 n c6)) w1) := Lib.hid ⟨A6, c6, rfl, Lib.hid (row_of_own o6.out hl.out), Lib.hid (fresh_of_own o6.out), K1⟩
    clear o6 K1
    go_ret
    exact hfin.out

/-- A change as a value: its cells. -/
structure Raw where
  t : Int
  id : Int
  Ao : Option Addr
  no : Nat
  co : Nat
  An : Option Addr
  nn : Nat
  cn : Nat
def Raw.cells (r : Raw) : List Value := [.int .i64 r.t, .int .i64 r.id, .slice r.Ao r.no r.co, .slice r.An r.nn r.cn]
structure RawIs (w : World) (X : List Nat) (r : Raw) (c : Chg) : Prop where
  t : r.t = c.t
  id : r.id = c.id
  no : c.old.length = r.no
  nn : c.new.length = r.nn
  old : RowAt w X r.Ao c.old
  new : RowAt w X r.An c.new
theorem RawIs.keep {w w' : World} {X Y : List Nat} {r : Raw} {c : Chg} (h : RawIs w X r c) (hk : Keeps Y w w') (hY : ∀ y ∈ Y, y ∈ X ∨ w.heap.size ≤ y) : RawIs w' X r c :=
  ⟨h.t, h.id, h.no, h.nn, h.old.keep hk hY, h.new.keep hk hY⟩
theorem RawIs.other {w : World} {X Y : List Nat} {r : Raw} {c : Chg} (h : RawIs w X r c) (hY : ∀ y ∈ Y, y ∈ X ∨ w.heap.size ≤ y) : RawIs w Y r c :=
  ⟨h.t, h.id, h.no, h.nn, h.old.other hY, h.new.other hY⟩
def Small (c : Chg) : Prop := c.old.length ≤ 1000000 ∧ c.new.length ≤ 1000000
/-- A change whose rows are new. -/
def ChgCopy (w : World) (c : Chg) (e : Ending) (w' : World) : Prop := ∃ r : Raw, e = .returned (.agg r.cells.toArray) ∧ Hid (RawIs w' [] r c) ∧ Hid (Fresh w.heap.size r.Ao ∧ Fresh w.heap.size r.An) ∧ Hid (Keeps [] w w')

set_option maxHeartbeats 3200000 in
set_option maxRecDepth 100000 in
theorem clonec_any (w : World) (X : List Nat) (r : Raw) (c : Chg) (h : RawIs w X r c) (hs : Small c) : Calls Try.prog 31 #[.agg r.cells.toArray] w (ChgCopy w c) := by
  obtain ⟨t, id, Ao, no, co, An, nn, cn⟩ := r
  obtain ⟨ht, hid, hno, hnn, hO, hN⟩ := h
  dsimp only at ht hid hno hnn hO hN
  subst ht hid
  have ka : Keeps [] w ((w.alloc (.cells #[.int .i64 c.t, .int .i64 c.id, .slice Ao no co, .slice An nn cn] 35)).alloc (.cells #[.int .i64 0, .int .i64 0, .slice none 0 0, .slice none 0 0] 35)) := ((Keeps.refl [] w).alloc _).alloc _
  have B1 : Blk ((w.alloc (.cells #[.int .i64 c.t, .int .i64 c.id, .slice Ao no co, .slice An nn cn] 35)).alloc (.cells #[.int .i64 0, .int .i64 0, .slice none 0 0, .slice none 0 0] 35)) w.heap.size 35 #[.int .i64 c.t, .int .i64 c.id, .slice Ao no co, .slice An nn cn] := (Blk.new w 35 _).alloc _
  have B2 : Blk ((w.alloc (.cells #[.int .i64 c.t, .int .i64 c.id, .slice Ao no co, .slice An nn cn] 35)).alloc (.cells #[.int .i64 0, .int .i64 0, .slice none 0 0, .slice none 0 0] 35)) (w.heap.size + 1) 35 #[.int .i64 0, .int .i64 0, .slice none 0 0, .slice none 0 0] := by
    have := Blk.new (w.alloc (.cells #[.int .i64 c.t, .int .i64 c.id, .slice Ao no co, .slice An nn cn] 35)) 35 #[.int .i64 0, .int .i64 0, .slice none 0 0, .slice none 0 0]
    simpa using this
  have HO : Hid (∀ w', Keeps [] ((w.alloc (.cells #[.int .i64 c.t, .int .i64 c.id, .slice Ao no co, .slice An nn cn] 35)).alloc (.cells #[.int .i64 0, .int .i64 0, .slice none 0 0, .slice none 0 0] 35)).drew w' → Calls Try.prog 33 #[.slice Ao no co] w' (RowCopy w' c.old no)) := Lib.hid (fun w' hk => clone_any w' X Ao c.old no co hno (hO.keep (ka.drew.trans hk) (by simp)) (by have := hs.1; omega))
  have HN : Hid (∀ w', Keeps [] ((w.alloc (.cells #[.int .i64 c.t, .int .i64 c.id, .slice Ao no co, .slice An nn cn] 35)).alloc (.cells #[.int .i64 0, .int .i64 0, .slice none 0 0, .slice none 0 0] 35)).drew w' → Calls Try.prog 33 #[.slice An nn cn] w' (RowCopy w' c.new nn)) := Lib.hid (fun w' hk => clone_any w' X An c.new nn cn hnn (hN.keep (ka.drew.trans hk) (by simp)) (by have := hs.2; omega))
  replace ka := Lib.hid ka
  replace B1 := Lib.hid B1
  replace B2 := Lib.hid B2
  replace hno := Lib.hid hno
  replace hnn := Lib.hid hnn
  unfold Raw.cells
  dsimp only
  clear hO hN hs
  obtain ⟨g1, hg1⟩ : ∃ g, g = w.heap.size := ⟨_, rfl⟩
  have hg1w := Lib.hid (show w.heap.size ≤ g1 by omega)
  rw [← hg1] at B1
  obtain ⟨g2, hg2⟩ : ∃ g, g = w.heap.size + 1 := ⟨_, rfl⟩
  have hg := Lib.hid (show g2 ≠ g1 ∧ w.heap.size ≤ g2 by omega)
  rw [← hg2] at B2
  go_enter Try.func31, Try.ntmps31
  go_wp2_with fail
  generalize (w.alloc (.cells #[.int .i64 c.t, .int .i64 c.id, .slice Ao no co, .slice An nn cn] 35)).alloc (.cells #[.int .i64 0, .int .i64 0, .slice none 0 0, .slice none 0 0] 35) = ww at *
  rw [← hg2, ← hg1]
  clear hg1 hg2
  have HSf : Hid (∀ w', Keeps [] ww.drew w' → w'.cell? ⟨g1, 2, none⟩ = some (.slice Ao no co) ∧ w'.cell? ⟨g1, 3, none⟩ = some (.slice An nn cn)) := Lib.hid (fun w' hk => ⟨hk.cellEq (B1.out.drew.cell 2) (by simp), hk.cellEq (B1.out.drew.cell 3) (by simp)⟩)
  have h0 := HSf.out _ (Keeps.refl [] ww.drew)
  have B1d := Lib.hid B1.out.drew
  have B2d := Lib.hid B2.out.drew
  have kd := Lib.hid ka.out.drew
  clear B1 B2 ka
  refine wp_region_J (S := (fun w' : World => w'.cell? ⟨g1, 2, none⟩ = some (.slice Ao no co) ∧ w'.cell? ⟨g1, 3, none⟩ = some (.slice An nn cn))) (n := 7) (by kernel_rfl) ?_
  generalize ww.drew = wd at *
  have HS := h0
  have Kx := Lib.hid (Keeps.refl [] wd)
  refine wpAnyJ_take (i := 0) (v := ?_) (by kernel_rfl) rfl (by kernel_rfl) (by kernel_rfl) (by kernel_rfl) (fun _ _ _ h => h) HS (Or.inl ⟨by rfl, ?_⟩) ?_
  rotate_left
  · (intro w hSw; obtain ⟨y1, y2⟩ := hSw; go_simp; try with_reducible rfl)
  try simp only [Act.put, List.getElem_toArray, List.getElem_cons_succ, List.getElem_cons_zero, List.setIfInBounds_toArray, List.set_cons_zero, List.set_cons_succ]
  refine wpAnyJ_take (i := 1) (v := ?_) (by kernel_rfl) rfl (by kernel_rfl) (by kernel_rfl) (by kernel_rfl) (fun _ _ _ h => h) HS (Or.inl ⟨by rfl, ?_⟩) ?_
  rotate_left
  · (intro w hSw; obtain ⟨y1, y2⟩ := hSw; go_simp; try with_reducible rfl)
  try simp only [Act.put, List.getElem_toArray, List.getElem_cons_succ, List.getElem_cons_zero, List.setIfInBounds_toArray, List.set_cons_zero, List.set_cons_succ]
  refine wpAnyJ_take (i := 3) (v := ?_) (by kernel_rfl) rfl (by kernel_rfl) (by kernel_rfl) (by kernel_rfl) (fun _ _ _ h => h) HS (Or.inl ⟨by rfl, ?_⟩) ?_
  rotate_left
  · (intro w hSw; obtain ⟨y1, y2⟩ := hSw; go_simp; try with_reducible rfl)
  try simp only [Act.put, List.getElem_toArray, List.getElem_cons_succ, List.getElem_cons_zero, List.setIfInBounds_toArray, List.set_cons_zero, List.set_cons_succ]
  refine wpAnyJ_take (i := 4) (v := ?_) (by kernel_rfl) rfl (by kernel_rfl) (by kernel_rfl) (by kernel_rfl) (fun _ _ _ h => h) HS (Or.inl ⟨by rfl, ?_⟩) ?_
  rotate_left
  · (intro w hSw; obtain ⟨y1, y2⟩ := hSw; go_simp; try with_reducible rfl)
  try simp only [Act.put, List.getElem_toArray, List.getElem_cons_succ, List.getElem_cons_zero, List.setIfInBounds_toArray, List.set_cons_zero, List.set_cons_succ]
  refine wpAnyJ_one (i := 2) rfl (by kernel_rfl) (fun K hK => ?_)
  dsimp only [List.getElem_toArray, List.getElem_cons_succ, List.getElem_cons_zero]
  go_simp
  refine (HO.out _ Kx.out).mono ?_
  rintro e wA ⟨A', cA', rfl, rA, fA, kA⟩
  replace Kx := Lib.hid (Kx.out.trans kA.out)
  have HS := HSf.out _ Kx.out
  refine hK _ _ (Or.inr HS) ?_
  clear hK K
  try simp only [Act.put, List.getElem_toArray, List.getElem_cons_succ, List.getElem_cons_zero, List.setIfInBounds_toArray, List.set_cons_zero, List.set_cons_succ]
  refine wpAnyJ_take (i := 6) (v := ?_) (by kernel_rfl) rfl (by kernel_rfl) (by kernel_rfl) (by kernel_rfl) (fun _ _ _ h => h) HS (Or.inl ⟨by rfl, ?_⟩) ?_
  rotate_left
  · (intro w hSw; obtain ⟨y1, y2⟩ := hSw; go_simp; try with_reducible rfl)
  try simp only [Act.put, List.getElem_toArray, List.getElem_cons_succ, List.getElem_cons_zero, List.setIfInBounds_toArray, List.set_cons_zero, List.set_cons_succ]
  refine wpAnyJ_one (i := 5) rfl (by kernel_rfl) (fun K hK => ?_)
  dsimp only [List.getElem_toArray, List.getElem_cons_succ, List.getElem_cons_zero]
  go_simp
  refine (HN.out _ Kx.out).mono ?_
  rintro e wB ⟨B', cB', rfl, rB, fB, kB⟩
  replace rA := Lib.hid (rA.out.keep kB.out (by simp))
  have hfr : Hid (wA.heap.size ≤ wB.heap.size ∧ wd.heap.size ≤ wA.heap.size) := Lib.hid ⟨kB.out.size, Kx.out.size⟩
  replace Kx := Lib.hid (Kx.out.trans kB.out)
  have HS := HSf.out _ Kx.out
  have B1w := Lib.hid (B1d.out.keep Kx.out (by simp))
  have f2 := B1w.out.frozen 2
  have f3 := B1w.out.frozen 3
  refine hK _ _ (Or.inr HS) ?_
  clear hK K
  try simp only [Act.put, List.getElem_toArray, List.getElem_cons_succ, List.getElem_cons_zero, List.setIfInBounds_toArray, List.set_cons_zero, List.set_cons_succ]
  refine wpAnyJ_one (i := 7) rfl (by kernel_rfl) (fun K hK => ?_)
  dsimp only [List.getElem_toArray, List.getElem_cons_succ, List.getElem_cons_zero]
  go_simp
  refine hK _ _ (Or.inl (by omega)) ?_
  clear hK K
  try simp only [Act.put, List.getElem_toArray, List.getElem_cons_succ, List.getElem_cons_zero, List.setIfInBounds_toArray, List.set_cons_zero, List.set_cons_succ]
  refine wpAnyJ_one (i := 8) rfl (by kernel_rfl) (fun K hK => ?_)
  dsimp only [List.getElem_toArray, List.getElem_cons_succ, List.getElem_cons_zero]
  go_simp
  refine hK _ _ (Or.inl (by omega)) ?_
  clear hK K
  try simp only [Act.put, List.getElem_toArray, List.getElem_cons_succ, List.getElem_cons_zero, List.setIfInBounds_toArray, List.set_cons_zero, List.set_cons_succ]
  refine wpAnyJ_one (i := 9) rfl (by kernel_rfl) (fun K hK => ?_)
  dsimp only [List.getElem_toArray, List.getElem_cons_succ, List.getElem_cons_zero]
  go_simp
  refine hK _ _ (Or.inl (by omega)) ?_
  clear hK K
  try simp only [Act.put, List.getElem_toArray, List.getElem_cons_succ, List.getElem_cons_zero, List.setIfInBounds_toArray, List.set_cons_zero, List.set_cons_succ]
  refine wpAnyJ_done (by kernel_rfl) ?_ _
  have B2w := (B2d.out.keep Kx.out (by simp))
  have Bf1 := (B1w.out.set_ 2 (.slice A' no cA')).set_ 3 (.slice B' nn cB')
  have Bf2 := (B2w.far (p := ⟨g1, 2, none⟩) hg.out.1 (.slice A' no cA')).far (p := ⟨g1, 3, none⟩) hg.out.1 (.slice B' nn cB')
  have Kf := Lib.hid (((kd.out.trans Kx.out).setCell (p := ⟨g1, 2, none⟩) (.inr hg1w.out) (.slice A' no cA')).setCell (p := ⟨g1, 3, none⟩) (.inr hg1w.out) (.slice B' nn cB'))
  have Kall := Lib.hid (fun (u0 u1 u2 u3 : Value) => ((((((Keeps.refl [g1, g2] wB).setCell (p := ⟨g1, 2, none⟩) (.inl (by simp)) (.slice A' no cA')).setCell (p := ⟨g1, 3, none⟩) (.inl (by simp)) (.slice B' nn cB')).setCell (p := ⟨g2, 0, none⟩) (.inl (by simp)) u0).setCell (p := ⟨g2, 1, none⟩) (.inl (by simp)) u1).setCell (p := ⟨g2, 2, none⟩) (.inl (by simp)) u2).setCell (p := ⟨g2, 3, none⟩) (.inl (by simp)) u3)
  have hgd : Hid (g1 < wd.heap.size ∧ g2 < wd.heap.size) := Lib.hid ⟨B1d.out.lt, B2d.out.lt⟩
  have rA2 := Lib.hid (rA.out.fresh (Y := [g1, g2]) fA.out (by intro y hy; have := hgd.out; simp at hy; omega))
  have rB2 := Lib.hid (rB.out.fresh (Y := [g1, g2]) fB.out (by intro y hy; have := hgd.out; have := hfr.out; simp at hy; omega))
  have hwd : Hid (w.heap.size ≤ wd.heap.size) := Lib.hid kd.out.size
  have Kw := Lib.hid (kd.out.trans Kx.out)
  have c1 := Bf1.cell
  have c2 := Bf2.cell
  have f4 := Bf2.frozen
  have Bf := Lib.hid (fun (u0 u1 u2 u3 : Value) => (((Bf2.set_ 0 u0).set_ 1 u1).set_ 2 u2).set_ 3 u3)
  generalize hW : (wB.setCell ⟨g1, 2, none⟩ (.slice A' no cA')).setCell ⟨g1, 3, none⟩ (.slice B' nn cB') = W at *
  have hgn := hg.out.1
  simp only [List.setIfInBounds_toArray, List.set_cons_zero, List.set_cons_succ] at c1 c2
  clear B1w B2w Bf1 Bf2 Kf HS f2 f3 HO HN HSf h0 hW
  go_wp2_with fail
  have z0 := (Bf.out (.int .i64 c.t) (.int .i64 c.id) (.slice A' no cA') (.slice B' nn cB')).cell
  simp only [List.setIfInBounds_toArray, List.set_cons_zero, List.set_cons_succ] at z0
  have kk := Kall.out (.int .i64 c.t) (.int .i64 c.id) (.slice A' no cA') (.slice B' nn cB')
  refine bodyPost_ret (v := .agg #[.int .i64 c.t, .int .i64 c.id, .slice A' no cA', .slice B' nn cB']) (by simp [results, Try.results31, go_sem, z0]) rfl ⟨⟨c.t, c.id, A', no, cA', B', nn, cB'⟩, rfl, Lib.hid ⟨rfl, rfl, hno.out, hnn.out, (rA2.out.keep kk (by simp)).other (by simp), (rB2.out.keep kk (by simp)).other (by simp)⟩, Lib.hid ⟨fA.out.mono hwd.out, fB.out.mono (Nat.le_trans hwd.out hfr.out.2)⟩, Lib.hid ((Kw.out.nil.trans kk).mono (fun y hy => .inr (by have := hg1w.out; have := hg.out.2; simp at hy; omega)))⟩
end Go.Proofs.Ytmclfbhcddcebaa
