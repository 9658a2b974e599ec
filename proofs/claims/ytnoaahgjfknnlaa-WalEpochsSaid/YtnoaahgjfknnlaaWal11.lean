/- Append of the reference's log. -/
import Derived.Test.YtnoaahgjfknnlaaWal10
import Derived.Deep.RegionHeld3
namespace Go.Proofs.Ytnoaahgjfknnlaa
open Go.RowKit
set_option linter.unusedSimpArgs false
set_option linter.unusedVariables false

set_option maxHeartbeats 400000 in
theorem rapp_full (w : World) (bq bm fi co ep rc : Nat) (L r : List UInt8) (x : Option Nat) (A : Option Addr) (n c : Nat) (h : LMod w bq bm fi co ep L rc x) (hn : r.length = n) (hf : freeOf (59 * co - L.length : Int) < n) :
    Calls Try.prog 31 #[.pointer (some ⟨bq, 0, none⟩), .slice A n c] w fun e w' => e = .returned (.int .i64 16) ∧ Keeps [] w w' := by
  have HF := Lib.hid (rfree_any w bq bm fi co ep rc L x h)
  clear h
  go_enter Try.func31, Try.ntmps31
  go_wp2_with fail
  refine HF.out.mono ?_
  rintro e w1 ⟨rfl, m, rfl⟩
  clear HF
  go_wp2_with fail
  go_ret
  exact ⟨rfl, (Keeps.refl _ _).drewN _⟩

theorem number4_any (w : World) (n : Nat) (hn : n < 4294967296) : Calls Try.prog 49 #[.int .u32 n] w fun e w' => e = .returned (.slice (some ⟨w.heap.size, 0, none⟩) 4 4) ∧ Blk w' w.heap.size 5 ((be32 n).map bv).toArray ∧ Keeps [] w w' :=
  (number_any w n hn).mono fun e w' h => h

theorem Bts.keep' {w w' : World} {A : Option Addr} {l : List UInt8} {X : List Nat} (h : Bts w A l) (hk : Keeps X w w') (hx : l ≠ [] → ∀ a, A = some a → a.block ∉ X) : Bts w' A l := by
  by_cases hl : l = []
  · exact .inl hl
  · exact h.keep hk (hx hl)

/-- A row of its own is not the block g, whose type is another. -/
theorem own_apart {w : World} {base n : Nat} {e t : TypeId} {v : Value} {xs : List Value} {g : Nat} {cs : Array Value} (h : w.ownsRow base e 1 v n xs) (hg : Blk w g t cs) (ht : t ≠ e) : g ∉ v.ownBlock.toList := by
  intro hx
  obtain ⟨_, cur, hc⟩ := own_blk h (g := g) (by simpa using hx)
  exact hg.ne_ hc ht rfl

/-- A byte more is laid behind what is laid. -/
theorem lay_fill (pre d : List UInt8) (i n : Nat) (v : UInt8) (hd : d[i]? = some v) (hn : d.length ≤ n) {p : Nat} (hp : pre.length = p) :
    (((pre ++ (d.take i ++ List.replicate (n - i) 0)).map bv).toArray).setIfInBounds (p + i) (bv v) = ((pre ++ (d.take (i + 1) ++ List.replicate (n - (i + 1)) 0)).map bv).toArray := by
  have hi : i < d.length := (List.getElem?_eq_some_iff.1 hd).1
  have hv : d[i] = v := by have := List.getElem?_eq_getElem hi; rw [hd] at this; exact (Option.some.inj this).symm
  have hl : (d.take i).length = i := by rw [List.length_take]; omega
  rw [List.setIfInBounds_toArray, ← List.map_set]
  congr 2
  rw [List.set_append_right _ _ (by omega), hp, Nat.add_sub_cancel_left, List.set_append_right _ _ (by omega), hl, Nat.sub_self, show n - i = (n - (i + 1)) + 1 by omega, List.replicate_succ, List.set_cons_zero, List.take_succ_eq_append_getElem hi, hv]
  simp
theorem fill_cell {w : World} {g : Nat} {L : List UInt8} (h : Blk w g 5 (L.map bv).toArray) {i : Nat} (hi : i < L.length) : w.cell? ⟨g, i, none⟩ = some (bv (L.getD i 0)) := by
  rw [h.cell]
  simp only [List.getElem?_toArray, List.getElem?_map, List.getD_eq_getElem?_getD, List.getElem?_eq_getElem hi]
  rfl

theorem mem_bq {bq bm bS y : Nat} {l : List Nat} (h : y ∈ bq :: l) : y ∈ bq :: bm :: bS :: l := by
  rcases List.mem_cons.1 h with h | h
  · simp [h]
  · simp [h]

/-- A second step that turns the row of the first, or a new one. -/
theorem keeps_turn {w w1 w2 : World} {x x1 : Option Nat} (h : Keeps x.toList w w1) (k : Keeps x1.toList w1 w2) (hx : x1 = x ∨ ∃ g, x1 = some g ∧ w.heap.size ≤ g) : Keeps x.toList w w2 := by
  rcases hx with rfl | ⟨g, rfl, hg⟩
  · exact h.trans k
  · have h1 : Keeps (g :: x.toList) w w1 := h.mono (fun y hy => .inl (by simp at hy; simp [hy]))
    have h2 : Keeps (g :: x.toList) w1 w2 := k.mono (fun y hy => .inl (by simp at hy; simp [hy]))
    refine (h1.trans h2).mono ?_
    intro y hy
    rcases List.mem_cons.1 hy with rfl | hy
    · exact .inr hg
    · exact .inl hy

/-- The reference's disk, while the stream's row turns from x to x'. -/
theorem MRep.turn {w w' : World} {bm bS bq : Nat} {s : St} {x x' : Option Nat} {cs : Array Value} (h : MRep x.toList w bm bS s) (hk : Keeps (bq :: x.toList) w w') (hq : Blk w bq 56 cs) (hx5 : ∀ g, x = some g → ∃ cur, Blk w g 5 cur) (hx : x' = x ∨ ∃ g, x' = some g ∧ w.heap.size ≤ g) : MRep x'.toList w' bm bS s := by
  obtain ⟨cap, cells, a1, a2, _⟩ := h.ex
  have n1 : bm ∉ bq :: x.toList := by
    intro hm
    rcases List.mem_cons.1 hm with rfl | hm
    · exact a1.ne_ hq (by decide) rfl
    · obtain ⟨cur, hc⟩ := hx5 bm (by simpa using hm)
      exact a1.ne_ hc (by decide) rfl
  have n2 : bS ∉ bq :: x.toList := by
    intro hm
    rcases List.mem_cons.1 hm with rfl | hm
    · exact a2.ne_ hq (by decide) rfl
    · obtain ⟨cur, hc⟩ := hx5 bS (by simpa using hm)
      exact a2.ne_ hc (by decide) rfl
  rcases hx with rfl | ⟨g, rfl, hg⟩
  · exact h.keep hk n1 n2 (fun g cur hg hgz hm => by
      rcases List.mem_cons.1 hm with rfl | hm
      · exact hg.ne_ hq (by decide) rfl
      · exact hgz hm)
  · have h2 := h.more hg
    exact (h2.keep hk n1 n2 (fun g' cur hg' hgz hm => by
      rcases List.mem_cons.1 hm with rfl | hm
      · exact hg'.ne_ hq (by decide) rfl
      · exact hgz (List.mem_cons_of_mem _ hm))).less (by simp)

def RAppPost (w : World) (bq bm bS fi co ep rc : Nat) (L r : List UInt8) (x : Option Nat) (q : St × Int) (e : Ending) (w' : World) : Prop :=
  e = .returned (.int .i64 q.2) ∧ ∃ x', (x' = x ∨ ∃ g, x' = some g ∧ w.heap.size ≤ g) ∧ (∀ z ∈ x'.toList, z < w'.heap.size) ∧ MRep x'.toList w' bm bS q.1 ∧ (q.2 = 0 → LMod w' bq bm fi co ep (L ++ enc r) (rc + 1) x') ∧ Keeps (bq :: bm :: bS :: x.toList) w w'

set_option maxHeartbeats 3200000 in
set_option maxRecDepth 100000 in
theorem rapp_any (w : World) (bq bm bS fi co ep rc : Nat) (s : St) (L r : List UInt8) (x : Option Nat) (A : Option Addr) (n c : Nat) (hM : MRep x.toList w bm bS s) (h : LMod w bq bm fi co ep L rc x) (hn : r.length = n) (hnc : n ≤ c) (hcm : c ≤ maxLen) (hB : Bts w A r)
    (hAx : r ≠ [] → ∀ a, A = some a → a.block ∉ x.toList ∧ a.block ≠ bq) (hf : (n : Int) ≤ freeOf (59 * co - L.length : Int)) (hw0 : 0 ≤ s.writes) (hw : s.writes ≤ 800000) (hrc : rc + 1 ≤ 1000000) :
    Calls Try.prog 31 #[.pointer (some ⟨bq, 0, none⟩), .slice A n c] w
      (RAppPost w bq bm bS fi co ep rc L r x (wrs s (fi + L.length / 59) ep (L.drop (59 * (L.length / 59)) ++ enc r).length (L.drop (59 * (L.length / 59)) ++ enc r))) := by
  have HF := Lib.hid (rfree_any w bq bm fi co ep rc L x h)
  obtain ⟨sv, hBq, hsv, hsx⟩ := h.ex
  have hco := h.co1
  have hfi := h.fi1
  have hep := h.ep1
  have hep0 := h.ep0
  have hlen := h.len
  have hfr : (n : Int) ≤ 59 * co - L.length - 4 ∧ n ≤ 16777216 := by unfold freeOf at hf; omega
  have hf' : ¬ freeOf (59 * (co : Int) - (L.length : Int)) < (n : Int) := by omega
  obtain ⟨A0, c0, rfl, hc0, hm0⟩ := own_slice5 hsv
  clear hf
  obtain ⟨u, hu⟩ : ∃ u, L.length = u := ⟨_, rfl⟩
  have hqx : Hid (bq ∉ x.toList) := Lib.hid (by rw [← hsx]; exact own_apart hsv hBq (by decide))
  rw [hu] at HF hf' hfr hlen hsv hBq hc0 hsx ⊢
  have hz6 : Hid ((L ++ be32 n).length = u + 4) := Lib.hid (by rw [List.length_append, be32_len, hu])
  have hz8 : Hid (L ++ be32 n ++ r = L ++ enc r) := Lib.hid (by rw [List.append_assoc, ← hn]; rfl)
  have info5 : Hid ((Try.prog.info? 5).map (fun i => (i.zero, i.size, i.bytes)) = some (some (.int .u8 0), 1, 1)) := Lib.hid (by kernel_rfl)
  have n32 : n < 4294967296 := by omega
  have e32w : Hid (IntKind.u32.wrap (n : Int) = n) := Lib.hid (by rw [IntKind.wrap_u32']; omega)
  obtain ⟨Q, hQ⟩ : ∃ Q, wrs s (fi + u / 59) ep (L.drop (59 * (u / 59)) ++ enc r).length (L.drop (59 * (u / 59)) ++ enc r) = Q := ⟨_, rfl⟩
  rw [hQ]
  replace hQ := Lib.hid hQ
  replace hu := Lib.hid hu
  replace hn := Lib.hid hn
  replace hB := Lib.hid hB
  replace hAx := Lib.hid hAx
  replace hsv := Lib.hid hsv
  replace hsx := Lib.hid hsx
  replace hM := Lib.hid hM
  replace hBq := Lib.hid hBq
  replace h := Lib.hid h
  go_enter Try.func31, Try.ntmps31
  go_wp2_with fail
  refine HF.out.mono ?_
  rintro e w1 ⟨rfl, m, rfl⟩
  have kd := (Keeps.refl [] w).drewN m
  have hBq1 := hBq.out.keep kd (by simp)
  generalize w.drewN m = wa at *
  have s4 : wa.cell? ⟨bq, 4, none⟩ = some (.slice A0 u c0) := (hBq1.cell 4).trans rfl
  have f4 : wa.frozen? ⟨bq, 4, none⟩ = false := hBq1.frozen 4
  replace kd := Lib.hid kd
  clear HF hBq1
  go_wp2_with fail
  refine wp_region_I (S := (fun w' => w'.cell? ⟨bq, 4, none⟩ = some (.slice A0 u c0))) (n := 14) (by kernel_rfl) ?_
  have HS : wa.drew.cell? ⟨bq, 4, none⟩ = some (.slice A0 u c0) := s4
  refine wpAnyI_take (i := 0) (v := ?_) (by kernel_rfl) rfl (by kernel_rfl) (by kernel_rfl) (by kernel_rfl) (fun _ _ _ h => h) HS (Or.inl ⟨by rfl, ?_⟩) ?_
  rotate_left
  · (intro w hSw; obtain q1 := hSw; go_simp; try with_reducible rfl)
  try simp only [Act.put, List.getElem_toArray, List.getElem_cons_succ, List.getElem_cons_zero, List.setIfInBounds_toArray, List.set_cons_zero, List.set_cons_succ]
  refine wpAnyI_take (i := 1) (v := ?_) (by kernel_rfl) rfl (by kernel_rfl) (by kernel_rfl) (by kernel_rfl) (fun _ _ _ h => h) HS (Or.inl ⟨by rfl, ?_⟩) ?_
  rotate_left
  · (intro w hSw; obtain q1 := hSw; go_simp; try with_reducible rfl)
  try simp only [Act.put, List.getElem_toArray, List.getElem_cons_succ, List.getElem_cons_zero, List.setIfInBounds_toArray, List.set_cons_zero, List.set_cons_succ]
  refine wpAnyI_take (i := 2) (v := ?_) (by kernel_rfl) rfl (by kernel_rfl) (by kernel_rfl) (by kernel_rfl) (fun _ _ _ h => h) HS (Or.inl ⟨by rfl, ?_⟩) ?_
  rotate_left
  · (intro w hSw; obtain q1 := hSw; go_simp; try with_reducible rfl)
  try simp only [Act.put, List.getElem_toArray, List.getElem_cons_succ, List.getElem_cons_zero, List.setIfInBounds_toArray, List.set_cons_zero, List.set_cons_succ]
  refine wpAnyI_take (i := 3) (v := ?_) (by kernel_rfl) rfl (by kernel_rfl) (by kernel_rfl) (by kernel_rfl) (fun _ _ _ h => h) HS (Or.inl ⟨by rfl, ?_⟩) ?_
  rotate_left
  · (intro w hSw; obtain q1 := hSw; go_simp; try with_reducible rfl)
  try simp only [Act.put, List.getElem_toArray, List.getElem_cons_succ, List.getElem_cons_zero, List.setIfInBounds_toArray, List.set_cons_zero, List.set_cons_succ]
  refine wpAnyI_take (i := 4) (v := ?_) (by kernel_rfl) rfl (by kernel_rfl) (by kernel_rfl) (by kernel_rfl) (fun _ _ _ h => h) HS (Or.inl ⟨by rfl, ?_⟩) ?_
  rotate_left
  · (intro w hSw; obtain q1 := hSw; go_simp; try with_reducible rfl)
  try simp only [Act.put, List.getElem_toArray, List.getElem_cons_succ, List.getElem_cons_zero, List.setIfInBounds_toArray, List.set_cons_zero, List.set_cons_succ]
  refine wpAnyI_take (i := 5) (v := ?_) (by kernel_rfl) rfl (by kernel_rfl) (by kernel_rfl) (by kernel_rfl) (fun _ _ _ h => h) HS (Or.inl ⟨by rfl, ?_⟩) ?_
  rotate_left
  · (intro w hSw; obtain q1 := hSw; go_simp; try with_reducible rfl)
  try simp only [Act.put, List.getElem_toArray, List.getElem_cons_succ, List.getElem_cons_zero, List.setIfInBounds_toArray, List.set_cons_zero, List.set_cons_succ]
  refine wpAnyI_take (i := 6) (v := ?_) (by kernel_rfl) rfl (by kernel_rfl) (by kernel_rfl) (by kernel_rfl) (fun _ _ _ h => h) HS (Or.inl ⟨by rfl, ?_⟩) ?_
  rotate_left
  · (intro w hSw; obtain q1 := hSw; go_simp; try with_reducible rfl)
  try simp only [Act.put, List.getElem_toArray, List.getElem_cons_succ, List.getElem_cons_zero, List.setIfInBounds_toArray, List.set_cons_zero, List.set_cons_succ]
  refine wpAnyI_take (i := 7) (v := ?_) (by kernel_rfl) rfl (by kernel_rfl) (by kernel_rfl) (by kernel_rfl) (fun _ _ _ h => h) HS (Or.inl ⟨by rfl, ?_⟩) ?_
  rotate_left
  · (intro w hSw; obtain q1 := hSw; go_simp; try with_reducible rfl)
  try simp only [Act.put, List.getElem_toArray, List.getElem_cons_succ, List.getElem_cons_zero, List.setIfInBounds_toArray, List.set_cons_zero, List.set_cons_succ]
  refine wpAnyI_take (i := 10) (v := ?_) (by kernel_rfl) rfl (by kernel_rfl) (by kernel_rfl) (by kernel_rfl) (fun _ _ _ h => h) HS (Or.inl ⟨by rfl, ?_⟩) ?_
  rotate_left
  · (intro w hSw; obtain q1 := hSw; go_simp; try with_reducible rfl)
  try simp only [Act.put, List.getElem_toArray, List.getElem_cons_succ, List.getElem_cons_zero, List.setIfInBounds_toArray, List.set_cons_zero, List.set_cons_succ]
  refine wpAnyI_one (i := 8) rfl (by kernel_rfl) (fun K hK => ?_)
  dsimp only [List.getElem_toArray, List.getElem_cons_succ, List.getElem_cons_zero]
  rw [e32w.out]
  go_simp
  go_wp2_with ((refine (number4_any _ n n32).mono ?_); rintro e wb ⟨rfl, hP, k4⟩)
  have kb : Keeps [] w wb := (kd.out.drew).trans k4
  have HS := (((Keeps.refl [] wa).drew).trans k4).cellEq s4 (by simp)
  replace kb := Lib.hid kb
  have hPb := Lib.hid (bts_new hP)
  clear hP k4
  refine hK _ _ (Or.inr HS) ?_
  clear hK K
  try simp only [Act.put, List.getElem_toArray, List.getElem_cons_succ, List.getElem_cons_zero, List.setIfInBounds_toArray, List.set_cons_zero, List.set_cons_succ]
  refine wpAnyI_one (i := 9) rfl (by kernel_rfl) (fun K hK => ?_)
  dsimp only [List.getElem_toArray, List.getElem_cons_succ, List.getElem_cons_zero]
  rw [if_pos (by rfl)]
  refine wp_append_bts (.tmp 26) (.tmp 30) 34 (by rfl) 0 5 Try.underlying34 info5.out (.slice A0 u c0) L (be32 n) (by rfl) ?_ _ 4 4 (by rfl) (be32_len n) hPb.out ?_ (Nat.zero_le _) ?_
  · rw [hu.out]; exact own_keep hsv.out kb.out (fun _ _ => List.not_mem_nil)
  · rw [hu.out, be32_len]; omega
  rw [hu.out]
  intro A1 c1 wd G1 G2 G3
  have kx : Keeps x.toList wb wd := by rw [← hsx.out]; exact Keeps.grown G2.out (by intro k h; simp [h])
  have HS := kx.cellEq HS hqx.out
  have hx1 : Hid ((Value.slice A1 (u + 4) c1).ownBlock = x ∨ ∃ g, (Value.slice A1 (u + 4) c1).ownBlock = some g ∧ w.heap.size ≤ g) := Lib.hid (by
    rcases G3.out with h | h
    · exact .inl (h.trans hsx.out)
    · exact .inr ⟨_, h, kb.out.size⟩)
  have kxd := Lib.hid (kb.out.nil.trans kx)
  have o1 := Lib.hid G1.out
  have hBqd := Lib.hid (hBq.out.keep kxd.out hqx.out)
  clear G1 G2 G3 kx kb hPb
  refine hK _ _ (Or.inr HS) ?_
  clear hK K
  try simp only [Act.put, List.getElem_toArray, List.getElem_cons_succ, List.getElem_cons_zero, List.setIfInBounds_toArray, List.set_cons_zero, List.set_cons_succ]
  refine wpAnyI_one (i := 11) rfl (by kernel_rfl) (fun K hK => ?_)
  dsimp only [List.getElem_toArray, List.getElem_cons_succ, List.getElem_cons_zero]
  rw [if_pos (by rfl)]
  refine wp_append_bts (.tmp 31) (.tmp 32) 34 (by rfl) 0 5 Try.underlying34 info5.out (.slice A1 (u + 4) c1) (L ++ be32 n) r (by rfl) ?_ _ n c (by rfl) hn.out (hB.out.keep' kxd.out (fun hr a ha => (hAx.out hr a ha).1)) ?_ (Nat.zero_le _) ?_
  · rw [hz6.out]; exact o1.out
  · rw [hz6.out, hn.out]; omega
  rw [hz6.out, hz8.out]
  intro A2 c2 we G1 G2 G3
  have ky : Keeps (Value.slice A1 (u + 4) c1).ownBlock.toList wd we := Keeps.grown G2.out (by intro k h; simp [h])
  have HS := ky.cellEq HS (own_apart o1.out hBqd.out (by decide))
  have hx2 : Hid ((Value.slice A2 (u + 4 + n) c2).ownBlock = x ∨ ∃ g, (Value.slice A2 (u + 4 + n) c2).ownBlock = some g ∧ w.heap.size ≤ g) := Lib.hid (by
    rcases G3.out with h | h
    · rw [h]; exact hx1.out
    · exact .inr ⟨_, h, kxd.out.size⟩)
  have kxe : Hid (Keeps x.toList w we) := Lib.hid (keeps_turn kxd.out ky hx1.out)
  have o2 := Lib.hid G1.out
  have hBqe := Lib.hid (hBqd.out.keep ky (own_apart o1.out hBqd.out (by decide)))
  have f4e := hBqe.out.frozen 4
  clear G1 G2 G3 ky o1 hx1 kxd hBqd
  refine hK _ _ (Or.inr HS) ?_
  clear hK K
  try simp only [Act.put, List.getElem_toArray, List.getElem_cons_succ, List.getElem_cons_zero, List.setIfInBounds_toArray, List.set_cons_zero, List.set_cons_succ]
  refine wpAnyI_one (i := 12) rfl (by kernel_rfl) (fun K hK => ?_)
  dsimp only [List.getElem_toArray, List.getElem_cons_succ, List.getElem_cons_zero]
  go_simp
  refine hK _ _ (Or.inr HS) ?_
  clear hK K
  try simp only [Act.put, List.getElem_toArray, List.getElem_cons_succ, List.getElem_cons_zero, List.setIfInBounds_toArray, List.set_cons_zero, List.set_cons_succ]
  refine wpAnyI_take (i := 13) (v := ?_) (by kernel_rfl) rfl (by kernel_rfl) (by kernel_rfl) (by kernel_rfl) (fun _ _ _ h => h) HS (Or.inl ⟨by rfl, ?_⟩) ?_
  rotate_left
  · (intro w hSw; obtain q1 := hSw; go_simp; try with_reducible rfl)
  try simp only [Act.put, List.getElem_toArray, List.getElem_cons_succ, List.getElem_cons_zero, List.setIfInBounds_toArray, List.set_cons_zero, List.set_cons_succ]
  refine wpAnyI_one (i := 14) rfl (by kernel_rfl) (fun K hK => ?_)
  dsimp only [List.getElem_toArray, List.getElem_cons_succ, List.getElem_cons_zero]
  go_simp
  refine hK _ _ (Or.inl rfl) ?_
  clear hK K
  try simp only [Act.put, List.getElem_toArray, List.getElem_cons_succ, List.getElem_cons_zero, List.setIfInBounds_toArray, List.set_cons_zero, List.set_cons_succ]
  refine wpAnyI_done (by kernel_rfl) ?_ _
  have hBz := hBqe.out.set_ 4 (.slice A2 (u + 4 + n) c2)
  have kz : Hid (Keeps (bq :: x.toList) w (we.setCell ⟨bq, 4, none⟩ (.slice A2 (u + 4 + n) c2))) := Lib.hid ((kxe.out.mono (fun y hy => .inl (List.mem_cons_of_mem _ hy))).setCell (.inl (by simp)) _)
  have oz : Hid ((we.setCell ⟨bq, 4, none⟩ (.slice A2 (u + 4 + n) c2)).ownsRow 0 5 1 (.slice A2 (u + 4 + n) c2) (u + 4 + n) ((L ++ enc r).map bv)) := Lib.hid (own_keep o2.out ((Keeps.refl [bq] we).setCell (by simp) _) (by intro g hg hx; have := own_apart o2.out hBqe.out (by decide); simp at hx; subst hx; exact this (by simp [hg])))
  have hMz := Lib.hid (hM.out.turn kz.out hBq.out (fun g hg => (own_blk hsv.out (g := g) (hsx.out.trans hg)).2) hx2.out)
  generalize we.setCell ⟨bq, 4, none⟩ (.slice A2 (u + 4 + n) c2) = wz at *
  clear o2 kxe hBqe f4e HS s4 f4 kd hM hsv
  obtain ⟨u2, hu2⟩ : ∃ u2, u + 4 + n = u2 := ⟨_, rfl⟩
  rw [hu2] at oz hBz hx2
  obtain ⟨x2, hxx⟩ : ∃ x2, (Value.slice A2 u2 c2).ownBlock = x2 := ⟨_, rfl⟩
  rw [hu2, hxx] at hMz
  rw [hxx] at hx2
  obtain ⟨hBB, hLl, huc, hcm2, hT2⟩ := own_bts oz.out
  obtain ⟨g2, hg2⟩ : ∃ g2, A2 = some ⟨g2, 0, none⟩ := by
    rcases oz.out.2 with ⟨_, h0⟩ | ⟨g, cap, cur, hv, _⟩
    · omega
    · injection hv with hA _ _
      exact ⟨g, hA⟩
  subst hg2
  obtain ⟨_, hgl2, cur2, hcur2⟩ := hT2 _ rfl
  have hQ2 : wrs s (fi + u / 59) ep (u2 - 59 * (u / 59)) ((L ++ enc r).drop (59 * (u / 59))) = Q := by
    have h1 : L.drop (59 * (u / 59)) ++ enc r = (L ++ enc r).drop (59 * (u / 59)) := by
      rw [List.drop_append_of_le_length (by rw [hu.out]; omega)]
    have h2 : (L.drop (59 * (u / 59)) ++ enc r).length = u2 - 59 * (u / 59) := by rw [h1, List.length_drop, hLl]
    have h3 := hQ.out
    rw [h2, h1] at h3
    exact h3
  have hne1 : bq ≠ bm := by obtain ⟨cap, cells, a1, a2, _⟩ := hMz.out.ex; exact hBz.ne_ a1 (by decide)
  have hne2 : bq ≠ bS := by obtain ⟨cap, cells, a1, a2, _⟩ := hMz.out.ex; exact hBz.ne_ a2 (by decide)
  have hne3 : g2 ≠ bm ∧ g2 ≠ bS := by obtain ⟨cap, cells, a1, a2, _⟩ := hMz.out.ex; exact ⟨hcur2.ne_ a1 (by decide), hcur2.ne_ a2 (by decide)⟩
  have hx2l : Hid (∀ z ∈ x2.toList, z < wz.heap.size) := Lib.hid (by
    intro z hz
    have hz' : x2 = some z := by simpa using hz
    rw [← hxx] at hz'
    obtain ⟨_, cur, hc⟩ := own_blk oz.out hz'
    exact hc.lt)
  replace hBB := Lib.hid hBB
  replace hLl := Lib.hid hLl
  replace hcur2 := Lib.hid hcur2
  replace hQ2 := Lib.hid hQ2
  replace hBz := Lib.hid hBz
  replace hxx := Lib.hid hxx
  have hbz4 : Hid (fi + co ≤ 65536 + 65536) := Lib.hid (by omega)
  have hu60 : u2 ≤ 59 * co := by omega
  have huu : u / 59 ≤ u2 := by omega
  have hu59 : 59 * (u / 59) ≤ u2 := by omega
  have hk0 : ((u : Int) / 59) = ((u / 59 : Nat) : Int) := by omega
  rw [hk0]
  replace hk0 := Lib.hid hk0
  clear hT2 hQ
  obtain ⟨a0, ha0⟩ : ∃ a0, u / 59 = a0 := ⟨_, rfl⟩
  rw [ha0] at hQ2 hu59 huu
  simp only [ha0]
  clear hk0 ha0 e32w
  replace hu2 := Lib.hid hu2
  go_wp2_with fail
  go_loopw [5] (fun av wr => ∃ (k : Nat) (s' : St), a0 ≤ k ∧ av = .int .i64 k ∧ 59 * k ≤ u2 + 58 ∧ Hid (MRep x2.toList wr bm bS s') ∧ Hid (wrs s' (fi + k) ep (u2 - 59 * a0 - (k - a0)) ((L ++ enc r).drop (59 * k)) = Q) ∧ Hid (0 ≤ s'.writes ∧ s'.writes ≤ s.writes + (k : Int)) ∧ Hid (Keeps [bm, bS] wz wr)) (fun av _ => u2 + 1 - (intOf av).toNat)
  case atStart => exact ⟨a0, s, Nat.le_refl _, rfl, by omega, hMz, Lib.hid (by rw [Nat.sub_self, Nat.sub_zero]; exact hQ2.out), Lib.hid ⟨hw0, by omega⟩, Lib.hid (Keeps.refl _ _)⟩
  case round =>
    obtain ⟨k, s', hak, rfl, hk58, hMr, hQr, hws, hkw⟩ := hrel
    have ew : IntKind.i64.wrap ((k : Int) * 59) = (k : Int) * 59 := IntWalk.i64_in _ (by omega)
    have s4 : wr.cell? ⟨bq, 4, none⟩ = some (.slice (some ⟨g2, 0, none⟩) u2 c2) := ((hBz.out.keep hkw.out (by simp; exact ⟨hne1, hne2⟩)).cell 4).trans rfl
    by_cases hlt : 59 * k < u2
    · have hlti : (k : Int) * 59 < (u2 : Int) := by omega
      have h0i : (0 : Int) ≤ (k : Int) * 59 := by omega
      have hci : (k : Int) * 59 ≤ (c2 : Int) := by omega
      have hlei : (k : Int) * 59 ≤ (u2 : Int) := by omega
      have hcn : ¬ c2 = 59 * k := by omega
      have htn : ((k : Int) * 59).toNat = 59 * k := by omega
      go_upto_if 53 with fail
      go_cut [6] from 54 to 55 (fun s6 wx => ∃ (l c' : Nat), s6 = .slice (some ⟨g2, 59 * k, none⟩) l c' ∧ Hid (l = min 59 (u2 - 59 * k)) ∧ 1 ≤ l ∧ l ≤ 59 ∧ 59 * k + l ≤ u2 ∧ l ≤ c' ∧ wx = wr)
      case first =>
        by_cases h59 : (59 : Int) < ((u2 - 59 * k : Nat) : Int)
        · go_wp2_with fail
          go_meet
          exact ⟨59, _, rfl, Lib.hid (by omega), by omega, by omega, by omega, by omega, rfl⟩
        · go_wp2_with fail
          go_meet
          exact ⟨_, _, rfl, Lib.hid (by omega), by omega, by omega, by omega, by omega, rfl⟩
      case rest =>
        obtain ⟨l, c', rfl, hlm, hl1, hl59, hlu, hlc, rfl⟩ := hcut
        obtain ⟨d, hd⟩ : ∃ d, ((L ++ enc r).drop (59 * k)).take l = d := ⟨_, rfl⟩
        have hdl : Hid (d.length = l) := Lib.hid (by rw [← hd, List.length_take, List.length_drop, hLl.out]; omega)
        have hd59 : Hid (((L ++ enc r).drop (59 * k)).take 59 = d) := Lib.hid (by
          rw [← hd]
          rcases Nat.lt_or_ge 59 (u2 - 59 * k) with h | h
          · rw [show l = 59 by have := hlm.out; omega]
          · rw [List.take_of_length_le (by rw [List.length_drop, hLl.out]; omega), List.take_of_length_le (by rw [List.length_drop, hLl.out]; have := hlm.out; omega)])
        have hBd : Hid (Bts wc (some ⟨g2, 59 * k, none⟩) d) := Lib.hid (by
          have := (bts_from (k := 59 * k) (hBB.out.keep hkw.out (fun a ha => by cases ha; simp; exact hne3))).take l
          rwa [Nat.zero_add, hd] at this)
        have hBw : Hid (Blk wc bq 56 #[.pointer (some ⟨bm, 0, none⟩), .int .i64 fi, .int .i64 co, .int .u32 ep, .slice (some ⟨g2, 0, none⟩) u2 c2, .int .i64 rc]) := Lib.hid (hBz.out.keep hkw.out (by simp; exact ⟨hne1, hne2⟩))
        have hzm : Hid (madeCells #[.int .u8 0] 64 = ((List.replicate 64 (0 : UInt8)).map bv).toArray) := Lib.hid (by rw [List.map_replicate]; exact madeCells_same 1 64 (bv 0) (by decide))
        replace hd := Lib.hid hd
        clear s4 hlm
        go_wp2_with (first
          | (refine wpList_make rfl 34 (.const (.int .i64 64)) (.const (.int .i64 64)) rfl 5 (.int .u8 0) 1 1 Try.underlying34 info5.out .i64 .i64 64 64 rfl rfl ?_ ?_ ?_ ?_; omega; omega; omega; intro x1 m1 y1 z1; have B1 : Hid (Blk x1 wc.heap.size 5 (([] ++ (d.take 0 ++ List.replicate (64 - 0) (0 : UInt8))).map bv).toArray) := Lib.hid (hzm.out ▸ m1.out); replace y1 := Lib.hid y1; clear m1 z1))
        obtain ⟨gb, hgb⟩ : ∃ gb, wc.heap.size = gb := ⟨_, rfl⟩
        have hgb2 := Lib.hid hgb
        rw [hgb] at B1 ⊢
        clear hgb
        have hgq : Hid (gb ≠ bq ∧ gb ≠ g2 ∧ gb ≠ bm ∧ gb ≠ bS) := Lib.hid (by
          have h1 := hBw.out.lt
          have h2 : g2 < wc.heap.size := Nat.lt_of_lt_of_le hgl2 hkw.out.size
          obtain ⟨cap, cells, a1, a2, _⟩ := hMr.out.ex
          have h3 := a1.lt
          have h4 := a2.lt
          have h5 := hgb2.out
          omega)
        go_wp2_with fail
        go_loopw [8] (fun iv wr => ∃ i : Nat, i ≤ l ∧ iv = .int .i64 i ∧ Hid (Blk wr gb 5 (([] ++ (d.take i ++ List.replicate (64 - i) (0 : UInt8))).map bv).toArray) ∧ Hid (Keeps [gb] x1 wr)) (fun iv _ => l - (intOf iv).toNat)
        case atStart => exact ⟨0, Nat.zero_le _, rfl, B1, Lib.hid (Keeps.refl _ _)⟩
        case round =>
          clear B1
          obtain ⟨i, hil, rfl, B, hkb⟩ := hrel
          by_cases hi : i < l
          · obtain ⟨v, hv⟩ : ∃ v, d[i]? = some v := ⟨d[i]'(by rw [hdl.out]; exact hi), List.getElem?_eq_getElem _⟩
            have hii : (i : Int) < (l : Int) := by omega
            have hi64 : (i : Int) < 64 := by omega
            have hi0 : (0 : Int) ≤ (i : Int) := by omega
            have hBd2 := (hBd.out.keep y1.out (by simp)).keep hkb.out (fun a ha => by cases ha; simp; exact hgq.out.2.1.symm)
            have q1 := bts_at hBd2 (i := i) (by rw [hdl.out]; exact hi)
            rw [List.getD_eq_getElem?_getD, hv] at q1
            have q2 := fill_cell B.out (i := i) (by simp only [List.nil_append, List.length_append, List.length_take, List.length_replicate, hdl.out]; omega)
            have q3 := B.out.frozen i
            have B3 := B.out.set_ i (bv v)
            have hfill := lay_fill [] d i 64 v hv (by rw [hdl.out]; omega) (p := 0) rfl
            rw [Nat.zero_add] at hfill
            rw [hfill] at B3
            have kb3 := Lib.hid (hkb.out.setCell (p := ⟨gb, i, none⟩) (.inl (by simp)) (bv v))
            replace B3 := Lib.hid B3
            clear hfill hBd2 B
            go_wp2_with fail
            go_roundw
            case rel => exact ⟨i + 1, by omega, by go_num, B3, kb3⟩
            case measure => simp [intOf]; omega
          · obtain rfl : l = i := by omega
            have hil0 : ¬ (l : Int) < (l : Int) := by omega
            have Bl : Blk wr gb 5 ((d ++ List.replicate (64 - l) 0).map bv).toArray := by
              have h1 := B.out
              rw [List.nil_append, List.take_of_length_le (by rw [hdl.out]; omega)] at h1
              exact h1
            have q59 := lay_cell Bl hdl.out hl59
            have f59 := Bl.frozen 59
            have b3 := Bl.set_ 59 (.int .u8 (l : Int))
            rw [lay_two _ l hdl.out hl59] at b3
            have kx3 : Keeps [] wc (wr.setCell ⟨gb, 59, none⟩ (.int .u8 (l : Int))) := (((y1.out.nil).trans hkb.out).setCell (p := ⟨gb, 59, none⟩) (.inl (by simp)) (.int .u8 (l : Int))).mono (fun x hx => by simp at hx; subst hx; exact .inr (by have := hgb2.out; omega))
            have lmod : (l : Int) % 256 = l := by omega
            have lw : IntKind.u8.wrap (l : Int) = l := by rw [IntKind.wrap_u8']; omega
            replace b3 := Lib.hid b3
            replace kx3 := Lib.hid kx3
            clear B Bl hkb
            go_wp2_with fail
            clear q59 f59
            generalize wr.setCell ⟨gb, 59, none⟩ (.int .u8 (l : Int)) = x3 at *
            obtain ⟨pre, hpre⟩ : ∃ pre, d ++ List.replicate (59 - l) 0 ++ [UInt8.ofNat l] = pre := ⟨_, rfl⟩
            have hprel : Hid (pre.length = 60) := Lib.hid (by rw [← hpre]; simp only [List.length_append, List.length_replicate, List.length_singleton, hdl.out]; omega)
            have hpk : Hid (pre ++ be32 ep = pack d ep) := Lib.hid (by rw [← hpre]; unfold pack; rw [hdl.out])
            rw [hpre] at b3
            replace hpre := Lib.hid hpre
            have B0 : Hid (Blk x3 gb 5 ((pre ++ ((be32 ep).take 0 ++ List.replicate (4 - 0) 0)).map bv).toArray) := Lib.hid b3.out
            clear b3
            go_loopw [9] (fun iv wr => ∃ i : Nat, i ≤ 4 ∧ iv = .int .i64 i ∧ Hid (Blk wr gb 5 ((pre ++ ((be32 ep).take i ++ List.replicate (4 - i) 0)).map bv).toArray) ∧ Hid (Keeps [gb] x3 wr)) (fun iv _ => 4 - (intOf iv).toNat)
            case atStart => exact ⟨0, Nat.zero_le _, rfl, B0, Lib.hid (Keeps.refl _ _)⟩
            case round =>
              clear B0
              obtain ⟨i, hi4, rfl, B, hkb⟩ := hrel
              by_cases hi : i < 4
              · obtain ⟨v, hv⟩ : ∃ v, (be32 ep)[i]? = some v := ⟨(be32 ep)[i]'(by rw [be32_len]; exact hi), List.getElem?_eq_getElem _⟩
                have hii : (i : Int) < 4 := by omega
                have hi0 : (0 : Int) ≤ (i : Int) := by omega
                have ew2 : IntKind.i64.wrap (60 + (i : Int)) = 60 + (i : Int) := IntWalk.i64_in _ (by omega)
                have hi64 : 60 + (i : Int) < 64 := by omega
                have hi60 : (0 : Int) ≤ 60 + (i : Int) := by omega
                have htn2 : (60 + (i : Int)).toNat = 60 + i := by omega
                have hBr := (hBw.out.keep kx3.out (by simp)).keep hkb.out (by simp; exact hgq.out.1.symm)
                have s3 : wr.cell? ⟨bq, 3, none⟩ = some (.int .u32 ep) := (hBr.cell 3).trans rfl
                have HN := Lib.hid (number4_any wr ep hep)
                clear hBr
                go_wp2_with fail
                refine HN.out.mono ?_
                rintro e x5 ⟨rfl, hP, k5⟩
                have hvl : (be32 ep).length = 4 := be32_len ep
                have q1 : x5.cell? ⟨wr.heap.size, i, none⟩ = some (.int .u8 (v.toNat : Nat)) := by
                  rw [hP.cell]; simp [hv, bv]
                have Bx := B.out.keep k5 (by simp)
                have q2 := fill_cell Bx (i := 60 + i) (by simp only [List.length_append, List.length_take, List.length_replicate, hprel.out, be32_len]; omega)
                have q3 := Bx.frozen (60 + i)
                have B3 := Bx.set_ (60 + i) (bv v)
                rw [lay_fill pre (be32 ep) i 4 v hv (by rw [be32_len]; omega) hprel.out] at B3
                have kb3 := Lib.hid ((hkb.out.trans k5.nil).setCell (p := ⟨gb, 60 + i, none⟩) (.inl (by simp)) (bv v))
                replace B3 := Lib.hid B3
                clear Bx B hP k5 HN s3
                go_wp2_with fail
                go_roundw
                case rel => exact ⟨i + 1, by omega, by go_num, B3, kb3⟩
                case measure => simp [intOf]; omega
              · obtain rfl : i = 4 := by omega
                have hBp : Blk wr gb 5 ((pack d ep).map bv).toArray := by
                  have h1 := B.out
                  rw [List.take_of_length_le (by rw [be32_len]; omega), Nat.sub_self, List.replicate_zero, List.append_nil, hpk.out] at h1
                  exact h1
                have kx6 : Keeps [] wc wr := (kx3.out.nil.trans hkb.out).mono (fun x hx => by simp at hx; subst hx; exact .inr (by have := hgb2.out; omega))
                have hM6 := (hMr.out.keep kx6 (by simp) (by simp) (by simp)).keep (Keeps.refl [] wr).drew (by simp) (by simp) (by simp)
                have hB6 := (hBw.out.keep kx6 (by simp)).drew
                have s0 : wr.cell? ⟨bq, 0, none⟩ = some (.pointer (some ⟨bm, 0, none⟩)) := (hB6.cell 0).trans rfl
                have s1 : wr.cell? ⟨bq, 1, none⟩ = some (.int .i64 fi) := (hB6.cell 1).trans rfl
                have hws1 := hws.out
                have HW := rwrite_any wr.drew bm bS s' ((fi : Int) + (k : Int)) (some ⟨gb, 0, none⟩) (pack d ep) 64 64 (pack_len (by rw [hdl.out]; exact hl59)) hM6 (bts_new hBp.drew) (fun _ a ha => by cases ha; exact hgq.out.2.2.1) (Nat.le_refl _) hws1.1 (by omega) (fun z hz => Nat.lt_of_lt_of_le (hx2l.out z hz) (Nat.le_trans hkw.out.size kx6.size))
                have hqw := wr_writes s' ((fi : Int) + (k : Int)) (pack d ep) hws1.1
                have hne0 : (L ++ enc r).drop (59 * k) ≠ [] := by
                  intro h0
                  have := congrArg List.length h0
                  rw [List.length_drop, hLl.out] at this
                  simp at this
                  omega
                have hfu : u2 - 59 * a0 - (k - a0) = (u2 - 59 * a0 - (k + 1 - a0)) + 1 := by omega
                have hQ' := hQr.out
                rw [hfu] at hQ'
                have hcast : ((fi + k : Nat) : Int) = (fi : Int) + (k : Int) := by omega
                have hstep : ((Go.Proofs.Ytnoaahgjfknnlaa.wr s' ((fi : Int) + (k : Int)) (pack d ep)).2 = 0 → wrs (Go.Proofs.Ytnoaahgjfknnlaa.wr s' ((fi : Int) + (k : Int)) (pack d ep)).1 (fi + (k + 1)) ep (u2 - 59 * a0 - (k + 1 - a0)) ((L ++ enc r).drop (59 * (k + 1))) = Q) ∧
                    ((Go.Proofs.Ytnoaahgjfknnlaa.wr s' ((fi : Int) + (k : Int)) (pack d ep)).2 ≠ 0 → Go.Proofs.Ytnoaahgjfknnlaa.wr s' ((fi : Int) + (k : Int)) (pack d ep) = Q) := by
                  rw [← hQ', ← hcast, ← hd59.out, show 59 * (k + 1) = 59 * k + 59 by omega, ← List.drop_drop]
                  exact ⟨fun h => (wrs_ok hne0 h).symm, fun h => (wrs_bad hne0 h).symm⟩
                generalize Go.Proofs.Ytnoaahgjfknnlaa.wr s' ((fi : Int) + (k : Int)) (pack d ep) = q at *
                replace HW := Lib.hid HW
                replace hstep := Lib.hid hstep
                replace hqw := Lib.hid hqw
                replace hws1 := Lib.hid hws1
                replace hkx6 := Lib.hid kx6
                have ew3 : IntKind.i64.wrap ((fi : Int) + (k : Int)) = (fi : Int) + (k : Int) := IntWalk.i64_in _ (by omega)
                clear hQ' hfu hcast hM6 hB6 kx6 hBp B hkb hne0 hd
                go_wp2_with fail
                go_still_tail 11, (by kernel_rfl)
                change wpList _ _ _ _ _ wr.drew
                go_wp2_with fail
                refine HW.out.mono ?_
                rintro e x7 ⟨rfl, hM7, k7⟩
                have hkw7 := Lib.hid ((hkw.out.trans (hkx6.out.nil.trans (Keeps.refl _ _).drew)).trans k7)
                replace hM7 := Lib.hid hM7
                clear HW s0 s1 k7 hkx6 hMr
                by_cases hq0 : q.2 = 0
                · have hqb : (q.2 != 0) = false := by simp [hq0]
                  have hQ7 := Lib.hid (hstep.out.1 hq0)
                  have ew4 : IntKind.i64.wrap ((k : Int) + 1) = (k : Int) + 1 := IntWalk.i64_in _ (by omega)
                  go_wp2_with fail
                  go_roundw
                  case rel => exact ⟨k + 1, q.1, by omega, by go_num, by omega, hM7, hQ7, Lib.hid (by have := hqw.out; have := hws1.out; omega), hkw7⟩
                  case measure => simp [intOf]; omega
                · have hqb : (q.2 != 0) = true := by simp [hq0]
                  have hQ7 := hstep.out.2 hq0
                  subst hQ7
                  go_wp2_with fail
                  go_ret
                  refine ⟨rfl, x2, hx2.out, (fun z hz => Nat.lt_of_lt_of_le (hx2l.out z hz) hkw7.out.size), hM7.out, fun h => absurd h hq0, ?_⟩
                  exact (kz.out.mono (fun y hy => .inl (mem_bq hy))).trans (hkw7.out.mono (fun y hy => .inl (by simp at hy; simp; omega)))
    · have hlti : ¬ (k : Int) * 59 < (u2 : Int) := by omega
      have hnil : (L ++ enc r).drop (59 * k) = [] := List.drop_of_length_le (by rw [hLl.out]; omega)
      have hQ7 := hQr.out
      rw [hnil, wrs_nil] at hQ7
      have hBr := hBz.out.keep hkw.out (by simp; exact ⟨hne1, hne2⟩)
      have s5 : wr.cell? ⟨bq, 5, none⟩ = some (.int .i64 rc) := (hBr.cell 5).trans rfl
      have f5 := hBr.frozen 5
      have ewr : IntKind.i64.wrap ((rc : Int) + 1) = (rc : Int) + 1 := IntWalk.i64_in _ (by omega)
      have hBs := Lib.hid (hBr.set_ 5 (.int .i64 ((rc : Int) + 1)))
      have ks : Hid (Keeps [bq] wr (wr.setCell ⟨bq, 5, none⟩ (.int .i64 ((rc : Int) + 1)))) := Lib.hid ((Keeps.refl [bq] wr).setCell (by simp) _)
      have hMs := Lib.hid (hMr.out.keep ks.out (by simp; exact hne1.symm) (by simp; exact hne2.symm) (fun g cur hg _ => by simp; exact hg.ne_ hBr (by decide)))
      have hg2x : g2 ∉ [bm, bS] := by simp; exact hne3
      have hg2q : g2 ≠ bq := hcur2.out.ne_ hBz.out (by decide)
      have hos := Lib.hid (own_keep (own_keep oz.out hkw.out (fun g hg => by cases hg; exact hg2x)) ks.out (fun g hg => by cases hg; simp; exact hg2q))
      subst hQ7
      clear hBr hnil
      go_wp2_with fail
      go_ret
      refine ⟨rfl, x2, hx2.out, (fun z hz => Nat.lt_of_lt_of_le (hx2l.out z hz) (Nat.le_trans hkw.out.size ks.out.size)), hMs.out, fun _ => ?_, ?_⟩
      · refine ⟨⟨_, hBs.out, ?_, hxx.out⟩, hco, hfi, hep0, hep, by rw [hLl.out]; exact hu60, hrc⟩
        rw [hLl.out]
        exact hos.out
      · exact ((kz.out.mono (fun y hy => .inl (mem_bq hy))).trans (hkw.out.mono (fun y hy => .inl (by simp at hy; simp; omega)))).trans (ks.out.mono (fun y hy => .inl (by simp at hy; simp; omega)))
end Go.Proofs.Ytnoaahgjfknnlaa
