/- SortFunc at the least integers, on a row that the call owns. -/
import Derived.Test.YthmnolpamllabaaIv4
namespace Go.Proofs.Ythmnolpamllabaa
open Go.RowKit Go.Sort
set_option linter.unusedSimpArgs false
set_option linter.unusedVariables false

theorem enter45 : ∀ args w, (callFunc 45 args).run Try.prog w = .ok (.enter 45 args) w := enters_of Try.func45 (by kernel_rfl) rfl

def cfI (x y : Iv) : Int := cmpI x.1 y.1
theorem ltI (x y : Iv) : ltOf cfI x y = decide (x.1 < y.1) := by
  unfold ltOf cfI cmpI
  by_cases h1 : x.1 < y.1
  · simp [h1]
  · by_cases h2 : y.1 < x.1 <;> simp [h1, h2]
theorem swoI : SWO (ltOf cfI) where
  irrefl x := by rw [ltI]; simp
  trans x y z h1 h2 := by rw [ltI] at *; simp at *; omega
  ntrans x y z h1 h2 := by rw [ltI] at *; simp at *; omega

set_option maxHeartbeats 1000000 in
theorem closure45 (x y : Iv) (W : World) : Calls Try.prog 45 #[.agg #[.int .i64 x.1, .int .i64 x.2], .agg #[.int .i64 y.1, .int .i64 y.2]] W fun e w' => e = .returned (.int .i64 (cfI x y)) ∧ ∃ q os', w' = grow (W.drewN q) os' := by
  have hcon := Lib.hid (fun W' => cmp_any W' x.1 y.1)
  show Calls Try.prog 45 _ W fun e w' => e = .returned (.int .i64 (cmpI x.1 y.1)) ∧ ∃ q os', w' = grow (W.drewN q) os'
  generalize cmpI x.1 y.1 = r at hcon ⊢
  go_enter Try.func45, Try.ntmps45
  go_wp2_with (go_at_call 46; refine (hcon.out _).mono ?_; rintro e w' ⟨rfl, rfl⟩)
  go_ret
  exact ⟨rfl, 0, _, by rw [alloc_eq_grow, alloc_eq_grow, grow_grow]; rfl⟩
theorem cmpLays45 (blk off size : Nat) (w : World) : CmpLays Try.prog 45 #[] cv 2 cfI blk off size w := fun _ _ _ _ x y => closure45 x y _

def Asc (l : List Iv) : Prop := l.Pairwise fun a b => a.1 ≤ b.1

theorem keeps_sort (w : World) (g n : Nat) (d : Array Iv) (os : Array Obj) (hg : g < w.heap.size) : Keeps [g] w (sortWorldK cv 2 w g 0 n d os) := by
  refine ⟨rfl, rfl, rfl, ?_, fun k hk hx => ?_⟩
  · show w.heap.size ≤ (grow (putRowK cv 2 (Go.Sort.ahead w n) g 0 d) os).heap.size
    rw [size_grow]
    have : (putRowK cv 2 (Go.Sort.ahead w n) g 0 d).heap.size = w.heap.size := by simp [putRowK, putRow, mapBlock, Go.Sort.ahead]
    omega
  · show (grow (putRowK cv 2 (Go.Sort.ahead w n) g 0 d) os).heap[k]? = _
    have hs : (putRowK cv 2 (Go.Sort.ahead w n) g 0 d).heap.size = w.heap.size := by simp [putRowK, putRow, mapBlock, Go.Sort.ahead]
    rw [heap_grow_old _ _ (by omega)]
    have hne : ¬ g = k := by intro h; exact hx (by simp [h])
    simp [putRowK, putRow, mapBlock, Go.Sort.ahead, Array.getElem?_modify, hne]

theorem holds_flat {w : World} {g : Nat} {F : List Iv} {tail : List Value} (h : Blk w g 39 (flat F ++ tail).toArray) : HoldsK cv 2 w g 0 F.toArray := by
  intro j hj
  rw [size_flatK] at hj
  have hj' : j < F.length * 2 := by simpa using hj
  refine ⟨?_, by rw [Nat.zero_add]; exact h.frozen j⟩
  have hi : j / 2 < F.length := by omega
  obtain ⟨x, hx⟩ : ∃ x, F[j / 2]? = some x := ⟨F[j / 2], List.getElem?_eq_getElem hi⟩
  obtain ⟨h1, h2⟩ := flat_get F (j / 2) x hx
  have hfl := flat_len F
  have hxx : F.toArray[j / 2]! = x := by
    rw [List.getElem!_toArray, getElem!_pos F (j / 2) hi]
    rw [List.getElem?_eq_getElem hi] at hx
    exact Option.some.inj hx
  rw [get_flatK _ _ _ _ (by simpa using hj'), hxx, Nat.zero_add, h.cell, List.getElem?_toArray, List.getElem?_append_left (by omega)]
  rcases (by omega : j % 2 = 0 ∨ j % 2 = 1) with hm | hm
  · rw [hm, show j = j / 2 * 2 by omega, h1]
    rfl
  · rw [hm, show j = j / 2 * 2 + 1 by omega, h2]
    rfl

theorem sort_any (w : World) (base g n c : Nat) (F : List Iv) (hF : F.length = n) (hown : w.ownsRow base 39 2 (.slice (some ⟨g, 0, none⟩) n c) n (flat F)) (hn : n ≤ 1048576) :
    Calls Try.prog 44 #[.slice (some ⟨g, 0, none⟩) n c, .func (.func 45) #[] #[]] w fun e w' => e = .returned (.tuple #[]) ∧ ∃ S : List Iv, S.Perm F ∧ Asc S ∧ IvAt w' (g + 1) (some ⟨g, 0, none⟩) S ∧ Keeps [g] w w' := by
  obtain ⟨cur, hbg, hg, hct⟩ : ∃ cur : Array Value, base ≤ g ∧ Blk w g 39 cur ∧ cur.toList.take (n * 2) = flat F := by
    rcases hown.2 with ⟨h, _⟩ | ⟨g', cap, cur, hv, h1, h2, h3, h4, h5, h6⟩
    · simp at h
    · simp only [Value.slice.injEq, Option.some.injEq, Addr.mk.injEq] at hv
      obtain ⟨⟨rfl, _, _⟩, _, rfl⟩ := hv
      exact ⟨cur, h1, h2, h6⟩
  have hB : Blk w g 39 (flat F ++ cur.toList.drop (n * 2)).toArray := by
    rw [← hct, List.take_append_drop]
    exact hg
  have hH := holds_flat hB
  have hsz : F.toArray.size = n := by simpa using hF
  have hS := Try.slices_SortFunc (α := Iv) 2 Try.isAgg39 Try.sizeOf39 cv cv_len cv_one cfI swoI 45 #[] g 0 c F.toArray w enter45 (cmpLays45 g 0 F.toArray.size w) hH hB.lt (by rw [hsz]; omega)
  rw [hsz] at hS
  refine hS.mono ?_
  rintro e w' ⟨rfl, d', m, os, hp, hs, rfl⟩
  refine ⟨rfl, d'.toList, ?_, ?_, ?_, keeps_sort w g m d' os hB.lt⟩
  · have := hp.2.2
    rw [Array.extract_eq_self_of_le (by rw [hp.1, hsz]; exact Nat.le_refl _), Array.extract_eq_self_of_le (by rw [hsz]; exact Nat.le_refl _)] at this
    exact this
  · unfold Asc
    rw [List.pairwise_iff_getElem]
    intro i j hi hj hij
    have h1 : j < n := by have := hp.1; rw [hsz] at this; simpa [this] using hj
    have := hs i j (Nat.zero_le _) hij h1
    rw [ltI] at this
    simp only [decide_eq_false_iff_not] at this
    rw [getElem!_pos d' i (by simpa using hi), getElem!_pos d' j (by simpa using hj)] at this
    simp only [Array.getElem_toList]
    omega
  · have hH2 := holdsK_sortWorldK_c cv 2 w g 0 F.toArray d' m os hH hB.lt hp.1
    intro i x hx
    have hi : i < d'.size := by
      have := (List.getElem?_eq_some_iff.1 hx).1
      simpa using this
    have hxx : d'[i]! = x := by
      rw [getElem!_pos d' i hi]
      rw [Array.getElem?_toList, Array.getElem?_eq_getElem hi] at hx
      exact Option.some.inj hx
    have c0 := (hH2.cell hi (c := 0) (by decide)).1
    have c1 := (hH2.cell hi (c := 1) (by decide)).1
    rw [hxx] at c0 c1
    exact ⟨g, 0, rfl, Nat.lt_succ_self g, c0, c1⟩
end Go.Proofs.Ythmnolpamllabaa
