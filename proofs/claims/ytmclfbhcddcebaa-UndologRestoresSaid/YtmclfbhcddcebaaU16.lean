/- SortFunc: its contract. -/
import Derived.Test.YtmclfbhcddcebaaU15
namespace Go.Proofs.Ytmclfbhcddcebaa
open Go.RowKit Go.Shelf Go.Sort
set_option linter.unusedSimpArgs false
set_option linter.unusedVariables false

theorem rows_get (F : List PQ) (j : Nat) (hj : j < F.length * 4) : (rows F)[j]? = some ((flatK encQ 4 F.toArray)[j]!) := by
  have hi : j / 4 < F.length := by omega
  obtain ⟨x, hx⟩ : ∃ x, F[j / 4]? = some x := ⟨F[j / 4], List.getElem?_eq_getElem hi⟩
  obtain ⟨h1, h2, h3, h4⟩ := flatC_get (F.map (·.1)) (j / 4) x.1 (by rw [List.getElem?_map, hx]; rfl)
  have hxx : F.toArray[j / 4]! = x := by
    rw [List.getElem!_toArray, getElem!_pos F (j / 4) hi]
    rw [List.getElem?_eq_getElem hi] at hx
    exact Option.some.inj hx
  unfold rows
  rw [get_flatK _ _ _ _ (by simpa using hj), hxx]
  rcases (by omega : j % 4 = 0 ∨ j % 4 = 1 ∨ j % 4 = 2 ∨ j % 4 = 3) with hm | hm | hm | hm
  · rw [hm, show j = j / 4 * 4 by omega, h1]
    rfl
  · rw [hm, show j = j / 4 * 4 + 1 by omega, h2]
    rfl
  · rw [hm, show j = j / 4 * 4 + 2 by omega, h3]
    rfl
  · rw [hm, show j = j / 4 * 4 + 3 by omega, h4]
    rfl
theorem blk_sort (w : World) (g n : Nat) (d : Array PQ) (os : Array Obj) (cur : Array Value) (h : Blk w g 35 cur) : ∃ cur', Blk (sortWorldK encQ 4 w g 0 n d os) g 35 cur' ∧ cur'.size = cur.size := by
  refine ⟨putCells id 0 (flatK encQ 4 d) cur, ?_, by simp [putCells]⟩
  show (grow (putRowK encQ 4 (Go.Sort.ahead w n) g 0 d) os).heap[g]? = _
  have hlt := h.lt
  have hs : (putRowK encQ 4 (Go.Sort.ahead w n) g 0 d).heap.size = w.heap.size := by simp [putRowK, putRow, mapBlock, Go.Sort.ahead]
  rw [heap_grow_old _ _ (by omega)]
  have h' : w.heap[g]? = some (.cells cur 35 (0, 0)) := h
  simp [putRowK, putRow, mapBlock, Go.Sort.ahead, Array.getElem?_modify, h', onCells]

def AscQ (l : List PQ) : Prop := l.Pairwise fun a b => ¬ (b.1.t < a.1.t ∨ (b.1.t = a.1.t ∧ b.1.id < a.1.id))
theorem sort_any (w : World) (base g n c : Nat) (F : List PQ) (hF : F.length = n) (hown : w.ownsRow base 35 4 (.slice (some ⟨g, 0, none⟩) n c) n (rows F)) (hn : n ≤ 1048576) :
    Calls Try.prog 36 #[.slice (some ⟨g, 0, none⟩) n c, .func (.func 37) #[] #[]] w fun e w' => e = .returned (.tuple #[]) ∧ ∃ S : List PQ, S.Perm F ∧ AscQ S ∧ w'.ownsRow base 35 4 (.slice (some ⟨g, 0, none⟩) n c) n (rows S) ∧ Keeps [g] w w' := by
  obtain ⟨cur, hbg, hg, hnc, hcm, hcs, hct⟩ : ∃ cur : Array Value, base ≤ g ∧ Blk w g 35 cur ∧ n ≤ c ∧ c ≤ maxLen ∧ cur.size = c * 4 ∧ cur.toList.take (n * 4) = rows F := by
    rcases hown.2 with ⟨h, _⟩ | ⟨g', cap, cur, hv, h1, h2, h3, h4, h5, h6⟩
    · simp at h
    · simp only [Value.slice.injEq, Option.some.injEq, Addr.mk.injEq] at hv
      obtain ⟨⟨rfl, _, _⟩, _, rfl⟩ := hv
      exact ⟨cur, h1, h2, h3, h4, h5, h6⟩
  have hB : Blk w g 35 (rows F ++ cur.toList.drop (n * 4)).toArray := by
    rw [← hct, List.take_append_drop]
    exact hg
  have hH := holds_rows hB
  have hsz : F.toArray.size = n := by simpa using hF
  have hS := Try.slices_SortFunc (α := PQ) 4 Try.isAgg35 Try.sizeOf35 encQ (fun _ => rfl) (fun x => cells_one x.1) cfP swoP 37 #[] g 0 c F.toArray w enter37 (cmpLays37 g 0 F.toArray.size w) hH hB.lt (by rw [hsz]; omega)
  rw [hsz] at hS
  refine hS.mono ?_
  rintro e w' ⟨rfl, d', m, os, hp, hs, rfl⟩
  have hd : d'.size = n := hp.1.trans hsz
  refine ⟨rfl, d'.toList, ?_, ?_, ?_, keeps_sort w g m d' os hB.lt⟩
  · have := hp.2.2
    rw [Array.extract_eq_self_of_le (by rw [hp.1, hsz]; exact Nat.le_refl _), Array.extract_eq_self_of_le (by rw [hsz]; exact Nat.le_refl _)] at this
    exact this
  · unfold AscQ
    rw [List.pairwise_iff_getElem]
    intro i j hi hj hij
    have h1 : j < n := by have := hp.1; rw [hsz] at this; simpa [this] using hj
    have := hs i j (Nat.zero_le _) hij h1
    rw [ltP] at this
    simp only [decide_eq_false_iff_not] at this
    rw [getElem!_pos d' i (by simpa using hi), getElem!_pos d' j (by simpa using hj)] at this
    simp only [Array.getElem_toList]
    exact this
  · have hH2 := holdsK_sortWorldK_c encQ 4 w g 0 F.toArray d' m os hH hB.lt hp.1
    obtain ⟨cur', hB', hc'⟩ := blk_sort w g m d' os cur hg
    have hdl : d'.toList.length = n := by simpa using hd
    refine ⟨by rw [rows_len, hdl], .inr ⟨g, c, cur', rfl, hbg, hB', hnc, hcm, by rw [hc', hcs], ?_⟩⟩
    refine List.ext_getElem? (fun j => ?_)
    by_cases hj : j < n * 4
    · rw [List.getElem?_take, if_pos hj, rows_get _ j (by rw [hdl]; exact hj)]
      have := (hH2 j (by rw [size_flatK, hd]; exact hj)).1
      rw [Nat.zero_add, hB'.cell] at this
      simpa using this
    · rw [List.getElem?_eq_none (by rw [List.length_take]; omega), List.getElem?_eq_none (by rw [rows_len, hdl]; omega)]
end Go.Proofs.Ytmclfbhcddcebaa
