/- The contract of Statement. -/
import Derived.Test.YtbhdangjafokaaaSess7
import Derived.Laws.ResultCell
import Derived.Laws.Rows
namespace Go.Proofs.Ytbhdangjafokaaa
open Go.RowKit
set_option linter.unusedSimpArgs false
set_option linter.unusedVariables false

/-- Statement's results. -/
def stN (ks : List Int) (cur dn : Nat) : List Value × Bool :=
  if (nx ks cur dn).2 = true then (stm (ks.getD (nx ks cur dn).1 0) ((nx ks cur dn).1 : Nat), true) else (stm 0 0, false)

theorem nx_at {ks : List Int} {cur dn at_ : Nat} (h : nx ks cur dn = (at_, true)) : at_ < ks.length := by
  rcases Nat.lt_or_ge cur (split ks).length with hlt | hge
  · obtain ⟨p, hp⟩ : ∃ p, (split ks)[cur]? = some p := ⟨_, List.getElem?_eq_getElem hlt⟩
    have hm := split_mem hp
    rw [nx_in hp] at h
    by_cases hle : p.1 + dn ≤ p.2
    · rw [if_pos hle] at h
      injection h with h1 h2
      omega
    · rw [if_neg hle] at h; injection h with h1 h2; cases h2
  · rw [nx_end hge] at h; injection h with h1 h2; cases h2

/-- An owned row's block, with the statement at a place. -/
theorem own_stm {w : World} {base n : Nat} {v : Value} {ks : List Int} {i : Nat} {k : Int} (h : w.ownsRow base 57 22 v n (stms ks)) (hn : ks.length = n) (hk : ks[i]? = some k) :
    ∃ g c, ∃ cs : List Value, v = .slice (some ⟨g, 0, none⟩) n c ∧ n ≤ c ∧ c ≤ maxLen ∧ Blk w g 57 cs.toArray ∧ (cs.drop (i * 22)).take 22 = stm k (i : Nat) ∧ i * 22 + 22 ≤ cs.length := by
  have hi : i < n := by
    rcases Nat.lt_or_ge i ks.length with hl | hl
    · omega
    · rw [List.getElem?_eq_none hl] at hk; cases hk
  rcases h.2 with ⟨_, h2⟩ | ⟨g, cap, cur, hv, hb, hg, hc, hm, hs, ht⟩
  · omega
  · have hlen : (stms ks).length = n * 22 := by rw [stms_len, hn]
    have hcl : n * 22 ≤ cur.toList.length := by
      have := congrArg List.length ht
      rw [List.length_take, hlen] at this
      omega
    refine ⟨g, cap, cur.toList, hv, hc, hm, hg, ?_, by omega⟩
    apply List.ext_getElem?
    intro j
    by_cases hj : j < 22
    · rw [List.getElem?_take, if_pos hj, List.getElem?_drop, ← stms_get hk hj, ← ht, List.getElem?_take, if_pos (by omega)]
    · rw [List.getElem?_take, if_neg hj, List.getElem?_eq_none (by rw [stm_len]; omega)]

/-- The results of a function that hands back a struct's block and a plain value. -/
theorem results_cell2 {fn : Func} {p u : Tmp} {ty : TypeId} (h : fn.results = #[.cell p ty, .tmp u]) (tmps : Array Value) (P : Program) (w : World) (g : Nat) (t : TypeId) (cs : Array Value) {fs : Array Field}
    (hp : tmps.getD p undef = .pointer (some ⟨g, 0, none⟩)) (hg : Blk w g t cs)
    (hu : P.underlying ty = some (.struct fs)) (hi : (P.info? ty).map (·.size) = some cs.size) :
    (results fn tmps).run P w = .ok (.tuple #[.agg cs, tmps.getD u undef]) w := by
  rw [results_cell_tmp h, hp]
  simp [asAddr, Result.andThen, run_loadVar_row w g t ty cs (0, 0) _ hg hu rfl hi]

set_option maxHeartbeats 1600000 in
theorem statement_any (w : World) (b : Nat) (num : Int) (ks : List Int) (cur dn : Nat) (h : SRep w b num ks cur dn) :
    Calls Try.prog 21 #[.pointer (some ⟨b, 0, none⟩)] w fun e w' => e = .returned (.tuple #[.agg (stN ks cur dn).1.toArray, .bool (stN ks cur dn).2]) ∧ Keeps [] w w' := by
  have HN : ∀ o, Calls Try.prog 17 #[.pointer (some ⟨b, 0, none⟩)] (w.alloc o) fun e w' => e = .returned (.tuple #[.int .i64 ((nx ks cur dn).1 : Nat), .bool (nx ks cur dn).2]) ∧ Keeps [] (w.alloc o) w' :=
    fun o => next_any (w.alloc o) b num ks cur dn (h.keep ((Keeps.refl _ _).alloc o))
  have hl := h.len
  have hx := @nx_at ks cur dn
  unfold stN
  replace h := Lib.hid h
  generalize nx ks cur dn = r at *
  obtain ⟨at_, ok⟩ := r
  cases ok
  · simp only [if_true, Bool.false_eq_true, if_false] at HN ⊢
    replace HN := Lib.hid HN
    clear hx
    go_enter Try.func21, Try.ntmps21
    go_wp2_with fail
    refine (HN.out _).mono ?_
    rintro e w1 ⟨rfl, k1⟩
    have HB := Lib.hid ((Blk.new w 57 (stm 0 0).toArray).keep k1 (by simp))
    replace k1 := Lib.hid k1
    go_wp2_with (refine wpList_store_mid rfl 57 (.tmp 2) (.tmp 13) rfl w.heap.size 0 rfl 57 (stm 0 0) (stm 0 0) rfl HB.out (by kernel_rfl) (by decide) (stm_one _ _) ?_; intro w2 hm2 hk2; rw [splice_all _ _ rfl] at hm2; replace hk2 := Lib.hid hk2)
    (try simp only [Exit.inBlock, Exit.then]); refine bodyPost_ret (results_cell2 rfl _ _ _ w.heap.size 57 _ rfl hm2.out Try.underlying57 (by kernel_rfl)) rfl ?_
    exact ⟨rfl, ((((Keeps.refl _ _).alloc _).trans k1.out).nil.trans hk2.out).mono (by intro x hx; simp at hx; subst hx; exact .inr (Nat.le_refl _))⟩
  · have hi := hx rfl
    obtain ⟨k, hk⟩ : ∃ k, ks[at_]? = some k := ⟨_, List.getElem?_eq_getElem hi⟩
    simp only [if_true] at HN ⊢
    rw [getD_of hk]
    replace HN := Lib.hid HN
    go_enter Try.func21, Try.ntmps21
    go_wp2_with fail
    refine (HN.out _).mono ?_
    rintro e w1 ⟨rfl, k1⟩
    have HB := Lib.hid ((Blk.new w 57 (stm 0 0).toArray).keep k1 (by simp))
    obtain ⟨sv, pv, hB, h2, h3⟩ := ((h.out.keep ((Keeps.refl _ _).alloc (.cells (stm 0 0).toArray 57))).keep k1).ex
    obtain ⟨g, c, cs, rfl, hnc, hcm, hG, hcut, hfit⟩ := own_stm h2 rfl hk
    have s1 : w1.cell? ⟨b, 1, none⟩ = some (.slice (some ⟨g, 0, none⟩) ks.length c) := by rw [hB.cell]; rfl
    have hcut0 : (at_ : Int) < (ks.length : Int) := by omega
    have hcut1 : (0 : Int) ≤ (at_ : Int) := by omega
    replace hcut := Lib.hid hcut
    replace hfit := Lib.hid hfit
    replace hG := Lib.hid hG
    replace k1 := Lib.hid k1
    clear hB h2 h3 HN hx hk
    go_wp2_with (first
      | (refine wpList_load_mid rfl 57 (.tmp 19) rfl g (at_ * 22) 22 rfl 57 cs _ hG.out Try.underlying57 rfl (by kernel_rfl) hfit.out ?_; rw [hcut.out])
      | (refine wpList_store_mid rfl 57 (.tmp 2) (.tmp 20) rfl w.heap.size 0 rfl 57 (stm 0 0) (stm k (at_ : Nat)) rfl HB.out (by rw [stm_len]; kernel_rfl) (by rw [stm_len, stm_len]; decide) (stm_one _ _) ?_; intro w2 hm2 hk2; rw [splice_all _ _ (by rw [stm_len, stm_len])] at hm2; replace hk2 := Lib.hid hk2))
    (try simp only [Exit.inBlock, Exit.then]); refine bodyPost_ret (results_cell2 rfl _ _ _ w.heap.size 57 _ rfl hm2.out Try.underlying57 (by kernel_rfl)) rfl ?_
    exact ⟨rfl, ((((Keeps.refl _ _).alloc _).trans k1.out).nil.trans hk2.out).mono (by intro x hx; simp at hx; subst hx; exact .inr (Nat.le_refl _))⟩
end Go.Proofs.Ytbhdangjafokaaa
