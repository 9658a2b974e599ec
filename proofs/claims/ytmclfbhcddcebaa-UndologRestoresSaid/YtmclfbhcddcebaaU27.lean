/- The laws of logs, in plain Lean: the net changes are one list; performing changes and undoing them. -/
import Derived.Test.YtmclfbhcddcebaaU26
namespace Go.Proofs.Ytmclfbhcddcebaa
open Go.RowKit Go.Shelf
set_option linter.unusedSimpArgs false
set_option linter.unusedVariables false

/-! ### the net changes are one list -/
def kq (c : Chg) : Int × Int := (c.t, c.id)
theorem hits_kq {c b : Chg} : hits c b = true ↔ kq b = kq c := by rw [hits_iff]; unfold kq; simp
theorem inj_of_nodup {α β : Type} {f : α → β} : ∀ {l : List α}, (l.map f).Nodup → ∀ {a b : α}, a ∈ l → b ∈ l → f a = f b → a = b
  | [], _, a, b, ha, _, _ => by cases ha
  | x :: l, h, a, b, ha, hb, e => by
    rw [List.map_cons, List.nodup_cons] at h
    rcases List.mem_cons.1 ha with rfl | ha' <;> rcases List.mem_cons.1 hb with rfl | hb'
    · rfl
    · exact absurd (by rw [e]; exact List.mem_map_of_mem hb') h.1
    · exact absurd (by rw [← e]; exact List.mem_map_of_mem ha') h.1
    · exact inj_of_nodup h.2 ha' hb' e
theorem pos_none {c : Chg} : ∀ {M : List Chg}, pos c M = none → ∀ b ∈ M, hits c b = false
  | [], _, b, h => by cases h
  | x :: r, h, b, hb => by
    unfold pos at h
    split at h
    · cases h
    · rename_i hx
      rcases List.mem_cons.1 hb with rfl | hb
      · simpa using hx
      · exact pos_none (by simpa using h) b hb
theorem map_set_same {α β : Type} (f : α → β) : ∀ (M : List α) (i : Nat) (b x : α), M[i]? = some b → f x = f b → (M.set i x).map f = M.map f
  | [], i, b, x, h, _ => by cases h
  | y :: r, 0, b, x, h, e => by
    obtain rfl : y = b := by simpa using h
    simp [e]
  | y :: r, i + 1, b, x, h, e => by
    simp [map_set_same f r i b x (by simpa using h) e]
theorem put_keys {M : List Chg} {c : Chg} (h : (M.map kq).Nodup) : ((put M c).map kq).Nodup := by
  unfold put
  split
  · rename_i i hp
    obtain ⟨h1, b, h2, h3⟩ := pos_lt hp
    rw [cAt_of h2]
    have e := map_set_same kq M i b ({ b with new := c.new }) h2 rfl
    rw [e]
    exact h
  · rename_i hp
    rw [List.map_append, List.nodup_append]
    refine ⟨h, by simp, fun a ha b hb => ?_⟩
    obtain ⟨x, hx, rfl⟩ := List.mem_map.1 ha
    simp only [List.map_cons, List.map_nil, List.mem_singleton] at hb
    rw [hb]
    intro e
    have := pos_none hp x hx
    rw [hits_kq.2 e] at this
    cases this
theorem foldl_snoc_ind {P : List Chg → Prop} (h0 : P []) (h1 : ∀ L c, P L → P (L ++ [c])) (L : List Chg) : P L := by
  rw [← List.reverse_reverse L]
  induction L.reverse with
  | nil => exact h0
  | cons c L ih => rw [List.reverse_cons]; exact h1 _ c ih
theorem net_nodup (L : List Chg) : ((netM L).map kq).Nodup := by
  refine foldl_snoc_ind (P := fun L => ((netM L).map kq).Nodup) (by simp [netM]) (fun L c h => ?_) L
  rw [netM_snoc]
  exact put_keys h
theorem netIs_nodup {L M : List Chg} (h : NetIs L M) : (M.map kq).Nodup := by
  refine (h.1.map kq).nodup_iff.2 ?_
  exact (List.Sublist.map kq List.filter_sublist).nodup (net_nodup L)
theorem netIs_uniq {L M N : List Chg} (h : NetIs L M) (k : NetIs L N) : M = N := by
  refine List.Perm.eq_of_pairwise (le := fun a b : Chg => ¬ (b.t < a.t ∨ (b.t = a.t ∧ b.id < a.id))) ?_ h.2 k.2 (h.1.trans k.1.symm)
  intro a b ha hb h1 h2
  refine inj_of_nodup (netIs_nodup h) ha ((h.1.trans k.1.symm).mem_iff.2 hb) ?_
  unfold kq
  have e1 : a.t = b.t := by omega
  rw [e1] at h1 h2 ⊢
  have e2 : a.id = b.id := by omega
  rw [e2]

/-! ### stored rows -/
structure Cl where
  t : Int
  id : Int
  row : List Val
deriving DecidableEq
def kc (x : Cl) : Int × Int := (x.t, x.id)
def sees (c : Chg) (x : Cl) : Bool := decide (x.t = c.t) && decide (x.id = c.id)
theorem sees_iff {c : Chg} {x : Cl} : sees c x = true ↔ kc x = kq c := by unfold sees kc kq; simp
def oldOf (s : List Cl) (c : Chg) : List Val := ((s.filter (sees c)).getLast?.map (·.row)).getD []
def others (s : List Cl) (c : Chg) : List Cl := s.filter (fun x => !sees c x)
def cel (c : Chg) : List Cl := if c.new = [] then [] else [⟨c.t, c.id, c.new⟩]
def perf1 (s : List Cl) (c : Chg) : Option (List Cl) := if oldOf s c = c.old then some (others s c ++ cel c) else none
def perf (s : List Cl) : List Chg → Option (List Cl)
  | [] => some s
  | c :: l => (perf1 s c).bind (fun s' => perf s' l)
theorem perf_append (s : List Cl) : ∀ (a b : List Chg), perf s (a ++ b) = (perf s a).bind (fun s' => perf s' b)
  | [], b => rfl
  | c :: a, b => by
    show (perf1 s c).bind _ = ((perf1 s c).bind _).bind _
    cases perf1 s c with
    | none => rfl
    | some s' => exact perf_append s' a b
structure Sound (s : List Cl) : Prop where
  nd : (s.map kc).Nodup
  ne : ∀ x ∈ s, x.row ≠ []
theorem Sound.nil : Sound [] := ⟨by simp, by simp⟩
theorem one_sees (c : Chg) : ∀ {s : List Cl}, (s.map kc).Nodup → s.filter (sees c) = [] ∨ ∃ x, s.filter (sees c) = [x] ∧ kc x = kq c
  | [], _ => .inl rfl
  | y :: s, h => by
    rw [List.map_cons, List.nodup_cons] at h
    rw [List.filter_cons]
    by_cases hy : sees c y = true
    · rw [if_pos hy]
      right
      refine ⟨y, ?_, sees_iff.1 hy⟩
      rcases one_sees c h.2 with h1 | ⟨x, h1, h2⟩
      · rw [h1]
      · exfalso
        have hx : x ∈ s := (List.mem_filter.1 (h1 ▸ List.mem_singleton.2 rfl : x ∈ s.filter (sees c))).1
        exact h.1 (by rw [sees_iff.1 hy, ← h2]; exact List.mem_map_of_mem hx)
    · rw [if_neg hy]
      exact one_sees c h.2
theorem filter_perm_eq {c : Chg} {a b : List Cl} (h : a.Perm b) (ha : (a.map kc).Nodup) : a.filter (sees c) = b.filter (sees c) := by
  have hp := h.filter (sees c)
  rcases one_sees c ha with h1 | ⟨x, h1, _⟩
  · rw [h1] at hp ⊢
    exact (List.nil_perm.1 hp).symm
  · rw [h1] at hp ⊢
    exact (List.perm_singleton.1 hp.symm).symm
theorem Sound.perm {a b : List Cl} (h : a.Perm b) (ha : Sound a) : Sound b := ⟨(h.map kc).nodup_iff.1 ha.nd, fun x hx => ha.ne x (h.mem_iff.2 hx)⟩
theorem perf1_perm {a b a' : List Cl} {c : Chg} (h : a.Perm b) (ha : Sound a) (hp : perf1 a c = some a') : ∃ b', perf1 b c = some b' ∧ a'.Perm b' := by
  unfold perf1 at hp ⊢
  split at hp
  · rename_i ho
    have : oldOf b c = c.old := by unfold oldOf at ho ⊢; rw [← filter_perm_eq h ha.nd]; exact ho
    rw [if_pos this]
    cases hp
    exact ⟨_, rfl, (h.filter _).append (List.Perm.refl _)⟩
  · cases hp
theorem not_sees_others {s : List Cl} {c : Chg} : (others s c).filter (sees c) = [] := by
  unfold others
  rw [List.filter_eq_nil_iff]
  intro x hx
  have := (List.mem_filter.1 hx).2
  simpa using this
theorem others_others {s : List Cl} {c : Chg} : others (others s c) c = others s c := by
  unfold others
  rw [List.filter_filter]
  congr 1
  funext x
  simp
theorem cel_sees (c : Chg) : ∀ x ∈ cel c, sees c x = true ∧ x.row = c.new ∧ c.new ≠ [] := by
  intro x hx
  unfold cel at hx
  split at hx
  · cases hx
  · rename_i hn
    rw [List.mem_singleton.1 hx]
    exact ⟨by unfold sees; simp, rfl, hn⟩
theorem perf1_sound {s s' : List Cl} {c : Chg} (h : Sound s) (hp : perf1 s c = some s') : Sound s' := by
  unfold perf1 at hp
  split at hp
  · cases hp
    refine ⟨?_, fun x hx => ?_⟩
    · rw [List.map_append, List.nodup_append]
      refine ⟨(List.Sublist.map kc List.filter_sublist).nodup h.nd, by unfold cel; split <;> simp, fun a ha b hb => ?_⟩
      obtain ⟨x, hx, rfl⟩ := List.mem_map.1 ha
      obtain ⟨y, hy, rfl⟩ := List.mem_map.1 hb
      have h1 := (List.mem_filter.1 hx).2
      have h2 := sees_iff.1 (cel_sees c y hy).1
      intro e
      rw [h2] at e
      rw [sees_iff.2 e] at h1
      cases h1
    · rcases List.mem_append.1 hx with hx | hx
      · exact h.ne x (List.mem_filter.1 hx).1
      · rw [(cel_sees c x hx).2.1]; exact (cel_sees c x hx).2.2
  · cases hp
theorem perf_sound {s s' : List Cl} : ∀ {l : List Chg}, Sound s → perf s l = some s' → Sound s'
  | [], h, hp => by cases hp; exact h
  | c :: l, h, hp => by
    unfold perf at hp
    cases h1 : perf1 s c with
    | none => rw [h1] at hp; cases hp
    | some s1 => rw [h1] at hp; exact perf_sound (perf1_sound h h1) hp
theorem sees_inv (c : Chg) : sees (inv c) = sees c := by funext x; rfl
theorem perf1_inv {s s' : List Cl} {c : Chg} (h : Sound s) (hp : perf1 s c = some s') : ∃ s'', perf1 s' (inv c) = some s'' ∧ s''.Perm s := by
  unfold perf1 at hp
  split at hp
  · rename_i ho
    cases hp
    have hf : (others s c ++ cel c).filter (sees c) = cel c := by
      rw [List.filter_append, not_sees_others, List.nil_append, List.filter_eq_self]
      exact fun x hx => (cel_sees c x hx).1
    have e1 : oldOf (others s c ++ cel c) (inv c) = (inv c).old := by
      unfold oldOf
      rw [sees_inv, hf]
      unfold cel inv
      split
      · rename_i hn; simp [hn]
      · simp
    have e2 : others (others s c ++ cel c) (inv c) = others s c := by
      show ((others s c ++ cel c).filter (fun x => !sees (inv c) x)) = _
      rw [sees_inv, List.filter_append]
      have : (cel c).filter (fun x => !sees c x) = [] := by
        rw [List.filter_eq_nil_iff]
        intro x hx
        rw [(cel_sees c x hx).1]
        simp
      rw [this, List.append_nil]
      exact others_others
    unfold perf1
    rw [if_pos e1, e2]
    refine ⟨_, rfl, ?_⟩
    have hp := List.filter_append_perm (sees c) s
    refine List.Perm.trans ?_ hp
    refine List.Perm.trans ?_ List.perm_append_comm
    refine List.Perm.append (List.Perm.refl _) ?_
    have : cel (inv c) = s.filter (sees c) := by
      unfold oldOf at ho
      rcases one_sees c h.nd with h1 | ⟨x, h1, h2⟩
      · rw [h1] at ho ⊢
        unfold cel inv
        have : c.old = [] := by simpa using ho.symm
        simp [this]
      · rw [h1] at ho ⊢
        have hr : x.row = c.old := by simpa using ho
        have hx : x ∈ s := (List.mem_filter.1 (h1 ▸ List.mem_singleton.2 rfl : x ∈ s.filter (sees c))).1
        have hne := h.ne x hx
        rw [hr] at hne
        unfold cel inv
        rw [if_neg hne]
        unfold kc kq at h2
        cases x
        simp only [Prod.mk.injEq] at h2
        obtain ⟨rfl, rfl⟩ := h2
        simp only at hr
        rw [hr]
    rw [this]
  · cases hp
theorem perf_undo {s' : List Cl} : ∀ {l : List Chg} {s : List Cl}, Sound s → perf s l = some s' → ∃ s'', perf s' (l.reverse.map inv) = some s'' ∧ s''.Perm s
  | [], s, h, hp => by
    cases hp
    exact ⟨_, rfl, List.Perm.refl _⟩
  | c :: l, s, h, hp => by
    unfold perf at hp
    cases h1 : perf1 s c with
    | none => rw [h1] at hp; cases hp
    | some s1 =>
      rw [h1] at hp
      have hs1 := perf1_sound h h1
      obtain ⟨s2, h2, h3⟩ := perf_undo hs1 hp
      obtain ⟨s3, h4, h5⟩ := perf1_inv h h1
      obtain ⟨s4, h6, h7⟩ := perf1_perm h3.symm hs1 h4
      refine ⟨s4, ?_, h7.symm.trans h5⟩
      rw [List.reverse_cons, List.map_append, perf_append, h2]
      show (perf1 s2 (inv c)).bind _ = _
      rw [h6]
      rfl

/-! ### net changes and stored rows -/
def ofC (c : Chg) : Cl := ⟨c.t, c.id, c.new⟩
def stay (c : Chg) : Bool := !decide (c.new = [])
theorem filter_one {M : List Chg} {c : Chg} (h : (M.map kq).Nodup) {i : Nat} {b : Chg} (hb : M[i]? = some b) (hk : kq b = kq c) : M.Perm (b :: M.filter (fun x => !hits c x)) := by
  have := List.filter_append_perm (hits c) M
  refine this.symm.trans ?_
  suffices M.filter (hits c) = [b] by rw [this]; exact List.Perm.refl _
  have hm := List.mem_of_getElem? hb
  clear this
  induction M generalizing i with
  | nil => cases hb
  | cons y M ih =>
    rw [List.map_cons, List.nodup_cons] at h
    cases i with
    | zero =>
      obtain rfl : y = b := by simpa using hb
      rw [List.filter_cons, if_pos (hits_kq.2 hk)]
      congr 1
      rw [List.filter_eq_nil_iff]
      intro x hx hh
      exact h.1 (by rw [hk, ← hits_kq.1 hh]; exact List.mem_map_of_mem hx)
    | succ i =>
      have hbM : M[i]? = some b := by simpa using hb
      have hy : ¬ hits c y = true := fun hh => h.1 (by rw [hits_kq.1 hh, ← hk]; exact List.mem_map_of_mem (List.mem_of_getElem? hbM))
      rw [List.filter_cons, if_neg hy]
      exact ih h.2 hbM (List.mem_of_getElem? hbM)
theorem set_perm {M : List Chg} {c : Chg} (h : (M.map kq).Nodup) {i : Nat} {b : Chg} (hb : M[i]? = some b) (hk : kq b = kq c) (x : Chg) (hx : kq x = kq c) : (M.set i x).Perm (x :: M.filter (fun y => !hits c y)) := by
  have hi : i < M.length := (List.getElem?_eq_some_iff.1 hb).1
  have h1 : ((M.set i x).map kq).Nodup := by rw [map_set_same kq M i b x hb (hx.trans hk.symm)]; exact h
  have h2 := filter_one h1 (c := c) (i := i) (b := x) (by simp [hi]) hx
  refine h2.trans (List.Perm.cons _ ?_)
  have : (M.set i x).filter (fun y => !hits c y) = M.filter (fun y => !hits c y) := by
    clear h1 h2 h
    induction M generalizing i with
    | nil => rfl
    | cons y M ih =>
      cases i with
      | zero =>
        obtain rfl : y = b := by simpa using hb
        rw [List.set_cons_zero, List.filter_cons, List.filter_cons, hits_kq.2 hx, hits_kq.2 hk]
        rfl
      | succ i =>
        rw [List.set_cons_succ, List.filter_cons, List.filter_cons, ih (by simpa using hb) (by simpa using hi)]
  rw [this]
/-- The stored rows behind a log are the last ones of its rows. -/
theorem net_store (L : List Chg) : ∀ s, perf [] L = some s → s.Perm (((netM L).filter stay).map ofC) ∧ ∀ c ∈ netM L, c.old = [] := by
  refine foldl_snoc_ind (P := fun L => ∀ s, perf [] L = some s → s.Perm (((netM L).filter stay).map ofC) ∧ ∀ c ∈ netM L, c.old = []) ?_ ?_ L
  · intro s h
    cases h
    exact ⟨List.Perm.refl _, fun c h => by simp [netM] at h⟩
  · intro L c ih s hs
    rw [perf_append] at hs
    cases h0 : perf [] L with
    | none => rw [h0] at hs; cases hs
    | some s0 =>
      rw [h0] at hs
      have hs0 := perf_sound Sound.nil h0
      obtain ⟨h1, h2⟩ := ih s0 h0
      have hs1 : perf1 s0 c = some s := by
        simp only [Option.bind_some, perf] at hs
        cases hh : perf1 s0 c with
        | none => rw [hh] at hs; cases hs
        | some z => rw [hh] at hs; exact hs
      unfold perf1 at hs1
      split at hs1
      · rename_i ho
        cases hs1
        rw [netM_snoc]
        have hnd := net_nodup L
        have hoth : (others s0 c).Perm ((((netM L).filter (fun y => !hits c y)).filter stay).map ofC) := by
          have e := h1.filter (fun x => !sees c x)
          unfold others
          refine e.trans ?_
          rw [List.filter_map]
          have : ((fun x => !sees c x) ∘ ofC) = fun y => !hits c y := by funext y; rfl
          rw [this, List.filter_filter, List.filter_filter]
          refine List.Perm.of_eq ?_
          congr 2
          funext y
          exact Bool.and_comm _ _
        cases hp : pos c (netM L) with
        | none =>
          have hno := pos_none hp
          unfold put
          rw [hp]
          dsimp only
          have hold : c.old = [] := by
            rw [← ho]
            unfold oldOf
            rw [filter_perm_eq h1 hs0.nd, List.filter_map]
            have : ((netM L).filter stay).filter (sees c ∘ ofC) = [] := by
              rw [List.filter_eq_nil_iff]
              intro x hx hh
              have := hno x (List.mem_filter.1 hx).1
              have h' : hits c x = true := hh
              rw [this] at h'
              cases h'
            rw [this]
            rfl
          refine ⟨?_, fun x hx => ?_⟩
          · rw [List.filter_append, List.map_append]
            refine List.Perm.append ?_ ?_
            · refine hoth.trans ?_
              have : (netM L).filter (fun y => !hits c y) = netM L := List.filter_eq_self.2 (fun y hy => by rw [hno y hy]; rfl)
              rw [this]
            · unfold cel stay ofC
              by_cases hn : c.new = [] <;> simp [hn]
          · rcases List.mem_append.1 hx with hx | hx
            · exact h2 x hx
            · rw [List.mem_singleton.1 hx]; exact hold
        | some i =>
          obtain ⟨hi, b, hb, hh⟩ := pos_lt hp
          unfold put
          rw [hp]
          dsimp only
          rw [cAt_of hb]
          refine ⟨?_, fun x hx => ?_⟩
          · have hk : kq ({ b with new := c.new } : Chg) = kq c := hits_kq.1 hh
            have := ((set_perm hnd hb (hits_kq.1 hh) { b with new := c.new } hk).filter stay).map ofC
            refine List.Perm.trans ?_ this.symm
            rw [List.filter_cons]
            unfold cel
            by_cases hn : c.new = []
            · rw [if_pos hn, List.append_nil, if_neg (by unfold stay; simp [hn])]
              exact hoth
            · rw [if_neg hn, if_pos (by unfold stay; simp [hn])]
              refine List.perm_append_comm.trans ?_
              have e : ofC ({ b with new := c.new } : Chg) = ⟨c.t, c.id, c.new⟩ := by
                have := hits_iff.1 hh
                unfold ofC
                rw [← this.1, ← this.2]
              rw [List.map_cons, e]
              exact List.Perm.cons _ hoth
          · rcases List.mem_or_eq_of_mem_set hx with hx | rfl
            · exact h2 x hx
            · exact h2 b (List.mem_of_getElem? hb)
      · cases hs1
theorem perf_new : ∀ (N : List Chg) (s : List Cl), (∀ c ∈ N, c.old = [] ∧ c.new ≠ []) → (N.map kq).Nodup → (∀ x ∈ s, ∀ c ∈ N, kc x ≠ kq c) → perf s N = some (s ++ N.map ofC)
  | [], s, _, _, _ => by simp [perf]
  | c :: N, s, h1, h2, h3 => by
    rw [List.map_cons, List.nodup_cons] at h2
    have hf : s.filter (sees c) = [] := by
      rw [List.filter_eq_nil_iff]
      intro x hx hh
      exact h3 x hx c (by simp) (sees_iff.1 hh)
    have ho : others s c = s := by
      unfold others
      rw [List.filter_eq_self]
      intro x hx
      cases hh : sees c x
      · rfl
      · exact absurd (sees_iff.1 hh) (h3 x hx c (by simp))
    have hp : perf1 s c = some (s ++ [ofC c]) := by
      unfold perf1 oldOf
      rw [hf, ho]
      have := h1 c (by simp)
      unfold cel
      rw [if_neg this.2]
      simp [this.1, ofC]
    unfold perf
    rw [hp]
    show perf (s ++ [ofC c]) N = _
    rw [perf_new N (s ++ [ofC c]) (fun x hx => h1 x (by simp [hx])) h2.2 (fun x hx d hd => by
      rcases List.mem_append.1 hx with hx | hx
      · exact h3 x hx d (by simp [hd])
      · rw [List.mem_singleton.1 hx]
        intro e
        exact h2.1 (by
          have : kc (ofC c) = kq c := rfl
          rw [← this, e]
          exact List.mem_map_of_mem hd))]
    simp
theorem net_law {L N : List Chg} {s : List Cl} (h : NetIs L N) (hs : perf [] L = some s) : ∃ s', perf [] N = some s' ∧ s'.Perm s := by
  obtain ⟨h1, h2⟩ := net_store L s hs
  have hm : ∀ c ∈ N, c.old = [] ∧ c.new ≠ [] := fun c hc => by
    have := List.mem_filter.1 (h.1.mem_iff.1 hc)
    have ho := h2 c this.1
    refine ⟨ho, fun hn => ?_⟩
    have := this.2
    rw [ho, hn] at this
    simp at this
  refine ⟨_, perf_new N [] hm (netIs_nodup h) (by simp), ?_⟩
  rw [List.nil_append]
  refine (h.1.map ofC).trans (List.Perm.trans (List.Perm.of_eq ?_) h1.symm)
  congr 1
  refine List.filter_congr (fun c hc => ?_)
  unfold stay
  rw [h2 c hc]
  by_cases hn : c.new = []
  · simp [hn]
  · have : ¬ [] = c.new := fun e => hn e.symm
    simp [hn, this]
/-- Are the same rows stored? -/
def sameCl (a b : List Cl) : Bool := decide (a.length = b.length) && a.all (fun x => b.any (fun y => decide (x = y)))
theorem same_perm {a b : List Cl} (h : a.Perm b) : sameCl a b = true := by
  unfold sameCl
  rw [decide_eq_true h.length_eq, Bool.true_and, List.all_eq_true]
  intro x hx
  rw [List.any_eq_true]
  exact ⟨x, h.mem_iff.1 hx, by simp⟩
end Go.Proofs.Ytmclfbhcddcebaa
