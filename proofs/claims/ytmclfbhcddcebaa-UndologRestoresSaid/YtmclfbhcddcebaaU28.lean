/- The reference's Net, in plain Lean. -/
import Derived.Test.YtmclfbhcddcebaaU27
namespace Go.Proofs.Ytmclfbhcddcebaa
open Go.RowKit Go.Shelf
set_option linter.unusedSimpArgs false
set_option linter.unusedVariables false

/-! ### the reference's Net -/
def ltK (a b : Int × Int) : Prop := a.1 < b.1 ∨ (a.1 = b.1 ∧ a.2 < b.2)
instance (a b : Int × Int) : Decidable (ltK a b) := by unfold ltK; infer_instance
theorem ltK_trans {a b c : Int × Int} (h : ltK a b) (k : ltK b c) : ltK a c := by unfold ltK at *; omega
theorem ltK_irr {a : Int × Int} (h : ltK a a) : False := by unfold ltK at h; omega
theorem ltK_tri {a b : Int × Int} (h : ¬ ltK a b) (hn : ¬ a = b) : ltK b a := by
  unfold ltK at *
  have : ¬ (a.1 = b.1 ∧ a.2 = b.2) := fun e => hn (Prod.ext e.1 e.2)
  omega
def spot (c : Chg) : List Chg → Nat
  | [] => 0
  | b :: r => if ltK (kq b) (kq c) then spot c r + 1 else 0
def hitAt (c : Chg) (A : List Chg) (k : Nat) : Bool := (A[k]?.map (hits c)).getD false
def putR (A : List Chg) (c : Chg) : List Chg :=
  if hitAt c A (spot c A) then A.set (spot c A) { cAt A (spot c A) with new := c.new } else A.take (spot c A) ++ c :: A.drop (spot c A)
def netA (L : List Chg) : List Chg := L.foldl putR []
theorem netA_snoc (L : List Chg) (c : Chg) : netA (L ++ [c]) = putR (netA L) c := by simp [netA, List.foldl_append]
theorem spot_le (c : Chg) : ∀ A : List Chg, spot c A ≤ A.length
  | [] => Nat.le_refl _
  | b :: r => by
    unfold spot
    have := spot_le c r
    split
    · simp only [List.length_cons]; omega
    · simp only [List.length_cons]; omega
theorem spot_take (c : Chg) : ∀ A : List Chg, ∀ b ∈ A.take (spot c A), ltK (kq b) (kq c)
  | [], b, h => by simp at h
  | x :: r, b, h => by
    unfold spot at h
    split at h
    · rename_i hx
      rw [List.take_succ_cons] at h
      rcases List.mem_cons.1 h with rfl | h
      · exact hx
      · exact spot_take c r b h
    · simp at h
theorem spot_at (c : Chg) : ∀ (A : List Chg) (b : Chg), A[spot c A]? = some b → ¬ ltK (kq b) (kq c)
  | [], b, h => by simp at h
  | x :: r, b, h => by
    unfold spot at h
    split at h
    · exact spot_at c r b (by simpa using h)
    · rename_i hx
      obtain rfl : x = b := by simpa using h
      exact hx
theorem spot_is (c : Chg) : ∀ (A : List Chg) (k : Nat) (b : Chg), (∀ x ∈ A.take k, ltK (kq x) (kq c)) → A[k]? = some b → ¬ ltK (kq b) (kq c) → spot c A = k
  | [], k, b, _, h, _ => by simp at h
  | x :: r, 0, b, _, h, hb => by
    obtain rfl : x = b := by simpa using h
    unfold spot
    rw [if_neg hb]
  | x :: r, k + 1, b, h1, h, hb => by
    unfold spot
    rw [if_pos (h1 x (by simp)), spot_is c r k b (fun y hy => h1 y (by rw [List.take_succ_cons]; exact List.mem_cons_of_mem _ hy)) (by simpa using h) hb]
theorem spot_all (c : Chg) : ∀ (A : List Chg), (∀ x ∈ A, ltK (kq x) (kq c)) → spot c A = A.length
  | [], _ => rfl
  | x :: r, h => by
    unfold spot
    rw [if_pos (h x (by simp)), spot_all c r (fun y hy => h y (by simp [hy]))]
    rfl
def SAsc (A : List Chg) : Prop := (A.map kq).Pairwise ltK
theorem SAsc.nodup {A : List Chg} (h : SAsc A) : (A.map kq).Nodup := List.Pairwise.imp (fun {a b} h e => by rw [e] at h; exact ltK_irr h) h
theorem putR_sorted {A : List Chg} {c : Chg} (h : SAsc A) : SAsc (putR A c) ∧ ((∃ i b, A[i]? = some b ∧ kq b = kq c ∧ putR A c = A.set i { b with new := c.new }) ∨ ((∀ b ∈ A, kq b ≠ kq c) ∧ (putR A c).Perm (c :: A))) := by
  unfold putR
  have hle := spot_le c A
  by_cases hh : hitAt c A (spot c A) = true
  · rw [if_pos hh]
    obtain ⟨b, hb⟩ : ∃ b, A[spot c A]? = some b := by
      unfold hitAt at hh
      cases hx : A[spot c A]? with
      | none => rw [hx] at hh; cases hh
      | some b => exact ⟨b, rfl⟩
    have hk : kq b = kq c := by
      unfold hitAt at hh
      rw [hb] at hh
      exact hits_kq.1 hh
    rw [cAt_of hb]
    refine ⟨?_, .inl ⟨_, b, hb, hk, rfl⟩⟩
    unfold SAsc
    have e := map_set_same kq A _ b ({ b with new := c.new }) hb rfl
    rw [e]
    exact h
  · rw [if_neg hh]
    have hsplit : A.take (spot c A) ++ A.drop (spot c A) = A := List.take_append_drop _ _
    have h12 : (((A.take (spot c A)).map kq) ++ ((A.drop (spot c A)).map kq)).Pairwise ltK := by
      rw [← List.map_append, hsplit]; exact h
    rw [List.pairwise_append] at h12
    have hafter : ∀ x ∈ A.drop (spot c A), ltK (kq c) (kq x) := by
      intro x hx
      obtain ⟨y, r, hyr⟩ : ∃ y r, A.drop (spot c A) = y :: r := by
        cases hd : A.drop (spot c A) with
        | nil => rw [hd] at hx; cases hx
        | cons y r => exact ⟨y, r, rfl⟩
      have hy : A[spot c A]? = some y := by
        have : (A.drop (spot c A))[0]? = some y := by rw [hyr]; rfl
        rw [List.getElem?_drop] at this
        simpa using this
      have h1 := spot_at c A y hy
      have h2 : ¬ kq y = kq c := fun e => hh (by unfold hitAt; rw [hy]; exact hits_kq.2 e)
      have h3 := ltK_tri h1 h2
      rw [hyr] at hx
      rcases List.mem_cons.1 hx with rfl | hx
      · exact h3
      · have := h12.2.1
        rw [hyr, List.map_cons, List.pairwise_cons] at this
        exact ltK_trans h3 (this.1 _ (List.mem_map_of_mem hx))
    refine ⟨?_, .inr ⟨?_, ?_⟩⟩
    · unfold SAsc
      rw [List.map_append, List.map_cons, List.pairwise_append, List.pairwise_cons]
      refine ⟨h12.1, ⟨?_, h12.2.1⟩, ?_⟩
      · intro k hk
        obtain ⟨x, hx, rfl⟩ := List.mem_map.1 hk
        exact hafter x hx
      · intro a ha b hb
        obtain ⟨x, hx, rfl⟩ := List.mem_map.1 ha
        rcases List.mem_cons.1 hb with rfl | hb
        · exact spot_take c A x hx
        · exact h12.2.2 _ ha _ hb
    · intro b hb e
      rw [← hsplit] at hb
      rcases List.mem_append.1 hb with hb | hb
      · have := spot_take c A b hb
        rw [e] at this
        exact ltK_irr this
      · have := hafter b hb
        rw [e] at this
        exact ltK_irr this
    · refine List.perm_middle.trans ?_
      rw [hsplit]
theorem netA_is (L : List Chg) : SAsc (netA L) ∧ (netA L).Perm (netM L) := by
  refine foldl_snoc_ind (P := fun L => SAsc (netA L) ∧ (netA L).Perm (netM L)) ⟨List.Pairwise.nil, List.Perm.refl _⟩ (fun L c ih => ?_) L
  rw [netA_snoc, netM_snoc]
  obtain ⟨h1, h2⟩ := ih
  have hnd := net_nodup L
  obtain ⟨h3, h4⟩ := putR_sorted (c := c) h1
  refine ⟨h3, ?_⟩
  rcases h4 with ⟨i, b, hb, hk, e⟩ | ⟨hno, hp⟩
  · rw [e]
    unfold put
    have hbM : b ∈ netM L := h2.mem_iff.1 (List.mem_of_getElem? hb)
    cases hp : pos c (netM L) with
    | none =>
      have := pos_none hp b hbM
      rw [hits_kq.2 hk] at this
      cases this
    | some j =>
      obtain ⟨hj, b', hb', hh⟩ := pos_lt hp
      have hbb : b' = b := inj_of_nodup hnd (List.mem_of_getElem? hb') hbM ((hits_kq.1 hh).trans hk.symm)
      subst hbb
      dsimp only
      rw [cAt_of hb']
      refine (set_perm h1.nodup hb hk { b' with new := c.new } hk).trans (List.Perm.trans (List.Perm.cons _ (h2.filter _)) (set_perm hnd hb' hk { b' with new := c.new } hk).symm)
  · unfold put
    cases hq : pos c (netM L) with
    | none => exact hp.trans ((List.Perm.cons _ h2).trans (List.perm_append_singleton _ _).symm)
    | some j =>
      obtain ⟨hj, b', hb', hh⟩ := pos_lt hq
      exact absurd (hits_kq.1 hh) (hno b' (h2.mem_iff.2 (List.mem_of_getElem? hb')))
def netOut (L : List Chg) : List Chg := (netA L).filter (fun c => !decide (c.old = c.new))
theorem netOut_is (L : List Chg) : NetIs L (netOut L) := by
  obtain ⟨h1, h2⟩ := netA_is L
  refine ⟨h2.filter _, ?_⟩
  unfold AscC netOut
  refine List.Pairwise.filter _ ?_
  unfold SAsc at h1
  rw [List.pairwise_map] at h1
  refine List.Pairwise.imp (fun {a b} h hn => ?_) h1
  unfold ltK kq at h
  dsimp only at h
  omega
theorem netIs_out {L M : List Chg} (h : NetIs L M) : M = netOut L := netIs_uniq h (netOut_is L)
end Go.Proofs.Ytmclfbhcddcebaa
