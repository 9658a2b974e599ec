/- Net changes, in plain Lean; the map of places. -/
import Derived.Test.YtmclfbhcddcebaaU10
import Derived.Maps.OwnSet
import Derived.DeepKeys4
namespace Go.Proofs.Ytmclfbhcddcebaa
open Go.RowKit Go.Shelf Go.Maps
set_option linter.unusedSimpArgs false
set_option linter.unusedVariables false

/-- Where the row of a change stands. -/
def pos (c : Chg) : List Chg → Option Nat
  | [] => none
  | b :: r => if hits c b then some 0 else (pos c r).map (· + 1)
def put (M : List Chg) (c : Chg) : List Chg :=
  match pos c M with
  | some i => M.set i { cAt M i with new := c.new }
  | none => M ++ [c]
/-- The changes of rows, in the order of the first ones. -/
def netM (L : List Chg) : List Chg := L.foldl put []
theorem netM_snoc (L : List Chg) (c : Chg) : netM (L ++ [c]) = put (netM L) c := by simp [netM, List.foldl_append]

theorem pos_lt {c : Chg} : ∀ {M : List Chg} {i : Nat}, pos c M = some i → i < M.length ∧ ∃ b, M[i]? = some b ∧ hits c b = true
  | [], i, h => by cases h
  | b :: r, i, h => by
    unfold pos at h
    split at h
    · rename_i hb
      cases h
      exact ⟨by simp, b, rfl, hb⟩
    · cases hp : pos c r with
      | none => rw [hp] at h; cases h
      | some j =>
        rw [hp] at h
        simp only [Option.map_some, Option.some.injEq] at h
        subst h
        obtain ⟨h1, b', h2, h3⟩ := pos_lt hp
        exact ⟨by simpa using h1, b', by simpa using h2, h3⟩
theorem hits_eq {c c' : Chg} (h1 : c'.t = c.t) (h2 : c'.id = c.id) (b : Chg) : hits c' b = hits c b := by unfold hits; rw [h1, h2]
theorem hits_iff {c b : Chg} : hits c b = true ↔ b.t = c.t ∧ b.id = c.id := by unfold hits; simp
theorem pos_eq {c c' : Chg} (h1 : c'.t = c.t) (h2 : c'.id = c.id) : ∀ M : List Chg, pos c' M = pos c M
  | [] => rfl
  | b :: r => by unfold pos; rw [hits_eq h1 h2, pos_eq h1 h2 r]
theorem pos_snoc (c b : Chg) : ∀ M : List Chg, pos c (M ++ [b]) = match pos c M with | some i => some i | none => if hits c b then some M.length else none
  | [] => by
    show (if hits c b then some 0 else (pos c []).map (· + 1)) = _
    rfl
  | x :: r => by
    show (if hits c x then some 0 else (pos c (r ++ [b])).map (· + 1)) = match (if hits c x then some 0 else (pos c r).map (· + 1)) with | some i => some i | none => if hits c b then some (r.length + 1) else none
    rw [pos_snoc c b r]
    cases hits c x
    · cases pos c r
      · cases hits c b <;> rfl
      · rfl
    · rfl
theorem pos_set {c : Chg} {nw : List Val} : ∀ (M : List Chg) (i : Nat) (b : Chg), M[i]? = some b → pos c (M.set i { b with new := nw }) = pos c M
  | [], i, b, h => by cases h
  | x :: r, 0, b, h => by
    obtain rfl : x = b := by simpa using h
    rfl
  | x :: r, i + 1, b, h => by
    show (if hits c x then some 0 else (pos c (r.set i { b with new := nw })).map (· + 1)) = if hits c x then some 0 else (pos c r).map (· + 1)
    rw [pos_set r i b (by simpa using h)]

/-! ### the map's keys -/
theorem law71 : Keyed Try.prog 71 := Keyed.of_law (deep_law_laid (P := Try.prog) (by kernel_rfl) (m := 3) (by omega) (of_decide_eq_true (by kernel_rfl)) (by kernel_rfl) (by kernel_rfl))
def kv (t id : Int) : Value := .agg #[.int .i64 t, .int .i64 id]
def wfC (c : Chg) : Prop := (Lit.int .i64 c.t).wf = true ∧ (Lit.int .i64 c.id).wf = true
def kl (t id : Int) : Lit := .string (keyBytes [.int .i64 t, .int .i64 id])
theorem kt71 : Try.prog.keyType 71 = true := by kernel_rfl
theorem fm71 (t id : Int) : (kv t id).formed Try.prog 71 = true := by kernel_rfl
theorem sz71 : ∃ m, Try.prog.types.size = m + 1 := ⟨Try.prog.types.size - 1, by kernel_rfl⟩
theorem co71 : Try.prog.cellsOf 71 = 2 := by kernel_rfl
theorem co3 : Try.prog.cellsOf 3 = 1 := by kernel_rfl
theorem co2 : Try.prog.cellsOf 2 = 1 := by kernel_rfl
theorem key71 {t id : Int} (h1 : (Lit.int .i64 t).wf = true) (h2 : (Lit.int .i64 id).wf = true) : keyOf Try.prog 71 (kv t id) = some (kl t id) := by
  unfold keyOf
  obtain ⟨m, hm⟩ := sz71
  rw [Try.underlying71, hm]
  dsimp only
  rw [kt71, fm71]
  have k3 : Try.prog.keyLits (m + 1) 3 [.int .i64 t] = some [.int .i64 t] := by
    unfold Program.keyLits
    rw [Try.underlying3]
    simp [h1]
  have k2 : Try.prog.keyLits (m + 1) 2 [.int .i64 id] = some [.int .i64 id] := by
    unfold Program.keyLits
    rw [Try.underlying2]
    simp [h2]
  have : Try.prog.keyLits (m + 1 + 1) 71 [.int .i64 t, .int .i64 id] = some [.int .i64 t, .int .i64 id] := by
    rw [Program.keyLits.eq_def]
    simp only [Try.underlying71, co71, List.length_cons, List.length_nil]
    rw [if_pos ⟨trivial, by kernel_rfl⟩]
    simp [co3, co2, k3, k2]
  simp [kl, kv, Value.cells, this]
theorem kl_inj {c c' : Chg} (h : wfC c) (h' : wfC c') (e : kl c'.t c'.id = kl c.t c.id) : c'.t = c.t ∧ c'.id = c.id := by
  have h1 := key71 h.1 h.2
  have h2 := key71 h'.1 h'.2
  rw [e] at h2
  have := law71.inj h2 h1
  unfold kv at this
  simpa using this
theorem kl_key {c : Chg} (h : wfC c) : WideAt.IsKeyLit (kl c.t c.id) := law71.key (key71 h.1 h.2)

/-- The map knows where the rows stand. -/
def Idx (D : DataW Unit) (M : List Chg) : Prop := IsMap D ∧ ∀ c, wfC c → match pos c M with
  | none => Maps.has D (kl c.t c.id) = false
  | some i => Maps.has D (kl c.t c.id) = true ∧ ∀ z, D.atKey (kl c.t c.id) z = .lit (.int .i64 (i : Int))
theorem idx_nil : Idx (.map []) [] := ⟨isMap_empty, fun c _ => rfl⟩
theorem idx_new {D : DataW Unit} {M : List Chg} {c : Chg} (h : Idx D M) (hw : wfC c) (hp : pos c M = none) : Idx (D.put (kl c.t c.id) (.lit (.int .i64 (M.length : Int)))) (put M c) := by
  refine ⟨h.1.put _ _, fun c' hw' => ?_⟩
  unfold put
  rw [hp]
  dsimp only
  rw [pos_snoc]
  by_cases he : c'.t = c.t ∧ c'.id = c.id
  · rw [pos_eq he.1 he.2, hp, he.1, he.2]
    have : hits c' c = true := hits_iff.2 ⟨he.1.symm, he.2.symm⟩
    simp only [this, if_true]
    exact ⟨has_put_same h.1 (kl_key hw) _, fun z => atKey_put_same h.1 (kl_key hw) _ z⟩
  · have hne : kl c'.t c'.id ≠ kl c.t c.id := fun e => he (kl_inj hw hw' e)
    have hn : hits c' c = false := by
      cases hh : hits c' c
      · rfl
      · have := hits_iff.1 hh; exact absurd ⟨this.1.symm, this.2.symm⟩ he
    have := h.2 c' hw'
    rw [has_put_other hne]
    cases hq : pos c' M with
    | none => rw [hq] at this; simp only [hn]; exact this
    | some i =>
      rw [hq] at this
      exact ⟨this.1, fun z => (atKey_put_other hne _ z).trans (this.2 z)⟩
theorem cAt_of {M : List Chg} {i : Nat} {b : Chg} (h : M[i]? = some b) : cAt M i = b := by unfold cAt; rw [h]; rfl
theorem idx_old {D : DataW Unit} {M : List Chg} {c : Chg} {i : Nat} (h : Idx D M) (hp : pos c M = some i) : Idx D (put M c) := by
  refine ⟨h.1, fun c' hw' => ?_⟩
  unfold put
  rw [hp]
  dsimp only
  obtain ⟨h1, b, h2, _⟩ := pos_lt hp
  rw [cAt_of h2, pos_set M i b h2]
  exact h.2 c' hw'
end Go.Proofs.Ytmclfbhcddcebaa
