/- slices.Delete of one savepoint. -/
import Derived.Test.YtmclfbhcddcebaaU25
namespace Go.Proofs.Ytmclfbhcddcebaa
open Go.RowKit Go.Shelf
set_option linter.unusedSimpArgs false
set_option linter.unusedVariables false

def zp : Value := .agg #[.string ⟨#[]⟩, .int .i64 0]
/-- clear of savepoints, in the middle of a block. -/
theorem run_clear_pnt (w : World) (ty g off n c : Nat) (cur : List Value) (hg : Blk w g 82 cur.toArray) (hfit : off + n * 2 ≤ cur.length) :
    ∃ (w' : World) (new : List Value), (Builtin.clear_ #[62] ty #[.slice (some ⟨g, off, none⟩) n c]).run Try.prog w = .ok (.tuple #[]) w' ∧ Blk w' g 82 new.toArray ∧ new.length = cur.length ∧ new.take off = cur.take off ∧ Keeps [g] w w' := by
  cases n with
  | zero => exact ⟨w, cur, by simp [Builtin.clear_, run_underlying Try.underlying62], hg, rfl, rfl, Keeps.refl _ _⟩
  | succ n =>
    have hz : (Builtin.zeroCells (Value.cells zp) (n + 1)).toList.length = (n + 1) * 2 := by simp [Builtin.zeroCells, Value.cells, zp]
    have h1 : ∀ v ∈ (Builtin.zeroCells (Value.cells zp) (n + 1)).toList, v.oneCell' = true := by
      intro v hv
      simp [Builtin.zeroCells, Value.cells, zp] at hv
      obtain ⟨a, _, rfl⟩ := hv
      have : a % 2 < 2 := Nat.mod_lt _ (by decide)
      rcases (by omega : a % 2 = 0 ∨ a % 2 = 1) with h | h <;> rw [h] <;> rfl
    obtain ⟨Z, hZ⟩ : ∃ Z, Z = (Builtin.zeroCells (Value.cells zp) (n + 1)).toList := ⟨_, rfl⟩
    rw [← hZ] at hz h1
    unfold zp at hZ
    have hst : (storeCells ⟨g, off, none⟩ Z 0).run Try.prog w = .ok () (w.setRow g (cur.take off ++ Z ++ cur.drop (off + Z.length)).toArray) := run_storeCells_at Try.prog g off 82 Z 0 cur.toArray w hg (by rw [hz]; simpa using hfit) h1
    refine ⟨w.setRow g (cur.take off ++ Z ++ cur.drop (off + Z.length)).toArray, cur.take off ++ Z ++ cur.drop (off + Z.length), ?_, setRow_heap w g _ _ 82 _ hg, ?_, ?_, (Keeps.refl [g] w).setRow (g := g) (.inl (List.mem_singleton.2 rfl)) _⟩
    · simp [Builtin.clear_, run_underlying Try.underlying62, Try.zeroValue82, ← hZ, hst]
    · rw [List.length_append, List.length_append, List.length_take, List.length_drop, hz]; omega
    · rw [List.append_assoc, List.take_append_of_le_length (by rw [List.length_take]; omega), List.take_take, Nat.min_self]
theorem info82 : (Try.prog.info? 82).map (fun i => (i.zero, i.size, i.bytes)) = some (some (.agg #[.string ⟨#[]⟩, .int .i64 0]), 2, 24) := by kernel_rfl
theorem flatP_one : ∀ (S : List Pnt), ∀ u ∈ flatP S, u.oneCell' = true
  | [], u, h => by cases h
  | p :: S, u, h => by
    simp only [flatP, List.mem_cons] at h
    rcases h with rfl | rfl | h
    · rfl
    · rfl
    · exact flatP_one S u h
theorem flatP_drop : ∀ (S : List Pnt) (k : Nat), (flatP S).drop (k * 2) = flatP (S.drop k)
  | [], k => by simp [flatP]
  | r :: S, 0 => by simp [flatP]
  | r :: S, k + 1 => by
    rw [show (k + 1) * 2 = k * 2 + 1 + 1 by omega]
    show (flatP S).drop (k * 2) = flatP (S.drop k)
    rw [flatP_drop S k]
theorem erase_eq (S : List Pnt) (i : Nat) : S.take i ++ S.drop (i + 1) = S.eraseIdx i := (List.eraseIdx_eq_take_drop_succ S i).symm

/-- append(s[:i], s[i+1:]...), then clear(s[n-1:n]). -/
theorem shift_at (w : World) (b gp i m cp : Nat) (S : List Pnt) (hS : S.length = i + 1 + m) (hO : w.ownsRow b 82 2 (.slice (some ⟨gp, 0, none⟩) (i + 1 + m) cp) (i + 1 + m) (flatP S)) (a : Addr) (c : Nat) (ha : m ≠ 0 → a = ⟨gp, (i + 1) * 2, none⟩) (ty1 ty2 c2 : Nat) :
    ∃ w1 w2, (Builtin.append_ #[62, 62] ty1 #[.slice (some ⟨gp, 0, none⟩) i cp, .slice (some a) m c]).run Try.prog w = .ok (.slice (some ⟨gp, 0, none⟩) (i + m) cp) w1 ∧ (Builtin.clear_ #[62] ty2 #[.slice (some ⟨gp, (i + m) * 2, none⟩) 1 c2]).run Try.prog w1 = .ok (.tuple #[]) w2 ∧
      w2.ownsRow b 82 2 (.slice (some ⟨gp, 0, none⟩) (i + m) cp) (i + m) (flatP (S.eraseIdx i)) ∧ Keeps [gp] w w2 := by
  obtain ⟨i0, hi, hz0, hz1, hz2⟩ := info_parts info82
  have hO1 := own_take hO (k := i) (by omega) (by simp)
  rw [flatP_take] at hO1
  obtain ⟨g', c', hv, hcp, hcm, hb, hg, hcell, _⟩ := own_row3 hO (by omega)
  cases hv
  have hnl : (flatP (S.drop (i + 1))).length = m * 2 := by rw [flatP_len, List.length_drop]; omega
  obtain ⟨w1, hr1, ho1, hg1⟩ := run_append_fits (P := Try.prog) w b 62 ty1 82 i0 2 Try.underlying62 hi hz1 gp i cp _ hO1 a m c (flatP (S.drop (i + 1))) hnl (fun j u hu => by
    have hm : m ≠ 0 := by
      rintro rfl
      have := (List.getElem?_eq_some_iff.1 hu).1
      omega
    rw [ha hm, Go.WideShapes.add_plain]
    refine hcell _ _ ?_
    rw [← flatP_drop, List.getElem?_drop] at hu
    exact hu) (flatP_one _) (by omega)
  rw [← flatP_append, erase_eq] at ho1
  obtain ⟨cur, hbg, hg1b, hnc, _, hcs, hct⟩ : ∃ cur : Array Value, b ≤ gp ∧ Blk w1 gp 82 cur ∧ i + m ≤ cp ∧ cp ≤ maxLen ∧ cur.size = cp * 2 ∧ cur.toList.take ((i + m) * 2) = flatP (S.eraseIdx i) := by
    rcases ho1.2 with ⟨h, _⟩ | ⟨g', cap, cur, hv, h1, h2, h3, h4, h5, h6⟩
    · simp at h
    · cases hv
      exact ⟨cur, h1, h2, h3, h4, h5, h6⟩
  obtain ⟨w2, new, hr2, hb2, hl2, ht2, hk2⟩ := run_clear_pnt w1 ty2 gp ((i + m) * 2) 1 c2 cur.toList hg1b (by have : cur.toList.length = cp * 2 := hcs; omega)
  refine ⟨w1, w2, hr1, hr2, ⟨ho1.1, .inr ⟨gp, cp, new.toArray, rfl, hbg, hb2, hnc, hcm, ?_, ?_⟩⟩, (Keeps.grown (X := [gp]) hg1 (fun k hk => by simpa using hk.symm)).trans hk2⟩
  · rw [List.size_toArray, hl2]; exact hcs
  · show new.take ((i + m) * 2) = _
    rw [ht2, hct]

/-- append, its run known. -/
theorem wpList_run_append {P : Program} {w w' : World} {ops : Array Oper} {rest : List Oper} {o : Oper} {a : Act} {Q : Exit → Act → World → Prop} (hgd : Region.wanted o (yielded ops a.tmps) = true) (s x : Operand) (t : TypeId)
    (ho : o.op = .call { callee := .builtin .append, args := #[s, x], argTypes := #[t, t] }) (vs vx v' : Value) (hs : a.eval s = vs) (hx : a.eval x = vx) (hr : (Builtin.append_ #[t, t] o.type #[vs, vx]).run P w = .ok v' w')
    (h : wpList P ops Q rest (a.put o.dst v') w') : wpList P ops Q (o :: rest) a w := by
  refine wpList_wanted hgd fun K hK => ?_
  unfold Oper.wp execOp
  simp only [ho, resolve, invoke, builtin, Sem.run_bind, Sem.run_pure, Result.andThen_ok, List.map_toArray, List.map_cons, List.map_nil, hs, hx, hr]
  exact hK _ _ h
theorem clear_last (w : World) (b gp i cp : Nat) (S : List Pnt) (hS : S.length = i + 1) (hO : w.ownsRow b 82 2 (.slice (some ⟨gp, 0, none⟩) (i + 1) cp) (i + 1) (flatP S)) (ty2 c2 : Nat) :
    ∃ w2, (Builtin.clear_ #[62] ty2 #[.slice (some ⟨gp, i * 2, none⟩) 1 c2]).run Try.prog w = .ok (.tuple #[]) w2 ∧ w2.ownsRow b 82 2 (.slice (some ⟨gp, 0, none⟩) i cp) i (flatP (S.eraseIdx i)) ∧ Keeps [gp] w w2 := by
  have hO1 := own_take hO (k := i) (by omega) (by simp)
  rw [flatP_take] at hO1
  have he : S.eraseIdx i = S.take i := by rw [← erase_eq, List.drop_eq_nil_of_le (by omega), List.append_nil]
  obtain ⟨cur, hbg, hg1b, hnc, hcm, hcs, hct⟩ : ∃ cur : Array Value, b ≤ gp ∧ Blk w gp 82 cur ∧ i + 1 ≤ cp ∧ cp ≤ maxLen ∧ cur.size = cp * 2 ∧ cur.toList.take ((i + 1) * 2) = flatP S := by
    rcases hO.2 with ⟨h, _⟩ | ⟨g', cap, cur, hv, h1, h2, h3, h4, h5, h6⟩
    · simp at h
    · cases hv
      exact ⟨cur, h1, h2, h3, h4, h5, h6⟩
  obtain ⟨w2, new, hr2, hb2, hl2, ht2, hk2⟩ := run_clear_pnt w ty2 gp (i * 2) 1 c2 cur.toList hg1b (by have : cur.toList.length = cp * 2 := hcs; omega)
  refine ⟨w2, hr2, ⟨by rw [he]; exact hO1.1, .inr ⟨gp, cp, new.toArray, rfl, hbg, hb2, by omega, hcm, ?_, ?_⟩⟩, hk2⟩
  · rw [List.size_toArray, hl2]; exact hcs
  · show new.take (i * 2) = _
    rw [ht2, he, ← flatP_take, ← hct, List.take_take, Nat.min_eq_left (by omega)]

set_option maxRecDepth 100000 in
set_option maxHeartbeats 3200000 in
theorem delete_any (w : World) (b gp i j m n q cp : Nat) (S : List Pnt) (hS : S.length = n) (hj : j = i + 1) (hn' : n = i + 1 + m) (hq : q = i + m) (hO : w.ownsRow b 82 2 (.slice (some ⟨gp, 0, none⟩) n cp) n (flatP S)) (hn : n ≤ 1000000) :
    Calls Try.prog 44 #[.slice (some ⟨gp, 0, none⟩) n cp, .int .i64 i, .int .i64 j] w fun e w' => e = .returned (.slice (some ⟨gp, 0, none⟩) q cp) ∧ w'.ownsRow b 82 2 (.slice (some ⟨gp, 0, none⟩) q cp) q (flatP (S.eraseIdx i)) ∧ Keeps [gp] w w' := by
  obtain ⟨g', c', hv, hcp, hcm, hb, hg, hcell, _⟩ := own_row3 hO (by omega)
  cases hv
  have e1 : (i : Int) ≤ (j : Int) := by omega
  have e2 : (j : Int) ≤ (n : Int) := by omega
  have e3 : (n : Int) ≤ (cp : Int) := by omega
  have e4 : ((i : Int) == (j : Int)) = false := by simp; omega
  have e4' : ¬ i = j := by omega
  have e5 : (i : Int) ≤ (cp : Int) := by omega
  have e6 : (j : Int) ≤ (cp : Int) := by omega
  have e7 : (i : Int) ≤ (n : Int) := by omega
  have e8 : (q : Int) ≤ (n : Int) := by omega
  have e9 : ¬ cp = q := by omega
  have e10 : (q : Int) ≤ (cp : Int) := by omega
  have e11 : n - j = m := by omega
  have e12 : n - q = 1 := by omega
  by_cases hc1 : cp = j
  · obtain rfl : m = 0 := by omega
    obtain rfl : n = j := by omega
    have hci := hc1.symm
    obtain rfl : q = i := by omega
    obtain ⟨w2, h2, h3, h4⟩ := clear_last w.drew b gp q cp S (by omega) (by have := hO; rw [hn'] at this; exact this) 0 1
    have hN : Hid (w2.ownsRow b 82 2 (.slice (some ⟨gp, 0, none⟩) q cp) q (flatP (S.eraseIdx q))) := Lib.hid h3
    have hK : Hid (Keeps [gp] w w2) := Lib.hid ((Keeps.refl [gp] w).drew.trans h4)
    subst hc1
    clear hcell hO hS hj hn' hq h3 h4 hci
    go_enter Try.func44, Try.ntmps44
    go_wp2_with fail
    go_still_tail 6, (by kernel_rfl)
    change wpList _ _ _ _ _ w.drew
    go_wp2_with fail
    go_ret
    exact ⟨rfl, hN.out, hK.out⟩
  · obtain ⟨w1, w2, h1, h2, h3, h4⟩ := shift_at w.drew b gp i m cp S (by omega) (by rw [hn'] at hO; exact hO) ⟨gp, j * 2, none⟩ (cp - j) (fun _ => by rw [hj]) 62 0 (cp - q)
    rw [← hq] at h1 h2 h3
    have hN : Hid (w2.ownsRow b 82 2 (.slice (some ⟨gp, 0, none⟩) q cp) q (flatP (S.eraseIdx i))) := Lib.hid h3
    have hK : Hid (Keeps [gp] w w2) := Lib.hid ((Keeps.refl [gp] w).drew.trans h4)
    replace h1 := Lib.hid h1
    clear hcell hO hS hj hn' hq h3 h4
    go_enter Try.func44, Try.ntmps44
    go_wp2_with fail
    go_still_tail 6, (by kernel_rfl)
    change wpList _ _ _ _ _ w.drew
    go_wp2_with (at_builtin; refine wpList_run_append (by rfl) (.tmp 22) (.tmp 25) 62 rfl _ _ _ rfl rfl h1.out ?_)
    go_ret
    exact ⟨rfl, hN.out, hK.out⟩
end Go.Proofs.Ytmclfbhcddcebaa
