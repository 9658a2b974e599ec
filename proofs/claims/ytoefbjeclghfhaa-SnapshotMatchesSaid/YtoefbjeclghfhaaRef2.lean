/- The contract of the reference's Write. -/
import Derived.Test.YtoefbjeclghfhaaRef1
namespace Go.Proofs.Ytoefbjeclghfhaa
open Go.RowKit
set_option linter.unusedSimpArgs false
set_option linter.unusedVariables false

/-- A slot of the reference, cell by cell. -/
theorem slot_cells {Z : List Nat} {w : World} {bm bS : Nat} {s : St} (hM : MRep Z w bm bS s) {i : Nat} (h : i < s.n) : ∃ g c, w.cell? ⟨bS, i, none⟩ = some (.slice (some ⟨g, 0, none⟩) 64 c) ∧ 64 ≤ c ∧ c ≤ maxLen ∧ Bts w (some ⟨g, 0, none⟩) (sec s i) ∧ g < w.heap.size := by
  obtain ⟨cap, cells, a1, a2, a3, a4, a5⟩ := hM.ex
  obtain ⟨v, hv, hs⟩ := a5 i h
  obtain ⟨g, c, rfl, h1, h2, h3, h4, h5, cur, h6⟩ := hs.bts
  exact ⟨g, c, (a2.cell i).trans hv, h1, h2, h3, h5⟩

def RWPost (w : World) (bm bS : Nat) (q : St × Int) (e : Ending) (w' : World) : Prop := e = .returned (.int .i64 q.2) ∧ MRep [] w' bm bS q.1 ∧ Keeps [bm, bS] w w'

set_option maxHeartbeats 6400000 in
set_option maxRecDepth 100000 in
theorem rswrite_any (w : World) (bm bS : Nat) (s : St) (ep : Nat) (A : Option Addr) (b : List UInt8) (n c : Nat) (hD : MRep [] w bm bS s) (hB : Bts w A b) (hn : b.length = n) (hnc : n ≤ c) (hcm : c ≤ maxLen) (hep : ep < 4294967296)
    (hA : b ≠ [] → ∀ a, A = some a → a.block ≠ bm ∧ a.block ≠ bS) (hw0 : 0 ≤ s.writes) (hw : s.writes ≤ 900000) :
    Calls Try.prog 34 #[.pointer (some ⟨bm, 0, none⟩), .int .u32 ep, .slice A n c] w (RWPost w bm bS (swrite s ep b)) := by
  by_cases hb : bad s = 0
  · have HO := Lib.hid (rbegin_ok w bm bS s hD hb)
    obtain ⟨hd, h7, hr1⟩ := bad_zero hb
    have hnn := hD.n
    have hmem := hD.len
    have har := area_le s.n
    have hHl := sec_len0 hmem (i := 1 + root s) (by omega)
    have hq : swrite s ep b = if ep ≤ hEp (sec s (1 + root s)) then (s, 1) else if 64 * area s.n < b.length then (s, 16) else swrite2 s (1 - root s) (area0 s.n (1 - root s)) ep b := by
      unfold swrite swrite2; rw [if_neg (by simp [hb])]
    have ha0 : area0 s.n (1 - root s) + area s.n ≤ s.n := by unfold area0; split <;> omega
    have hE := hEp_lt hHl
    have hqA : (layV s.n)[3 + (1 - root s)]? = some (.int .i64 (area0 s.n (1 - root s) : Nat)) := by
      rcases Nat.le_one_iff_eq_zero_or_eq_one.1 hr1 with h | h
      · rw [h]; rfl
      · rw [h]; rfl
    have hqH : (layV s.n)[1 + (1 - root s)]? = some (.int .i64 ((1 + (1 - root s) : Nat) : Int)) := by
      rcases Nat.le_one_iff_eq_zero_or_eq_one.1 hr1 with h | h
      · rw [h]; rfl
      · rw [h]; rfl
    have hqI : (layV s.n)[1 + root s]? = some (.int .i64 ((1 + root s : Nat) : Int)) := by
      rcases Nat.le_one_iff_eq_zero_or_eq_one.1 hr1 with h | h
      · rw [h]; rfl
      · rw [h]; rfl
    have HSl := fun (w' : World) (k : Keeps [] w w') => slot_cells (hD.keep k (by simp) (by simp) (by simp)) (i := 1 + root s) (by omega)
    have HR0 := fun (w' : World) (k : Keeps [] w w') => root_cells (hD.keep k (by simp) (by simp) (by simp)) (by omega)
    unfold layV at HO
    have hEv : val ((sec s (1 + root s)).take 4) = hEp (sec s (1 + root s)) := rfl
    generalize hH : sec s (1 + root s) = H at *
    obtain ⟨r, hr⟩ : ∃ r, root s = r := ⟨_, rfl⟩
    rw [hr] at HO hr1 hq ha0 hqA hqH hqI HSl HR0
    obtain ⟨nn, hnn0⟩ : ∃ nn, s.n = nn := ⟨_, rfl⟩
    rw [hnn0] at HO h7 hnn har hq ha0 hqA hqH hqI HR0
    obtain ⟨E, hEE⟩ : ∃ E, hEp H = E := ⟨_, rfl⟩
    rw [hEE] at hq hE hEv
    obtain ⟨ar, har0⟩ : ∃ ar, area nn = ar := ⟨_, rfl⟩
    rw [har0] at HO har hq ha0
    obtain ⟨o, ho⟩ : ∃ o, 1 - r = o := ⟨_, rfl⟩
    rw [ho] at hq ha0 hqA hqH
    obtain ⟨a0, ha00⟩ : ∃ a0, area0 nn o = a0 := ⟨_, rfl⟩
    rw [ha00] at hq ha0 hqA
    have hlv : layV nn = #[.int .i64 0, .int .i64 1, .int .i64 2, .int .i64 3, .int .i64 (3 + (ar : Int)), .int .i64 (ar : Int), .int .i64 (3 + 2 * (ar : Int)), .int .i64 ((nn : Int) - (3 + 2 * (ar : Int)))] := by unfold layV; rw [har0]
    rw [hlv] at hqA hqH hqI
    have ho1 : o ≤ 1 := by omega
    have hor : 1 - (r : Int) = (o : Int) := by omega
    have hor2 : IntKind.i64.wrap (1 - (r : Int)) = (o : Int) := by rw [hor]; exact IntWalk.i64_in _ (by omega)
    have hr2 : (r : Int) < 2 := by omega
    have hr20 : r < 2 := by omega
    generalize swrite s ep b = qq at *
    rw [hn] at hq
    have HVal := Lib.hid (fun (w' : World) (gh ch : Nat) (hb : Bts w' (some ⟨gh, 0, none⟩) H) => value_any w' (some ⟨gh, 0, none⟩) (H.take 4) 4 ch (hb.take 4) (by rw [List.length_take, hHl]; rfl) (by decide))
    rw [hEv] at HVal
    replace hq := Lib.hid hq
    replace hqA := Lib.hid hqA
    replace hqH := Lib.hid hqH
    replace hqI := Lib.hid hqI
    replace hD := Lib.hid hD
    replace hB := Lib.hid hB
    replace hn := Lib.hid hn
    replace hA := Lib.hid hA
    replace hmem := Lib.hid hmem
    replace ho := Lib.hid ho
    replace hnn0 := Lib.hid hnn0
    replace HSl := Lib.hid HSl
    replace HR0 := Lib.hid HR0
    clear hb hlv hEE har0 ha00 hH hHl hr hEv
    go_enter Try.func34, Try.ntmps34
    go_wp2_with fail
    refine HO.out.mono ?_
    rintro e w1 ⟨rfl, k1⟩
    have e1 : IntKind.i64.wrap (64 * (ar : Int)) = 64 * (ar : Int) := IntWalk.i64_in _ (by omega)
    have e2 : IntKind.u64.wrap (ep : Int) = ep := IntWalk.u64_in _ (by omega)
    have k1a := k1.alloc (.cells #[.int .i64 0, .int .i64 1, .int .i64 2, .int .i64 3, .int .i64 (3 + (ar : Int)), .int .i64 (ar : Int), .int .i64 (3 + 2 * (ar : Int)), .int .i64 ((nn : Int) - (3 + 2 * (ar : Int)))] 28)
    have B7 := Lib.hid (Blk.new w1 28 #[.int .i64 0, .int .i64 1, .int .i64 2, .int .i64 3, .int .i64 (3 + (ar : Int)), .int .i64 (ar : Int), .int .i64 (3 + 2 * (ar : Int)), .int .i64 ((nn : Int) - (3 + 2 * (ar : Int)))])
    have hg7 : Hid (w1.heap.size ∉ [bm, bS]) := Lib.hid (by
      obtain ⟨_, _, _, _, _, _, _, l1, l2, _⟩ := HR0.out w1 k1
      simp; omega)
    have hlt7 : Hid (bm < w1.heap.size ∧ bS < w1.heap.size) := Lib.hid (by
      obtain ⟨_, _, _, _, _, _, _, l1, l2, _⟩ := HR0.out w1 k1
      exact ⟨l1, l2⟩)
    obtain ⟨cap, g0, c0, q1, _, _, _, _, _, _⟩ := HR0.out _ k1a
    obtain ⟨gh, ch, q2, hch64, _, hbh, _⟩ := HSl.out _ k1a
    have hD2 := Lib.hid (hD.out.keep k1a (by simp) (by simp) (by simp))
    have hB2 := Lib.hid (hB.out.keep k1a (by simp))
    have q3 := (B7.out.cell (1 + r)).trans hqI.out
    have K2 := Lib.hid k1a
    have hsz7 := Lib.hid (show w1.heap.size < (w1.alloc (.cells #[.int .i64 0, .int .i64 1, .int .i64 2, .int .i64 3, .int .i64 (3 + (ar : Int)), .int .i64 (ar : Int), .int .i64 (3 + 2 * (ar : Int)), .int .i64 ((nn : Int) - (3 + 2 * (ar : Int)))] 28)).heap.size by simp)
    replace HVal := Lib.hid (fun w' hb => HVal.out w' gh ch hb)
    clear HO hD hB HSl HR0 k1 k1a
    go_wp2_with fail
    generalize w1.alloc (.cells #[.int .i64 0, .int .i64 1, .int .i64 2, .int .i64 3, .int .i64 (3 + (ar : Int)), .int .i64 (ar : Int), .int .i64 (3 + 2 * (ar : Int)), .int .i64 ((nn : Int) - (3 + 2 * (ar : Int)))] 28) = w2 at *
    generalize w1.heap.size = g7 at *
    have h0 : w2.drew.cell? ⟨g7, 1 + r, none⟩ = some (.int .i64 ((1 + r : Nat) : Int)) ∧ w2.drew.cell? ⟨bm, 0, none⟩ = some (.slice (some ⟨bS, 0, none⟩) nn cap) ∧ w2.drew.cell? ⟨bS, 1 + r, none⟩ = some (.slice (some ⟨gh, 0, none⟩) 64 ch) := ⟨q3, q1, q2⟩
    replace hbh : Hid (Bts w2.drew (some ⟨gh, 0, none⟩) H) := Lib.hid hbh
    clear q1 q2 q3
    have h1r : 1 + r < nn := by omega
    have h1r2 : ((1 + r : Nat) : Int) < (nn : Int) := by omega
    by_cases hE0 : (ep : Int) ≤ (E : Int)
    · have hq2 := hq.out
      rw [if_pos (by omega)] at hq2
      subst hq2
      clear hq
      refine wp_region_I (S := (fun w' : World => w'.cell? ⟨g7, 1 + r, none⟩ = some (.int .i64 ((1 + r : Nat) : Int)) ∧ w'.cell? ⟨bm, 0, none⟩ = some (.slice (some ⟨bS, 0, none⟩) nn cap) ∧ w'.cell? ⟨bS, 1 + r, none⟩ = some (.slice (some ⟨gh, 0, none⟩) 64 ch))) (n := 15) (by kernel_rfl) ?_
      have HS := h0
      clear h0
      refine wpAnyI_takeN (i := 0) (v := ?_) (by kernel_rfl) rfl (by kernel_rfl) (by kernel_rfl) (by kernel_rfl) (fun _ _ _ h => h) HS (Or.inl ⟨by rfl, ?_⟩) ?_
      rotate_left
      · (intro w hSw; obtain ⟨z1, z2, z3⟩ := hSw; go_simp; try with_reducible rfl)
      try simp only [Act.put, List.getElem_toArray, List.getElem_cons_succ, List.getElem_cons_zero, List.setIfInBounds_toArray, List.set_cons_zero, List.set_cons_succ]
      refine wpAnyI_takeN (i := 1) (v := ?_) (by kernel_rfl) rfl (by kernel_rfl) (by kernel_rfl) (by kernel_rfl) (fun _ _ _ h => h) HS (Or.inl ⟨by rfl, ?_⟩) ?_
      rotate_left
      · (intro w hSw; obtain ⟨z1, z2, z3⟩ := hSw; go_simp; try with_reducible rfl)
      try simp only [Act.put, List.getElem_toArray, List.getElem_cons_succ, List.getElem_cons_zero, List.setIfInBounds_toArray, List.set_cons_zero, List.set_cons_succ]
      refine wpAnyI_takeN (i := 2) (v := ?_) (by kernel_rfl) rfl (by kernel_rfl) (by kernel_rfl) (by kernel_rfl) (fun _ _ _ h => h) HS (Or.inl ⟨by rfl, ?_⟩) ?_
      rotate_left
      · (intro w hSw; obtain ⟨z1, z2, z3⟩ := hSw; go_simp; try with_reducible rfl)
      try simp only [Act.put, List.getElem_toArray, List.getElem_cons_succ, List.getElem_cons_zero, List.setIfInBounds_toArray, List.set_cons_zero, List.set_cons_succ]
      refine wpAnyI_takeN (i := 3) (v := ?_) (by kernel_rfl) rfl (by kernel_rfl) (by kernel_rfl) (by kernel_rfl) (fun _ _ _ h => h) HS (Or.inl ⟨by rfl, ?_⟩) ?_
      rotate_left
      · (intro w hSw; obtain ⟨z1, z2, z3⟩ := hSw; go_simp; try with_reducible rfl)
      try simp only [Act.put, List.getElem_toArray, List.getElem_cons_succ, List.getElem_cons_zero, List.setIfInBounds_toArray, List.set_cons_zero, List.set_cons_succ]
      refine wpAnyI_takeN (i := 4) (v := ?_) (by kernel_rfl) rfl (by kernel_rfl) (by kernel_rfl) (by kernel_rfl) (fun _ _ _ h => h) HS (Or.inl ⟨by rfl, ?_⟩) ?_
      rotate_left
      · (intro w hSw; obtain ⟨z1, z2, z3⟩ := hSw; go_simp; try with_reducible rfl)
      try simp only [Act.put, List.getElem_toArray, List.getElem_cons_succ, List.getElem_cons_zero, List.setIfInBounds_toArray, List.set_cons_zero, List.set_cons_succ]
      refine wpAnyI_takeN (i := 5) (v := ?_) (by kernel_rfl) rfl (by kernel_rfl) (by kernel_rfl) (by kernel_rfl) (fun _ _ _ h => h) HS (Or.inl ⟨by rfl, ?_⟩) ?_
      rotate_left
      · (intro w hSw; obtain ⟨z1, z2, z3⟩ := hSw; go_simp; try with_reducible rfl)
      try simp only [Act.put, List.getElem_toArray, List.getElem_cons_succ, List.getElem_cons_zero, List.setIfInBounds_toArray, List.set_cons_zero, List.set_cons_succ]
      refine wpAnyI_takeN (i := 6) (v := ?_) (by kernel_rfl) rfl (by kernel_rfl) (by kernel_rfl) (by kernel_rfl) (fun _ _ _ h => h) HS (Or.inl ⟨by rfl, ?_⟩) ?_
      rotate_left
      · (intro w hSw; obtain ⟨z1, z2, z3⟩ := hSw; go_simp; try with_reducible rfl)
      try simp only [Act.put, List.getElem_toArray, List.getElem_cons_succ, List.getElem_cons_zero, List.setIfInBounds_toArray, List.set_cons_zero, List.set_cons_succ]
      refine wpAnyI_takeN (i := 7) (v := ?_) (by kernel_rfl) rfl (by kernel_rfl) (by kernel_rfl) (by kernel_rfl) (fun _ _ _ h => h) HS (Or.inl ⟨by rfl, ?_⟩) ?_
      rotate_left
      · (intro w hSw; obtain ⟨z1, z2, z3⟩ := hSw; go_simp; try with_reducible rfl)
      try simp only [Act.put, List.getElem_toArray, List.getElem_cons_succ, List.getElem_cons_zero, List.setIfInBounds_toArray, List.set_cons_zero, List.set_cons_succ]
      refine wpAnyI_takeN (i := 8) (v := ?_) (by kernel_rfl) rfl (by kernel_rfl) (by kernel_rfl) (by kernel_rfl) (fun _ _ _ h => h) HS (Or.inl ⟨by rfl, ?_⟩) ?_
      rotate_left
      · (intro w hSw; obtain ⟨z1, z2, z3⟩ := hSw; go_simp; try with_reducible rfl)
      try simp only [Act.put, List.getElem_toArray, List.getElem_cons_succ, List.getElem_cons_zero, List.setIfInBounds_toArray, List.set_cons_zero, List.set_cons_succ]
      refine wpAnyI_takeN (i := 9) (v := ?_) (by kernel_rfl) rfl (by kernel_rfl) (by kernel_rfl) (by kernel_rfl) (fun _ _ _ h => h) HS (Or.inl ⟨by rfl, ?_⟩) ?_
      rotate_left
      · (intro w hSw; obtain ⟨z1, z2, z3⟩ := hSw; go_simp; try with_reducible rfl)
      try simp only [Act.put, List.getElem_toArray, List.getElem_cons_succ, List.getElem_cons_zero, List.setIfInBounds_toArray, List.set_cons_zero, List.set_cons_succ]
      refine wpAnyI_takeN (i := 10) (v := .pointer (some ⟨bS, 1 + r, none⟩)) (by kernel_rfl) rfl (by kernel_rfl) (by kernel_rfl) (by kernel_rfl) (fun _ _ _ h => h) HS (Or.inl ⟨by rfl, ?_⟩) ?_
      · (intro w hSw; obtain ⟨z1, z2, z3⟩ := hSw; go_simp; rw [if_pos ⟨by omega, by omega⟩, show (1 + (r : Int)).toNat = 1 + r by omega])
      try simp only [Act.put, List.getElem_toArray, List.getElem_cons_succ, List.getElem_cons_zero, List.setIfInBounds_toArray, List.set_cons_zero, List.set_cons_succ]
      refine wpAnyI_takeN (i := 11) (v := ?_) (by kernel_rfl) rfl (by kernel_rfl) (by kernel_rfl) (by kernel_rfl) (fun _ _ _ h => h) HS (Or.inl ⟨by rfl, ?_⟩) ?_
      rotate_left
      · (intro w hSw; obtain ⟨z1, z2, z3⟩ := hSw; go_simp; try with_reducible rfl)
      try simp only [Act.put, List.getElem_toArray, List.getElem_cons_succ, List.getElem_cons_zero, List.setIfInBounds_toArray, List.set_cons_zero, List.set_cons_succ]
      refine wpAnyI_takeN (i := 12) (v := .slice (some ⟨gh, 0, none⟩) 4 ch) (by kernel_rfl) rfl (by kernel_rfl) (by kernel_rfl) (by kernel_rfl) (fun _ _ _ h => h) HS (Or.inl ⟨by rfl, ?_⟩) ?_
      · (intro w hSw; obtain ⟨z1, z2, z3⟩ := hSw; go_simp; (intro hh; exfalso; omega))
      try simp only [Act.put, List.getElem_toArray, List.getElem_cons_succ, List.getElem_cons_zero, List.setIfInBounds_toArray, List.set_cons_zero, List.set_cons_succ]
      refine wpAnyI_one (i := 13) rfl (by kernel_rfl) (fun K hK => ?_)
      dsimp only [List.getElem_toArray, List.getElem_cons_succ, List.getElem_cons_zero]
      go_simp
      refine (HVal.out _ hbh.out).mono ?_
      rintro e w4 ⟨rfl, rfl⟩
      refine hK _ _ (Or.inr HS) ?_
      clear hK K
      try simp only [Act.put, List.getElem_toArray, List.getElem_cons_succ, List.getElem_cons_zero, List.setIfInBounds_toArray, List.set_cons_zero, List.set_cons_succ]
      refine wpAnyI_takeN (i := 14) (v := .bool true) (by kernel_rfl) rfl (by kernel_rfl) (by kernel_rfl) (by kernel_rfl) (fun _ _ _ h => h) HS (Or.inl ⟨by rfl, ?_⟩) ?_
      · (intro w hSw; obtain ⟨z1, z2, z3⟩ := hSw; go_simp; (try (simp [hE0]; done)); all_goals omega)
      try simp only [Act.put, List.getElem_toArray, List.getElem_cons_succ, List.getElem_cons_zero, List.setIfInBounds_toArray, List.set_cons_zero, List.set_cons_succ]
      refine wpAnyI_done (by kernel_rfl) ?_ _
      go_wp2_with fail
      go_ret
      exact ⟨rfl, hD2.out.keep ((Keeps.refl [] w2).drew) (by simp) (by simp) (by simp), (K2.out.drew).nil⟩
    · have hD3 : Hid (MRep [] w2.drew bm bS s) := Lib.hid (hD2.out.keep ((Keeps.refl [] w2).drew) (by simp) (by simp) (by simp))
      have B73 := Lib.hid B7.out.drew
      have hB3 : Hid (Bts w2.drew A b) := Lib.hid hB2.out
      have K3_ := Lib.hid K2.out.drew
      have hs73 : Hid (g7 < w2.drew.heap.size) := hsz7
      refine wp_region_I (S := (fun w' : World => w'.cell? ⟨g7, 1 + r, none⟩ = some (.int .i64 ((1 + r : Nat) : Int)) ∧ w'.cell? ⟨bm, 0, none⟩ = some (.slice (some ⟨bS, 0, none⟩) nn cap) ∧ w'.cell? ⟨bS, 1 + r, none⟩ = some (.slice (some ⟨gh, 0, none⟩) 64 ch))) (n := 15) (by kernel_rfl) ?_
      have HS := h0
      clear h0
      refine wpAnyI_takeN (i := 0) (v := ?_) (by kernel_rfl) rfl (by kernel_rfl) (by kernel_rfl) (by kernel_rfl) (fun _ _ _ h => h) HS (Or.inl ⟨by rfl, ?_⟩) ?_
      rotate_left
      · (intro w hSw; obtain ⟨z1, z2, z3⟩ := hSw; go_simp; try with_reducible rfl)
      try simp only [Act.put, List.getElem_toArray, List.getElem_cons_succ, List.getElem_cons_zero, List.setIfInBounds_toArray, List.set_cons_zero, List.set_cons_succ]
      refine wpAnyI_takeN (i := 1) (v := ?_) (by kernel_rfl) rfl (by kernel_rfl) (by kernel_rfl) (by kernel_rfl) (fun _ _ _ h => h) HS (Or.inl ⟨by rfl, ?_⟩) ?_
      rotate_left
      · (intro w hSw; obtain ⟨z1, z2, z3⟩ := hSw; go_simp; try with_reducible rfl)
      try simp only [Act.put, List.getElem_toArray, List.getElem_cons_succ, List.getElem_cons_zero, List.setIfInBounds_toArray, List.set_cons_zero, List.set_cons_succ]
      refine wpAnyI_takeN (i := 2) (v := ?_) (by kernel_rfl) rfl (by kernel_rfl) (by kernel_rfl) (by kernel_rfl) (fun _ _ _ h => h) HS (Or.inl ⟨by rfl, ?_⟩) ?_
      rotate_left
      · (intro w hSw; obtain ⟨z1, z2, z3⟩ := hSw; go_simp; try with_reducible rfl)
      try simp only [Act.put, List.getElem_toArray, List.getElem_cons_succ, List.getElem_cons_zero, List.setIfInBounds_toArray, List.set_cons_zero, List.set_cons_succ]
      refine wpAnyI_takeN (i := 3) (v := ?_) (by kernel_rfl) rfl (by kernel_rfl) (by kernel_rfl) (by kernel_rfl) (fun _ _ _ h => h) HS (Or.inl ⟨by rfl, ?_⟩) ?_
      rotate_left
      · (intro w hSw; obtain ⟨z1, z2, z3⟩ := hSw; go_simp; try with_reducible rfl)
      try simp only [Act.put, List.getElem_toArray, List.getElem_cons_succ, List.getElem_cons_zero, List.setIfInBounds_toArray, List.set_cons_zero, List.set_cons_succ]
      refine wpAnyI_takeN (i := 4) (v := ?_) (by kernel_rfl) rfl (by kernel_rfl) (by kernel_rfl) (by kernel_rfl) (fun _ _ _ h => h) HS (Or.inl ⟨by rfl, ?_⟩) ?_
      rotate_left
      · (intro w hSw; obtain ⟨z1, z2, z3⟩ := hSw; go_simp; try with_reducible rfl)
      try simp only [Act.put, List.getElem_toArray, List.getElem_cons_succ, List.getElem_cons_zero, List.setIfInBounds_toArray, List.set_cons_zero, List.set_cons_succ]
      refine wpAnyI_takeN (i := 5) (v := ?_) (by kernel_rfl) rfl (by kernel_rfl) (by kernel_rfl) (by kernel_rfl) (fun _ _ _ h => h) HS (Or.inl ⟨by rfl, ?_⟩) ?_
      rotate_left
      · (intro w hSw; obtain ⟨z1, z2, z3⟩ := hSw; go_simp; try with_reducible rfl)
      try simp only [Act.put, List.getElem_toArray, List.getElem_cons_succ, List.getElem_cons_zero, List.setIfInBounds_toArray, List.set_cons_zero, List.set_cons_succ]
      refine wpAnyI_takeN (i := 6) (v := ?_) (by kernel_rfl) rfl (by kernel_rfl) (by kernel_rfl) (by kernel_rfl) (fun _ _ _ h => h) HS (Or.inl ⟨by rfl, ?_⟩) ?_
      rotate_left
      · (intro w hSw; obtain ⟨z1, z2, z3⟩ := hSw; go_simp; try with_reducible rfl)
      try simp only [Act.put, List.getElem_toArray, List.getElem_cons_succ, List.getElem_cons_zero, List.setIfInBounds_toArray, List.set_cons_zero, List.set_cons_succ]
      refine wpAnyI_takeN (i := 7) (v := ?_) (by kernel_rfl) rfl (by kernel_rfl) (by kernel_rfl) (by kernel_rfl) (fun _ _ _ h => h) HS (Or.inl ⟨by rfl, ?_⟩) ?_
      rotate_left
      · (intro w hSw; obtain ⟨z1, z2, z3⟩ := hSw; go_simp; try with_reducible rfl)
      try simp only [Act.put, List.getElem_toArray, List.getElem_cons_succ, List.getElem_cons_zero, List.setIfInBounds_toArray, List.set_cons_zero, List.set_cons_succ]
      refine wpAnyI_takeN (i := 8) (v := ?_) (by kernel_rfl) rfl (by kernel_rfl) (by kernel_rfl) (by kernel_rfl) (fun _ _ _ h => h) HS (Or.inl ⟨by rfl, ?_⟩) ?_
      rotate_left
      · (intro w hSw; obtain ⟨z1, z2, z3⟩ := hSw; go_simp; try with_reducible rfl)
      try simp only [Act.put, List.getElem_toArray, List.getElem_cons_succ, List.getElem_cons_zero, List.setIfInBounds_toArray, List.set_cons_zero, List.set_cons_succ]
      refine wpAnyI_takeN (i := 9) (v := ?_) (by kernel_rfl) rfl (by kernel_rfl) (by kernel_rfl) (by kernel_rfl) (fun _ _ _ h => h) HS (Or.inl ⟨by rfl, ?_⟩) ?_
      rotate_left
      · (intro w hSw; obtain ⟨z1, z2, z3⟩ := hSw; go_simp; try with_reducible rfl)
      try simp only [Act.put, List.getElem_toArray, List.getElem_cons_succ, List.getElem_cons_zero, List.setIfInBounds_toArray, List.set_cons_zero, List.set_cons_succ]
      refine wpAnyI_takeN (i := 10) (v := .pointer (some ⟨bS, 1 + r, none⟩)) (by kernel_rfl) rfl (by kernel_rfl) (by kernel_rfl) (by kernel_rfl) (fun _ _ _ h => h) HS (Or.inl ⟨by rfl, ?_⟩) ?_
      · (intro w hSw; obtain ⟨z1, z2, z3⟩ := hSw; go_simp; rw [if_pos ⟨by omega, by omega⟩, show (1 + (r : Int)).toNat = 1 + r by omega])
      try simp only [Act.put, List.getElem_toArray, List.getElem_cons_succ, List.getElem_cons_zero, List.setIfInBounds_toArray, List.set_cons_zero, List.set_cons_succ]
      refine wpAnyI_takeN (i := 11) (v := ?_) (by kernel_rfl) rfl (by kernel_rfl) (by kernel_rfl) (by kernel_rfl) (fun _ _ _ h => h) HS (Or.inl ⟨by rfl, ?_⟩) ?_
      rotate_left
      · (intro w hSw; obtain ⟨z1, z2, z3⟩ := hSw; go_simp; try with_reducible rfl)
      try simp only [Act.put, List.getElem_toArray, List.getElem_cons_succ, List.getElem_cons_zero, List.setIfInBounds_toArray, List.set_cons_zero, List.set_cons_succ]
      refine wpAnyI_takeN (i := 12) (v := .slice (some ⟨gh, 0, none⟩) 4 ch) (by kernel_rfl) rfl (by kernel_rfl) (by kernel_rfl) (by kernel_rfl) (fun _ _ _ h => h) HS (Or.inl ⟨by rfl, ?_⟩) ?_
      · (intro w hSw; obtain ⟨z1, z2, z3⟩ := hSw; go_simp; (intro hh; exfalso; omega))
      try simp only [Act.put, List.getElem_toArray, List.getElem_cons_succ, List.getElem_cons_zero, List.setIfInBounds_toArray, List.set_cons_zero, List.set_cons_succ]
      refine wpAnyI_one (i := 13) rfl (by kernel_rfl) (fun K hK => ?_)
      dsimp only [List.getElem_toArray, List.getElem_cons_succ, List.getElem_cons_zero]
      go_simp
      refine (HVal.out _ hbh.out).mono ?_
      rintro e w4 ⟨rfl, rfl⟩
      refine hK _ _ (Or.inr HS) ?_
      clear hK K
      try simp only [Act.put, List.getElem_toArray, List.getElem_cons_succ, List.getElem_cons_zero, List.setIfInBounds_toArray, List.set_cons_zero, List.set_cons_succ]
      refine wpAnyI_takeN (i := 14) (v := .bool false) (by kernel_rfl) rfl (by kernel_rfl) (by kernel_rfl) (by kernel_rfl) (fun _ _ _ h => h) HS (Or.inl ⟨by rfl, ?_⟩) ?_
      · (intro w hSw; obtain ⟨z1, z2, z3⟩ := hSw; go_simp; (try (simp [hE0]; done)); all_goals omega)
      try simp only [Act.put, List.getElem_toArray, List.getElem_cons_succ, List.getElem_cons_zero, List.setIfInBounds_toArray, List.set_cons_zero, List.set_cons_succ]
      refine wpAnyI_done (by kernel_rfl) ?_ _
      clear HS hD2 B7 hB2 K2 hsz7 hbh HVal
      generalize w2.drew = wS at *
      have c5 := B73.out.cell 5
      simp only [List.getElem?_toArray, List.getElem?_cons_succ, List.getElem?_cons_zero] at c5
      by_cases hLa : 64 * (ar : Int) < (n : Int)
      · have hq2 := hq.out
        rw [if_neg (by omega), if_pos (by omega)] at hq2
        subst hq2
        clear hq
        go_wp2_with fail
        go_ret
        exact ⟨rfl, hD3.out, K3_.out.nil⟩
      · have hq2 := hq.out
        rw [if_neg (by omega), if_neg (by omega)] at hq2
        replace hq := Lib.hid hq2
        have hLb : decide (64 * (ar : Int) < (n : Int)) = false := decide_eq_false hLa
        clear hq2
        have hi5 := Lib.hid info5
        go_wp2_with fail
        clear c5
        obtain ⟨Q, hQ⟩ : ∃ Q, sws s a0 n b = Q := ⟨_, rfl⟩
        have hqq : Hid (qq = swrite2 s o a0 ep b) := hq
        have hnar : n ≤ 64 * ar := by omega
        have hQ0 := Lib.hid hQ
        go_loopw [11] (fun iv wr => ∃ (i : Nat) (s' : St), iv = .int .i64 i ∧ 64 * i < n + 64 ∧ Hid (MRep [] wr bm bS s') ∧ Hid (sws s' (a0 + i) (n - i) (b.drop (64 * i)) = Q) ∧ Hid (0 ≤ s'.writes ∧ s'.writes ≤ s.writes + (i : Int)) ∧ Hid (Keeps [bm, bS] wS wr)) (fun iv _ => n + 1 - (intOf iv).toNat)
        case atStart => exact ⟨0, s, rfl, by omega, hD3, Lib.hid (by simpa using hQ), Lib.hid ⟨hw0, by omega⟩, Lib.hid (Keeps.refl _ _)⟩
        case round =>
          clear hQ
          obtain ⟨i, s', rfl, hi, hMr, hQr, hws, hkw⟩ := hrel
          have B7r := Lib.hid (B73.out.keep hkw.out hg7.out)
          have ew1 : IntKind.i64.wrap (64 * (i : Int)) = 64 * (i : Int) := IntWalk.i64_in _ (by omega)
          have hws1 : Hid (0 ≤ s'.writes ∧ s'.writes ≤ 950000) := Lib.hid (by have := hws.out; omega)
          have hbr : Hid (Bts wr A b) := Lib.hid (by
            by_cases h0 : b = []
            · exact .inl h0
            · exact hB3.out.keep hkw.out (fun a ha => by have := hA.out h0 _ ha; simp; exact this))
          by_cases hlt : 64 * i < n
          · have hli : 64 * (i : Int) < (n : Int) := by omega
            obtain ⟨k, hk⟩ : ∃ k, k = min 64 (n - 64 * i) := ⟨_, rfl⟩
            have hk64 : k ≤ 64 := by omega
            have hkn : 64 * i + k ≤ n := by omega
            have hmin : min (64 * (i : Int) + 64) (n : Int) = ((64 * i + k : Nat) : Int) := by omega
            have ew3 : IntKind.i64.wrap (64 * (i : Int) + 64) = 64 * (i : Int) + 64 := IntWalk.i64_in _ (by omega)
            have h0i : (0 : Int) ≤ 64 * (i : Int) := by omega
            have htn : (64 * (i : Int)).toNat = 64 * i := by omega
            have hcn : ¬ c = 64 * i := by omega
            have hci : ((64 * i + k : Nat) : Int) ≤ (c : Int) := by omega
            have hle : 64 * (i : Int) ≤ ((64 * i + k : Nat) : Int) := by omega
            obtain ⟨gA, oA, rfl⟩ : ∃ g o, A = some ⟨g, o, none⟩ := by
              rcases hbr.out with h | ⟨g, o, h, _⟩
              · have := hn.out; rw [h] at this; simp at this; omega
              · exact ⟨g, o, h⟩
            obtain ⟨ch, hch0⟩ : ∃ ch, (b.drop (64 * i)).take 64 = ch := ⟨_, rfl⟩
            have hbb := (bts_from (k := 64 * i) hbr.out).take 64
            rw [hch0] at hbb
            have hch : Hid (ch.length = k) := Lib.hid (by rw [← hch0, List.length_take, List.length_drop, hn.out]; omega)
            have HFl := Lib.hid (fill_any wr.drew (some ⟨gA, oA + 64 * i, none⟩) ch k (c - 64 * i) hbb hch.out hk64)
            have q7 : wr.cell? ⟨g7, 3 + o, none⟩ = some (.int .i64 (a0 : Int)) := (B7r.out.cell (3 + o)).trans hqA.out
            have ew4 : IntKind.i64.wrap ((a0 : Int) + (i : Int)) = (a0 : Int) + (i : Int) := IntWalk.i64_in _ (by omega)
            have ho2 : (o : Int) < 2 := by omega
            have ho0 : (0 : Int) ≤ (o : Int) := by omega
            obtain ⟨q, hq0⟩ : ∃ q, Go.Proofs.Ytoefbjeclghfhaa.wr s' ((a0 : Int) + (i : Int)) (pad ch) = q := ⟨_, rfl⟩
            have hq := Lib.hid hq0
            have hqw := Lib.hid (wr_writes s' ((a0 : Int) + (i : Int)) (pad ch) hws1.out.1)
            rw [hq0] at hqw
            have hne0 : b.drop (64 * i) ≠ [] := by
              intro h0
              have := congrArg List.length h0
              rw [List.length_drop, hn.out] at this
              simp at this
              omega
            have hstep : Hid ((q.2 = 0 → sws q.1 (a0 + (i + 1)) (n - (i + 1)) (b.drop (64 * (i + 1))) = Q) ∧ (q.2 ≠ 0 → q = Q)) := Lib.hid (by
              have h1 := hQr.out
              rw [show n - i = (n - (i + 1)) + 1 by omega] at h1
              have hcast : ((a0 + i : Nat) : Int) = (a0 : Int) + (i : Int) := by omega
              rw [← hq0, ← h1, ← hcast, ← hch0, show 64 * (i + 1) = 64 * i + 64 by omega, ← List.drop_drop]
              exact ⟨fun h => (sws_ok hne0 h).symm, fun h => (sws_bad hne0 h).symm⟩)
            replace hch0 := Lib.hid hch0
            have hkc : Hid ((64 * i + 64 ≤ n ∧ k = 64) ∨ (n < 64 * i + 64 ∧ k = n - 64 * i)) := Lib.hid (by omega)
            replace hk := Lib.hid hk
            clear hq0 hbb hne0 hQr hmin
            go_upto_region 12 with fail
            go_cut [12] from 54 to 63 (fun s12 wx => s12 = .slice (some ⟨gA, oA + 64 * i, none⟩) k (c - 64 * i) ∧ wx = wr)
            case first =>
              by_cases hfull : 64 * (i : Int) + 64 ≤ (n : Int)
              · have hkk0 : k = 64 := by rcases hkc.out with ⟨_, h⟩ | ⟨h, _⟩ <;> omega
                have hkk := Lib.hid hkk0
                clear hkk0
                have hc2 : 64 * (i : Int) + 64 ≤ (c : Int) := by omega
                have hle2 : 64 * (i : Int) ≤ 64 * (i : Int) + 64 := by omega
                have htn2 : (64 * (i : Int) + 64).toNat = 64 * i + 64 := by omega
                go_wp2_with fail
                all_goals
                  go_meet
                  refine ⟨?_, rfl⟩
                  first
                    | (rw [hkk.out]; done)
                    | (rw [hkk.out]; simp; done)
                    | (rw [hkk.out]; congr 1; omega)
              · have hkk0 : k = n - 64 * i := by rcases hkc.out with ⟨h, _⟩ | ⟨_, h⟩ <;> omega
                have hkk := Lib.hid hkk0
                clear hkk0
                have hle2 : 64 * (i : Int) ≤ (n : Int) := by omega
                have hc2 : (n : Int) ≤ (c : Int) := by omega
                go_wp2_with fail
                all_goals
                  go_meet
                  refine ⟨?_, rfl⟩
                  first
                    | (rw [hkk.out]; done)
                    | (rw [hkk.out]; simp; done)
                    | (rw [hkk.out]; congr 1; omega)
            case rest =>
             obtain ⟨rfl, rfl⟩ := hcut
             obtain ⟨wr, hwr⟩ : ∃ x, x = wc := ⟨_, rfl⟩
             subst hwr
             go_wp2_with fail
             refine wp_region_I (S := (fun w' : World => w'.cell? ⟨g7, 3 + o, none⟩ = some (.int .i64 (a0 : Int)))) (n := 11) (by kernel_rfl) ?_
             have HS : wr.drew.cell? ⟨g7, 3 + o, none⟩ = some (.int .i64 (a0 : Int)) := q7
             refine wpAnyI_takeN (i := 0) (v := ?_) (by kernel_rfl) rfl (by kernel_rfl) (by kernel_rfl) (by kernel_rfl) (fun _ _ _ h => h) HS (Or.inl ⟨by rfl, ?_⟩) ?_
             rotate_left
             · (intro w hSw; obtain z1 := hSw; go_simp; try with_reducible rfl)
             try simp only [Act.put, List.getElem_toArray, List.getElem_cons_succ, List.getElem_cons_zero, List.setIfInBounds_toArray, List.set_cons_zero, List.set_cons_succ]
             refine wpAnyI_takeN (i := 1) (v := ?_) (by kernel_rfl) rfl (by kernel_rfl) (by kernel_rfl) (by kernel_rfl) (fun _ _ _ h => h) HS (Or.inl ⟨by rfl, ?_⟩) ?_
             rotate_left
             · (intro w hSw; obtain z1 := hSw; go_simp; try with_reducible rfl)
             try simp only [Act.put, List.getElem_toArray, List.getElem_cons_succ, List.getElem_cons_zero, List.setIfInBounds_toArray, List.set_cons_zero, List.set_cons_succ]
             refine wpAnyI_takeN (i := 2) (v := ?_) (by kernel_rfl) rfl (by kernel_rfl) (by kernel_rfl) (by kernel_rfl) (fun _ _ _ h => h) HS (Or.inl ⟨by rfl, ?_⟩) ?_
             rotate_left
             · (intro w hSw; obtain z1 := hSw; go_simp; try with_reducible rfl)
             try simp only [Act.put, List.getElem_toArray, List.getElem_cons_succ, List.getElem_cons_zero, List.setIfInBounds_toArray, List.set_cons_zero, List.set_cons_succ]
             refine wpAnyI_takeN (i := 3) (v := ?_) (by kernel_rfl) rfl (by kernel_rfl) (by kernel_rfl) (by kernel_rfl) (fun _ _ _ h => h) HS (Or.inl ⟨by rfl, ?_⟩) ?_
             rotate_left
             · (intro w hSw; obtain z1 := hSw; go_simp; try with_reducible rfl)
             try simp only [Act.put, List.getElem_toArray, List.getElem_cons_succ, List.getElem_cons_zero, List.setIfInBounds_toArray, List.set_cons_zero, List.set_cons_succ]
             refine wpAnyI_takeN (i := 4) (v := ?_) (by kernel_rfl) rfl (by kernel_rfl) (by kernel_rfl) (by kernel_rfl) (fun _ _ _ h => h) HS (Or.inl ⟨by rfl, ?_⟩) ?_
             rotate_left
             · (intro w hSw; obtain z1 := hSw; go_simp; try with_reducible rfl)
             try simp only [Act.put, List.getElem_toArray, List.getElem_cons_succ, List.getElem_cons_zero, List.setIfInBounds_toArray, List.set_cons_zero, List.set_cons_succ]
             refine wpAnyI_takeN (i := 5) (v := ?_) (by kernel_rfl) rfl (by kernel_rfl) (by kernel_rfl) (by kernel_rfl) (fun _ _ _ h => h) HS (Or.inl ⟨by rfl, ?_⟩) ?_
             rotate_left
             · (intro w hSw; obtain z1 := hSw; go_simp; try with_reducible rfl)
             try simp only [Act.put, List.getElem_toArray, List.getElem_cons_succ, List.getElem_cons_zero, List.setIfInBounds_toArray, List.set_cons_zero, List.set_cons_succ]
             refine wpAnyI_takeN (i := 6) (v := ?_) (by kernel_rfl) rfl (by kernel_rfl) (by kernel_rfl) (by kernel_rfl) (fun _ _ _ h => h) HS (Or.inl ⟨by rfl, ?_⟩) ?_
             rotate_left
             · (intro w hSw; obtain z1 := hSw; go_simp; try with_reducible rfl)
             try simp only [Act.put, List.getElem_toArray, List.getElem_cons_succ, List.getElem_cons_zero, List.setIfInBounds_toArray, List.set_cons_zero, List.set_cons_succ]
             refine wpAnyI_takeN (i := 7) (v := ?_) (by kernel_rfl) rfl (by kernel_rfl) (by kernel_rfl) (by kernel_rfl) (fun _ _ _ h => h) HS (Or.inl ⟨by rfl, ?_⟩) ?_
             rotate_left
             · (intro w hSw; obtain z1 := hSw; go_simp; try with_reducible rfl)
             try simp only [Act.put, List.getElem_toArray, List.getElem_cons_succ, List.getElem_cons_zero, List.setIfInBounds_toArray, List.set_cons_zero, List.set_cons_succ]
             refine wpAnyI_one (i := 8) rfl (by kernel_rfl) (fun K hK => ?_)
             dsimp only [List.getElem_toArray, List.getElem_cons_succ, List.getElem_cons_zero]
             go_simp
             refine HFl.out.mono ?_
             rintro e v2 ⟨A2, c2, rfl, o2, b2⟩
             have K3 : Hid (Keeps [] wr v2) := Lib.hid ((Keeps.refl [] wr).drew.over (Nat.le_refl _) b2)
             replace o2 := Lib.hid o2
             have HS := K3.out.cellEq q7 (by simp)
             clear b2
             refine hK _ _ (Or.inr HS) ?_
             clear hK K
             try simp only [Act.put, List.getElem_toArray, List.getElem_cons_succ, List.getElem_cons_zero, List.setIfInBounds_toArray, List.set_cons_zero, List.set_cons_succ]
             refine wpAnyI_one (i := 9) rfl (by kernel_rfl) (fun K hK => ?_)
             dsimp only [List.getElem_toArray, List.getElem_cons_succ, List.getElem_cons_zero]
             go_simp
             have hbt := own_bts o2.out
             have hMv := hMr.out.keep K3.out (by simp) (by simp) (by simp)
             have HW := rwrite_any v2 bm bS s' ((a0 : Int) + (i : Int)) A2 (pad ch) 64 c2 (pad_len (by rw [hch.out]; exact hk64)) hMv hbt.1 (fun _ a ha => by
               have h1 := (hbt.2.2.2.2 a ha).1
               have h2 := hlt7.out
               have h3 := hkw.out.size
               have h5 := hs73.out
               have h4 : wr.drew.heap.size = wr.heap.size := rfl
               omega) hbt.2.2.1 hws1.out.1 (by have := hws1.out.2; omega) (by simp)
             rw [hq.out] at HW
             refine HW.mono ?_
             rintro e w3 ⟨rfl, hM3, k3⟩
             have K4 : Hid (Keeps [bm, bS] wr w3) := Lib.hid (K3.out.nil.trans k3)
             replace hM3 := Lib.hid hM3
             have HS := K4.out.cellEq q7 hg7.out
             clear HW k3 K3 o2 hbt hMv
             refine hK _ _ (Or.inr HS) ?_
             clear hK K
             try simp only [Act.put, List.getElem_toArray, List.getElem_cons_succ, List.getElem_cons_zero, List.setIfInBounds_toArray, List.set_cons_zero, List.set_cons_succ]
             refine wpAnyI_takeN (i := 10) (v := ?_) (by kernel_rfl) rfl (by kernel_rfl) (by kernel_rfl) (by kernel_rfl) (fun _ _ _ h => h) HS (Or.inl ⟨by rfl, ?_⟩) ?_
             rotate_left
             · (intro w hSw; obtain z1 := hSw; go_simp; try with_reducible rfl)
             try simp only [Act.put, List.getElem_toArray, List.getElem_cons_succ, List.getElem_cons_zero, List.setIfInBounds_toArray, List.set_cons_zero, List.set_cons_succ]
             refine wpAnyI_done (by kernel_rfl) ?_ _
             by_cases hq0 : q.2 = 0
             · have hqb : (q.2 != 0) = false := by simp [hq0]
               have hQ7 := Lib.hid (hstep.out.1 hq0)
               have hk4 := Lib.hid (hkw.out.trans K4.out)
               clear hq hstep
               go_wp2_with fail
               go_roundw
               case rel => exact ⟨i + 1, q.1, by go_num, by omega, hM3, hQ7, Lib.hid (by have := hqw.out; have := hws.out; omega), hk4⟩
               case measure => simp [intOf]; omega
             · have hqb : (q.2 != 0) = true := by simp [hq0]
               have hQ7 := hstep.out.2 hq0
               have hfin : qq = q := by
                 rw [hqq.out]
                 unfold swrite2
                 rw [hn.out, hQ0.out, ← hQ7, if_pos hq0]
               have hk4 := Lib.hid (K3_.out.nil.trans (hkw.out.trans K4.out))
               subst hfin
               clear hq hstep hqq hQ7
               go_wp2_with fail
               go_ret
               exact ⟨rfl, hM3.out, hk4.out⟩
          · have hli : ¬ 64 * (i : Int) < (n : Int) := by omega
            have hnil : b.drop (64 * i) = [] := List.drop_of_length_le (by rw [hn.out]; omega)
            have hQ1 := hQr.out
            rw [hnil, sws_nil] at hQ1
            obtain ⟨q1, hq10⟩ : ∃ q1, Go.Proofs.Ytoefbjeclghfhaa.wr s' ((1 + o : Nat) : Int) (pad (hdr ep b)) = q1 := ⟨_, rfl⟩
            have hq1 := Lib.hid hq10
            have hqw1 := wr_writes s' ((1 + o : Nat) : Int) (pad (hdr ep b)) hws1.out.1
            rw [hq10] at hqw1
            have hqq2 : Hid (qq = if q1.2 ≠ 0 then q1 else Go.Proofs.Ytoefbjeclghfhaa.wr q1.1 0 (pad [UInt8.ofNat o])) := Lib.hid (by
              rw [hqq.out]
              unfold swrite2
              rw [hn.out, hQ0.out, ← hQ1]
              simp only [hq10]
              rw [if_neg (by simp)])
            replace hqw1 : Hid (0 ≤ q1.1.writes ∧ q1.1.writes ≤ 960000) := Lib.hid (by have := hws1.out; omega)
            have q7 : wr.cell? ⟨g7, 1 + o, none⟩ = some (.int .i64 ((1 + o : Nat) : Int)) := (B7r.out.cell (1 + o)).trans hqH.out
            have HHd := Lib.hid (header_any wr.drew A b n c ep (show Bts wr.drew A b from hbr.out) hn.out (by omega) hep)
            have ho2 : (o : Int) < 2 := by omega
            have ho0 : (0 : Int) ≤ (o : Int) := by omega
            clear hqq hq10 hQr hnil hq hQ1
            go_wp2_with fail
            refine wp_region_I (S := (fun w' : World => w'.cell? ⟨g7, 1 + o, none⟩ = some (.int .i64 ((1 + o : Nat) : Int)))) (n := 10) (by kernel_rfl) ?_
            have HS : wr.drew.cell? ⟨g7, 1 + o, none⟩ = some (.int .i64 ((1 + o : Nat) : Int)) := q7
            refine wpAnyI_takeN (i := 0) (v := ?_) (by kernel_rfl) rfl (by kernel_rfl) (by kernel_rfl) (by kernel_rfl) (fun _ _ _ h => h) HS (Or.inl ⟨by rfl, ?_⟩) ?_
            rotate_left
            · (intro w hSw; obtain z1 := hSw; go_simp; try with_reducible rfl)
            try simp only [Act.put, List.getElem_toArray, List.getElem_cons_succ, List.getElem_cons_zero, List.setIfInBounds_toArray, List.set_cons_zero, List.set_cons_succ]
            refine wpAnyI_takeN (i := 1) (v := ?_) (by kernel_rfl) rfl (by kernel_rfl) (by kernel_rfl) (by kernel_rfl) (fun _ _ _ h => h) HS (Or.inl ⟨by rfl, ?_⟩) ?_
            rotate_left
            · (intro w hSw; obtain z1 := hSw; go_simp; try with_reducible rfl)
            try simp only [Act.put, List.getElem_toArray, List.getElem_cons_succ, List.getElem_cons_zero, List.setIfInBounds_toArray, List.set_cons_zero, List.set_cons_succ]
            refine wpAnyI_takeN (i := 2) (v := ?_) (by kernel_rfl) rfl (by kernel_rfl) (by kernel_rfl) (by kernel_rfl) (fun _ _ _ h => h) HS (Or.inl ⟨by rfl, ?_⟩) ?_
            rotate_left
            · (intro w hSw; obtain z1 := hSw; go_simp; try with_reducible rfl)
            try simp only [Act.put, List.getElem_toArray, List.getElem_cons_succ, List.getElem_cons_zero, List.setIfInBounds_toArray, List.set_cons_zero, List.set_cons_succ]
            refine wpAnyI_takeN (i := 3) (v := ?_) (by kernel_rfl) rfl (by kernel_rfl) (by kernel_rfl) (by kernel_rfl) (fun _ _ _ h => h) HS (Or.inl ⟨by rfl, ?_⟩) ?_
            rotate_left
            · (intro w hSw; obtain z1 := hSw; go_simp; try with_reducible rfl)
            try simp only [Act.put, List.getElem_toArray, List.getElem_cons_succ, List.getElem_cons_zero, List.setIfInBounds_toArray, List.set_cons_zero, List.set_cons_succ]
            refine wpAnyI_takeN (i := 4) (v := ?_) (by kernel_rfl) rfl (by kernel_rfl) (by kernel_rfl) (by kernel_rfl) (fun _ _ _ h => h) HS (Or.inl ⟨by rfl, ?_⟩) ?_
            rotate_left
            · (intro w hSw; obtain z1 := hSw; go_simp; try with_reducible rfl)
            try simp only [Act.put, List.getElem_toArray, List.getElem_cons_succ, List.getElem_cons_zero, List.setIfInBounds_toArray, List.set_cons_zero, List.set_cons_succ]
            refine wpAnyI_takeN (i := 5) (v := ?_) (by kernel_rfl) rfl (by kernel_rfl) (by kernel_rfl) (by kernel_rfl) (fun _ _ _ h => h) HS (Or.inl ⟨by rfl, ?_⟩) ?_
            rotate_left
            · (intro w hSw; obtain z1 := hSw; go_simp; try with_reducible rfl)
            try simp only [Act.put, List.getElem_toArray, List.getElem_cons_succ, List.getElem_cons_zero, List.setIfInBounds_toArray, List.set_cons_zero, List.set_cons_succ]
            refine wpAnyI_takeN (i := 6) (v := ?_) (by kernel_rfl) rfl (by kernel_rfl) (by kernel_rfl) (by kernel_rfl) (fun _ _ _ h => h) HS (Or.inl ⟨by rfl, ?_⟩) ?_
            rotate_left
            · (intro w hSw; obtain z1 := hSw; go_simp; try with_reducible rfl)
            try simp only [Act.put, List.getElem_toArray, List.getElem_cons_succ, List.getElem_cons_zero, List.setIfInBounds_toArray, List.set_cons_zero, List.set_cons_succ]
            refine wpAnyI_one (i := 7) rfl (by kernel_rfl) (fun K hK => ?_)
            dsimp only [List.getElem_toArray, List.getElem_cons_succ, List.getElem_cons_zero]
            go_simp
            refine HHd.out.mono ?_
            rintro e v2 ⟨A2, c2, rfl, o2, b2⟩
            have K3 : Hid (Keeps [] wr v2) := Lib.hid ((Keeps.refl [] wr).drew.over (Nat.le_refl _) b2)
            replace o2 := Lib.hid o2
            have HS := K3.out.cellEq q7 (by simp)
            clear b2
            refine hK _ _ (Or.inr HS) ?_
            clear hK K
            try simp only [Act.put, List.getElem_toArray, List.getElem_cons_succ, List.getElem_cons_zero, List.setIfInBounds_toArray, List.set_cons_zero, List.set_cons_succ]
            refine wpAnyI_one (i := 8) rfl (by kernel_rfl) (fun K hK => ?_)
            dsimp only [List.getElem_toArray, List.getElem_cons_succ, List.getElem_cons_zero]
            go_simp
            have hbt := own_bts o2.out
            have hMv := hMr.out.keep K3.out (by simp) (by simp) (by simp)
            have HW := rwrite_any v2 bm bS s' ((1 + o : Nat) : Int) A2 (pad (hdr ep b)) 64 c2 (pad_len (by rw [hdr_len]; decide)) hMv hbt.1 (fun _ a ha => by
              have h1 := (hbt.2.2.2.2 a ha).1
              have h2 := hlt7.out
              have h3 := hkw.out.size
              have h5 := hs73.out
              have h4 : wr.drew.heap.size = wr.heap.size := rfl
              omega) hbt.2.2.1 hws1.out.1 (by have := hws1.out.2; omega) (by simp)
            rw [hq1.out] at HW
            refine HW.mono ?_
            rintro e w3 ⟨rfl, hM3, k3⟩
            have K4 : Hid (Keeps [bm, bS] wr w3) := Lib.hid (K3.out.nil.trans k3)
            replace hM3 := Lib.hid hM3
            have HS := K4.out.cellEq q7 hg7.out
            clear HW k3 K3 o2 hbt hMv
            refine hK _ _ (Or.inr HS) ?_
            clear hK K
            try simp only [Act.put, List.getElem_toArray, List.getElem_cons_succ, List.getElem_cons_zero, List.setIfInBounds_toArray, List.set_cons_zero, List.set_cons_succ]
            refine wpAnyI_takeN (i := 9) (v := ?_) (by kernel_rfl) rfl (by kernel_rfl) (by kernel_rfl) (by kernel_rfl) (fun _ _ _ h => h) HS (Or.inl ⟨by rfl, ?_⟩) ?_
            rotate_left
            · (intro w hSw; obtain z1 := hSw; go_simp; try with_reducible rfl)
            try simp only [Act.put, List.getElem_toArray, List.getElem_cons_succ, List.getElem_cons_zero, List.setIfInBounds_toArray, List.set_cons_zero, List.set_cons_succ]
            refine wpAnyI_done (by kernel_rfl) ?_ _
            by_cases hq0 : q1.2 = 0
            · have hqb : (q1.2 != 0) = false := by simp [hq0]
              have hfin := hqq2.out
              rw [if_neg (by simpa using hq0)] at hfin
              have hk4 := Lib.hid (hkw.out.trans K4.out)
              have q7' : w3.cell? ⟨g7, 0, none⟩ = some (.int .i64 0) := (B73.out.keep hk4.out hg7.out).cell 0
              subst hfin
              clear hqq2 hq1 HS hkw K4 hMr hbr B7r q7 hws1
              have hMr := hM3
              have hkw := hk4
              have q7 := q7'
              clear hM3 hk4 q7'
              generalize w3 = wr at *
              go_wp2_with fail
              refine wp_region_I (S := (fun w' : World => w'.cell? ⟨g7, 0, none⟩ = some (.int .i64 0))) (n := 9) (by kernel_rfl) ?_
              have HS : wr.drew.cell? ⟨g7, 0, none⟩ = some (.int .i64 0) := q7
              refine wpAnyI_takeN (i := 0) (v := ?_) (by kernel_rfl) rfl (by kernel_rfl) (by kernel_rfl) (by kernel_rfl) (fun _ _ _ h => h) HS (Or.inl ⟨by rfl, ?_⟩) ?_
              rotate_left
              · (intro w hSw; obtain z1 := hSw; go_simp; try with_reducible rfl)
              try simp only [Act.put, List.getElem_toArray, List.getElem_cons_succ, List.getElem_cons_zero, List.setIfInBounds_toArray, List.set_cons_zero, List.set_cons_succ]
              refine wpAnyI_takeN (i := 1) (v := ?_) (by kernel_rfl) rfl (by kernel_rfl) (by kernel_rfl) (by kernel_rfl) (fun _ _ _ h => h) HS (Or.inl ⟨by rfl, ?_⟩) ?_
              rotate_left
              · (intro w hSw; obtain z1 := hSw; go_simp; try with_reducible rfl)
              try simp only [Act.put, List.getElem_toArray, List.getElem_cons_succ, List.getElem_cons_zero, List.setIfInBounds_toArray, List.set_cons_zero, List.set_cons_succ]
              refine wpAnyI_takeN (i := 2) (v := ?_) (by kernel_rfl) rfl (by kernel_rfl) (by kernel_rfl) (by kernel_rfl) (fun _ _ _ h => h) HS (Or.inl ⟨by rfl, ?_⟩) ?_
              rotate_left
              · (intro w hSw; obtain z1 := hSw; go_simp; try with_reducible rfl)
              try simp only [Act.put, List.getElem_toArray, List.getElem_cons_succ, List.getElem_cons_zero, List.setIfInBounds_toArray, List.set_cons_zero, List.set_cons_succ]
              refine wpAnyI_takeN (i := 3) (v := ?_) (by kernel_rfl) rfl (by kernel_rfl) (by kernel_rfl) (by kernel_rfl) (fun _ _ _ h => h) HS (Or.inl ⟨by rfl, ?_⟩) ?_
              rotate_left
              · (intro w hSw; obtain z1 := hSw; go_simp; try with_reducible rfl)
              try simp only [Act.put, List.getElem_toArray, List.getElem_cons_succ, List.getElem_cons_zero, List.setIfInBounds_toArray, List.set_cons_zero, List.set_cons_succ]
              refine wpAnyI_takeN (i := 4) (v := .int .u8 (o : Nat)) (by kernel_rfl) rfl (by kernel_rfl) (by kernel_rfl) (by kernel_rfl) (fun _ _ _ h => h) HS (Or.inl ⟨by rfl, ?_⟩) ?_
              · (intro w hSw; obtain z1 := hSw; go_simp; try rw [show IntKind.u8.wrap (o : Int) = (o : Int) from IntWalk.u8_in _ (by omega)])
              try simp only [Act.put, List.getElem_toArray, List.getElem_cons_succ, List.getElem_cons_zero, List.setIfInBounds_toArray, List.set_cons_zero, List.set_cons_succ]
              refine wpAnyI_one (i := 5) rfl (by kernel_rfl) (fun K hK => ?_)
              dsimp only [List.getElem_toArray, List.getElem_cons_succ, List.getElem_cons_zero]
              go_simp
              have KB : Hid (Keeps [] wr (wr.drew.alloc (.cells #[.int .u8 (o : Nat)] 5))) := Lib.hid ((Keeps.refl [] wr).drew.alloc _)
              have HS := KB.out.cellEq q7 (by simp)
              have hbo : Hid (Bts (wr.drew.alloc (.cells #[.int .u8 (o : Nat)] 5)) (some ⟨wr.heap.size, 0, none⟩) [UInt8.ofNat o]) := Lib.hid (bts_new (by
                have := Blk.new wr.drew 5 #[.int .u8 (o : Nat)]
                rw [show ([UInt8.ofNat o].map bv).toArray = #[.int .u8 (o : Nat)] by simp [bv]; omega]
                exact this))
              refine hK _ _ (Or.inr HS) ?_
              clear hK K
              try simp only [Act.put, List.getElem_toArray, List.getElem_cons_succ, List.getElem_cons_zero, List.setIfInBounds_toArray, List.set_cons_zero, List.set_cons_succ]
              refine wpAnyI_one (i := 6) rfl (by kernel_rfl) (fun K hK => ?_)
              dsimp only [List.getElem_toArray, List.getElem_cons_succ, List.getElem_cons_zero]
              go_simp
              refine (fill_any _ _ [UInt8.ofNat o] 1 1 hbo.out rfl (by decide)).mono ?_
              rintro e v2 ⟨A2, c2, rfl, o2, b2⟩
              have K3 : Hid (Keeps [] wr v2) := Lib.hid (KB.out.over KB.out.size b2)
              replace o2 := Lib.hid (own_le o2 KB.out.size)
              have HS := K3.out.cellEq q7 (by simp)
              clear b2
              refine hK _ _ (Or.inr HS) ?_
              clear hK K
              try simp only [Act.put, List.getElem_toArray, List.getElem_cons_succ, List.getElem_cons_zero, List.setIfInBounds_toArray, List.set_cons_zero, List.set_cons_succ]
              refine wpAnyI_one (i := 7) rfl (by kernel_rfl) (fun K hK => ?_)
              dsimp only [List.getElem_toArray, List.getElem_cons_succ, List.getElem_cons_zero]
              go_simp
              have hbt := own_bts o2.out
              have hMv := hMr.out.keep K3.out (by simp) (by simp) (by simp)
              have HW := rwrite_any v2 bm bS q1.1 0 A2 (pad [UInt8.ofNat o]) 64 c2 (pad_len (by simp)) hMv hbt.1 (fun _ a ha => by
                have h1 := (hbt.2.2.2.2 a ha).1
                have h2 := hlt7.out
                have h3 := hkw.out.size
                have h5 := hs73.out
                have h4 : wr.drew.heap.size = wr.heap.size := rfl
                omega) hbt.2.2.1 hqw1.out.1 (by have := hqw1.out.2; omega) (by simp)
              refine HW.mono ?_
              rintro e w3 ⟨rfl, hM3, k3⟩
              have K4 : Hid (Keeps [bm, bS] wr w3) := Lib.hid (K3.out.nil.trans k3)
              replace hM3 := Lib.hid hM3
              have HS := K4.out.cellEq q7 hg7.out
              clear HW k3 K3 o2 hbt hMv
              refine hK _ _ (Or.inr HS) ?_
              clear hK K
              try simp only [Act.put, List.getElem_toArray, List.getElem_cons_succ, List.getElem_cons_zero, List.setIfInBounds_toArray, List.set_cons_zero, List.set_cons_succ]
              refine wpAnyI_takeN (i := 8) (v := ?_) (by kernel_rfl) rfl (by kernel_rfl) (by kernel_rfl) (by kernel_rfl) (fun _ _ _ h => h) HS (Or.inl ⟨by rfl, ?_⟩) ?_
              rotate_left
              · (intro w hSw; obtain z1 := hSw; go_simp; try with_reducible rfl)
              try simp only [Act.put, List.getElem_toArray, List.getElem_cons_succ, List.getElem_cons_zero, List.setIfInBounds_toArray, List.set_cons_zero, List.set_cons_succ]
              refine wpAnyI_done (by kernel_rfl) ?_ _
              go_wp2_with fail
              go_ret
              exact ⟨rfl, hM3.out, K3_.out.nil.trans (hkw.out.trans K4.out)⟩
            · have hqb : (q1.2 != 0) = true := by simp [hq0]
              have hfin := hqq2.out
              rw [if_pos hq0] at hfin
              have hk4 := Lib.hid (K3_.out.nil.trans (hkw.out.trans K4.out))
              subst hfin
              clear hqq2 hq1
              go_wp2_with fail
              go_ret
              exact ⟨rfl, hM3.out, hk4.out⟩
  · have HO := Lib.hid (rbegin_bad w bm bS s hD hb)
    have hq : swrite s ep b = (s, bad s) := by unfold swrite; rw [if_pos hb]
    rw [hq]
    have hbb : (bad s != 0) = true := by simp [hb]
    replace hD := Lib.hid hD
    clear hq hb
    go_enter Try.func34, Try.ntmps34
    go_wp2_with fail
    refine HO.out.mono ?_
    rintro e w1 ⟨V, ⟨a0, a1, a2, a3, a4, a5, a6, a7, rfl⟩, rfl, k1⟩
    have k2 := Lib.hid (k1.alloc (.cells #[.int .i64 a0, .int .i64 a1, .int .i64 a2, .int .i64 a3, .int .i64 a4, .int .i64 a5, .int .i64 a6, .int .i64 a7] 28))
    clear HO k1
    go_wp2_with fail
    go_ret
    exact ⟨rfl, hD.out.keep k2.out (by simp) (by simp) (by simp), k2.out.nil⟩
end Go.Proofs.Ytoefbjeclghfhaa
