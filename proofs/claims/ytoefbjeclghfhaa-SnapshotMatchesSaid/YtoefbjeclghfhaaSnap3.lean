/- append of bytes that make has made: the builtin takes their number. -/
import Derived.Test.YtoefbjeclghfhaaSnap2
import Derived.Lib.AppendZeros
namespace Go.Proofs.Ytoefbjeclghfhaa
open Go.RowKit
set_option linter.unusedSimpArgs false
set_option linter.unusedVariables false

theorem zeroCells_bv (m : Nat) : Builtin.zeroCells (Value.int .u8 0).cells m = ((List.replicate m (0 : UInt8)).map bv).toArray := by
  apply Array.ext'
  apply List.ext_getElem?
  intro j
  by_cases hj : j < m
  · simp [Builtin.zeroCells, Value.cells, hj, bv, Nat.mod_one]
  · simp [Builtin.zeroCells, Value.cells, hj]

theorem run_append_zeros {P : Program} {w : World} (t tn ty base : Nat) (e : TypeId) (ht : P.underlying t = some (.slice e)) (htn : P.underlying tn = some (.int .i64)) (hinfo : (P.info? e).map (fun i => (i.zero, i.size, i.bytes)) = some (some (.int .u8 0), 1, 1))
    (v : Value) (l : List UInt8) (hown : w.ownsRow base e 1 v l.length (l.map bv)) (m : Nat) (hmax : l.length + m ≤ 140737488355328) (hbase : base ≤ w.heap.size) :
    ∃ A' c' w', (Builtin.append_ #[t, tn] ty #[v, .int .i64 m]).run P w = .ok (.slice A' (l.length + m) c') w' ∧ w'.ownsRow base e 1 (.slice A' (l.length + m) c') (l.length + m) ((l ++ List.replicate m 0).map bv) ∧
      w.grownBy w' v.ownBlock ∧ ((Value.slice A' (l.length + m) c').ownBlock = v.ownBlock ∨ (Value.slice A' (l.length + m) c').ownBlock = some w.heap.size) := by
  cases hq : P.info? e with
  | none => simp [hq] at hinfo
  | some i =>
    simp only [hq, Option.map_some, Option.some.injEq, Prod.mk.injEq] at hinfo
    obtain ⟨hz, hsz, hby⟩ := hinfo
    have hw : IntKind.i64.wrap (m : Int) = m := IntWalk.i64_in _ (by omega)
    have hneg : ¬ ((m : Int) < 0) := by omega
    have h48i : ¬ (281474976710656 < (m : Int)) := by omega
    have hlen : ((l ++ List.replicate m 0).map bv).length = (l.length + m) * 1 := by simp
    have hzc := zeroCells_bv m
    have hw0 : IntKind.i64.wrap 0 = 0 := IntWalk.i64_in _ (by omega)
    rcases hown.2 with ⟨rfl, h0⟩ | ⟨g, cap, cur, rfl, hbg, hg, hnc, hcm, hcs, htake⟩
    · obtain rfl := List.eq_nil_of_length_eq_zero h0
      by_cases hm : m = 0
      · subst hm
        refine ⟨none, 0, w, ?_, World.ownsRow_nil w base e 1, ⟨rfl, rfl, rfl, Nat.le_refl _, fun _ _ _ => rfl⟩, .inl rfl⟩
        simp [Builtin.append_, run_underlying ht, run_underlying htn, sizeOf, typeInfo, hq, asInt, asIntOf, hw0, Builtin.lenOf, Builtin.firstCells, loadCells, loadCellsFrom, hby, hsz]
      · have hr := Lib.run_append_nil_zeros (P := P) w t tn ty e i (.int .u8 0) .i64 .i64 ht htn hq hz m (by omega) (by omega) (by omega) (by rw [hby]; omega)
        simp only [List.length_nil, Nat.zero_add, List.nil_append] at *
        have hge := grownCap_ge w m 0 e
        refine ⟨_, _, _, hr, ⟨by simp, .inr ⟨w.heap.size, _, _, rfl, hbase, heap_alloc_new w.drew _, hge, grownCap_le_maxLen w m 0 e (by unfold maxLen; omega), ?_, ?_⟩⟩, ⟨rfl, rfl, rfl, by simp, fun k hk _ => Below.heap_alloc w.drew _ k hk⟩, .inr rfl⟩
        · simp only [Array.size_append, size_zeroCells]
          simp [Value.cells]
          omega
        · rw [hzc]
          simp
    · have hzv : ∀ w', (zeroValue e).run P w' = .ok (.int .u8 0) w' := fun w' => by simp [zeroValue, typeInfo, hq, hz]
      by_cases hm : m = 0
      · subst hm
        refine ⟨some ⟨g, 0, none⟩, cap, w, ?_, by simpa using hown, ⟨rfl, rfl, rfl, Nat.le_refl _, fun _ _ _ => rfl⟩, .inl rfl⟩
        simp [Builtin.append_, run_underlying ht, run_underlying htn, sizeOf, typeInfo, hq, asInt, asIntOf, hw0, hby, hsz, hnc, storeCells]
      · have hns : ¬ (m * i.size = 0) := by rw [hsz]; omega
        by_cases hroom : l.length + m ≤ cap
        · have hst := run_storeCells_at P g (l.length * 1) e ((List.replicate m (0 : UInt8)).map bv) 0 cur w hg (by simp; omega) (by intro u hu; obtain ⟨b, _, rfl⟩ := List.mem_map.1 hu; rfl)
          simp only [Nat.add_zero] at hst
          refine ⟨some ⟨g, 0, none⟩, cap, w.setRow g (cur.toList.take (l.length * 1) ++ (List.replicate m (0 : UInt8)).map bv ++ cur.toList.drop (l.length * 1 + ((List.replicate m (0 : UInt8)).map bv).length)).toArray, ?_, ⟨by simp, .inr ⟨g, cap, _, rfl, hbg, setRow_heap w g cur _ e _ hg, hroom, hcm, ?_, ?_⟩⟩, ⟨rfl, rfl, rfl, by simp, fun k _ hk => setRow_other w g k _ (fun h => hk (by simp [Value.ownBlock, h]))⟩, Or.inl rfl⟩
          · simp [Builtin.append_, run_underlying ht, run_underlying htn, sizeOf, typeInfo, hq, asInt, asIntOf, hw, hneg, h48i, hby, hsz, hm, hroom, zeroValue, hz, hzc, Addr.add_lit]
            simp only [List.map_replicate, Nat.mul_one, List.append_assoc, List.length_replicate] at hst
            rw [hst]
            rfl
          · simp only [List.size_toArray, List.length_append, List.length_take, List.length_drop, Array.length_toList, List.length_map, List.length_replicate]
            omega
          · rw [htake, ← hlen, ← List.map_append]
            exact List.take_left
        · have h63' : ¬ (9223372036854775807 < ((l.length : Int) + (m : Int))) := by omega
          have h48' : ¬ (281474976710656 < Builtin.nextslicecap (l.length + m) cap * 1) := by
            have := growslice_fits (bytes := 1) (need := l.length + m) (old := cap) (by omega) (by omega)
            omega
          have holds : ∀ j u, (l.map bv)[j]? = some u → w.drew.cell? ((⟨g, 0, none⟩ : Addr).add j) = some u := hown.cells (g := g) rfl
          have hfo := run_firstCells_some (P := P) w.drew 1 l.length ⟨g, 0, none⟩ l.length cap (l.map bv) (by simp) holds
          have hge := grownCap_ge w (l.length + m) cap e
          refine ⟨some ⟨w.heap.size, 0, none⟩, grownCap w (l.length + m) cap e, w.drew.alloc (.cells ((l.map bv).toArray ++ ((List.replicate m (0 : UInt8)).map bv).toArray ++ Builtin.zeroCells (Value.int .u8 0).cells (grownCap w (l.length + m) cap e - (l.length + m))) e), ?_, ⟨by simp, .inr ⟨w.heap.size, _, _, rfl, hbase, heap_alloc_new w.drew _, hge, grownCap_le_maxLen w (l.length + m) cap e (by unfold maxLen; omega), ?_, ?_⟩⟩, ⟨rfl, rfl, rfl, by simp, fun k hk _ => Below.heap_alloc w.drew _ k hk⟩, .inr rfl⟩
          · simp [Builtin.append_, run_underlying ht, run_underlying htn, sizeOf, typeInfo, hq, asInt, asIntOf, hw, hneg, h48i, hby, hsz, hm, hroom, zeroValue, hz, hzc, h63', h48', Question.forced, hfo, newRow, grownCap]
            intro h
            exact absurd h (by rw [Nat.mul_one] at h48'; exact h48')
          · simp only [Array.size_append, size_zeroCells, List.size_toArray, List.length_map, List.length_replicate]
            simp [Value.cells]
            omega
          · rw [← hlen, List.map_append]
            simp only [Array.toList_append, List.append_assoc]
            rw [← List.append_assoc]
            exact List.take_left
end Go.Proofs.Ytoefbjeclghfhaa
