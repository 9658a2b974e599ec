/- The contracts of Clone, New and the methods of a session. -/
import Derived.Test.YtbhdangjafokaaaSess3
namespace Go.Proofs.Ytbhdangjafokaaa
open Go.RowKit
set_option linter.unusedSimpArgs false
set_option linter.unusedVariables false

theorem stms_one : ∀ (i : Nat) (ks : List Int), ∀ u ∈ stmsFrom i ks, u.oneCell' = true
  | _, [], u, h => by cases h
  | i, k :: ks, u, h => by
    rcases List.mem_append.1 h with h | h
    · exact stm_one k i u h
    · exact stms_one (i + 1) ks u h

theorem add_head (g j : Nat) : (⟨g, 0, none⟩ : Addr).add j = ⟨g, j, none⟩ := by
  by_cases h : j = 0
  · subst h; rfl
  · simp [Addr.add, h]

set_option maxHeartbeats 800000 in
theorem clone_any (w : World) (sv : Value) (base : Nat) (ks : List Int) (n : Nat) (hn : ks.length = n) (hO : w.ownsRow base 57 22 sv n (stms ks)) (hnil : sv = .slice none 0 0 ↔ n = 0) (h60 : n ≤ 1048576) :
    Calls Try.prog 25 #[sv] w (RowPost 57 22 n (stms ks) w) := by
  obtain ⟨i0, hi, hz0, hz1, hz2⟩ := info_parts info57
  replace hi := Lib.hid hi
  replace hz0 := Lib.hid hz0
  replace hz1 := Lib.hid hz1
  replace hz2 := Lib.hid hz2
  by_cases h0 : n = 0
  · have hs := hnil.2 h0
    subst hs
    have hk : ks = [] := List.length_eq_zero_iff.1 (by omega)
    clear hO hnil
    have e1 := fun w => Lib.run_eql_slice_nil (P := Try.prog) w 27 57 none 0 0 0 0 Try.underlying27
    go_enter Try.func25, Try.ntmps25
    go_wp2_with fail
    go_ret
    exact ⟨_, rfl, ⟨by rw [hk, h0]; rfl, .inl ⟨rfl, h0⟩⟩, ⟨fun _ => h0, fun _ => rfl⟩, Keeps.refl _ _⟩
  · obtain ⟨g, c, rfl, hnc, hcm, _, _, hc⟩ := own_row hO (by omega)
    replace hc := Lib.hid hc
    clear hO hnil
    have hm0 := World.ownsRow_made (e := 57) (size := 22) w #[] 0 (Nat.le_refl _) (by simp [maxLen]) (by simp)
    replace hm0 := Lib.hid hm0
    have e1 := fun w => Lib.run_eql_slice_nil (P := Try.prog) w 27 57 (some ⟨g, 0, none⟩) n c 0 0 Try.underlying27
    go_enter Try.func25, Try.ntmps25
    go_wp2_with (at_builtin; refine wpList_append_own _ rfl (.tmp 5) (.tmp 6) 27 rfl w.heap.size 57 i0 (.agg (stm 0 0).toArray) 22 392 Try.underlying27 hi.out hz0.out hz1.out hz2.out rfl (by decide) (.slice (some ⟨w.heap.size, 0, none⟩) 0 0) 0 [] rfl hm0.out ⟨g, 0, none⟩ n c (stms ks) rfl (by rw [stms_len, hn]) (fun j u hj => by rw [add_head]; exact ((Keeps.refl [] w).alloc (.cells #[] 57)).cellEq (hc.out j u hj) (by simp)) (stms_one 0 ks) (by unfold maxLen; omega) (by omega) (by simp) ?_; intro v' w1 ho1 hg1 hn1; replace ho1 := Lib.hid ho1; replace hg1 := Lib.hid hg1; replace hn1 := Lib.hid hn1)
    go_ret
    have h1 := ho1.out
    rw [Nat.zero_add, List.nil_append] at h1
    have hk : Keeps [] w w1 := by
      have h2 : Keeps [w.heap.size] (w.alloc (.cells #[] 57)) w1 := Keeps.grown hg1.out (by intro q hq; cases hq; simp)
      exact ((((Keeps.refl [] w).alloc (.cells #[] 57)).nil (X := [w.heap.size])).trans h2).mono (by intro y hy; right; simp at hy; omega)
    refine ⟨_, rfl, h1, ⟨fun h => ?_, fun h => absurd h h0⟩, hk⟩
    have h3 := (hn1.out.1 h).1
    cases h3
end Go.Proofs.Ytbhdangjafokaaa
