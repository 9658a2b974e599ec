/- The reference's log: Save. -/
import Derived.Test.YtmclfbhcddcebaaU33
namespace Go.Proofs.Ytmclfbhcddcebaa
open Go.RowKit Go.Shelf
set_option linter.unusedSimpArgs false
set_option linter.unusedVariables false

def sans (S : List Pnt) (nm : ByteArray) : List Pnt := S.filter (fun p => !decide (p.1 = nm))
def RSaveL (b : Nat) (w : World) (X F : List Nat) (gl : Nat) (L : List Chg) (S : List Pnt) (nm : ByteArray) (e : Ending) (w' : World) : Prop :=
  ∃ F', e = .returned (.int .i64 (if nm = ⟨#[]⟩ then 1 else 0)) ∧ Hid (RLog b w' (F' ++ X) F' gl L (if nm = ⟨#[]⟩ then S else sans S nm ++ [(nm, L.length)])) ∧ Hid (Turn F F' w w')
theorem info99 : (Try.prog.info? 99).map (fun i => (i.zero, i.size, i.bytes)) = some (some (.agg #[.string ⟨#[]⟩, .int .i64 0]), 2, 24) := by kernel_rfl
theorem sans_snoc_no {S : List Pnt} {nm : ByteArray} {k : Nat} {p : Pnt} (h : S[k]? = some p) (he : p.1 = nm) : sans (S.take (k + 1)) nm = sans (S.take k) nm := by
  unfold sans
  rw [take_snoc h, List.filter_append]
  simp [he]
theorem sans_snoc_yes {S : List Pnt} {nm : ByteArray} {k : Nat} {p : Pnt} (h : S[k]? = some p) (he : ¬ p.1 = nm) : sans (S.take (k + 1)) nm = sans (S.take k) nm ++ [p] := by
  unfold sans
  rw [take_snoc h, List.filter_append]
  simp [he]
theorem sans_len (S : List Pnt) (nm : ByteArray) : (sans S nm).length ≤ S.length := List.length_filter_le _ _

set_option maxRecDepth 100000 in
set_option maxHeartbeats 3200000 in
theorem rsave_log (b : Nat) (w : World) (X F : List Nat) (gl : Nat) (L : List Chg) (S : List Pnt) (nm : ByteArray) (h : RLog b w X F gl L S) (hS : S.length ≤ 1000000) :
    Calls Try.prog 45 #[.pointer (some ⟨gl, 0, none⟩), .string nm] w (RSaveL b w X F gl L S nm) := by
  by_cases hnm : nm = ⟨#[]⟩
  · have hfin := Lib.hid (show RSaveL b w X F gl L S nm (.returned (.int .i64 1)) w from ⟨F, by rw [if_pos hnm], Lib.hid (by rw [if_pos hnm]; exact h.void), Lib.hid (Turn.refl _ _)⟩)
    subst hnm
    clear h
    go_enter Try.func45, Try.ntmps45
    go_wp2_with fail
    go_ret
    exact hfin.out
  · obtain ⟨A, cc, Ap, cp, R, hB, hO, hP, hR, hF⟩ := h.ex
    have hA : ∀ g ∈ fb A, g ∈ F := fun g hg => by rw [hF]; simp [hg]
    have hgl : gl ∈ F := by rw [hF]; simp
    have hb0 := bytes_ne hnm
    have hl0 : ¬ nm.toList = [] := fun e => bytes_list hnm (by simpa [ByteArray.toList_eq] using e)
    have hl02 : (nm.toList == ([] : List UInt8)) = false := by simpa using hl0
    obtain ⟨n, hn⟩ : ∃ n, n = S.length := ⟨_, rfl⟩
    have hz : Hid (∀ wr, Keeps [] w wr → wr.cell? ⟨gl, 0, none⟩ = some (.slice A L.length cc) ∧ wr.cell? ⟨gl, 1, none⟩ = some (.slice Ap n cp) ∧ wr.frozen? ⟨gl, 1, none⟩ = false) := Lib.hid (fun wr k => ⟨k.cellEq (hB.cell 0) (by simp), k.cellEq (by rw [hn]; exact hB.cell 1) (by simp), (hB.keep k (by simp)).frozen 1⟩)
    have hel : Hid (∀ wr, Keeps [] w wr → ∀ k p, S[k]? = some p → ∃ g, Ap = some ⟨g, 0, none⟩ ∧ wr.cell? ⟨g, k * 2, none⟩ = some (.string p.1) ∧ wr.cell? ⟨g, k * 2 + 1, none⟩ = some (.int .i64 (p.2 : Int))) := Lib.hid (fun wr kw k p hp => by
      have hlt := (List.getElem?_eq_some_iff.1 hp).1
      obtain ⟨g, c', hv, _, _, _, _, hcell, _⟩ := own_row3 hP (by omega)
      injection hv with h1 _ _
      exact ⟨g, h1, kw.cellEq (hcell _ _ (flatP_get S k p hp).1) (by simp), kw.cellEq (hcell _ _ (flatP_get S k p hp).2) (by simp)⟩)
    have hfin : Hid (∀ w5 v, Hid (Keeps [] w w5) → Hid (w5.ownsRow w.heap.size 99 2 v ((sans S nm).length + 1) (flatP (sans S nm) ++ flatP [(nm, L.length)])) → Hid (RSaveL b w X F gl L S nm (.returned (.int .i64 0)) (w5.setCell ⟨gl, 1, none⟩ v))) := Lib.hid (fun w5 v k5 ho => Lib.hid (by
      obtain ⟨Av, cv, rfl, _⟩ := own_slice ho.out
      have ks : Keeps [gl] w5 (w5.setCell ⟨gl, 1, none⟩ (.slice Av ((sans S nm).length + 1) cv)) := (Keeps.refl [gl] w5).setCell (p := ⟨gl, 1, none⟩) (.inl (by simp)) _
      have hB5 := hB.keep k5.out (by simp)
      have hO5 := own_keep0 hO k5.out
      have hglw := hB.lt
      have hBs : Blk (w5.setCell ⟨gl, 1, none⟩ (.slice Av ((sans S nm).length + 1) cv)) gl 31 #[.slice A L.length cc, .slice Av (sans S nm ++ [(nm, L.length)]).length cv] := by
        have := hB5.set_ 1 (.slice Av ((sans S nm).length + 1) cv)
        simpa using this
      have hOs := own_keep hO5 ks (fun g hg hm => by
        obtain ⟨_, cur, hb⟩ := own_blk hO5 hg
        rw [List.mem_singleton.1 hm] at hb
        exact hB5.ne_ hb (by decide) rfl)
      have hPs := own_keep ho.out ks (fun g hg hm => by
        have := (own_blk ho.out hg).1
        rw [List.mem_singleton.1 hm] at this
        omega)
      rw [show flatP (sans S nm) ++ flatP [(nm, L.length)] = flatP (sans S nm ++ [(nm, L.length)]) from (flatP_append _ _).symm] at hPs
      obtain ⟨g1, g2⟩ := h.saves hBs hOs (by simpa using own_le hPs h.bs) hR (k5.out.nil.trans (ks.mono (fun y hy => .inl (by rw [List.mem_singleton.1 hy]; exact hgl)))) hA hgl (fun g hg => .inr (own_lo ho.out hg).1)
      exact ⟨_, by rw [if_neg hnm], Lib.hid (by rw [if_neg hnm]; exact g1), Lib.hid g2⟩))
    obtain ⟨i0, hi0, hz0, hz1, hz2⟩ := info_parts info99
    replace hi0 := Lib.hid hi0
    replace hz0 := Lib.hid hz0
    replace hz1 := Lib.hid hz1
    replace hz2 := Lib.hid hz2
    rw [← hn] at hS
    replace hn := Lib.hid hn
    clear hB hO hP hR hF h hA hgl
    go_enter Try.func45, Try.ntmps45
    go_wp2_with fail
    go_loopw [5, 6] (fun v i wr => ∃ k : Nat, k ≤ n ∧ i = .int .i64 k ∧ Hid (wr.ownsRow w.heap.size 99 2 v (sans (S.take k) nm).length (flatP (sans (S.take k) nm))) ∧ Hid (Keeps [] w wr)) (fun _ i _ => n - (intOf i).toNat)
    case atStart => exact ⟨0, Nat.zero_le _, rfl, Lib.hid ⟨rfl, .inl ⟨rfl, rfl⟩⟩, Lib.hid (Keeps.refl _ _)⟩
    case round =>
      obtain ⟨k, hk, rfl, hown, hkw⟩ := hrel
      obtain ⟨wo, hwo⟩ : ∃ x, x = wr := ⟨_, rfl⟩
      subst hwo
      obtain ⟨z0, z1, f1⟩ := hz.out _ hkw.out
      obtain ⟨A5, c5, rfl, _⟩ := own_slice hown.out
      have hsl : Hid ((sans (S.take k) nm).length ≤ k) := Lib.hid (Nat.le_trans (sans_len _ _) (List.length_take_le _ _))
      by_cases hlt : k < n
      · obtain ⟨⟨pn, pm⟩, hp⟩ : ∃ p, S[k]? = some p := ⟨S[k]'(by rw [← hn.out]; exact hlt), List.getElem?_eq_getElem _⟩
        obtain ⟨g, rfl, c0, c1⟩ := hel.out _ hkw.out k _ hp
        have hkn : (k : Int) < (n : Int) := by omega
        dsimp only at c0 c1
        by_cases he : pn = nm
        · have hs := Lib.hid (sans_snoc_no hp he)
          subst he
          replace hp := Lib.hid hp
          go_wp2_with fail
          go_roundw
          case rel => exact ⟨k + 1, by omega, by go_num, by rw [hs.out]; exact hown, hkw⟩
          case measure => simp [intOf]; omega
        · have hs := Lib.hid (sans_snoc_yes hp he)
          have hb := bytes_ne he
          have hl1 : ¬ pn.toList = nm.toList := fun e => bytes_list he (by simpa [ByteArray.toList_eq] using e)
          have hl2 : (pn.toList == nm.toList) = false := by simpa using hl1
          replace hp := Lib.hid hp
          obtain ⟨Q, hQ⟩ : ∃ Q, Q = sans (S.take k) nm := ⟨_, rfl⟩
          obtain ⟨ql, hql⟩ : ∃ x, x = Q.length := ⟨_, rfl⟩
          rw [← hQ, ← hql] at hsl hown ⊢
          replace hql := Lib.hid hql
          replace hQ := Lib.hid hQ
          have ka : Keeps [] wo (wo.alloc (.cells #[.string pn, .int .i64 pm] 99)) := (Keeps.refl [] wo).alloc _
          have Bn := Lib.hid (Blk.new wo 99 #[.string pn, .int .i64 pm])
          have hown4 := Lib.hid (own_keep0 hown.out ka)
          have hk4 := Lib.hid (hkw.out.trans ka)
          have hsz4 := Lib.hid hk4.out.size
          go_wp2_with (at_builtin; refine wpList_append_row (by rfl) (.tmp 28) (.tmp 36) 29 rfl w.heap.size 99 i0 (.agg #[.string ⟨#[]⟩, .int .i64 0]) 2 24 Try.underlying29 hi0.out hz0.out hz1.out hz2.out rfl (by decide) (.slice A5 ql c5) ql (flatP Q) rfl hown4.out (some ⟨wo.heap.size, 0, none⟩) 1 1 (flatP [(pn, pm)]) rfl rfl (src_pnt Bn.out) (flatP_one _) (by have := hsl.out; unfold maxLen; omega) (by have := hsl.out; omega) hsz4.out ?_; intro v8 w8 q1 q2 q3 q4)
          have hk8 : Hid (Keeps [] w w8) := Lib.hid ((hk4.out.nil.trans (Keeps.grown (X := (Value.slice A5 ql c5).ownBlock.toList) q2.out (by intro g h; rw [h]; simp))).mono (fun y hy => .inr (own_blk hown4.out (Option.mem_toList.1 hy)).1))
          have hown8 : Hid (w8.ownsRow w.heap.size 99 2 v8 (sans (S.take (k + 1)) nm).length (flatP (sans (S.take (k + 1)) nm))) := Lib.hid (by
            rw [hs.out, ← hQ.out, flatP_append, List.length_append, ← hql.out]
            exact q1.out)
          clear hown4 Bn hk4 hsz4 q1 q2 q3 q4 ka
          go_roundw
          case rel => exact ⟨k + 1, by omega, by go_num, hown8, hk8⟩
          case measure => simp [intOf]; omega
      · obtain rfl : k = n := by omega
        have hjf : ¬ (k : Int) < (k : Int) := by omega
        have ht : S.take k = S := List.take_of_length_le (by rw [hn.out]; exact Nat.le_refl _)
        rw [ht] at hown hsl
        obtain ⟨ql, hql⟩ : ∃ x, x = (sans S nm).length := ⟨_, rfl⟩
        rw [← hql] at hsl hown hfin
        rw [ht, ← hql]
        replace hql := Lib.hid hql
        have ka : Keeps [] wo (wo.alloc (.cells #[.string nm, .int .i64 L.length] 99)) := (Keeps.refl [] wo).alloc _
        have Bn := Lib.hid (Blk.new wo 99 #[.string nm, .int .i64 L.length])
        have hown4 := Lib.hid (own_keep0 hown.out ka)
        have hk4 := Lib.hid (hkw.out.trans ka)
        have hsz4 := Lib.hid hk4.out.size
        go_wp2_with (at_builtin; refine wpList_append_row (by rfl) (.tmp 39) (.tmp 47) 29 rfl w.heap.size 99 i0 (.agg #[.string ⟨#[]⟩, .int .i64 0]) 2 24 Try.underlying29 hi0.out hz0.out hz1.out hz2.out rfl (by decide) (.slice A5 ql c5) ql (flatP (sans S nm)) rfl hown4.out (some ⟨wo.heap.size, 0, none⟩) 1 1 (flatP [(nm, L.length)]) rfl rfl (src_pnt Bn.out) (flatP_one _) (by have := hsl.out; unfold maxLen; omega) (by have := hsl.out; omega) hsz4.out ?_; intro v8 w8 q1 q2 q3 q4; obtain ⟨A8, c8, rfl, _⟩ := own_slice q1.out; have hk8 : Hid (Keeps [] w w8) := Lib.hid ((hk4.out.nil.trans (Keeps.grown (X := (Value.slice A5 ql c5).ownBlock.toList) q2.out (by intro g h; rw [h]; simp))).mono (fun y hy => .inr (own_blk hown4.out (Option.mem_toList.1 hy)).1)); obtain ⟨y0, y1, yf⟩ := hz.out w8 hk8.out; replace hfin := hfin.out w8 _ hk8 q1)
        go_ret
        exact hfin.out
end Go.Proofs.Ytmclfbhcddcebaa
