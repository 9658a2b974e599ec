/- The reference: Scan. -/
import Derived.Test.YtnoaahgjfknnlaaWal8
import Derived.Laws.BitsAllLaws
namespace Go.Proofs.Ytnoaahgjfknnlaa
open Go.RowKit
set_option linter.unusedSimpArgs false
set_option linter.unusedVariables false

def RScanPost (rs : List (List UInt8)) (w : World) (e : Ending) (w' : World) : Prop :=
  ∃ v, e = .returned v ∧ OutAt w.heap.size w' v rs ∧ Keeps [] w w'

set_option maxHeartbeats 3200000 in
theorem rscan_any {Z : List Nat} (w : World) (bm bS : Nat) (s : St) (fi co ep : Nat) (hM : MRep Z w bm bS s) (hx : fi + co ≤ s.n) (hep : ep < 4294967296) :
    Calls Try.prog 26 #[.pointer (some ⟨bm, 0, none⟩), .int .i64 fi, .int .i64 co, .int .u32 ep] w (RScanPost (recsOf (strm (sec s) ep co fi)) w) := by
  have hn := hM.n
  have hT := strm_le (sec s) ep co fi
  have HS := Lib.hid (stream_any w bm bS s fi co ep hM hx hep)
  generalize hTT : strm (sec s) ep co fi = T at *
  have hco : co ≤ 65536 := by omega
  replace hTT := Lib.hid hTT
  clear hM hx hn
  go_enter Try.func26, Try.ntmps26
  go_wp2_with fail
  refine HS.out.mono ?_
  rintro e wc ⟨v, rfl, hown, hkw⟩
  replace hown := Lib.hid hown
  replace hkw := Lib.hid hkw
  obtain ⟨A0, c0, rfl, _, _⟩ := own_slice5 hown.out
  obtain ⟨hB0', _, hc0, hm0, hT0⟩ := own_bts hown.out
  have hB0 : Hid (Bts wc A0 T ∧ ∀ a, A0 = some a → ∃ cur, Blk wc a.block 5 cur) := Lib.hid ⟨hB0', fun a ha => (hT0 a ha).2.2⟩
  clear hB0' hT0
  clear hown
  obtain ⟨i0, hi, hz0, hz1, hz2⟩ := info_parts info34
  replace hi := Lib.hid hi
  replace hz0 := Lib.hid hz0
  replace hz1 := Lib.hid hz1
  replace hz2 := Lib.hid hz2
  go_wp2_with fail
  go_loopw [9, 10] (fun st out wr => ∃ (A : Option Addr) (l c : Nat) (done : List (List UInt8)) (rest : List UInt8), st = .slice A l c ∧ Hid (rest.length = l) ∧ l ≤ c ∧ c ≤ maxLen ∧ done.length + l ≤ T.length ∧ Hid (Bts wr A rest ∧ ∀ a, A = some a → ∃ cur, Blk wr a.block 5 cur) ∧ Hid (OutAt w.heap.size wr out done) ∧ Hid (recsOf T = done ++ recsOf rest) ∧ Hid (Keeps [] w wr)) (fun st _ _ => lenOf st)
  case atStart => exact ⟨A0, T.length, c0, [], T, rfl, Lib.hid rfl, hc0, hm0, by simp, hB0, Lib.hid (OutAt.nil _ _), Lib.hid rfl, hkw⟩
  case round =>
    clear hB0 hkw
    obtain ⟨A, l, c, done, rest, rfl, hl, hlc, hcm, hdl, hBB, hout, heq, hkw⟩ := hrel
    have hB := Lib.hid hBB.out.1
    have hT5 := Lib.hid hBB.out.2
    clear hBB
    unfold maxLen at hcm
    by_cases h4 : 4 ≤ l
    · have HG := Lib.hid (read_any wr A rest l c hB.out hl.out h4)
      have hN := num_lt rest
      have h4i : (4 : Int) ≤ (l : Int) := by omega
      obtain ⟨N, hNn⟩ : ∃ N, num rest = N := ⟨_, rfl⟩
      rw [hNn] at HG hN
      replace hNn := Lib.hid hNn
      go_wp2_with fail
      refine HG.out.mono ?_
      rintro e w2 ⟨rfl, m, rfl⟩
      have kd := (Keeps.refl [] wr).drewN m
      replace hB := Lib.hid (hB.out.keep kd (by simp))
      replace hT5 := Lib.hid (fun a ha => (hT5.out a ha).imp fun cur h => h.keep kd (by simp))
      replace hout := Lib.hid (hout.out.keep kd)
      replace hkw := Lib.hid (hkw.out.drewN m)
      clear HG kd
      generalize wr.drewN m = w2 at *
      by_cases hN1 : (16777216 : Int) < (N : Int)
      · have hnil := recsOf_stop (s := rest) (by have := hl.out; omega) (.inl (by rw [hNn.out]; omega))
        rw [hnil, List.append_nil] at heq
        go_wp2_with fail
        go_ret
        exact ⟨_, rfl, by rw [heq.out]; exact hout.out, hkw.out⟩
      · by_cases hN2 : (l : Int) - 4 < (N : Int)
        · have hnil := recsOf_stop (s := rest) (by have := hl.out; omega) (.inr (by rw [hNn.out]; have := hl.out; omega))
          rw [hnil, List.append_nil] at heq
          go_wp2_with fail
          go_ret
          exact ⟨_, rfl, by rw [heq.out]; exact hout.out, hkw.out⟩
        · have hstep := recsOf_step (s := rest) (by have := hl.out; omega) (by rw [hNn.out]; omega) (by rw [hNn.out]; have := hl.out; omega)
          rw [hNn.out] at hstep
          obtain ⟨g, o, rfl⟩ : ∃ g o, A = some ⟨g, o, none⟩ := by
            rcases hB.out with h | ⟨g, o, h, _⟩
            · have := hl.out; rw [h] at this; simp at this; omega
            · exact ⟨g, o, h⟩
          have hrl : ((rest.drop 4).take N).length = N := by rw [List.length_take, List.length_drop]; have := hl.out; omega
          have e1 : (4 : Int) + N ≤ l := by omega
          have e32 : (4 + (N : Int)) % 4294967296 = 4 + N := by omega
          have e33 : IntKind.u32.wrap (4 + (N : Int)) = 4 + N := by rw [IntKind.wrap_u32']; exact e32
          have e2 : 4 + N ≤ c := by omega
          obtain ⟨R, hR⟩ : ∃ R, (rest.drop 4).take N = R := ⟨_, rfl⟩
          obtain ⟨R2, hR2⟩ : ∃ R2, rest.drop (N + 4) = R2 := ⟨_, rfl⟩
          rw [hR] at hrl
          rw [hR, hR2] at hstep
          have hR2l : Hid (R2.length = l - (4 + N)) := Lib.hid (by rw [← hR2, List.length_drop, hl.out]; omega)
          have hle : rest.length ≤ c := by rw [hl.out]; exact hlc
          rw [hstep] at heq
          have hcc : ∃ A1 c1 A2, Hid (A1 = if c = 4 then some ⟨g, o, none⟩ else some ⟨g, o + 4, none⟩) ∧ Hid (A2 = if c = 4 + N then some ⟨g, o, none⟩ else some ⟨g, o + (4 + N), none⟩) ∧ Hid (Bts w2 A1 R) ∧ Hid (Bts w2 A2 R2) ∧ c1 = c - 4 :=
            ⟨_, _, _, Lib.hid rfl, Lib.hid rfl, Lib.hid (by rw [← hR]; exact (hB.out.cut (k := 4) hle).take N), Lib.hid (by rw [← hR2, Nat.add_comm N 4]; exact hB.out.cut (k := 4 + N) hle), rfl⟩
          obtain ⟨A1, c1, A2, hA1, hA2, hB1, hB2, rfl⟩ := hcc
          clear hR hR2 hle hB hstep hNn hl
          have hT6 : Hid (∃ cur, Blk w2 g 5 cur) := Lib.hid (hT5.out _ rfl)
          clear hT5
          have hkw0 := hkw
          replace hrl := Lib.hid hrl
          by_cases k0 : N = 0
          · subst k0
            obtain ⟨vs, hv1, hv2⟩ := hout.out.keep ((Keeps.refl [] w2).alloc (.cells #[] 5))
            replace hv1 := Lib.hid hv1
            replace hv2 := Lib.hid hv2
            have hT7 : Hid (∃ cur, Blk (w2.alloc (.cells #[] 5)) g 5 cur) := Lib.hid (hT6.out.imp fun cur h => h.alloc _)
            replace hB2 := Lib.hid (hB2.out.keep ((Keeps.refl [] w2).alloc (.cells #[] 5)) (by simp))
            have hg1 : Hid ((w2.alloc (.cells #[] 5)).ownsRow w.heap.size 5 1 (.slice (some ⟨w2.heap.size, 0, none⟩) 0 0) 0 (R.map bv)) := Lib.hid (by
              rw [List.eq_nil_of_length_eq_zero hrl.out]
              exact own_le (World.ownsRow_made w2 #[] 0 (Nat.le_refl _) (by simp [maxLen]) (by simp)) hkw.out.size)
            by_cases k4 : c = 4
            · have q1 : l = 4 := by omega
              subst q1 k4
              have hA1' := hA1.out
              have hA2' := hA2.out
              rw [if_pos rfl] at hA1' hA2'
              subst hA1' hA2'
              clear hA1 hA2
              go_wp2_with (at_builtin; refine wpList_append_own _ rfl (.tmp 33) (.tmp 40) 36 rfl w.heap.size 34 i0 (.slice none 0 0) 1 24 Try.underlying36 hi.out hz0.out hz1.out hz2.out rfl (by decide) u10 done.length vs rfl (hv1.out.alloc _) ⟨w2.heap.size + 1, 0, none⟩ 1 1 [.slice (some ⟨w2.heap.size, 0, none⟩) 0 0] rfl rfl (World.news_of_block (cs := #[.slice (some ⟨w2.heap.size, 0, none⟩) 0 0]) (t := 34) (fr := (0, 0)) (heap_alloc2_new w2 _ _)) (by simp [Value.oneCell']) ?_ ?_ ?_ ?_; (unfold maxLen; omega); omega; (have := hkw.out.size; simp; omega); intro v' w4 ho1 hgr hn1; have kg := Lib.hid (keep_grown (w := w) (hv1.out.alloc (.cells #[.slice (some ⟨w2.heap.size, 0, none⟩) 0 0] 34)) ((hkw.out.alloc _).alloc _) (Nat.le_refl _) hgr); have kg2 := Lib.hid (keeps_of_grown (w := w2.alloc (.cells #[] 5)) (hv1.out.alloc (.cells #[.slice (some ⟨w2.heap.size, 0, none⟩) 0 0] 34)) hgr ((Keeps.refl [] (w2.alloc (.cells #[] 5))).alloc _)); have ho := Lib.hid (OutAt.push (r := R) hrl.out hv2.out hv1.out hg1.out ho1 hgr); clear hn1 ho1 hgr)
              go_roundw
              case rel =>
                refine ⟨some ⟨g, o, none⟩, 0, 0, done ++ [R], R2, ?_, ?_, ?_, ?_, ?_, ?_, ho, ?_, kg⟩
                · first | rfl | rw [kN]
                · exact hR2l
                · omega
                · unfold maxLen; omega
                · rw [List.length_append, List.length_singleton]; omega
                · exact Lib.hid (tail_keep hT7.out hv1.out kg2.out hB2.out)
                · exact Lib.hid (by rw [heq.out, List.append_assoc]; rfl)
              case measure =>
                first | (simp [lenOf]; done) | (simp [lenOf]; omega)
            · have hA2' := hA2.out
              rw [if_neg (by omega)] at hA2'
              subst hA2'
              clear hA1 hA2
              go_wp2_with (at_builtin; refine wpList_append_own _ rfl (.tmp 33) (.tmp 40) 36 rfl w.heap.size 34 i0 (.slice none 0 0) 1 24 Try.underlying36 hi.out hz0.out hz1.out hz2.out rfl (by decide) u10 done.length vs rfl (hv1.out.alloc _) ⟨w2.heap.size + 1, 0, none⟩ 1 1 [.slice (some ⟨w2.heap.size, 0, none⟩) 0 0] rfl rfl (World.news_of_block (cs := #[.slice (some ⟨w2.heap.size, 0, none⟩) 0 0]) (t := 34) (fr := (0, 0)) (heap_alloc2_new w2 _ _)) (by simp [Value.oneCell']) ?_ ?_ ?_ ?_; (unfold maxLen; omega); omega; (have := hkw.out.size; simp; omega); intro v' w4 ho1 hgr hn1; have kg := Lib.hid (keep_grown (w := w) (hv1.out.alloc (.cells #[.slice (some ⟨w2.heap.size, 0, none⟩) 0 0] 34)) ((hkw.out.alloc _).alloc _) (Nat.le_refl _) hgr); have kg2 := Lib.hid (keeps_of_grown (w := w2.alloc (.cells #[] 5)) (hv1.out.alloc (.cells #[.slice (some ⟨w2.heap.size, 0, none⟩) 0 0] 34)) hgr ((Keeps.refl [] (w2.alloc (.cells #[] 5))).alloc _)); have ho := Lib.hid (OutAt.push (r := R) hrl.out hv2.out hv1.out hg1.out ho1 hgr); clear hn1 ho1 hgr)
              go_roundw
              case rel =>
                refine ⟨some ⟨g, o + (4 + 0), none⟩, l - (4 + 0), c - (4 + 0), done ++ [R], R2, ?_, ?_, ?_, ?_, ?_, ?_, ho, ?_, kg⟩
                · first | rfl | rw [kN]
                · exact hR2l
                · omega
                · unfold maxLen; omega
                · rw [List.length_append, List.length_singleton]; omega
                · exact Lib.hid (tail_keep hT7.out hv1.out kg2.out hB2.out)
                · exact Lib.hid (by rw [heq.out, List.append_assoc]; rfl)
              case measure =>
                first | (simp [lenOf]; done) | (simp [lenOf]; omega)
          · have hzz : Hid (([] : List UInt8).length + (4 + N - 4) = N) := Lib.hid (by rw [Nat.add_sub_cancel_left]; exact Nat.zero_add N)
            have hzz2 : Hid (([] : List UInt8).length + N = N) := Lib.hid (Nat.zero_add N)
            have k4 : ¬ c = 4 := by omega
            have hA1' := hA1.out
            rw [if_neg k4] at hA1'
            subst hA1'
            have HM : Hid ((w2.alloc (.cells #[] 5)).ownsRow w2.heap.size 5 1 (.slice (some ⟨w2.heap.size, 0, none⟩) 0 0) ([] : List UInt8).length (([] : List UInt8).map bv)) := Lib.hid (World.ownsRow_made w2 #[] 0 (Nat.le_refl _) (by simp [maxLen]) (by simp))
            have info5 : Hid ((Try.prog.info? 5).map (fun i => (i.zero, i.size, i.bytes)) = some (some (.int .u8 0), 1, 1)) := Lib.hid (by kernel_rfl)
            have KA : Hid (Keeps [] w2 (w2.alloc (.cells #[] 5))) := Lib.hid ((Keeps.refl [] _).alloc _)
            have HB1 := Lib.hid (hB1.out.keep KA.out (by simp))
            by_cases kN : c = 4 + N
            · have hA2' := hA2.out
              rw [if_pos kN] at hA2'
              subst hA2'
              clear hA1 hA2
              go_wp2_with (first
                | (at_builtin; refine wpList_append_bts rfl (.tmp 34) (.tmp 38) 34 rfl w2.heap.size 5 Try.underlying34 info5.out (.slice (some ⟨w2.heap.size, 0, none⟩) 0 0) [] R rfl ?_ _ _ _ rfl ?_ ?_ ?_ ?_ ?_; (exact HM.out); (first | exact hrl.out | exact hrl.out.trans (Nat.add_sub_cancel_left 4 N).symm); (exact HB1.out); (rw [hrl.out, List.length_nil]; omega); (exact KA.out.size); intro A' c' w3 G1 G2 G3; (first | rw [hzz.out] | rw [hzz2.out]); have g1 := G1.out; (first | rw [hzz.out, List.nil_append] at g1 | rw [hzz2.out, List.nil_append] at g1); have k23 := keep_grown (w := w2) HM.out KA.out (Nat.le_refl _) G2.out; obtain ⟨vs, hv1, hv2⟩ := hout.out.keep k23; replace hkw := Lib.hid (hkw.out.trans k23); replace hB2 := Lib.hid (hB2.out.keep k23 (fun _ _ => List.not_mem_nil)); have hT7 : Hid (∃ cur, Blk w3 g 5 cur) := Lib.hid (hT6.out.imp fun cur h => h.keep k23 List.not_mem_nil); have hg1 := Lib.hid (own_le g1 hkw0.out.size); replace hv1 := Lib.hid hv1; replace hv2 := Lib.hid hv2; clear G1 G2 G3 g1 k23)
                | (at_builtin; refine wpList_append_own _ rfl (.tmp 33) (.tmp 40) 36 rfl w.heap.size 34 i0 (.slice none 0 0) 1 24 Try.underlying36 hi.out hz0.out hz1.out hz2.out rfl (by decide) u10 done.length vs rfl (hv1.out.alloc _) ⟨w3.heap.size, 0, none⟩ 1 1 [.slice A' N c'] rfl rfl (World.news_of_block (cs := #[.slice A' N c']) (t := 34) (fr := (0, 0)) (heap_alloc_new w3 _)) (by simp [Value.oneCell']) ?_ ?_ ?_ ?_; (unfold maxLen; omega); omega; (have := hkw.out.size; simp; omega); intro v' w4 ho1 hgr hn1; have kg := Lib.hid (keep_grown (w := w) (hv1.out.alloc (.cells #[.slice A' N c'] 34)) (hkw.out.alloc _) (Nat.le_refl _) hgr); have kg2 := Lib.hid (keeps_of_grown (w := w3) (hv1.out.alloc (.cells #[.slice A' N c'] 34)) hgr ((Keeps.refl [] w3).alloc _)); have ho := Lib.hid (OutAt.push (r := R) hrl.out hv2.out hv1.out hg1.out ho1 hgr); clear hn1 ho1 hgr))
              go_roundw
              case rel =>
                refine ⟨some ⟨g, o, none⟩, l - (4 + N), c - (4 + N), done ++ [R], R2, ?_, ?_, ?_, ?_, ?_, ?_, ho, ?_, kg⟩
                · first | rfl | rw [kN]
                · exact hR2l
                · omega
                · unfold maxLen; omega
                · rw [List.length_append, List.length_singleton]; omega
                · exact Lib.hid (tail_keep hT7.out hv1.out kg2.out hB2.out)
                · exact Lib.hid (by rw [heq.out, List.append_assoc]; rfl)
              case measure =>
                first | (simp [lenOf]; done) | (simp [lenOf]; omega)
            · have hA2' := hA2.out
              rw [if_neg kN] at hA2'
              subst hA2'
              clear hA1 hA2
              go_wp2_with (first
                | (at_builtin; refine wpList_append_bts rfl (.tmp 34) (.tmp 38) 34 rfl w2.heap.size 5 Try.underlying34 info5.out (.slice (some ⟨w2.heap.size, 0, none⟩) 0 0) [] R rfl ?_ _ _ _ rfl ?_ ?_ ?_ ?_ ?_; (exact HM.out); (first | exact hrl.out | exact hrl.out.trans (Nat.add_sub_cancel_left 4 N).symm); (exact HB1.out); (rw [hrl.out, List.length_nil]; omega); (exact KA.out.size); intro A' c' w3 G1 G2 G3; (first | rw [hzz.out] | rw [hzz2.out]); have g1 := G1.out; (first | rw [hzz.out, List.nil_append] at g1 | rw [hzz2.out, List.nil_append] at g1); have k23 := keep_grown (w := w2) HM.out KA.out (Nat.le_refl _) G2.out; obtain ⟨vs, hv1, hv2⟩ := hout.out.keep k23; replace hkw := Lib.hid (hkw.out.trans k23); replace hB2 := Lib.hid (hB2.out.keep k23 (fun _ _ => List.not_mem_nil)); have hT7 : Hid (∃ cur, Blk w3 g 5 cur) := Lib.hid (hT6.out.imp fun cur h => h.keep k23 List.not_mem_nil); have hg1 := Lib.hid (own_le g1 hkw0.out.size); replace hv1 := Lib.hid hv1; replace hv2 := Lib.hid hv2; clear G1 G2 G3 g1 k23)
                | (at_builtin; refine wpList_append_own _ rfl (.tmp 33) (.tmp 40) 36 rfl w.heap.size 34 i0 (.slice none 0 0) 1 24 Try.underlying36 hi.out hz0.out hz1.out hz2.out rfl (by decide) u10 done.length vs rfl (hv1.out.alloc _) ⟨w3.heap.size, 0, none⟩ 1 1 [.slice A' N c'] rfl rfl (World.news_of_block (cs := #[.slice A' N c']) (t := 34) (fr := (0, 0)) (heap_alloc_new w3 _)) (by simp [Value.oneCell']) ?_ ?_ ?_ ?_; (unfold maxLen; omega); omega; (have := hkw.out.size; simp; omega); intro v' w4 ho1 hgr hn1; have kg := Lib.hid (keep_grown (w := w) (hv1.out.alloc (.cells #[.slice A' N c'] 34)) (hkw.out.alloc _) (Nat.le_refl _) hgr); have kg2 := Lib.hid (keeps_of_grown (w := w3) (hv1.out.alloc (.cells #[.slice A' N c'] 34)) hgr ((Keeps.refl [] w3).alloc _)); have ho := Lib.hid (OutAt.push (r := R) hrl.out hv2.out hv1.out hg1.out ho1 hgr); clear hn1 ho1 hgr))
              go_roundw
              case rel =>
                refine ⟨some ⟨g, o + (4 + N), none⟩, l - (4 + N), c - (4 + N), done ++ [R], R2, ?_, ?_, ?_, ?_, ?_, ?_, ho, ?_, kg⟩
                · first | rfl | rw [kN]
                · exact hR2l
                · omega
                · unfold maxLen; omega
                · rw [List.length_append, List.length_singleton]; omega
                · exact Lib.hid (tail_keep hT7.out hv1.out kg2.out hB2.out)
                · exact Lib.hid (by rw [heq.out, List.append_assoc]; rfl)
              case measure =>
                first | (simp [lenOf]; done) | (simp [lenOf]; omega)
    · have hnil := recsOf_short (s := rest) (by have := hl.out; omega)
      rw [hnil, List.append_nil] at heq
      go_wp2_with fail
      go_ret
      exact ⟨_, rfl, by rw [heq.out]; exact hout.out, hkw.out⟩
end Go.Proofs.Ytnoaahgjfknnlaa
