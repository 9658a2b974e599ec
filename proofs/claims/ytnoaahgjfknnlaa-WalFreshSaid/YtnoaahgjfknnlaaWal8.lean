/- The reference: Ends, stream, Scan. -/
import Derived.Test.YtnoaahgjfknnlaaWal7
namespace Go.Proofs.Ytnoaahgjfknnlaa
open Go.RowKit
set_option linter.unusedSimpArgs false
set_option linter.unusedVariables false

/-- What the reference's disk holds at sector i. -/
theorem slot_at {Z : List Nat} {w : World} {bm bS : Nat} {s : St} (hM : MRep Z w bm bS s) {i : Nat} (hi : i < s.n) :
    ∃ g c, w.cell? ⟨bS, i, none⟩ = some (.slice (some ⟨g, 0, none⟩) 64 c) ∧ 64 ≤ c ∧ c ≤ maxLen ∧ Bts w (some ⟨g, 0, none⟩) (sec s i) ∧ (sec s i).length = 64 := by
  obtain ⟨cap, cells, a1, a2, a3, a4, a5⟩ := hM.ex
  obtain ⟨v, hv, hs⟩ := a5 i hi
  obtain ⟨g, c, rfl, h1, h2, h3, h4, _, _⟩ := hs.bts
  exact ⟨g, c, (a2.cell i).trans hv, h1, h2, h3, h4⟩
theorem head_at {Z : List Nat} {w : World} {bm bS : Nat} {s : St} (hM : MRep Z w bm bS s) : ∃ cap, w.cell? ⟨bm, 0, none⟩ = some (.slice (some ⟨bS, 0, none⟩) s.n cap) ∧ s.n ≤ cap := by
  obtain ⟨cap, cells, a1, a2, a3, a4, a5⟩ := hM.ex
  exact ⟨cap, (a1.cell 0).trans rfl, a3⟩

theorem bts_at {w : World} {g o : Nat} {l : List UInt8} (h : Bts w (some ⟨g, o, none⟩) l) {i : Nat} (hi : i < l.length) : w.cell? ⟨g, o + i, none⟩ = some (.int .u8 ((l.getD i 0).toNat : Nat)) := by
  rcases h with rfl | ⟨g', o', e, h⟩
  · simp at hi
  · injection e with e
    injection e with e1 e2
    subst e1 e2
    rw [List.getD_eq_getElem?_getD, List.getElem?_eq_getElem hi]
    exact h i _ (List.getElem?_eq_getElem hi)
theorem bts_from {w : World} {g o k : Nat} {l : List UInt8} (h : Bts w (some ⟨g, o, none⟩) l) : Bts w (some ⟨g, o + k, none⟩) (l.drop k) := by
  rcases h with rfl | ⟨g', o', e, h⟩
  · exact .inl (by simp)
  · injection e with e
    injection e with e1 e2
    subst e1 e2
    refine .inr ⟨_, _, rfl, fun j v hj => ?_⟩
    rw [List.getElem?_drop] at hj
    rw [Nat.add_assoc]
    exact h _ _ hj

set_option maxHeartbeats 800000 in
theorem ends_any {Z : List Nat} (w : World) (bm bS : Nat) (s : St) (i ep : Nat) (hM : MRep Z w bm bS s) (hi : i < s.n) (hep : ep < 4294967296) :
    Calls Try.prog 46 #[.pointer (some ⟨bm, 0, none⟩), .int .i64 i, .int .u32 ep] w fun e w' => e = .returned (.bool (decide (epo (sec s i) = ep))) ∧ Keeps [] w w' := by
  obtain ⟨cap, c0, hcap⟩ := head_at hM
  obtain ⟨g, c, c1, h64, hcm, hB, hl⟩ := slot_at hM hi
  have hn := hM.n
  generalize hb : sec s i = b at *
  have HG := Lib.hid (read_any w (some ⟨g, 60, none⟩) (b.drop 60) 4 (c - 60) (by have := bts_from (k := 60) hB; rwa [Nat.zero_add] at this) (by rw [List.length_drop]; omega) (by omega))
  rw [show num (b.drop 60) = epo b from rfl] at HG
  generalize epo b = E at *
  have hii : (i : Int) < (s.n : Int) := by omega
  have hi0 : (0 : Int) ≤ (i : Int) := by omega
  have hc60 : ¬ c = 60 := by omega
  unfold maxLen at hcm
  clear hM hB hb
  go_enter Try.func46, Try.ntmps46
  go_wp2_with fail
  refine HG.out.mono ?_
  rintro e w1 ⟨rfl, m, rfl⟩
  by_cases hE : E = ep
  · subst hE
    go_wp2_with fail
    go_ret
    exact ⟨by simp, (Keeps.refl _ _).drewN _⟩
  · have hEi : ((E : Int) == (ep : Int)) = false := by simp; omega
    go_wp2_with fail
    go_ret
    exact ⟨by simp [hE], (Keeps.refl _ _).drewN _⟩

/-- A row of bytes is handed back. -/
def BytesPost (l : List UInt8) (w : World) (e : Ending) (w' : World) : Prop := ∃ v, e = .returned v ∧ w'.ownsRow w.heap.size 5 1 v l.length (l.map bv) ∧ Keeps [] w w'

set_option maxHeartbeats 3200000 in
theorem stream_any {Z : List Nat} (w : World) (bm bS : Nat) (s : St) (fi co ep : Nat) (hM : MRep Z w bm bS s) (hx : fi + co ≤ s.n) (hep : ep < 4294967296) :
    Calls Try.prog 47 #[.pointer (some ⟨bm, 0, none⟩), .int .i64 fi, .int .i64 co, .int .u32 ep] w (BytesPost (strm (sec s) ep co fi) w) := by
  have hn := hM.n
  have hT := strm_le (sec s) ep co fi
  generalize hTT : strm (sec s) ep co fi = T at *
  replace hTT := Lib.hid hTT
  replace hM := Lib.hid hM
  have info5 : Hid ((Try.prog.info? 5).map (fun i => (i.zero, i.size, i.bytes)) = some (some (.int .u8 0), 1, 1)) := Lib.hid (by kernel_rfl)
  have e0 : IntKind.i64.wrap ((fi : Int) + (co : Int)) = (fi : Int) + (co : Int) := IntWalk.i64_in _ (by omega)
  go_enter Try.func47, Try.ntmps47
  go_wp2_with fail
  go_loopw [9, 10] (fun st i wr => ∃ (k : Nat) (acc : List UInt8), k ≤ co ∧ i = .int .i64 ((fi : Int) + (k : Int)) ∧ acc.length ≤ 59 * k ∧ Hid (wr.ownsRow w.heap.size 5 1 st acc.length (acc.map bv)) ∧ Hid (strm (sec s) ep co fi = acc ++ strm (sec s) ep (co - k) (fi + k)) ∧ Hid (Keeps [] w wr)) (fun _ i _ => fi + co - (intOf i).toNat)
  case atStart => exact ⟨0, [], Nat.zero_le _, by simp, by simp, Lib.hid (World.ownsRow_nil _ _ _ _), Lib.hid (by simp), Lib.hid (Keeps.refl _ _)⟩
  case round =>
    obtain ⟨k, acc, hk, rfl, hacc, hown, heq, hkw⟩ := hrel
    by_cases hlt : k < co
    · have hi : fi + k < s.n := by omega
      obtain ⟨cap, c0, hcap⟩ := head_at hM.out
      obtain ⟨g, c, c1, h64, hcm, hBw, hbl⟩ := slot_at hM.out hi
      have c59w := bts_at hBw (i := 59) (by omega)
      rw [Nat.zero_add] at c59w
      replace c0 := hkw.out.cellEq c0 (by simp)
      replace c1 := hkw.out.cellEq c1 (by simp)
      have c59 := hkw.out.cellEq c59w (by simp)
      have hB := hBw.keep hkw.out (by simp)
      generalize hb : sec s (fi + k) = b at *
      replace hb := Lib.hid hb
      have HG := read_any wr (some ⟨g, 60, none⟩) (b.drop 60) 4 (c - 60) (by have := bts_from (k := 60) hB; rwa [Nat.zero_add] at this) (by rw [List.length_drop]; omega) (by omega)
      rw [show num (b.drop 60) = epo b from rfl] at HG
      rw [show (b.getD 59 0).toNat = cnt b from rfl] at c59 c59w
      have hq8 : cnt b < 256 := by unfold cnt; exact (b.getD 59 0).toNat_lt
      have hEl : epo b < 4294967296 := num_lt _
      have hcast : ((fi + k : Nat) : Int) = (fi : Int) + (k : Int) := by omega
      have hk0 : (fi : Int) + (k : Int) < (fi : Int) + (co : Int) := by omega
      have hk1 : (fi : Int) + (k : Int) < (s.n : Int) := by omega
      have hk2 : (0 : Int) ≤ (fi : Int) + (k : Int) := by omega
      have hk3 : ((fi : Int) + (k : Int)).toNat = fi + k := by omega
      have hc60 : ¬ c = 60 := by omega
      generalize hq : cnt b = q at *
      generalize hE : epo b = E at *
      replace hq := Lib.hid hq
      replace hE := Lib.hid hE
      replace hB := Lib.hid hB
      replace HG := Lib.hid HG
      replace hcast := Lib.hid hcast
      replace c59w := Lib.hid c59w
      unfold maxLen at hcm
      clear hBw
      by_cases hq1 : (59 : Int) < (q : Int)
      · have hnil : strm (sec s) ep (co - k) (fi + k) = [] := strm_stop (.inr (by rw [hb.out, hq.out]; omega))
        rw [hnil, List.append_nil, hTT.out] at heq
        go_wp2_with fail
        go_ret
        have := heq.out
        subst this
        exact ⟨_, rfl, hown.out, hkw.out⟩
      · go_wp2_with fail
        refine HG.out.mono ?_
        rintro e w2 ⟨rfl, m, rfl⟩
        replace hown := Lib.hid (own_keep hown.out ((Keeps.refl [] wr).drewN m) (by simp))
        replace hkw := Lib.hid (hkw.out.drewN m)
        replace hB := Lib.hid (hB.out.keep ((Keeps.refl [] wr).drewN m) (by simp))
        clear HG
        have kd := (Keeps.refl [] wr).drewN m
        replace c0 := kd.cellEq c0 (by simp)
        replace c1 := kd.cellEq c1 (by simp)
        replace c59 := kd.cellEq c59 (by simp)
        clear kd
        generalize wr.drewN m = w2 at *
        by_cases hEe : E = ep
        · have hEi : ((E : Int) != (ep : Int)) = false := by simp; omega
          have htl := Lib.hid (show (b.take q).length = q by rw [List.length_take]; omega)
          have hBq := Lib.hid (hB.out.take q)
          have hsum : Hid (acc.length + q = (acc ++ b.take q).length) := Lib.hid (by rw [List.length_append, htl.out])
          have hqc : q ≤ c := by omega
          have hqi : (q : Int) ≤ (c : Int) := by omega
          by_cases hq2 : (q : Int) < 59
          · have hnil : strm (sec s) ep (co - k - 1 + 1) (fi + k) = b.take q := by
              rw [strm_last (by rw [hb.out, hE.out, hEe]) (by rw [hb.out, hq.out]; omega), hb.out, hq.out]
            rw [show co - k - 1 + 1 = co - k by omega] at hnil
            rw [hnil, hTT.out] at heq
            go_wp2_with (at_builtin; refine wpList_append_bts rfl (.tmp 39) (.tmp 44) 34 rfl w.heap.size 5 Try.underlying34 info5.out u9 acc (b.take q) rfl ?_ _ _ _ rfl ?_ ?_ ?_ ?_ ?_; (exact hown.out); (exact htl.out); (exact hBq.out); (rw [htl.out]; omega); (exact hkw.out.size); intro A' c' w3 G1 G2 G3; have kw3 := Lib.hid (keep_grown hown.out hkw.out (Nat.le_refl _) G2.out); have g1 := G1; have e59 := kw3.out.cellEq c59w.out List.not_mem_nil; clear G1 G2 G3)
            go_wp2_with fail
            go_ret
            have hl : acc.length + q = T.length := by rw [heq.out, List.length_append, htl.out]
            have g2 := g1.out
            rw [← heq.out, hl] at g2
            refine ⟨_, rfl, ?_, kw3.out⟩
            rw [hl]
            exact g2
          · have hq59 : q = 59 := by omega
            have hnil : strm (sec s) ep (co - k - 1 + 1) (fi + k) = b.take 59 ++ strm (sec s) ep (co - (k + 1)) (fi + (k + 1)) := by
              rw [strm_more (by rw [hb.out, hE.out, hEe]) (by rw [hb.out, hq.out]; exact hq59), hb.out, show co - k - 1 = co - (k + 1) by omega, show fi + k + 1 = fi + (k + 1) by omega]
            rw [show co - k - 1 + 1 = co - k by omega] at hnil
            rw [hnil, ← List.append_assoc, show b.take 59 = b.take q by rw [hq59]] at heq
            have ew : IntKind.i64.wrap ((fi : Int) + (k : Int) + 1) = (fi : Int) + (k : Int) + 1 := IntWalk.i64_in _ (by omega)
            clear hnil hq hE
            replace hq59 := Lib.hid hq59
            go_wp2_with (at_builtin; refine wpList_append_bts rfl (.tmp 39) (.tmp 44) 34 rfl w.heap.size 5 Try.underlying34 info5.out u9 acc (b.take q) rfl ?_ _ _ _ rfl ?_ ?_ ?_ ?_ ?_; (exact hown.out); (exact htl.out); (exact hBq.out); (rw [htl.out]; omega); (exact hkw.out.size); intro A' c' w3 G1 G2 G3; have kw3 := Lib.hid (keep_grown hown.out hkw.out (Nat.le_refl _) G2.out); have g1 := G1; have e59 := kw3.out.cellEq c59w.out List.not_mem_nil; clear G1 G2 G3)
            go_wp2_with fail
            go_roundw
            case rel => exact ⟨k + 1, acc ++ b.take q, by omega, congrArg (Value.int .i64) (by omega), by rw [List.length_append, htl.out]; have := hq59.out; omega, by rw [hsum.out]; rw [hsum.out] at g1; exact g1, heq, kw3⟩
            case measure => simp [intOf]; omega
        · have hEi : ((E : Int) != (ep : Int)) = true := by simp; omega
          have hnil : strm (sec s) ep (co - k) (fi + k) = [] := strm_stop (.inl (by rw [hb.out, hE.out]; exact hEe))
          rw [hnil, List.append_nil, hTT.out] at heq
          go_wp2_with fail
          go_ret
          have := heq.out
          subst this
          exact ⟨_, rfl, hown.out, hkw.out⟩
    · obtain rfl : k = co := by omega
      have hk0 : ¬ (fi : Int) + (k : Int) < (fi : Int) + (k : Int) := by omega
      go_wp2_with fail
      go_ret
      have := heq.out
      rw [hTT.out, Nat.sub_self] at this
      simp only [strm, List.append_nil] at this
      subst this
      exact ⟨_, rfl, hown.out, hkw.out⟩
end Go.Proofs.Ytnoaahgjfknnlaa
