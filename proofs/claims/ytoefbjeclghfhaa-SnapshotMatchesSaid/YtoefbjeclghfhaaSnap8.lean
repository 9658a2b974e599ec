/- The contract of Write. -/
import Derived.Test.YtoefbjeclghfhaaSnap7
namespace Go.Proofs.Ytoefbjeclghfhaa
open Go.RowKit
set_option linter.unusedSimpArgs false
set_option linter.unusedVariables false

def WPost (w : World) (bd bs : Nat) (q : St × Int) (e : Ending) (w' : World) : Prop := e = .returned (.int .i64 q.2) ∧ DRep w' bd bs q.1 ∧ Keeps [bd, bs] w w'

theorem hdr_len (ep : Nat) (b : List UInt8) : (hdr ep b).length = 16 := by unfold hdr; simp [be_len]
theorem sws_writes : ∀ (f : Nat) (s : St) (i : Nat) (d : List UInt8), 0 ≤ s.writes → 0 ≤ (sws s i f d).1.writes ∧ (sws s i f d).1.writes ≤ s.writes + (d.length + 63) / 64
  | 0, s, i, d, h => ⟨h, by show s.writes ≤ _; omega⟩
  | f + 1, s, i, d, h => by
    by_cases hd : d = []
    · subst hd
      rw [sws_nil]
      exact ⟨h, by show s.writes ≤ _; simp⟩
    · have hl : 0 < d.length := List.length_pos_iff.2 hd
      have h1 := wr_writes s i (pad (d.take 64)) h
      by_cases h0 : (wr s i (pad (d.take 64))).2 = 0
      · rw [sws_ok hd h0]
        have := sws_writes f (wr s i (pad (d.take 64))).1 (i + 1) (d.drop 64) h1.1
        rw [List.length_drop] at this
        omega
      · rw [sws_bad hd h0]
        omega

/-- What Write does behind its checks. -/
def swrite2 (s : St) (o a0 ep : Nat) (b : List UInt8) : St × Int :=
  if (sws s a0 b.length b).2 ≠ 0 then sws s a0 b.length b else
  if (wr (sws s a0 b.length b).1 ((1 + o : Nat) : Int) (pad (hdr ep b))).2 ≠ 0 then wr (sws s a0 b.length b).1 ((1 + o : Nat) : Int) (pad (hdr ep b)) else
  wr (wr (sws s a0 b.length b).1 ((1 + o : Nat) : Int) (pad (hdr ep b))).1 0 (pad [UInt8.ofNat o])

set_option maxHeartbeats 3200000 in
set_option maxRecDepth 100000 in
theorem swrite_any (w : World) (bd bs : Nat) (s : St) (ep : Nat) (A : Option Addr) (b : List UInt8) (n c : Nat) (hD : DRep w bd bs s) (hB : Bts w A b) (hn : b.length = n) (hnc : n ≤ c) (hcm : c ≤ maxLen) (hep : ep < 4294967296)
    (hA : ∀ a, A = some a → a.block ≠ bd ∧ a.block ≠ bs) (hw0 : 0 ≤ s.writes) (hw : s.writes ≤ 900000) :
    Calls Try.prog 16 #[.pointer (some ⟨bd, 0, none⟩), .int .u32 ep, .slice A n c] w (WPost w bd bs (swrite s ep b)) := by
  by_cases hb : bad s = 0
  · have HO := Lib.hid (open_ok w bd bs s hD hb)
    obtain ⟨hd, h7, hr1⟩ := bad_zero hb
    have hnn := hD.n
    have hmem := hD.len
    have har := area_le s.n
    have hHl := sec_len0 hmem (i := 1 + root s) (by omega)
    have hq : swrite s ep b = if ep ≤ hEp (sec s (1 + root s)) then (s, 1) else if 64 * area s.n < b.length then (s, 16) else swrite2 s (1 - root s) (area0 s.n (1 - root s)) ep b := by
      unfold swrite swrite2; rw [if_neg (by simp [hb])]
    have ha0 : area0 s.n (1 - root s) + area s.n ≤ s.n := by unfold area0; split <;> omega
    have hE := hEp_lt hHl
    have hL := hLen_lt hHl
    have hS := hSum_lt hHl
    have hqA : (layV s.n)[3 + (1 - root s)]? = some (.int .i64 (area0 s.n (1 - root s) : Nat)) := by
      rcases Nat.le_one_iff_eq_zero_or_eq_one.1 hr1 with h | h
      · rw [h]; rfl
      · rw [h]; rfl
    have hqH : (layV s.n)[1 + (1 - root s)]? = some (.int .i64 ((1 + (1 - root s) : Nat) : Int)) := by
      rcases Nat.le_one_iff_eq_zero_or_eq_one.1 hr1 with h | h
      · rw [h]; rfl
      · rw [h]; rfl
    unfold headV layV at HO
    generalize hH : sec s (1 + root s) = H at *
    obtain ⟨r, hr⟩ : ∃ r, root s = r := ⟨_, rfl⟩
    rw [hr] at HO hr1 hq ha0 hqA hqH
    obtain ⟨nn, hnn0⟩ : ∃ nn, s.n = nn := ⟨_, rfl⟩
    rw [hnn0] at HO h7 hnn har hq ha0 hqA hqH
    obtain ⟨E, hEE⟩ : ∃ E, hEp H = E := ⟨_, rfl⟩
    rw [hEE] at HO hq hE
    obtain ⟨ar, har0⟩ : ∃ ar, area nn = ar := ⟨_, rfl⟩
    rw [har0] at HO har hq ha0
    obtain ⟨o, ho⟩ : ∃ o, 1 - r = o := ⟨_, rfl⟩
    rw [ho] at hq ha0 hqA hqH
    obtain ⟨a0, ha00⟩ : ∃ a0, area0 nn o = a0 := ⟨_, rfl⟩
    rw [ha00] at hq ha0 hqA
    have hlv : layV nn = #[.int .i64 0, .int .i64 1, .int .i64 2, .int .i64 3, .int .i64 (3 + (ar : Int)), .int .i64 (ar : Int), .int .i64 (3 + 2 * (ar : Int)), .int .i64 ((nn : Int) - (3 + 2 * (ar : Int)))] := by unfold layV; rw [har0]
    rw [hlv] at hqA hqH
    have ho1 : o ≤ 1 := by omega
    have hor : 1 - (r : Int) = (o : Int) := by omega
    have hor2 : IntKind.i64.wrap (1 - (r : Int)) = (o : Int) := by rw [hor]; exact IntWalk.i64_in _ (by omega)
    generalize swrite s ep b = qq at *
    rw [hn] at hq
    replace hq := Lib.hid hq
    replace hqA := Lib.hid hqA
    replace hqH := Lib.hid hqH
    replace hD := Lib.hid hD
    replace hB := Lib.hid hB
    replace hn := Lib.hid hn
    replace hA := Lib.hid hA
    replace hmem := Lib.hid hmem
    replace ho := Lib.hid ho
    replace hnn0 := Lib.hid hnn0
    generalize hLen H = L at *
    generalize hSum H = SS at *
    clear hb hlv hEE har0 ha00 hH hHl hr hL hS
    go_enter Try.func16, Try.ntmps16
    go_wp2_with fail
    refine HO.out.mono ?_
    rintro e w1 ⟨rfl, k1⟩
    have hD1 := Lib.hid (hD.out.keep k1 (by simp) (by simp))
    have hB1 := Lib.hid (hB.out.keep k1 (by simp))
    have e1 : IntKind.i64.wrap ((ar : Int) * 64) = (ar : Int) * 64 := IntWalk.i64_in _ (by omega)
    have e2 : IntKind.u64.wrap (ep : Int) = ep := IntWalk.u64_in _ (by omega)
    have e2m : (ep : Int) % 18446744073709551616 = ep := by omega
    replace k1 := Lib.hid k1
    clear HO hD hB
    by_cases hE0 : (ep : Int) ≤ (E : Int)
    · have hq2 := hq.out
      rw [if_pos (by omega)] at hq2
      subst hq2
      clear hq
      go_wp2_with fail
      go_ret
      exact ⟨rfl, hD1.out.keep (((Keeps.refl [] w1).alloc _).alloc _) (by simp) (by simp), ((k1.out.alloc _).alloc _).nil⟩
    · have hEb : decide ((ep : Int) ≤ (E : Int)) = false := decide_eq_false hE0
      have hEb2 : decide (ep ≤ E) = false := decide_eq_false (by omega)
      by_cases hLa : (ar : Int) * 64 < (n : Int)
      · have hq2 := hq.out
        rw [if_neg (by omega), if_pos (by omega)] at hq2
        subst hq2
        clear hq
        go_wp2_with fail
        go_ret
        exact ⟨rfl, hD1.out.keep (((Keeps.refl [] w1).alloc _).alloc _) (by simp) (by simp), ((k1.out.alloc _).alloc _).nil⟩
      · have hq2 := hq.out
        rw [if_neg (by omega), if_neg (by omega)] at hq2
        replace hq := Lib.hid hq2
        have hLb : decide ((ar : Int) * 64 < (n : Int)) = false := decide_eq_false hLa
        clear hq2
        go_wp2_with fail
        obtain ⟨w2, hw2⟩ : ∃ w2, w2 = (w1.alloc (.cells #[.int .i64 0, .int .i64 1, .int .i64 2, .int .i64 3, .int .i64 (3 + (ar : Int)), .int .i64 (ar : Int), .int .i64 (3 + 2 * (ar : Int)), .int .i64 ((nn : Int) - (3 + 2 * (ar : Int)))] 24)).alloc (.cells #[.int .u64 (E : Int), .int .u64 (L : Int), .int .u64 (SS : Int)] 68) := ⟨_, rfl⟩
        rw [← hw2]
        have B7 : Hid (Blk w2 w1.heap.size 24 #[.int .i64 0, .int .i64 1, .int .i64 2, .int .i64 3, .int .i64 (3 + (ar : Int)), .int .i64 (ar : Int), .int .i64 (3 + 2 * (ar : Int)), .int .i64 ((nn : Int) - (3 + 2 * (ar : Int)))]) := Lib.hid (by rw [hw2]; exact (Blk.new w1 24 _).alloc _)
        have D2 : Hid (DRep w2 bd bs s) := Lib.hid (by rw [hw2]; exact hD1.out.keep (((Keeps.refl [] w1).alloc _).alloc _) (by simp) (by simp))
        have Bb2 : Hid (Bts w2 A b) := Lib.hid (by rw [hw2]; exact hB1.out.keep (((Keeps.refl [] w1).alloc _).alloc _) (by simp))
        have K2 : Hid (Keeps [] w w2) := Lib.hid (by rw [hw2]; exact (k1.out.alloc _).alloc _)
        have hg7 : Hid (w1.heap.size ∉ [bd, bs]) := Lib.hid (by have := hD1.out.d.lt; have := hD1.out.m.lt; simp; omega)
        have hi5 := Lib.hid info5
        clear hw2 hD1 k1 hB1
        generalize w1.heap.size = g7 at *
        obtain ⟨Q, hQ⟩ : ∃ Q, sws s a0 n b = Q := ⟨_, rfl⟩
        have hqq : Hid (qq = swrite2 s o a0 ep b) := hq
        have hnar : n ≤ 64 * ar := by omega
        have hQ0 := Lib.hid hQ
        go_loopw [12] (fun iv wr => ∃ (i : Nat) (s' : St), iv = .int .i64 i ∧ 64 * i < n + 64 ∧ Hid (DRep wr bd bs s') ∧ Hid (sws s' (a0 + i) (n - i) (b.drop (64 * i)) = Q) ∧ Hid (0 ≤ s'.writes ∧ s'.writes ≤ s.writes + (i : Int)) ∧ Hid (Keeps [bd, bs] w2 wr)) (fun iv _ => n + 64 - (intOf iv).toNat)
        case atStart => exact ⟨0, s, rfl, by omega, D2, Lib.hid (by simpa using hQ), Lib.hid ⟨hw0, by omega⟩, Lib.hid (Keeps.refl _ _)⟩
        case round =>
          clear hQ
          obtain ⟨i, s', rfl, hi, hDr, hQr, hws, hkw⟩ := hrel
          have B7r := Lib.hid (B7.out.keep hkw.out hg7.out)
          have ew1 : IntKind.i64.wrap ((i : Int) * 64) = (i : Int) * 64 := IntWalk.i64_in _ (by omega)
          by_cases hlt : 64 * i < n
          · have hli : (i : Int) * 64 < (n : Int) := by omega
            obtain ⟨k, hk⟩ : ∃ k, k = min 64 (n - 64 * i) := ⟨_, rfl⟩
            have hk1 : 1 ≤ k := by omega
            have hkc : Hid ((64 * i + 64 ≤ n ∧ k = 64) ∨ (n < 64 * i + 64 ∧ k = n - 64 * i)) := Lib.hid (by omega)
            have hk64 : k ≤ 64 := by omega
            have hkn : 64 * i + k ≤ n := by omega
            have hmin : min (((i : Int) + 1) * 64) (n : Int) = ((64 * i + k : Nat) : Int) := by omega
            have ew2 : IntKind.i64.wrap ((i : Int) + 1) = (i : Int) + 1 := IntWalk.i64_in _ (by omega)
            have ew3 : IntKind.i64.wrap (((i : Int) + 1) * 64) = ((i : Int) + 1) * 64 := IntWalk.i64_in _ (by omega)
            have h0i : (0 : Int) ≤ (i : Int) * 64 := by omega
            have htn : ((i : Int) * 64).toNat = 64 * i := by omega
            have hcn : ¬ c = 64 * i := by omega
            have hci : ((64 * i + k : Nat) : Int) ≤ (c : Int) := by omega
            have hle : (i : Int) * 64 ≤ ((64 * i + k : Nat) : Int) := by omega
            obtain ⟨gA, oA, rfl⟩ : ∃ g o, A = some ⟨g, o, none⟩ := by
              rcases Bb2.out with h | ⟨g, o, h, _⟩
              · have := hn.out; rw [h] at this; simp at this; omega
              · exact ⟨g, o, h⟩
            have hbb := (bts_from (k := 64 * i) (Bb2.out.keep hkw.out (fun a ha => by cases ha; have := hA.out _ rfl; simp; exact this))).take 64
            obtain ⟨ch, hch0⟩ : ∃ ch, (b.drop (64 * i)).take 64 = ch := ⟨_, rfl⟩
            rw [hch0] at hbb
            have hch : Hid (ch.length = k) := Lib.hid (by rw [← hch0, List.length_take, List.length_drop, hn.out]; omega)
            have hz : Hid (([] : List UInt8).length + k = k) := Lib.hid (Nat.zero_add k)
            have hcb := Lib.hid hbb
            have qA : wr.cell? ⟨g7, 3 + o, none⟩ = some (.int .i64 (a0 : Int)) := (B7r.out.cell (3 + o)).trans hqA.out
            have ew4 : IntKind.i64.wrap ((a0 : Int) + (i : Int)) = (a0 : Int) + (i : Int) := IntWalk.i64_in _ (by omega)
            have ho2 : (o : Int) < 2 := by omega
            have ho0 : (0 : Int) ≤ (o : Int) := by omega
            have hws1 : Hid (0 ≤ s'.writes ∧ s'.writes ≤ 950000) := Lib.hid (by have := hws.out; omega)
            obtain ⟨q, hq0⟩ : ∃ q, Go.Proofs.Ytoefbjeclghfhaa.wr s' ((a0 : Int) + (i : Int)) (pad ch) = q := ⟨_, rfl⟩
            have hq := Lib.hid hq0
            have hqw := Lib.hid (wr_writes s' ((a0 : Int) + (i : Int)) (pad ch) hws1.out.1)
            rw [hq0] at hqw
            have hne0 : b.drop (64 * i) ≠ [] := by
              intro h0
              have := congrArg List.length h0
              rw [List.length_drop, hn.out] at this
              simp at this
              omega
            have hstep : Hid ((q.2 = 0 → sws q.1 (a0 + (i + 1)) (n - (i + 1)) (b.drop (64 * (i + 1))) = Q) ∧ (q.2 ≠ 0 → q = Q)) := Lib.hid (by
              have h1 := hQr.out
              rw [show n - i = (n - (i + 1)) + 1 by omega] at h1
              have hcast : ((a0 + i : Nat) : Int) = (a0 : Int) + (i : Int) := by omega
              rw [← hq0, ← h1, ← hcast, ← hch0, show 64 * (i + 1) = 64 * i + 64 by omega, ← List.drop_drop]
              exact ⟨fun h => (sws_ok hne0 h).symm, fun h => (sws_bad hne0 h).symm⟩)
            replace hch0 := Lib.hid hch0
            replace hk := Lib.hid hk
            clear hq0 hbb hne0 hQr hmin
            go_upto_region 12 with fail
            go_cut [13] from 50 to 59 (fun s13 wx => s13 = .slice (some ⟨gA, oA + 64 * i, none⟩) k (c - 64 * i) ∧ wx = wr)
            case first =>
              by_cases hfull : ((i : Int) + 1) * 64 ≤ (n : Int)
              · have hkk0 : k = 64 := by rcases hkc.out with ⟨_, h⟩ | ⟨h, _⟩ <;> omega
                have hkk := Lib.hid hkk0
                clear hkk0
                have hc2 : ((i : Int) + 1) * 64 ≤ (c : Int) := by omega
                have hle2 : (i : Int) * 64 ≤ ((i : Int) + 1) * 64 := by omega
                have htn2 : (((i : Int) + 1) * 64).toNat = 64 * i + 64 := by omega
                go_wp2_with fail
                all_goals
                  go_meet
                  refine ⟨?_, rfl⟩
                  first
                    | (rw [hkk.out]; done)
                    | (rw [hkk.out]; simp; done)
                    | (rw [hkk.out]; congr 1; omega)
              · have hkk0 : k = n - 64 * i := by rcases hkc.out with ⟨h, _⟩ | ⟨_, h⟩ <;> omega
                have hkk := Lib.hid hkk0
                clear hkk0
                have hle2 : (i : Int) * 64 ≤ (n : Int) := by omega
                have hc2 : (n : Int) ≤ (c : Int) := by omega
                go_wp2_with fail
                all_goals
                  go_meet
                  refine ⟨?_, rfl⟩
                  first
                    | (rw [hkk.out]; done)
                    | (rw [hkk.out]; simp; done)
                    | (rw [hkk.out]; congr 1; omega)
            case rest =>
             obtain ⟨rfl, rfl⟩ := hcut
             go_wp2_with fail
             refine wp_region_I (S := (fun w' => w'.cell? ⟨g7, 3 + o, none⟩ = some (.int .i64 (a0 : Int)))) (n := 13) (by kernel_rfl) ?_
             have HS : wc.drew.cell? ⟨g7, 3 + o, none⟩ = some (.int .i64 (a0 : Int)) := qA
             refine wpAnyI_takeN (i := 0) (v := ?_) (by kernel_rfl) rfl (by kernel_rfl) (by kernel_rfl) (by kernel_rfl) (fun _ _ _ h => h) HS (Or.inl ⟨by rfl, ?_⟩) ?_
             rotate_left
             · (intro w hSw; obtain z1 := hSw; go_simp; try with_reducible rfl)
             try simp only [Act.put, List.getElem_toArray, List.getElem_cons_succ, List.getElem_cons_zero, List.setIfInBounds_toArray, List.set_cons_zero, List.set_cons_succ]
             refine wpAnyI_takeN (i := 1) (v := ?_) (by kernel_rfl) rfl (by kernel_rfl) (by kernel_rfl) (by kernel_rfl) (fun _ _ _ h => h) HS (Or.inl ⟨by rfl, ?_⟩) ?_
             rotate_left
             · (intro w hSw; obtain z1 := hSw; go_simp; try with_reducible rfl)
             try simp only [Act.put, List.getElem_toArray, List.getElem_cons_succ, List.getElem_cons_zero, List.setIfInBounds_toArray, List.set_cons_zero, List.set_cons_succ]
             refine wpAnyI_takeN (i := 2) (v := ?_) (by kernel_rfl) rfl (by kernel_rfl) (by kernel_rfl) (by kernel_rfl) (fun _ _ _ h => h) HS (Or.inl ⟨by rfl, ?_⟩) ?_
             rotate_left
             · (intro w hSw; obtain z1 := hSw; go_simp; try with_reducible rfl)
             try simp only [Act.put, List.getElem_toArray, List.getElem_cons_succ, List.getElem_cons_zero, List.setIfInBounds_toArray, List.set_cons_zero, List.set_cons_succ]
             refine wpAnyI_takeN (i := 3) (v := ?_) (by kernel_rfl) rfl (by kernel_rfl) (by kernel_rfl) (by kernel_rfl) (fun _ _ _ h => h) HS (Or.inl ⟨by rfl, ?_⟩) ?_
             rotate_left
             · (intro w hSw; obtain z1 := hSw; go_simp; try with_reducible rfl)
             try simp only [Act.put, List.getElem_toArray, List.getElem_cons_succ, List.getElem_cons_zero, List.setIfInBounds_toArray, List.set_cons_zero, List.set_cons_succ]
             refine wpAnyI_takeN (i := 4) (v := ?_) (by kernel_rfl) rfl (by kernel_rfl) (by kernel_rfl) (by kernel_rfl) (fun _ _ _ h => h) HS (Or.inl ⟨by rfl, ?_⟩) ?_
             rotate_left
             · (intro w hSw; obtain z1 := hSw; go_simp; try with_reducible rfl)
             try simp only [Act.put, List.getElem_toArray, List.getElem_cons_succ, List.getElem_cons_zero, List.setIfInBounds_toArray, List.set_cons_zero, List.set_cons_succ]
             refine wpAnyI_takeN (i := 5) (v := ?_) (by kernel_rfl) rfl (by kernel_rfl) (by kernel_rfl) (by kernel_rfl) (fun _ _ _ h => h) HS (Or.inl ⟨by rfl, ?_⟩) ?_
             rotate_left
             · (intro w hSw; obtain z1 := hSw; go_simp; try with_reducible rfl)
             try simp only [Act.put, List.getElem_toArray, List.getElem_cons_succ, List.getElem_cons_zero, List.setIfInBounds_toArray, List.set_cons_zero, List.set_cons_succ]
             refine wpAnyI_takeN (i := 6) (v := ?_) (by kernel_rfl) rfl (by kernel_rfl) (by kernel_rfl) (by kernel_rfl) (fun _ _ _ h => h) HS (Or.inl ⟨by rfl, ?_⟩) ?_
             rotate_left
             · (intro w hSw; obtain z1 := hSw; go_simp; try with_reducible rfl)
             try simp only [Act.put, List.getElem_toArray, List.getElem_cons_succ, List.getElem_cons_zero, List.setIfInBounds_toArray, List.set_cons_zero, List.set_cons_succ]
             refine wpAnyI_takeN (i := 8) (v := ?_) (by kernel_rfl) rfl (by kernel_rfl) (by kernel_rfl) (by kernel_rfl) (fun _ _ _ h => h) HS (Or.inl ⟨by rfl, ?_⟩) ?_
             rotate_left
             · (intro w hSw; obtain z1 := hSw; go_simp; try with_reducible rfl)
             try simp only [Act.put, List.getElem_toArray, List.getElem_cons_succ, List.getElem_cons_zero, List.setIfInBounds_toArray, List.set_cons_zero, List.set_cons_succ]
             refine wpAnyI_one (i := 7) rfl (by kernel_rfl) (fun K hK => ?_)
             dsimp only [List.getElem_toArray, List.getElem_cons_succ, List.getElem_cons_zero]
             go_simp
             have HS := ((Keeps.refl [] wc).drew.alloc (.cells #[] 5)).cellEq qA (by simp)
             have HM : Hid ((wc.drew.alloc (.cells #[] 5)).ownsRow wc.heap.size 5 1 (.slice (some ⟨wc.heap.size, 0, none⟩) 0 0) ([] : List UInt8).length (([] : List UInt8).map bv)) := Lib.hid (World.ownsRow_made wc.drew #[] 0 (Nat.le_refl _) (by simp [maxLen]) (by simp))
             have K1 : Hid (Keeps [] wc (wc.drew.alloc (.cells #[] 5))) := Lib.hid ((Keeps.refl [] wc).drew.alloc _)
             refine hK _ _ (Or.inr HS) ?_
             clear hK K
             try simp only [Act.put, List.getElem_toArray, List.getElem_cons_succ, List.getElem_cons_zero, List.setIfInBounds_toArray, List.set_cons_zero, List.set_cons_succ]
             refine wpAnyI_one (i := 9) rfl (by kernel_rfl) (fun K hK => ?_)
             dsimp only [List.getElem_toArray, List.getElem_cons_succ, List.getElem_cons_zero]
             rw [if_pos (by rfl)]
             refine wp_append_bts (.tmp 67) (.tmp 68) 35 (by rfl) wc.heap.size 5 Try.underlying35 hi5.out (.slice (some ⟨wc.heap.size, 0, none⟩) 0 0) [] ch (by rfl) HM.out _ k _ (by rfl) hch.out (hcb.out.keep K1.out (by simp)) (by rw [hch.out, List.length_nil]; omega) K1.out.size ?_
             rw [hz.out]
             intro A1 c1 w1 G1 G2 G3
             have g1 := G1.out
             rw [List.nil_append] at g1
             have K2 : Hid (Keeps [] wc w1) := Lib.hid (K1.out.over (Nat.le_refl _) (below_grown HM.out K1.out.size G2.out))
             have o1 := Lib.hid g1
             have HS := K2.out.cellEq qA (by simp)
             clear G1 G2 G3 g1 HM K1
             refine hK _ _ (Or.inr HS) ?_
             clear hK K
             try simp only [Act.put, List.getElem_toArray, List.getElem_cons_succ, List.getElem_cons_zero, List.setIfInBounds_toArray, List.set_cons_zero, List.set_cons_succ]
             refine wpAnyI_one (i := 10) rfl (by kernel_rfl) (fun K hK => ?_)
             dsimp only [List.getElem_toArray, List.getElem_cons_succ, List.getElem_cons_zero]
             go_simp
             go_wp2_with ((refine (sector_any _ wc.heap.size _ ch k hch.out o1.out K2.out.size hk64).mono ?_); rintro e v2 ⟨A2, c2, rfl, o2, b2⟩)
             have K3 : Hid (Keeps [] wc v2) := Lib.hid (K2.out.over (Nat.le_refl _) b2)
             replace o2 := Lib.hid o2
             have HS := K3.out.cellEq qA (by simp)
             clear b2 o1 K2
             refine hK _ _ (Or.inr HS) ?_
             clear hK K
             try simp only [Act.put, List.getElem_toArray, List.getElem_cons_succ, List.getElem_cons_zero, List.setIfInBounds_toArray, List.set_cons_zero, List.set_cons_succ]
             refine wpAnyI_one (i := 11) rfl (by kernel_rfl) (fun K hK => ?_)
             dsimp only [List.getElem_toArray, List.getElem_cons_succ, List.getElem_cons_zero]
             go_simp
             have hbt := own_bts o2.out
             have HW := write_any v2 bd bs s' ((a0 : Int) + (i : Int)) A2 (pad ch) 64 c2 (pad_len (by rw [hch.out]; exact hk64)) (hDr.out.keep K3.out (by simp) (by simp)) hbt.1 (fun _ a ha => by
               have h1 := (hbt.2.2.2.2 a ha).1
               have h2 := hDr.out.d.lt
               omega) hbt.2.2.1 hws1.out.1 (by have := hws1.out.2; omega)
             rw [hq.out] at HW
             go_wp2_with ((refine HW.mono ?_); rintro e w3 ⟨rfl, hD3, k3⟩)
             have K4 : Hid (Keeps [bd, bs] wc w3) := Lib.hid (K3.out.nil.trans k3)
             replace hD3 := Lib.hid hD3
             have HS := K4.out.cellEq qA hg7.out
             clear HW k3 K3 o2 hbt
             refine hK _ _ (Or.inr HS) ?_
             clear hK K
             try simp only [Act.put, List.getElem_toArray, List.getElem_cons_succ, List.getElem_cons_zero, List.setIfInBounds_toArray, List.set_cons_zero, List.set_cons_succ]
             refine wpAnyI_takeN (i := 12) (v := ?_) (by kernel_rfl) rfl (by kernel_rfl) (by kernel_rfl) (by kernel_rfl) (fun _ _ _ h => h) HS (Or.inl ⟨by rfl, ?_⟩) ?_
             rotate_left
             · (intro w hSw; obtain z1 := hSw; go_simp; try with_reducible rfl)
             try simp only [Act.put, List.getElem_toArray, List.getElem_cons_succ, List.getElem_cons_zero, List.setIfInBounds_toArray, List.set_cons_zero, List.set_cons_succ]
             refine wpAnyI_done (by kernel_rfl) ?_ _
             by_cases hq0 : q.2 = 0
             · have hqb : (q.2 != 0) = false := by simp [hq0]
               have hQ7 := Lib.hid (hstep.out.1 hq0)
               have hk4 := Lib.hid (hkw.out.trans K4.out)
               clear hq hstep
               go_wp2_with fail
               go_roundw
               case rel => exact ⟨i + 1, q.1, by go_num, by omega, hD3, hQ7, Lib.hid (by have := hqw.out; have := hws.out; omega), hk4⟩
               case measure => simp [intOf]; omega
             · have hqb : (q.2 != 0) = true := by simp [hq0]
               have hQ7 := hstep.out.2 hq0
               have hfin : qq = q := by
                 rw [hqq.out]
                 unfold swrite2
                 rw [hn.out, hQ0.out, ← hQ7, if_pos hq0]
               have hk4 := Lib.hid (K2.out.nil.trans (hkw.out.trans K4.out))
               subst hfin
               clear hq hstep hqq hQ7
               go_wp2_with fail
               go_ret
               exact ⟨rfl, hD3.out, hk4.out⟩
          · have hli : ¬ (i : Int) * 64 < (n : Int) := by omega
            have hnil : b.drop (64 * i) = [] := List.drop_of_length_le (by rw [hn.out]; omega)
            have hQ1 := hQr.out
            rw [hnil, sws_nil] at hQ1
            obtain ⟨s1, hs1⟩ : ∃ s1, s1 = s' := ⟨_, rfl⟩
            subst hs1
            have hws1 : Hid (0 ≤ s1.writes ∧ s1.writes ≤ 950000) := Lib.hid (by have := hws.out; omega)
            have hD1 := hDr
            obtain ⟨q1, hq10⟩ : ∃ q1, Go.Proofs.Ytoefbjeclghfhaa.wr s1 ((1 + o : Nat) : Int) (pad (hdr ep b)) = q1 := ⟨_, rfl⟩
            have hq1 := Lib.hid hq10
            have hqw1 := Lib.hid (wr_writes s1 ((1 + o : Nat) : Int) (pad (hdr ep b)) hws1.out.1)
            rw [hq10] at hqw1
            have hqq2 : Hid (qq = if q1.2 ≠ 0 then q1 else Go.Proofs.Ytoefbjeclghfhaa.wr q1.1 0 (pad [UInt8.ofNat o])) := Lib.hid (by
              rw [hqq.out]
              unfold swrite2
              rw [hn.out, hQ0.out, ← hQ1]
              simp only [hq10]
              rw [if_neg (by simp)])
            have qH : wr.cell? ⟨g7, 1 + o, none⟩ = some (.int .i64 ((1 + o : Nat) : Int)) := (B7r.out.cell (1 + o)).trans hqH.out
            have qR : wr.cell? ⟨g7, 0, none⟩ = some (.int .i64 0) := (B7r.out.cell 0).trans rfl
            have hdl : Hid ((hdr ep b).length = 16) := Lib.hid (hdr_len ep b)
            have H1 := put_any wr wr.heap.size (.slice none 0 0) [] 0 ep 4 rfl (World.ownsRow_nil _ _ _ _) (Nat.le_refl _) (by decide) (by omega) (by omega)
            rw [List.nil_append, Nat.zero_add] at H1
            replace H1 := Lib.hid H1
            have e5 : IntKind.u64.wrap (n : Int) = n := IntWalk.u64_in _ (by omega)
            have e5m : (n : Int) % 18446744073709551616 = n := by omega
            clear hqq hq10 hQr hnil hq
            go_wp2_with fail
            refine H1.out.mono ?_
            rintro e u1 ⟨A1, c1, rfl, p1, b1⟩
            have H2 := put_any u1 wr.heap.size (.slice A1 4 c1) (be 4 ep) 4 n 4 (be_len _ _) p1 b1.size (by decide) (by omega) (by omega)
            rw [show 4 + 4 = 8 from rfl] at H2
            replace H2 := Lib.hid H2
            replace b1 := Lib.hid b1
            clear H1 p1
            go_wp2_with fail
            refine H2.out.mono ?_
            rintro e u2 ⟨A2, c2, rfl, p2, b2⟩
            have b12 := Lib.hid (below_trans b1.out b2)
            have Ku2 : Keeps [] wr u2 := (Keeps.refl [] wr).over (Nat.le_refl _) b12.out
            have H3 := Lib.hid (sum_any u2 A b n c ((Bb2.out.keep hkw.out (fun a ha => by have := hA.out _ ha; simp; exact this)).keep Ku2 (by simp)) hn.out (by omega))
            have H4 := put_any u2 wr.heap.size (.slice A2 8 c2) (be 4 ep ++ be 4 n) 8 (crc b) 8 (by rw [List.length_append, be_len, be_len]) p2 b12.out.size (by decide) (crc_lt b) (by omega)
            rw [show 8 + 8 = 16 from rfl, show be 4 ep ++ be 4 n ++ be 8 (crc b) = hdr ep b by unfold hdr; rw [hn.out]] at H4
            replace H4 := Lib.hid H4
            clear H2 p2 b2 b1 Ku2
            go_wp2_with fail
            refine H3.out.mono ?_
            rintro e u3 ⟨rfl, rfl⟩
            clear H3
            go_wp2_with fail
            refine H4.out.mono ?_
            rintro e wh ⟨Ah, ch, rfl, oh, bh⟩
            have Kh : Hid (Keeps [] wr wh) := Lib.hid ((Keeps.refl [] wr).over (Nat.le_refl _) (below_trans b12.out bh))
            replace oh := Lib.hid oh
            have ho2 : (o : Int) < 2 := by omega
            have ho0 : (0 : Int) ≤ (o : Int) := by omega
            clear H4 b12 bh
            go_wp2_with fail
            refine wp_region_I (S := (fun w' => w'.cell? ⟨g7, 1 + o, none⟩ = some (.int .i64 ((1 + o : Nat) : Int)))) (n := 9) (by kernel_rfl) ?_
            have HS := (Kh.out.drew).cellEq qH (by simp)
            refine wpAnyI_takeN (i := 0) (v := ?_) (by kernel_rfl) rfl (by kernel_rfl) (by kernel_rfl) (by kernel_rfl) (fun _ _ _ h => h) HS (Or.inl ⟨by rfl, ?_⟩) ?_
            rotate_left
            · (intro w hSw; obtain z1 := hSw; go_simp; try with_reducible rfl)
            try simp only [Act.put, List.getElem_toArray, List.getElem_cons_succ, List.getElem_cons_zero, List.setIfInBounds_toArray, List.set_cons_zero, List.set_cons_succ]
            refine wpAnyI_takeN (i := 1) (v := ?_) (by kernel_rfl) rfl (by kernel_rfl) (by kernel_rfl) (by kernel_rfl) (fun _ _ _ h => h) HS (Or.inl ⟨by rfl, ?_⟩) ?_
            rotate_left
            · (intro w hSw; obtain z1 := hSw; go_simp; try with_reducible rfl)
            try simp only [Act.put, List.getElem_toArray, List.getElem_cons_succ, List.getElem_cons_zero, List.setIfInBounds_toArray, List.set_cons_zero, List.set_cons_succ]
            refine wpAnyI_takeN (i := 2) (v := ?_) (by kernel_rfl) rfl (by kernel_rfl) (by kernel_rfl) (by kernel_rfl) (fun _ _ _ h => h) HS (Or.inl ⟨by rfl, ?_⟩) ?_
            rotate_left
            · (intro w hSw; obtain z1 := hSw; go_simp; try with_reducible rfl)
            try simp only [Act.put, List.getElem_toArray, List.getElem_cons_succ, List.getElem_cons_zero, List.setIfInBounds_toArray, List.set_cons_zero, List.set_cons_succ]
            refine wpAnyI_takeN (i := 3) (v := ?_) (by kernel_rfl) rfl (by kernel_rfl) (by kernel_rfl) (by kernel_rfl) (fun _ _ _ h => h) HS (Or.inl ⟨by rfl, ?_⟩) ?_
            rotate_left
            · (intro w hSw; obtain z1 := hSw; go_simp; try with_reducible rfl)
            try simp only [Act.put, List.getElem_toArray, List.getElem_cons_succ, List.getElem_cons_zero, List.setIfInBounds_toArray, List.set_cons_zero, List.set_cons_succ]
            refine wpAnyI_takeN (i := 4) (v := ?_) (by kernel_rfl) rfl (by kernel_rfl) (by kernel_rfl) (by kernel_rfl) (fun _ _ _ h => h) HS (Or.inl ⟨by rfl, ?_⟩) ?_
            rotate_left
            · (intro w hSw; obtain z1 := hSw; go_simp; try with_reducible rfl)
            try simp only [Act.put, List.getElem_toArray, List.getElem_cons_succ, List.getElem_cons_zero, List.setIfInBounds_toArray, List.set_cons_zero, List.set_cons_succ]
            refine wpAnyI_takeN (i := 5) (v := ?_) (by kernel_rfl) rfl (by kernel_rfl) (by kernel_rfl) (by kernel_rfl) (fun _ _ _ h => h) HS (Or.inl ⟨by rfl, ?_⟩) ?_
            rotate_left
            · (intro w hSw; obtain z1 := hSw; go_simp; try with_reducible rfl)
            try simp only [Act.put, List.getElem_toArray, List.getElem_cons_succ, List.getElem_cons_zero, List.setIfInBounds_toArray, List.set_cons_zero, List.set_cons_succ]
            refine wpAnyI_one (i := 6) rfl (by kernel_rfl) (fun K hK => ?_)
            dsimp only [List.getElem_toArray, List.getElem_cons_succ, List.getElem_cons_zero]
            go_simp
            go_wp2_with ((refine (sector_any _ wr.heap.size _ (hdr ep b) 16 hdl.out (own_keep oh.out (Keeps.refl [] wh).drew (by simp)) Kh.out.drew.size (by decide)).mono ?_); rintro e v2 ⟨A2, c2, rfl, o2, b2⟩)
            have K3 : Hid (Keeps [] wr v2) := Lib.hid (Kh.out.drew.over (Nat.le_refl _) b2)
            replace o2 := Lib.hid o2
            have HS := K3.out.cellEq qH (by simp)
            clear b2
            refine hK _ _ (Or.inr HS) ?_
            clear hK K
            try simp only [Act.put, List.getElem_toArray, List.getElem_cons_succ, List.getElem_cons_zero, List.setIfInBounds_toArray, List.set_cons_zero, List.set_cons_succ]
            refine wpAnyI_one (i := 7) rfl (by kernel_rfl) (fun K hK => ?_)
            dsimp only [List.getElem_toArray, List.getElem_cons_succ, List.getElem_cons_zero]
            go_simp
            have hbt := own_bts o2.out
            have HW := write_any v2 bd bs s1 ((1 + o : Nat) : Int) A2 (pad (hdr ep b)) 64 c2 (pad_len (by rw [hdl.out]; decide)) (hD1.out.keep K3.out (by simp) (by simp)) hbt.1 (fun _ a ha => by
              have h1 := (hbt.2.2.2.2 a ha).1
              have h2 := hD1.out.d.lt
              omega) hbt.2.2.1 hws1.out.1 (by have := hws1.out.2; omega)
            rw [hq1.out] at HW
            go_wp2_with ((refine HW.mono ?_); rintro e w3 ⟨rfl, hD3, k3⟩)
            have K4 : Hid (Keeps [bd, bs] wr w3) := Lib.hid (K3.out.nil.trans k3)
            replace hD3 := Lib.hid hD3
            have HS := K4.out.cellEq qH hg7.out
            clear HW k3 K3 o2 hbt
            refine hK _ _ (Or.inr HS) ?_
            clear hK K
            try simp only [Act.put, List.getElem_toArray, List.getElem_cons_succ, List.getElem_cons_zero, List.setIfInBounds_toArray, List.set_cons_zero, List.set_cons_succ]
            refine wpAnyI_takeN (i := 8) (v := ?_) (by kernel_rfl) rfl (by kernel_rfl) (by kernel_rfl) (by kernel_rfl) (fun _ _ _ h => h) HS (Or.inl ⟨by rfl, ?_⟩) ?_
            rotate_left
            · (intro w hSw; obtain z1 := hSw; go_simp; try with_reducible rfl)
            try simp only [Act.put, List.getElem_toArray, List.getElem_cons_succ, List.getElem_cons_zero, List.setIfInBounds_toArray, List.set_cons_zero, List.set_cons_succ]
            refine wpAnyI_done (by kernel_rfl) ?_ _
            by_cases hq0 : q1.2 = 0
            · have hqb : (q1.2 != 0) = false := by simp [hq0]
              obtain ⟨s3, hs3⟩ : ∃ s3, q1.1 = s3 := ⟨_, rfl⟩
              have hqq3 := hqq2.out
              rw [if_neg (by simp [hq0]), hs3] at hqq3
              rw [hs3] at hD3
              have hq3 : Hid (Go.Proofs.Ytoefbjeclghfhaa.wr s3 0 (pad [UInt8.ofNat o]) = qq) := Lib.hid hqq3.symm
              have hws3 : Hid (0 ≤ s3.writes ∧ s3.writes ≤ 960000) := Lib.hid (by rw [← hs3]; have := hqw1.out; have := hws1.out; omega)
              have hob : Hid ((Value.int .u8 (o : Int)) = bv (UInt8.ofNat o)) := Lib.hid (by unfold bv; rw [UInt8.toNat_ofNat']; congr 1; omega)
              have e8 : IntKind.u8.wrap (o : Int) = o := IntWalk.u8_in _ (by omega)
              have e8m : (o : Int) % 256 = o := by omega
              clear hqq2 hqq3
              go_wp2_with fail
              refine wp_region_I (S := (fun w' => w'.cell? ⟨g7, 0, none⟩ = some (.int .i64 0))) (n := 9) (by kernel_rfl) ?_
              have HS := (K4.out.drew).cellEq qR hg7.out
              refine wpAnyI_takeN (i := 0) (v := ?_) (by kernel_rfl) rfl (by kernel_rfl) (by kernel_rfl) (by kernel_rfl) (fun _ _ _ h => h) HS (Or.inl ⟨by rfl, ?_⟩) ?_
              rotate_left
              · (intro w hSw; obtain z1 := hSw; go_simp; try with_reducible rfl)
              try simp only [Act.put, List.getElem_toArray, List.getElem_cons_succ, List.getElem_cons_zero, List.setIfInBounds_toArray, List.set_cons_zero, List.set_cons_succ]
              refine wpAnyI_takeN (i := 1) (v := ?_) (by kernel_rfl) rfl (by kernel_rfl) (by kernel_rfl) (by kernel_rfl) (fun _ _ _ h => h) HS (Or.inl ⟨by rfl, ?_⟩) ?_
              rotate_left
              · (intro w hSw; obtain z1 := hSw; go_simp; try with_reducible rfl)
              try simp only [Act.put, List.getElem_toArray, List.getElem_cons_succ, List.getElem_cons_zero, List.setIfInBounds_toArray, List.set_cons_zero, List.set_cons_succ]
              refine wpAnyI_takeN (i := 2) (v := ?_) (by kernel_rfl) rfl (by kernel_rfl) (by kernel_rfl) (by kernel_rfl) (fun _ _ _ h => h) HS (Or.inl ⟨by rfl, ?_⟩) ?_
              rotate_left
              · (intro w hSw; obtain z1 := hSw; go_simp; try with_reducible rfl)
              try simp only [Act.put, List.getElem_toArray, List.getElem_cons_succ, List.getElem_cons_zero, List.setIfInBounds_toArray, List.set_cons_zero, List.set_cons_succ]
              refine wpAnyI_takeN (i := 3) (v := ?_) (by kernel_rfl) rfl (by kernel_rfl) (by kernel_rfl) (by kernel_rfl) (fun _ _ _ h => h) HS (Or.inl ⟨by rfl, ?_⟩) ?_
              rotate_left
              · (intro w hSw; obtain z1 := hSw; go_simp; try with_reducible rfl)
              try simp only [Act.put, List.getElem_toArray, List.getElem_cons_succ, List.getElem_cons_zero, List.setIfInBounds_toArray, List.set_cons_zero, List.set_cons_succ]
              refine wpAnyI_takeN (i := 4) (v := ?_) (by kernel_rfl) rfl (by kernel_rfl) (by kernel_rfl) (by kernel_rfl) (fun _ _ _ h => h) HS (Or.inl ⟨by rfl, ?_⟩) ?_
              rotate_left
              · (intro w hSw; obtain z1 := hSw; go_simp; try with_reducible rfl)
              try simp only [Act.put, List.getElem_toArray, List.getElem_cons_succ, List.getElem_cons_zero, List.setIfInBounds_toArray, List.set_cons_zero, List.set_cons_succ]
              refine wpAnyI_one (i := 5) rfl (by kernel_rfl) (fun K hK => ?_)
              dsimp only [List.getElem_toArray, List.getElem_cons_succ, List.getElem_cons_zero]
              go_simp
              have K5 : Hid (Keeps [] w3 (w3.drew.alloc (.cells #[.int .u8 (o : Int)] 5))) := Lib.hid ((Keeps.refl [] w3).drew.alloc _)
              have o5 : Hid ((w3.drew.alloc (.cells #[.int .u8 (o : Int)] 5)).ownsRow w3.heap.size 5 1 (.slice (some ⟨w3.heap.size, 0, none⟩) 1 1) 1 ([UInt8.ofNat o].map bv)) := Lib.hid (by rw [hob.out]; exact own_of_blk (l := [UInt8.ofNat o]) (Blk.new w3.drew 5 _) (Nat.le_refl _) (by simp [maxLen]))
              have HS := (K4.out.trans K5.out.nil).cellEq qR hg7.out
              refine hK _ _ (Or.inr HS) ?_
              clear hK K
              try simp only [Act.put, List.getElem_toArray, List.getElem_cons_succ, List.getElem_cons_zero, List.setIfInBounds_toArray, List.set_cons_zero, List.set_cons_succ]
              refine wpAnyI_one (i := 6) rfl (by kernel_rfl) (fun K hK => ?_)
              dsimp only [List.getElem_toArray, List.getElem_cons_succ, List.getElem_cons_zero]
              go_simp
              go_wp2_with ((refine (sector_any _ w3.heap.size _ [UInt8.ofNat o] 1 (by simp) o5.out K5.out.size (by decide)).mono ?_); rintro e w6 ⟨A2, c2, rfl, o2, b2⟩)
              have K6 : Hid (Keeps [] w3 w6) := Lib.hid (K5.out.over (Nat.le_refl _) b2)
              replace o2 := Lib.hid o2
              have HS := (K4.out.trans K6.out.nil).cellEq qR hg7.out
              clear b2 o5 K5
              refine hK _ _ (Or.inr HS) ?_
              clear hK K
              try simp only [Act.put, List.getElem_toArray, List.getElem_cons_succ, List.getElem_cons_zero, List.setIfInBounds_toArray, List.set_cons_zero, List.set_cons_succ]
              refine wpAnyI_one (i := 7) rfl (by kernel_rfl) (fun K hK => ?_)
              dsimp only [List.getElem_toArray, List.getElem_cons_succ, List.getElem_cons_zero]
              go_simp
              have hbt := own_bts o2.out
              have HW := write_any w6 bd bs s3 0 A2 (pad [UInt8.ofNat o]) 64 c2 (pad_len (by simp)) (hD3.out.keep K6.out (by simp) (by simp)) hbt.1 (fun _ a ha => by
                have h1 := (hbt.2.2.2.2 a ha).1
                have h2 := hD3.out.d.lt
                omega) hbt.2.2.1 hws3.out.1 (by have := hws3.out.2; omega)
              rw [hq3.out] at HW
              go_wp2_with ((refine HW.mono ?_); rintro e w7 ⟨rfl, hD7, k7⟩)
              have K7 : Hid (Keeps [bd, bs] w2 w7) := Lib.hid ((hkw.out.trans K4.out).trans (K6.out.nil.trans k7))
              replace hD7 := Lib.hid hD7
              have HS := (K4.out.trans (K6.out.nil.trans k7)).cellEq qR hg7.out
              clear HW k7 K6 o2 hbt
              refine hK _ _ (Or.inr HS) ?_
              clear hK K
              try simp only [Act.put, List.getElem_toArray, List.getElem_cons_succ, List.getElem_cons_zero, List.setIfInBounds_toArray, List.set_cons_zero, List.set_cons_succ]
              refine wpAnyI_takeN (i := 8) (v := ?_) (by kernel_rfl) rfl (by kernel_rfl) (by kernel_rfl) (by kernel_rfl) (fun _ _ _ h => h) HS (Or.inl ⟨by rfl, ?_⟩) ?_
              rotate_left
              · (intro w hSw; obtain z1 := hSw; go_simp; try with_reducible rfl)
              try simp only [Act.put, List.getElem_toArray, List.getElem_cons_succ, List.getElem_cons_zero, List.setIfInBounds_toArray, List.set_cons_zero, List.set_cons_succ]
              refine wpAnyI_done (by kernel_rfl) ?_ _
              go_wp2_with fail
              go_ret
              exact ⟨rfl, hD7.out, K2.out.nil.trans K7.out⟩
            · have hqb : (q1.2 != 0) = true := by simp [hq0]
              have hfin : qq = q1 := by rw [hqq2.out, if_pos hq0]
              have hk4 := Lib.hid (K2.out.nil.trans (hkw.out.trans K4.out))
              subst hfin
              clear hqq2
              go_wp2_with fail
              go_ret
              exact ⟨rfl, hD3.out, hk4.out⟩
  · have HO := Lib.hid (open_bad w bd bs s hD hb)
    have hq : swrite s ep b = (s, bad s) := by unfold swrite; rw [if_pos hb]
    rw [hq]
    have hbb : (bad s != 0) = true := by simp [hb]
    replace hD := Lib.hid hD
    generalize bad s = x at *
    unfold lay0 head0 at HO
    clear hq hB
    go_enter Try.func16, Try.ntmps16
    go_wp2_with fail
    refine HO.out.mono ?_
    rintro e w1 ⟨rfl, k1⟩
    clear HO
    go_wp2_with fail
    go_ret
    exact ⟨rfl, hD.out.keep ((k1.alloc _).alloc _) (by simp) (by simp), ((k1.alloc _).alloc _).nil⟩
end Go.Proofs.Ytoefbjeclghfhaa
