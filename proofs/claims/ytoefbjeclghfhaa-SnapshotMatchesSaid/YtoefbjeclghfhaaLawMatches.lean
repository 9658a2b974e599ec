/- The walk of the statement SnapshotMatches. -/
import Derived.Test.YtoefbjeclghfhaaRef5
namespace Go.Proofs.Ytoefbjeclghfhaa
open Go.RowKit
set_option linter.unusedSimpArgs false
set_option linter.unusedVariables false

theorem calm_arm {s : St} {k b : Int} (h : Calm s) : Calm (arm s k b) := by
  unfold arm
  by_cases hd : s.down = true
  · rw [if_pos hd]; exact h
  · rw [if_neg hd]; exact fun h2 => absurd h2 hd
theorem writes_arm (s : St) (k b : Int) : (arm s k b).writes = s.writes := by
  unfold arm
  split <;> rfl

/-- An operation. -/
theorem do_any (w : World) (B bd bs bm bS : Nat) (s : St) (K : Int) (ep : Nat) (A : Option Addr) (n c : Nat) (N By : Int) (l : List UInt8) (hK : 0 ≤ K ∧ K < 256) (hP : Pair w B bd bs bm bS s) (hB : BtsB B w A l) (hl : l.length = n) (hn : n ≤ 600) (hnc : n ≤ c) (hcm : c ≤ maxLen) (hep : ep < 4294967296)
    (hN : -9223372036854775808 ≤ N ∧ N ≤ 9223372036854775807) (hw0 : 0 ≤ s.writes) (hw : s.writes ≤ 800000) (hc : Calm s) :
    ∃ s2, Calm s2 ∧ 0 ≤ s2.writes ∧ s2.writes ≤ s.writes + 12 ∧ Calls Try.prog 26 #[.pointer (some ⟨bd, 0, none⟩), .pointer (some ⟨bm, 0, none⟩), .agg #[.int .u8 K, .int .u32 ep, .slice A n c, .int .i64 N, .int .i64 By]] w (DoPost w B bd bs bm bS s2) := by
  by_cases k0 : K = 0
  · subst k0
    have h := writes_swrite (s := s) (ep := ep) (b := l) hw0 (by omega)
    exact ⟨_, calm_swrite hc, h.1, h.2, do_write w B bd bs bm bS s ep A n c N By l hP hB hl hn hnc hcm hep hN hw0 hw⟩
  by_cases k1 : K = 1
  · subst k1
    exact ⟨_, calm_arm hc, by rw [writes_arm]; exact hw0, by rw [writes_arm]; omega, do_arm w B bd bs bm bS s ep A n c N By l hP hB hl hn hnc hcm hep hN hw0 hw⟩
  by_cases k2 : K = 2
  · subst k2
    exact ⟨fail s, fun _ => rfl, hw0, by show s.writes ≤ _; omega, do_fail w B bd bs bm bS s ep A n c N By l hP hB hl hn hnc hcm hep hN hw0 hw⟩
  by_cases k3 : K = 3
  · subst k3
    exact ⟨restart s, (fun h => by cases h), hw0, by show s.writes ≤ _; omega, do_restart w B bd bs bm bS s ep A n c N By l hP hB hl hn hnc hcm hep hN hw0 hw⟩
  by_cases k4 : K = 4
  · subst k4
    have h := wr_writes s N (pad (l.take 64)) hw0
    exact ⟨_, calm_wr hc, h.1, by omega, do_sector w B bd bs bm bS s ep A n c N By l hP hB hl hn hnc hcm hep hN hw0 hw⟩
  · exact ⟨s, hc, hw0, by omega, do_read w B bd bs bm bS s K ep A n c N By l hP hB hl hn hnc hcm hep hN hw0 hw hK (by simpa using k0) (by simpa using k1) (by simpa using k2) (by simpa using k3) (by simpa using k4)⟩

structure ActO where
  kind : Int
  ep : Nat
  n : Int
  by_ : Int
  data : List UInt8
/-- Acts behind an address, below block B. -/
def ActsAt (w : World) (B : Nat) (A : Option Addr) (acts : List ActO) : Prop :=
  ∀ i o, acts[i]? = some o → ((0 ≤ o.kind ∧ o.kind < 256) ∧ o.ep < 4294967296 ∧ (-9223372036854775808 ≤ o.n ∧ o.n ≤ 9223372036854775807)) ∧ ∃ g off Ad cd, A = some ⟨g, off, none⟩ ∧ g < B ∧ w.cell? ⟨g, off + i * 5, none⟩ = some (.int .u8 o.kind) ∧ w.cell? ⟨g, off + i * 5 + 1, none⟩ = some (.int .u32 o.ep) ∧
    w.cell? ⟨g, off + i * 5 + 2, none⟩ = some (.slice Ad o.data.length cd) ∧ w.cell? ⟨g, off + i * 5 + 3, none⟩ = some (.int .i64 o.n) ∧ w.cell? ⟨g, off + i * 5 + 4, none⟩ = some (.int .i64 o.by_) ∧ o.data.length ≤ cd ∧ cd ≤ maxLen ∧ BtsB B w Ad o.data
theorem ActsAt.keep {w w' : World} {B : Nat} {A : Option Addr} {acts : List ActO} {X : List Nat} (h : ActsAt w B A acts) (hk : Keeps X w w') (hX : ∀ x ∈ X, B ≤ x) : ActsAt w' B A acts := by
  intro i o ho
  obtain ⟨hf, g, off, Ad, cd, rfl, hg, h0, h1, h2, h3, h4, h5, h6, h7⟩ := h i o ho
  have hx : g ∉ X := fun hx => by have := hX g hx; omega
  exact ⟨hf, g, off, Ad, cd, rfl, hg, hk.cellEq h0 hx, hk.cellEq h1 hx, hk.cellEq h2 hx, hk.cellEq h3 hx, hk.cellEq h4 hx, h5, h6, h7.keep hk hX⟩

set_option maxHeartbeats 3200000 in
set_option maxRecDepth 100000 in
theorem law_matches (w : World) (S : Int) (hS : 0 ≤ S ∧ S < 256) (A : Option Addr) (n c : Nat) (acts : List ActO) (hl : acts.length = n) (hnc : n ≤ c) (hcm : c ≤ maxLen) (hA : ActsAt w w.heap.size A acts) :
    Calls Try.prog 8 #[.int .u8 S, .slice A n c] w fun e w' => e = .returned (.bool true) ∧ Keeps [] w w' := by
  have HA := Lib.hid (fun w' => awake_any w')
  replace hA := Lib.hid hA
  replace hl := Lib.hid hl
  replace hcm := Lib.hid hcm
  by_cases hbad : S < 1 ∨ 30 < S ∨ 12 < (n : Int)
  · rcases hbad with h | h | h
    · have hb := decide_eq_true h
      go_enter Try.func8, Try.ntmps8
      go_wp2_with fail
      refine (HA.out w).mono ?_
      rintro e w1 ⟨rfl, k1⟩
      go_wp2_with fail
      refine (HA.out w1).mono ?_
      rintro e w2 ⟨rfl, k2⟩
      go_wp2_with fail
      go_ret
      exact ⟨rfl, k1.trans k2⟩
    · have hb := decide_eq_true h
      have hb1 : decide (S < 1) = false := decide_eq_false (by omega)
      go_enter Try.func8, Try.ntmps8
      go_wp2_with fail
      refine (HA.out w).mono ?_
      rintro e w1 ⟨rfl, k1⟩
      go_wp2_with fail
      refine (HA.out w1).mono ?_
      rintro e w2 ⟨rfl, k2⟩
      go_wp2_with fail
      go_ret
      exact ⟨rfl, k1.trans k2⟩
    · by_cases h1 : S < 1
      · have hb1 := decide_eq_true h1
        go_enter Try.func8, Try.ntmps8
        go_wp2_with fail
        refine (HA.out w).mono ?_
        rintro e w1 ⟨rfl, k1⟩
        go_wp2_with fail
        refine (HA.out w1).mono ?_
        rintro e w2 ⟨rfl, k2⟩
        go_wp2_with fail
        go_ret
        exact ⟨rfl, k1.trans k2⟩
      by_cases h2 : 30 < S
      · have hb := decide_eq_true h2
        have hb1 : decide (S < 1) = false := decide_eq_false (by omega)
        go_enter Try.func8, Try.ntmps8
        go_wp2_with fail
        refine (HA.out w).mono ?_
        rintro e w1 ⟨rfl, k1⟩
        go_wp2_with fail
        refine (HA.out w1).mono ?_
        rintro e w2 ⟨rfl, k2⟩
        go_wp2_with fail
        go_ret
        exact ⟨rfl, k1.trans k2⟩
      have hb1 := decide_eq_false h1
      have hb2 := decide_eq_false h2
      have hb3 := decide_eq_true h
      go_enter Try.func8, Try.ntmps8
      go_wp2_with fail
      refine (HA.out w).mono ?_
      rintro e w1 ⟨rfl, k1⟩
      go_wp2_with fail
      refine (HA.out w1).mono ?_
      rintro e w2 ⟨rfl, k2⟩
      go_wp2_with fail
      go_ret
      exact ⟨rfl, k1.trans k2⟩
  obtain ⟨m, rfl⟩ : ∃ m : Nat, S = m := ⟨S.toNat, by omega⟩
  have hm1 : 1 ≤ m := by omega
  have hm30 : m ≤ 30 := by omega
  have hn12 : n ≤ 12 := by omega
  have d1 : decide ((m : Int) < 1) = false := decide_eq_false (by omega)
  have d2 : decide (30 < (m : Int)) = false := decide_eq_false (by omega)
  have d3 : decide (12 < (n : Int)) = false := decide_eq_false (by omega)
  have d1n : ¬ (m : Int) < 1 := by omega
  clear hbad
  go_enter Try.func8, Try.ntmps8
  go_wp2_with fail
  refine (HA.out w).mono ?_
  rintro e w1 ⟨rfl, k1⟩
  have K1 := Lib.hid k1
  have hA1 := Lib.hid (hA.out.keep k1 (by simp))
  clear k1 HA
  go_wp2_with fail
  clear d1 d2 d3
  go_loopw [31] (fun i wr => ∃ k : Nat, k ≤ n ∧ i = .int .i64 k ∧ Hid (Keeps [] w1 wr) ∧ Hid (∀ (j : Nat) (o : ActO), j < k → acts[j]? = some o → o.data.length ≤ 600)) (fun i _ => n - (intOf i).toNat)
  case atStart => exact ⟨0, Nat.zero_le _, rfl, Lib.hid (Keeps.refl _ _), Lib.hid (fun j o hj => absurd hj (Nat.not_lt_zero _))⟩
  case round =>
    obtain ⟨k, hk, rfl, hkw, hall⟩ := hrel
    by_cases hlt : k < n
    · obtain ⟨⟨K, ep, N, By, l⟩, ho⟩ : ∃ o, acts[k]? = some o := ⟨acts[k]'(by rw [hl.out]; exact hlt), List.getElem?_eq_getElem _⟩
      obtain ⟨_, g, off, Ad, cd, rfl, _, c0, c1, c2, c3, c4, _, _, _⟩ := (hA1.out.keep hkw.out (by simp)) k _ ho
      dsimp only at c0 c1 c2 c3 c4
      replace ho := Lib.hid ho
      obtain ⟨ln, hln⟩ : ∃ ln, l.length = ln := ⟨_, rfl⟩
      rw [hln] at c2
      have hkl : (k : Int) < (n : Int) := by omega
      by_cases hbig : 600 < (ln : Int)
      · have hb := decide_eq_true hbig
        have KF := Lib.hid (K1.out.trans (hkw.out.alloc (.cells #[.int .u8 K, .int .u32 ep, .slice Ad ln cd, .int .i64 N, .int .i64 By] 54)))
        replace hln := Lib.hid hln
        go_wp2_with fail
        go_ret
        exact ⟨rfl, KF.out⟩
      · have hb := decide_eq_false hbig
        have hall2 : Hid (∀ (j : Nat) (o : ActO), j < k + 1 → acts[j]? = some o → o.data.length ≤ 600) := Lib.hid (fun j o hj hjo => by
          rcases Nat.lt_or_ge j k with h | h
          · exact hall.out j o h hjo
          · obtain rfl : j = k := by omega
            rw [ho.out] at hjo
            cases hjo
            show l.length ≤ 600
            omega)
        have hk2 := Lib.hid (hkw.out.alloc (.cells #[.int .u8 K, .int .u32 ep, .slice Ad ln cd, .int .i64 N, .int .i64 By] 54))
        replace hln := Lib.hid hln
        go_wp2_with fail
        go_roundw
        case rel => exact ⟨k + 1, by omega, by go_num, hk2, hall2⟩
        case measure => simp [intOf]; omega
    · obtain rfl : k = n := by omega
      have hA2 := Lib.hid (hA1.out.keep hkw.out (by simp))
      have K2 := Lib.hid (K1.out.trans hkw.out)
      have HN := Lib.hid (new_ok wr m hm1 (by omega))
      have hklf : ¬ (k : Int) < (k : Int) := by omega
      clear hA1 hkw K1
      go_wp2_with fail
      refine HN.out.mono ?_
      rintro e w3 ⟨bd, bs, rfl, hD, hbd, hbs, k3⟩
      have HM := Lib.hid (rnew_ok w3 m hm1 (by omega))
      have hD3 := Lib.hid hD
      have K3 := Lib.hid (K2.out.trans k3)
      have hB3 : Hid (w.heap.size ≤ bd ∧ w.heap.size ≤ bs) := Lib.hid (by have := K2.out.size; omega)
      have hA3 := Lib.hid (hA2.out.keep k3 (by simp))
      clear HN hD hbd hbs k3 K2 hA2
      go_wp2_with fail
      refine HM.out.mono ?_
      rintro e w4 ⟨bm, bS, rfl, hM, hbm, hbS, k4⟩
      have hP : Hid (Pair w4 w.heap.size bd bs bm bS (st0 m)) := Lib.hid ⟨hD3.out.keep k4 (by simp) (by simp), hM, hB3.out.1, hB3.out.2, by have := K3.out.size; omega, by have := K3.out.size; omega⟩
      have K4 := Lib.hid (K3.out.trans k4)
      have hA4 := Lib.hid (hA3.out.keep k4 (by simp))
      have hXX : Hid (∀ x ∈ [bd, bs, bm, bS], w.heap.size ≤ x) := Lib.hid (by
        have := hP.out
        intro x hx
        simp at hx
        rcases hx with rfl | rfl | rfl | rfl
        · exact this.ld
        · exact this.ls
        · exact this.lm
        · exact this.lS)
      clear HM hD3 hM hbm hbS k4 K3 hA3
      go_wp2_with fail
      go_loopw [56] (fun i wr => ∃ (j : Nat) (s : St), j ≤ k ∧ i = .int .i64 j ∧ Hid (Pair wr w.heap.size bd bs bm bS s) ∧ Hid (Calm s ∧ 0 ≤ s.writes ∧ s.writes ≤ 12 * (j : Int)) ∧ Hid (Keeps [bd, bs, bm, bS] w4 wr)) (fun i _ => k - (intOf i).toNat)
      case atStart => exact ⟨0, st0 m, Nat.zero_le _, rfl, hP, Lib.hid ⟨(fun h => by cases h), Int.le_refl _, Int.le_refl _⟩, Lib.hid (Keeps.refl _ _)⟩
      case round =>
        obtain ⟨j, s, hj, rfl, hPr, hcs, hkw⟩ := hrel
        by_cases hlt : j < k
        · obtain ⟨⟨K, ep, N, By, l⟩, ho⟩ : ∃ o, acts[j]? = some o := ⟨acts[j]'(by rw [hl.out]; exact hlt), List.getElem?_eq_getElem _⟩
          obtain ⟨⟨hf0, hf1, hf2⟩, g, off, Ad, cd, rfl, _, c0, c1, c2, c3, c4, hlc, hcd, hdat⟩ := (hA4.out.keep hkw.out hXX.out) j _ ho
          dsimp only at c0 c1 c2 c3 c4 hf0 hf1 hf2 hlc hdat
          have h600 := hall.out j _ hlt ho
          dsimp only at h600
          obtain ⟨ln, hln⟩ : ∃ ln, l.length = ln := ⟨_, rfl⟩
          rw [hln] at c2 hlc h600
          have hkl : (j : Int) < (k : Int) := by omega
          have ka : Keeps [] wr (wr.alloc (.cells #[.int .u8 K, .int .u32 ep, .slice Ad ln cd, .int .i64 N, .int .i64 By] 54)) := (Keeps.refl [] wr).alloc _
          obtain ⟨s2, hc2, hw0, hw2, HDo⟩ := do_any (wr.alloc (.cells #[.int .u8 K, .int .u32 ep, .slice Ad ln cd, .int .i64 N, .int .i64 By] 54)) w.heap.size bd bs bm bS s K ep Ad ln cd N By l hf0 (hPr.out.keep ka) (hdat.keep ka (by simp)) hln h600 hlc hcd hf1 hf2 hcs.out.2.1 (by have := hcs.out.2.2; omega) hcs.out.1
          have hcs2 : Hid (Calm s2 ∧ 0 ≤ s2.writes ∧ s2.writes ≤ 12 * (((j + 1 : Nat)) : Int)) := Lib.hid ⟨hc2, hw0, by have := hcs.out.2.2; omega⟩
          have hka := Lib.hid (hkw.out.alloc (.cells #[.int .u8 K, .int .u32 ep, .slice Ad ln cd, .int .i64 N, .int .i64 By] 54))
          replace HDo := Lib.hid HDo
          replace ho := Lib.hid ho
          replace hln := Lib.hid hln
          clear ka hc2 hw0 hw2 hdat
          go_wp2_with fail
          refine HDo.out.mono ?_
          rintro e wb ⟨rfl, hPb, kb⟩
          have HSm := Lib.hid (same_any wb bd bs bm bS s2 hPb.D hPb.M hcs2.out.1)
          have hkb := Lib.hid (hka.out.trans kb)
          have hl4 := Lib.hid (And.intro hPb.ld (And.intro hPb.ls (And.intro hPb.lm hPb.lS)))
          clear HDo kb hka c0 c1 c2 c3 c4 hPb
          go_wp2_with fail
          refine HSm.out.mono ?_
          rintro e wc ⟨rfl, hDc, hMc, kc⟩
          have hPc : Hid (Pair wc w.heap.size bd bs bm bS s2) := Lib.hid ⟨hDc, hMc, hl4.out.1, hl4.out.2.1, hl4.out.2.2.1, hl4.out.2.2.2⟩
          have hkc := Lib.hid (hkb.out.trans (kc.mono (fun x hx => .inl (by simp at hx ⊢; omega))))
          clear HSm kc hDc hMc
          go_wp2_with fail
          go_roundw
          case rel => exact ⟨j + 1, s2, by omega, by go_num, hPc, hcs2, hkc⟩
          case measure => simp [intOf]; omega
        · obtain rfl : j = k := by omega
          obtain ⟨s2, _, _, _, HDo⟩ := do_any wr w.heap.size bd bs bm bS s 9 0 none 0 0 0 0 [] (by omega) hPr.out ⟨.inl rfl, fun h => absurd rfl h⟩ rfl (by omega) (Nat.le_refl _) (by simp [maxLen]) (by omega) (by omega) hcs.out.2.1 (by have := hcs.out.2.2; omega) hcs.out.1
          replace HDo := Lib.hid HDo
          go_wp2_with fail
          refine HDo.out.mono ?_
          rintro e wb ⟨rfl, hPb, kb⟩
          have KF : Hid (Keeps [] w wb) := Lib.hid ((K4.out.nil.trans (hkw.out.trans kb)).mono (fun x hx => .inr (hXX.out x hx)))
          clear HDo kb hPb
          go_wp2_with fail
          go_ret
          exact ⟨rfl, KF.out⟩
end Go.Proofs.Ytoefbjeclghfhaa
