/- The walk of the statement UndologNested. -/
import Derived.Test.YtmclfbhcddcebaaLawUndo
import Derived.Test.YtmclfbhcddcebaaU31
namespace Go.Proofs.Ytmclfbhcddcebaa
open Go.RowKit Go.Shelf
set_option linter.unusedSimpArgs false
set_option linter.unusedVariables false

/-- The log ahead of part k. -/
def lsN (l0 l1 l2 : List Oo) : Nat → List Chg
  | 0 => []
  | 1 => addsTo [] l0
  | 2 => addsTo (addsTo [] l0) l1
  | _ => addsTo (addsTo (addsTo [] l0) l1) l2
/-- The savepoints ahead of part k. -/
def ssN (l0 l1 l2 : List Oo) : Nat → List Pnt
  | 0 => []
  | 1 => [] ++ [(⟨#[102, 105, 114, 115, 116]⟩, (addsTo [] l0).length)]
  | _ => [] ++ [(⟨#[102, 105, 114, 115, 116]⟩, (addsTo [] l0).length)] ++ [(⟨#[115, 101, 99, 111, 110, 100]⟩, (addsTo (addsTo [] l0) l1).length)]
theorem lsN_len {l0 l1 l2 : List Oo} (h0 : fewB l0 = true) (h1 : fewB l1 = true) (h2 : fewB l2 = true) : ∀ k, (lsN l0 l1 l2 k).length ≤ 180
  | 0 => by simp [lsN]
  | 1 => by have a := addsTo_len [] l0; have := (few_len h0).1; simp at a; show (addsTo [] l0).length ≤ 180; omega
  | 2 => by have a := addsTo_len [] l0; have b := addsTo_len (addsTo [] l0) l1; have := (few_len h0).1; have := (few_len h1).1; simp at a; show (addsTo (addsTo [] l0) l1).length ≤ 180; omega
  | k + 3 => by have a := addsTo_len [] l0; have b := addsTo_len (addsTo [] l0) l1; have c := addsTo_len (addsTo (addsTo [] l0) l1) l2; have := (few_len h0).1; have := (few_len h1).1; have := (few_len h2).1; simp at a; show (addsTo (addsTo (addsTo [] l0) l1) l2).length ≤ 180; omega
theorem ssN_find (l0 l1 l2 : List Oo) : findI (ssN l0 l1 l2 0) ⟨#[102, 105, 114, 115, 116]⟩ = -1 ∧ findI (ssN l0 l1 l2 1) ⟨#[115, 101, 99, 111, 110, 100]⟩ = -1 ∧ findI (ssN l0 l1 l2 3) ⟨#[102, 105, 114, 115, 116]⟩ = 0 ∧ findI (ssN l0 l1 l2 3) ⟨#[115, 101, 99, 111, 110, 100]⟩ = 1 ∧ findI ((ssN l0 l1 l2 3).take 1) ⟨#[102, 105, 114, 115, 116]⟩ = 0 ∧ findI ((ssN l0 l1 l2 3).take 2) ⟨#[102, 105, 114, 115, 116]⟩ = 0 := by
  have hne : ¬ ((⟨#[102, 105, 114, 115, 116]⟩ : ByteArray) = ⟨#[115, 101, 99, 111, 110, 100]⟩) := by decide
  refine ⟨findI_none (by simp [ssN]), findI_none (by simp [ssN]), ?_, ?_, ?_, ?_⟩
  · exact findI_at (k := 0) (p := (⟨#[102, 105, 114, 115, 116]⟩, _)) (by simp) rfl rfl
  · exact findI_at (k := 1) (p := (⟨#[115, 101, 99, 111, 110, 100]⟩, _)) (by simp [ssN]) rfl rfl
  · exact findI_at (k := 0) (p := (⟨#[102, 105, 114, 115, 116]⟩, _)) (by simp) rfl rfl
  · exact findI_at (k := 0) (p := (⟨#[102, 105, 114, 115, 116]⟩, _)) (by simp) rfl rfl
theorem ssN_small (l0 l1 l2 : List Oo) : ∀ k, (ssN l0 l1 l2 k).length ≤ 1000000
  | 0 => by simp [ssN]
  | 1 => by simp [ssN]
  | k + 2 => by simp [ssN]
/-- Save of a new name. -/
theorem save_at {nm : ByteArray} (b : Nat) (w : World) (X F : List Nat) (gl : Nat) (L : List Chg) (S : List Pnt) (h : PLog b w X F gl L S) (hf : findI S nm = -1) (hn : ¬ nm = ⟨#[]⟩) (hS : S.length ≤ 1000000) :
    Calls Try.prog 22 #[.pointer (some ⟨gl, 0, none⟩), .string nm] w fun e w' => ∃ F', e = .returned (.int .i64 0) ∧ Hid (PLog b w' (F' ++ X) F' gl L (S ++ [(nm, L.length)])) ∧ Hid (Turn F F' w w') := by
  refine (save_log b w X F gl L S nm h hS).mono ?_
  rintro e w' ⟨F', rfl, h1, h2⟩
  rw [if_neg hn] at h1 ⊢
  have : saveS S nm L.length = S ++ [(nm, L.length)] := by unfold saveS; rw [hf]; rfl
  rw [this] at h1
  exact ⟨F', rfl, h1, h2⟩
/-- Back to a name that is there. -/
theorem back_at {nm : ByteArray} (b : Nat) (w : World) (X F : List Nat) (gl : Nat) (L : List Chg) (S : List Pnt) (i m : Nat) (h : PLog b w X F gl L S) (hf : findI S nm = (i : Int)) (hm : markAt S i = m) (hmk : ∀ p ∈ S, p.2 ≤ L.length) (hL : L.length ≤ 1000000) (hS : S.length ≤ 1000000) :
    Calls Try.prog 24 #[.pointer (some ⟨gl, 0, none⟩), .string nm] w (CutL 64 82 b w X F gl (L.take m) (S.take (i + 1)) ((L.drop m).reverse.map inv) 0) := by
  have := back_log b w X F gl L S nm h hmk hL hS
  have hn : ¬ ((i : Int) < 0) := by omega
  unfold BackL at this
  simp only [hf, hn, if_false, Int.toNat_natCast, hm] at this
  exact this
/-- Release of a name that is there. -/
theorem release_at {nm : ByteArray} (b : Nat) (w : World) (X F : List Nat) (gl : Nat) (L : List Chg) (S : List Pnt) (i : Nat) (h : PLog b w X F gl L S) (hf : findI S nm = (i : Int)) (hS : S.length ≤ 1000000) :
    Calls Try.prog 23 #[.pointer (some ⟨gl, 0, none⟩), .string nm] w fun e w' => e = .returned (.int .i64 0) ∧ Hid (PLog b w' X F gl L (S.take i)) ∧ Hid (Keeps F w w') := by
  have := release_log b w X F gl L S nm h hS
  have hn : ¬ ((i : Int) < 0) := by omega
  unfold RelL at this
  simp only [hf, hn, if_false, Int.toNat_natCast] at this
  exact this

theorem own_zero {w : World} {b : Nat} {e : TypeId} {sz m : Nat} {v : Value} {xs ys : List Value} (h : Hid (w.ownsRow b e sz v (0 + m) ([] ++ xs))) (hy : Hid (ys = [])) : Hid (w.ownsRow b e sz v m (ys ++ xs)) := Lib.hid (by
  have h1 := h.out
  have h2 := hy.out
  subst h2
  rw [Nat.zero_add] at h1
  exact h1)
def NetO (w : World) (L : List Chg) (e : Ending) (w' : World) : Prop := ∃ A c, e = .returned (.slice A (netOut L).length c) ∧ Hid (ChsAt w' [] A (netOut L)) ∧ Hid (Keeps [] w w')
theorem net_o (b : Nat) (w : World) (X F : List Nat) (gl : Nat) (L : List Chg) (S : List Pnt) (h : PLog b w X F gl L S) (hL : L.length ≤ 1000000) : Calls Try.prog 15 #[.pointer (some ⟨gl, 0, none⟩)] w (NetO w L) := by
  refine (net_log b w X F gl L S h hL).mono ?_
  rintro e w' ⟨A, c, P, M, hPM, hM, rfl, hN⟩
  have hMo := netIs_out hM
  have hch := hN.chs
  rw [hPM, hMo] at hch
  have hl : P.length = (netOut L).length := by rw [← hMo, ← hPM, List.length_map]
  exact ⟨A, c, by rw [hl], Lib.hid hch, Lib.hid hN.kp⟩
theorem netOut_small {L : List Chg} (h : ∀ c ∈ L, Small c) : ∀ c ∈ netOut L, Small c := fun c hc => by
  have := (netOut_is L).1.mem_iff.1 hc
  exact small_net h c (List.mem_filter.1 this).1
theorem netOut_len (L : List Chg) : (netOut L).length ≤ L.length := by
  rw [(netOut_is L).1.length_eq]
  exact Nat.le_trans (List.length_filter_le _ _) (net_le L)

set_option maxRecDepth 100000 in
set_option maxHeartbeats 32000000 in
theorem law_nested (w : World) (A0 A1 A2 : Option Addr) (c0 c1 c2 : Nat) (l0 l1 l2 : List Oo) (rel : Bool) (h10 : l0.length ≤ c0) (h20 : c0 ≤ maxLen) (h30 : OpsAt w [] A0 l0) (h40 : ∀ o ∈ l0, wfC o.c ∧ (Lit.int .i64 o.n).wf = true) (h11 : l1.length ≤ c1) (h21 : c1 ≤ maxLen) (h31 : OpsAt w [] A1 l1) (h41 : ∀ o ∈ l1, wfC o.c ∧ (Lit.int .i64 o.n).wf = true)
    (h12 : l2.length ≤ c2) (h22 : c2 ≤ maxLen) (h32 : OpsAt w [] A2 l2) (h42 : ∀ o ∈ l2, wfC o.c ∧ (Lit.int .i64 o.n).wf = true) :
    Calls Try.prog 6 #[.agg #[.slice A0 l0.length c0, .slice A1 l1.length c1, .slice A2 l2.length c2], .bool rel] w fun e w' => e = .returned (.bool true) ∧ Keeps [] w w' := by
  have hF0 := Lib.hid (fun (w1 : World) (k : Keeps [] w w1) => few_any w1 [] A0 l0 _ c0 rfl (h30.keep k (by simp)) (by omega))
  have hF1 := Lib.hid (fun (w1 : World) (k : Keeps [] w w1) => few_any w1 [] A1 l1 _ c1 rfl (h31.keep k (by simp)) (by omega))
  have hF2 := Lib.hid (fun (w1 : World) (k : Keeps [] w w1) => few_any w1 [] A2 l2 _ c2 rfl (h32.keep k (by simp)) (by omega))
  replace h40 := Lib.hid h40
  replace h41 := Lib.hid h41
  replace h42 := Lib.hid h42
  have hOp := Lib.hid (And.intro h30 (And.intro h31 h32))
  clear h10 h20 h30 h11 h21 h31 h12 h22 h32
  have k0 : Hid (Keeps [] w (w.alloc (.cells #[.slice A0 l0.length c0, .slice A1 l1.length c1, .slice A2 l2.length c2] 50))) := Lib.hid ((Keeps.refl [] w).alloc _)
  have BX := Lib.hid (Blk.new w 50 #[.slice A0 l0.length c0, .slice A1 l1.length c1, .slice A2 l2.length c2])
  obtain ⟨gx, hgx⟩ : ∃ g, g = w.heap.size := ⟨_, rfl⟩
  go_enter Try.func6, Try.ntmps6
  go_wp2_with fail
  refine (awake_any _).mono ?_
  rintro e w1 ⟨rfl, k1⟩
  have kk := Lib.hid (k0.out.trans k1)
  have BX1 := BX.out.keep k1 (by simp)
  rw [← hgx] at BX1 ⊢
  have x0 := BX1.cell 0
  have x1 := BX1.cell 1
  have x2 := BX1.cell 2
  replace hF0 := Lib.hid (hF0.out w1 kk.out)
  replace BX1 := Lib.hid BX1
  replace hgx := Lib.hid hgx
  clear k0 k1 BX
  cases hf0 : fewB l0
  · rw [hf0] at hF0
    clear hf0
    go_wp2_with fail
    refine hF0.out.mono ?_
    rintro e w2 ⟨rfl, k2⟩
    replace kk := Lib.hid (kk.out.trans k2)
    clear hF0 k2 x0 x1 x2
    go_wp2_with fail
    refine (awake_any w2).mono ?_
    rintro e w9 ⟨rfl, k9⟩
    replace kk := Lib.hid (kk.out.trans k9)
    clear k9
    go_wp2_with fail
    go_ret
    exact ⟨rfl, kk.out⟩
  · rw [hf0] at hF0
    replace hf0 := Lib.hid hf0
    go_wp2_with fail
    refine hF0.out.mono ?_
    rintro e w2 ⟨rfl, k2⟩
    replace kk := Lib.hid (kk.out.trans k2)
    replace BX1 := Lib.hid (BX1.out.keep k2 (by simp))
    clear x0 x1 x2
    have x0 := BX1.out.cell 0
    have x1 := BX1.out.cell 1
    have x2 := BX1.out.cell 2
    replace hF1 := Lib.hid (hF1.out w2 kk.out)
    clear hF0 k2
    cases hf1 : fewB l1
    · rw [hf1] at hF1
      clear hf1
      go_wp2_with fail
      refine hF1.out.mono ?_
      rintro e w2 ⟨rfl, k2⟩
      replace kk := Lib.hid (kk.out.trans k2)
      clear hF1 k2 x0 x1 x2
      go_wp2_with fail
      refine (awake_any w2).mono ?_
      rintro e w9 ⟨rfl, k9⟩
      replace kk := Lib.hid (kk.out.trans k9)
      clear k9
      go_wp2_with fail
      go_ret
      exact ⟨rfl, kk.out⟩
    · rw [hf1] at hF1
      replace hf1 := Lib.hid hf1
      go_wp2_with fail
      refine hF1.out.mono ?_
      rintro e w2 ⟨rfl, k2⟩
      replace kk := Lib.hid (kk.out.trans k2)
      replace BX1 := Lib.hid (BX1.out.keep k2 (by simp))
      clear x0 x1 x2
      have x0 := BX1.out.cell 0
      have x1 := BX1.out.cell 1
      have x2 := BX1.out.cell 2
      replace hF2 := Lib.hid (hF2.out w2 kk.out)
      clear hF1 k2
      cases hf2 : fewB l2
      · rw [hf2] at hF2
        clear hf2
        go_wp2_with fail
        refine hF2.out.mono ?_
        rintro e w2 ⟨rfl, k2⟩
        replace kk := Lib.hid (kk.out.trans k2)
        clear hF2 k2 x0 x1 x2
        go_wp2_with fail
        refine (awake_any w2).mono ?_
        rintro e w9 ⟨rfl, k9⟩
        replace kk := Lib.hid (kk.out.trans k9)
        clear k9
        go_wp2_with fail
        go_ret
        exact ⟨rfl, kk.out⟩
      · rw [hf2] at hF2
        replace hf2 := Lib.hid hf2
        go_wp2_with fail
        refine hF2.out.mono ?_
        rintro e w2 ⟨rfl, k2⟩
        replace kk := Lib.hid (kk.out.trans k2)
        replace BX1 := Lib.hid (BX1.out.keep k2 (by simp))
        clear x0 x1 x2 hF2 k2
        go_wp2_with fail
        refine (new_any w2).mono ?_
        rintro e w3 ⟨rfl, rfl⟩
        go_wp2_with fail
        refine (new_any _).mono ?_
        rintro e w4 ⟨rfl, rfl⟩
        have hD0 := Lib.hid (Duo.new_ 64 82 64 82 w2 (GLog.new_ 64 82 w2.heap.size w2 (Nat.le_refl _) [] (by simp)))
        have hO0 := Lib.hid (hOp.out.1.keep kk.out (by simp))
        have hO1 := Lib.hid (hOp.out.2.1.keep kk.out (by simp))
        have hO2 := Lib.hid (hOp.out.2.2.keep kk.out (by simp))
        obtain ⟨g1, hg1⟩ : ∃ g, g = w2.heap.size := ⟨_, rfl⟩
        obtain ⟨g2, hg2⟩ : ∃ g, g = w2.heap.size + 1 := ⟨_, rfl⟩
        have hk0 : Hid (Keeps [] w2 ((w2.alloc (.cells #[.slice none 0 0, .slice none 0 0] 64)).alloc (.cells #[.slice none 0 0, .slice none 0 0] 64))) := Lib.hid (((Keeps.refl [] w2).alloc _).alloc _)
        have hgs : (w2.alloc (.cells #[.slice none 0 0, .slice none 0 0] 64)).heap.size = g2 := by rw [hg2]; simp
        have BX4 := BX1.out.keep hk0.out (by simp)
        have x0 := BX4.cell 0
        have x1 := BX4.cell 1
        have x2 := BX4.cell 2
        rw [hgs, ← hg1]
        rw [← hg2, ← hg1] at hD0
        replace hD0 : Hid (Duo 64 82 64 82 w2.heap.size _ _ _ _ g1 g2 [] [] [] []) := Lib.hid (by rw [← hg1]; exact hD0.out)
        replace hg1 := Lib.hid hg1
        replace hg2 := Lib.hid hg2
        replace hgs := Lib.hid hgs
        generalize (w2.alloc (.cells #[.slice none 0 0, .slice none 0 0] 64)).alloc (.cells #[.slice none 0 0, .slice none 0 0] 64) = w4 at *
        clear hgs hg1 hg2 hOp BX1 BX4 hgx
        go_wp2_with fail
        clear x0 x1 x2
        go_loopw [48] (fun i wr => ∃ (k : Nat) (X F1 F2 : List Nat), k ≤ 3 ∧ i = .int .i64 k ∧ Hid (Duo 64 82 64 82 w2.heap.size wr X F1 F2 g1 g2 (lsN l0 l1 l2 k) (lsN l0 l1 l2 k) (ssN l0 l1 l2 k) (ssN l0 l1 l2 k)) ∧ Hid (Keeps [] w2 wr)) (fun i _ => 3 - (intOf i).toNat)
        case atStart => exact ⟨0, _, _, _, by omega, rfl, hD0, hk0⟩
        case round =>
          obtain ⟨k, X, F1, F2, hk, rfl, hD, hkw⟩ := hrel
          clear hD0 hk0
          obtain ⟨wq, hwq⟩ : ∃ x, x = wr := ⟨_, rfl⟩
          subst hwq
          rcases (by omega : k = 0 ∨ k = 1 ∨ k = 2 ∨ k = 3) with rfl | rfl | rfl | rfl
          · clear hk
            rw [show ((0 : Nat) : Int) = (0 : Int) from rfl]
            obtain ⟨L0, hL0⟩ : ∃ L, L = lsN l0 l1 l2 0 := ⟨_, rfl⟩
            obtain ⟨S, hS0⟩ : ∃ L, L = ssN l0 l1 l2 0 := ⟨_, rfl⟩
            rw [← hL0, ← hS0] at hD
            have hL0n : Hid (L0.length ≤ 180) := Lib.hid (by rw [hL0]; exact lsN_len hf0.out hf1.out hf2.out 0)
            replace hL0 := Lib.hid hL0
            replace hS0 := Lib.hid hS0
            obtain ⟨n, hn⟩ : ∃ n, n = l0.length := ⟨_, rfl⟩
            rw [← hn]
            have hn60 : n ≤ 60 := by have := (few_len hf0.out).1; omega
            replace hn := Lib.hid hn
            have hix : ∀ w', (Instr.index 50 (.agg #[.slice A0 n c0, .slice A1 l1.length c1, .slice A2 l2.length c2]) (.int .i64 0)).run Try.prog w' = .ok (.slice A0 n c0) w' := fun w' => by simp [Instr.index, go_sem]
            go_wp2_with fail
            clear hix
            go_loopw [54] (fun i wr => ∃ (k : Nat) (X F1 F2 : List Nat), k ≤ n ∧ i = .int .i64 k ∧ Hid (Duo 64 82 64 82 w2.heap.size wr X F1 F2 g1 g2 (addsTo L0 (l0.take k)) (addsTo L0 (l0.take k)) S S) ∧ Hid (Keeps [] w2 wr)) (fun i _ => n - (intOf i).toNat)
            case atStart => exact ⟨0, _, _, _, Nat.zero_le _, rfl, hD, hkw⟩
            case round =>
              clear hD hkw
              obtain ⟨k, X, F1, F2, hk, rfl, hD, hkw⟩ := hrel
              obtain ⟨wq, hwq⟩ : ∃ x, x = wr := ⟨_, rfl⟩
              subst hwq
              have hLl : Hid ((addsTo L0 (l0.take k)).length ≤ 240) := Lib.hid (by have h1 := addsTo_len L0 (l0.take k); have h2 := List.length_take_le k l0; have := hL0n.out; omega)
              by_cases hlt : k < n
              · obtain ⟨⟨ok, oc, os, on⟩, ho⟩ : ∃ o, l0[k]? = some o := ⟨l0[k]'(by rw [← hn.out]; exact hlt), List.getElem?_eq_getElem _⟩
                obtain ⟨g, off, ⟨t, id, Ao, no, co, An, nn, cn⟩, rfl, _, hc, hr⟩ := hO0.out k _ ho
                have z0 := hkw.out.cellEq (hc 0 _ rfl) (by simp)
                have z1 := hkw.out.cellEq (hc 1 _ rfl) (by simp)
                have z2 := hkw.out.cellEq (hc 2 _ rfl) (by simp)
                have z3 := hkw.out.cellEq (hc 3 _ rfl) (by simp)
                have z4 := hkw.out.cellEq (hc 4 _ rfl) (by simp)
                have z5 := hkw.out.cellEq (hc 5 _ rfl) (by simp)
                have z6 := hkw.out.cellEq (hc 6 _ rfl) (by simp)
                rw [Nat.add_zero] at z0
                dsimp only at z0 z1 z2 z3 z4 z5 z6 hr
                have hki : (k : Int) < (n : Int) := by omega
                have hsm : Hid (Small oc) := Lib.hid (fewO_small ((few_len hf0.out).2 _ (List.mem_of_getElem? ho)))
                have hwf : Hid (wfC oc) := Lib.hid (h40.out _ (List.mem_of_getElem? ho)).1
                obtain ⟨L, hL⟩ : ∃ L, L = addsTo L0 (l0.take k) := ⟨_, rfl⟩
                have hLn : Hid (addsTo L0 (l0.take (k + 1)) = if addOk L oc then L ++ [oc] else L) := Lib.hid (by rw [take_snoc ho, addsTo_snoc, ← hL]; rfl)
                rw [← hL] at hD hLl
                replace hL := Lib.hid hL
                have HR : Hid (∀ w' F, Keeps [] w2 w' → (∀ y ∈ F, w2.heap.size ≤ y) → RawIs w' F ⟨t, id, Ao, no, co, An, nn, cn⟩ oc) := Lib.hid (fun w' F hk hF => (hr.other (fun y hy => .inr (hF y hy))).keep hk (by simp))
                have ka : Keeps [] wq (wq.alloc (.cells #[.int .i64 ok, .int .i64 t, .int .i64 id, .slice Ao no co, .slice An nn cn, .string os, .int .i64 on] 37)) := (Keeps.refl [] wq).alloc _
                have hD9 := Lib.hid (hD.out.keep ka)
                have hkw9 := Lib.hid (hkw.out.trans ka)
                have BO := Lib.hid (Blk.new wq 37 #[.int .i64 ok, .int .i64 t, .int .i64 id, .slice Ao no co, .slice An nn cn, .string os, .int .i64 on])
                have hgo1 : Hid (wq.heap.size ∉ F1) := Lib.hid (fun hm => by have := (hD.out.a.lob _ hm).2; omega)
                have hgo2 : Hid (wq.heap.size ∉ F2) := Lib.hid (fun hm => by have := (hD.out.c.lob _ hm).2; omega)
                replace hc := Lib.hid hc
                replace ho := Lib.hid ho
                clear hD hkw ka hr
                go_wp2_with fail
                obtain ⟨go, hgo⟩ : ∃ g, g = wq.heap.size := ⟨_, rfl⟩
                rw [← hgo] at BO hgo1 hgo2 ⊢
                generalize wq.alloc (.cells #[.int .i64 ok, .int .i64 t, .int .i64 id, .slice Ao no co, .slice An nn cn, .string os, .int .i64 on] 37) = wo at *
                clear hgo z0 z1 z2 z3 z4 z5 z6
                have hS : Hid (∀ w', Blk w' go 37 #[.int .i64 ok, .int .i64 t, .int .i64 id, .slice Ao no co, .slice An nn cn, .string os, .int .i64 on] → w'.cell? ⟨go, 1, none⟩ = some (.int .i64 t) ∧ w'.cell? ⟨go, 2, none⟩ = some (.int .i64 id) ∧ w'.cell? ⟨go, 3, none⟩ = some (.slice Ao no co) ∧ w'.cell? ⟨go, 4, none⟩ = some (.slice An nn cn)) := Lib.hid (fun w' hb => ⟨hb.cell 1, hb.cell 2, hb.cell 3, hb.cell 4⟩)
                refine wp_region_I (S := (fun w' : World => w'.cell? ⟨go, 1, none⟩ = some (.int .i64 t) ∧ w'.cell? ⟨go, 2, none⟩ = some (.int .i64 id) ∧ w'.cell? ⟨go, 3, none⟩ = some (.slice Ao no co) ∧ w'.cell? ⟨go, 4, none⟩ = some (.slice An nn cn))) (n := 9) (by kernel_rfl) ?_
                have HS := hS.out _ BO.out.drew
                have BO := Lib.hid BO.out.drew
                have hD := Lib.hid (hD9.out.keep (Keeps.refl [] _).drew)
                have hkw := Lib.hid (hkw9.out.drew)
                have HA := Lib.hid (add_log2 w2.heap.size _ X F1 g1 L S ⟨t, id, Ao, no, co, An, nn, cn⟩ oc hD.out.a (HR.out _ F1 hkw.out (fun y hy => (hD.out.a.lob y hy).1)) hsm.out hwf.out (by have := hLl.out; omega) hD.out.a.bs)
                generalize wo.drew = wc at *
                refine wpAnyI_takeN (i := 0) (v := ?_) (by kernel_rfl) rfl (by kernel_rfl) (by kernel_rfl) (by kernel_rfl) (fun _ _ _ h => h) HS (Or.inl ⟨by rfl, ?_⟩) ?_
                rotate_left
                · (intro w hSw; obtain ⟨y1, y2, y3, y4⟩ := hSw; go_simp; try with_reducible rfl)
                try simp only [Act.put, List.getElem_toArray, List.getElem_cons_succ, List.getElem_cons_zero, List.setIfInBounds_toArray, List.set_cons_zero, List.set_cons_succ]
                refine wpAnyI_takeN (i := 1) (v := ?_) (by kernel_rfl) rfl (by kernel_rfl) (by kernel_rfl) (by kernel_rfl) (fun _ _ _ h => h) HS (Or.inl ⟨by rfl, ?_⟩) ?_
                rotate_left
                · (intro w hSw; obtain ⟨y1, y2, y3, y4⟩ := hSw; go_simp; try with_reducible rfl)
                try simp only [Act.put, List.getElem_toArray, List.getElem_cons_succ, List.getElem_cons_zero, List.setIfInBounds_toArray, List.set_cons_zero, List.set_cons_succ]
                refine wpAnyI_takeN (i := 2) (v := ?_) (by kernel_rfl) rfl (by kernel_rfl) (by kernel_rfl) (by kernel_rfl) (fun _ _ _ h => h) HS (Or.inl ⟨by rfl, ?_⟩) ?_
                rotate_left
                · (intro w hSw; obtain ⟨y1, y2, y3, y4⟩ := hSw; go_simp; try with_reducible rfl)
                try simp only [Act.put, List.getElem_toArray, List.getElem_cons_succ, List.getElem_cons_zero, List.setIfInBounds_toArray, List.set_cons_zero, List.set_cons_succ]
                refine wpAnyI_takeN (i := 4) (v := ?_) (by kernel_rfl) rfl (by kernel_rfl) (by kernel_rfl) (by kernel_rfl) (fun _ _ _ h => h) HS (Or.inl ⟨by rfl, ?_⟩) ?_
                rotate_left
                · (intro w hSw; obtain ⟨y1, y2, y3, y4⟩ := hSw; go_simp; try with_reducible rfl)
                try simp only [Act.put, List.getElem_toArray, List.getElem_cons_succ, List.getElem_cons_zero, List.setIfInBounds_toArray, List.set_cons_zero, List.set_cons_succ]
                refine wpAnyI_takeN (i := 5) (v := ?_) (by kernel_rfl) rfl (by kernel_rfl) (by kernel_rfl) (by kernel_rfl) (fun _ _ _ h => h) HS (Or.inl ⟨by rfl, ?_⟩) ?_
                rotate_left
                · (intro w hSw; obtain ⟨y1, y2, y3, y4⟩ := hSw; go_simp; try with_reducible rfl)
                try simp only [Act.put, List.getElem_toArray, List.getElem_cons_succ, List.getElem_cons_zero, List.setIfInBounds_toArray, List.set_cons_zero, List.set_cons_succ]
                refine wpAnyI_takeN (i := 6) (v := ?_) (by kernel_rfl) rfl (by kernel_rfl) (by kernel_rfl) (by kernel_rfl) (fun _ _ _ h => h) HS (Or.inl ⟨by rfl, ?_⟩) ?_
                rotate_left
                · (intro w hSw; obtain ⟨y1, y2, y3, y4⟩ := hSw; go_simp; try with_reducible rfl)
                try simp only [Act.put, List.getElem_toArray, List.getElem_cons_succ, List.getElem_cons_zero, List.setIfInBounds_toArray, List.set_cons_zero, List.set_cons_succ]
                refine wpAnyI_one (i := 3) rfl (by kernel_rfl) (fun K hK => ?_)
                dsimp only [List.getElem_toArray, List.getElem_cons_succ, List.getElem_cons_zero]
                go_simp
                refine HA.out.mono ?_
                rintro e wA ⟨FA, rfl, pA, tA⟩
                replace BO := Lib.hid (BO.out.keep tA.out.kp hgo1.out)
                have HS := hS.out _ BO.out
                have D2 := Lib.hid (hD.out.left pA.out tA.out)
                have kA : Hid (Keeps [] w2 wA) := Lib.hid (hD.out.base rfl hkw.out tA.out.kp (fun y hy => .inl hy))
                have HB := Lib.hid (add_log2 w2.heap.size wA _ F2 g2 L S ⟨t, id, Ao, no, co, An, nn, cn⟩ oc D2.out.c (HR.out _ F2 kA.out (fun y hy => (D2.out.c.lob y hy).1)) hsm.out hwf.out (by have := hLl.out; omega) D2.out.c.bs)
                refine hK _ _ (Or.inr HS) ?_
                clear hK K pA tA HA
                try simp only [Act.put, List.getElem_toArray, List.getElem_cons_succ, List.getElem_cons_zero, List.setIfInBounds_toArray, List.set_cons_zero, List.set_cons_succ]
                refine wpAnyI_one (i := 7) rfl (by kernel_rfl) (fun K hK => ?_)
                dsimp only [List.getElem_toArray, List.getElem_cons_succ, List.getElem_cons_zero]
                go_simp
                refine HB.out.mono ?_
                rintro e wB ⟨FB, rfl, pB, tB⟩
                replace BO := Lib.hid (BO.out.keep tB.out.kp hgo2.out)
                have HS := hS.out _ BO.out
                have D3 := Lib.hid (D2.out.right pB.out tB.out)
                have kB : Hid (Keeps [] w2 wB) := Lib.hid (D2.out.base rfl kA.out tB.out.kp (fun y hy => .inr hy))
                generalize hec : (if addOk L oc then (0 : Int) else 1) = ec
                refine hK _ _ (Or.inr HS) ?_
                clear hK K pB tB HB hec
                try simp only [Act.put, List.getElem_toArray, List.getElem_cons_succ, List.getElem_cons_zero, List.setIfInBounds_toArray, List.set_cons_zero, List.set_cons_succ]
                refine wpAnyI_one (i := 8) rfl (by kernel_rfl) (fun K hK => ?_)
                dsimp only [List.getElem_toArray, List.getElem_cons_succ, List.getElem_cons_zero]
                go_simp
                refine hK _ _ (Or.inr HS) ?_
                clear hK K
                try simp only [Act.put, List.getElem_toArray, List.getElem_cons_succ, List.getElem_cons_zero, List.setIfInBounds_toArray, List.set_cons_zero, List.set_cons_succ]
                refine wpAnyI_done (by kernel_rfl) ?_ _
                clear HS hS BO D2 hD kA
                go_wp2_with fail
                go_roundw
                case rel => exact ⟨k + 1, _, _, _, by omega, by go_num, by rw [hLn.out]; exact D3, kB⟩
                case measure => simp [intOf]; omega
              · obtain rfl : k = n := by omega
                have hjf : ¬ (k : Int) < (k : Int) := by omega
                have hLe : addsTo L0 (l0.take k) = lsN l0 l1 l2 (0 + 1) := by rw [hL0.out, List.take_of_length_le (by rw [hn.out]; exact Nat.le_refl _)]; rfl
                rw [hLe] at hD
                clear hLe hLl
                have hix : ∀ w', (Instr.index 52 (.agg #[.string ⟨#[102, 105, 114, 115, 116]⟩, .string ⟨#[115, 101, 99, 111, 110, 100]⟩]) (.int .i64 0)).run Try.prog w' = .ok (.string ⟨#[102, 105, 114, 115, 116]⟩) w' := fun w' => by simp [Instr.index, go_sem]
                have HA := Lib.hid (save_at (nm := ⟨#[102, 105, 114, 115, 116]⟩) _ wq X F1 g1 _ S hD.out.a (by rw [hS0.out]; exact (ssN_find l0 l1 l2).1) (by decide) (by rw [hS0.out]; exact ssN_small l0 l1 l2 0))
                go_wp2_with fail
                refine HA.out.mono ?_
                rintro e wA ⟨FA, rfl, pA, tA⟩
                have D2 := Lib.hid (hD.out.left pA.out tA.out)
                have kA : Hid (Keeps [] w2 wA) := Lib.hid (hD.out.base rfl hkw.out tA.out.kp (fun y hy => .inl hy))
                have HB := Lib.hid (save_at (nm := ⟨#[102, 105, 114, 115, 116]⟩) _ wA _ F2 g2 _ S D2.out.c (by rw [hS0.out]; exact (ssN_find l0 l1 l2).1) (by decide) (by rw [hS0.out]; exact ssN_small l0 l1 l2 0))
                clear HA pA tA
                go_wp2_with fail
                refine HB.out.mono ?_
                rintro e wB ⟨FB, rfl, pB, tB⟩
                have D3 := Lib.hid (D2.out.right pB.out tB.out)
                have kB : Hid (Keeps [] w2 wB) := Lib.hid (D2.out.base rfl kA.out tB.out.kp (fun y hy => .inr hy))
                have hSn : S ++ [(⟨#[102, 105, 114, 115, 116]⟩, (lsN l0 l1 l2 (0 + 1)).length)] = ssN l0 l1 l2 (0 + 1) := by rw [hS0.out]; rfl
                rw [hSn] at D3
                clear HB pB tB D2 kA hSn hD hkw
                go_wp2_with fail
                go_roundw
                case rel => exact ⟨0 + 1, _, _, _, by omega, by go_num, D3, kB⟩
                case measure => simp [intOf]
          · clear hk
            rw [show ((1 : Nat) : Int) = (1 : Int) from rfl]
            obtain ⟨L0, hL0⟩ : ∃ L, L = lsN l0 l1 l2 1 := ⟨_, rfl⟩
            obtain ⟨S, hS0⟩ : ∃ L, L = ssN l0 l1 l2 1 := ⟨_, rfl⟩
            rw [← hL0, ← hS0] at hD
            have hL0n : Hid (L0.length ≤ 180) := Lib.hid (by rw [hL0]; exact lsN_len hf0.out hf1.out hf2.out 1)
            replace hL0 := Lib.hid hL0
            replace hS0 := Lib.hid hS0
            obtain ⟨n, hn⟩ : ∃ n, n = l1.length := ⟨_, rfl⟩
            rw [← hn]
            have hn60 : n ≤ 60 := by have := (few_len hf1.out).1; omega
            replace hn := Lib.hid hn
            have hix : ∀ w', (Instr.index 50 (.agg #[.slice A0 l0.length c0, .slice A1 n c1, .slice A2 l2.length c2]) (.int .i64 1)).run Try.prog w' = .ok (.slice A1 n c1) w' := fun w' => by simp [Instr.index, go_sem]
            go_wp2_with fail
            clear hix
            go_loopw [54] (fun i wr => ∃ (k : Nat) (X F1 F2 : List Nat), k ≤ n ∧ i = .int .i64 k ∧ Hid (Duo 64 82 64 82 w2.heap.size wr X F1 F2 g1 g2 (addsTo L0 (l1.take k)) (addsTo L0 (l1.take k)) S S) ∧ Hid (Keeps [] w2 wr)) (fun i _ => n - (intOf i).toNat)
            case atStart => exact ⟨0, _, _, _, Nat.zero_le _, rfl, hD, hkw⟩
            case round =>
              clear hD hkw
              obtain ⟨k, X, F1, F2, hk, rfl, hD, hkw⟩ := hrel
              obtain ⟨wq, hwq⟩ : ∃ x, x = wr := ⟨_, rfl⟩
              subst hwq
              have hLl : Hid ((addsTo L0 (l1.take k)).length ≤ 240) := Lib.hid (by have h1 := addsTo_len L0 (l1.take k); have h2 := List.length_take_le k l1; have := hL0n.out; omega)
              by_cases hlt : k < n
              · obtain ⟨⟨ok, oc, os, on⟩, ho⟩ : ∃ o, l1[k]? = some o := ⟨l1[k]'(by rw [← hn.out]; exact hlt), List.getElem?_eq_getElem _⟩
                obtain ⟨g, off, ⟨t, id, Ao, no, co, An, nn, cn⟩, rfl, _, hc, hr⟩ := hO1.out k _ ho
                have z0 := hkw.out.cellEq (hc 0 _ rfl) (by simp)
                have z1 := hkw.out.cellEq (hc 1 _ rfl) (by simp)
                have z2 := hkw.out.cellEq (hc 2 _ rfl) (by simp)
                have z3 := hkw.out.cellEq (hc 3 _ rfl) (by simp)
                have z4 := hkw.out.cellEq (hc 4 _ rfl) (by simp)
                have z5 := hkw.out.cellEq (hc 5 _ rfl) (by simp)
                have z6 := hkw.out.cellEq (hc 6 _ rfl) (by simp)
                rw [Nat.add_zero] at z0
                dsimp only at z0 z1 z2 z3 z4 z5 z6 hr
                have hki : (k : Int) < (n : Int) := by omega
                have hsm : Hid (Small oc) := Lib.hid (fewO_small ((few_len hf1.out).2 _ (List.mem_of_getElem? ho)))
                have hwf : Hid (wfC oc) := Lib.hid (h41.out _ (List.mem_of_getElem? ho)).1
                obtain ⟨L, hL⟩ : ∃ L, L = addsTo L0 (l1.take k) := ⟨_, rfl⟩
                have hLn : Hid (addsTo L0 (l1.take (k + 1)) = if addOk L oc then L ++ [oc] else L) := Lib.hid (by rw [take_snoc ho, addsTo_snoc, ← hL]; rfl)
                rw [← hL] at hD hLl
                replace hL := Lib.hid hL
                have HR : Hid (∀ w' F, Keeps [] w2 w' → (∀ y ∈ F, w2.heap.size ≤ y) → RawIs w' F ⟨t, id, Ao, no, co, An, nn, cn⟩ oc) := Lib.hid (fun w' F hk hF => (hr.other (fun y hy => .inr (hF y hy))).keep hk (by simp))
                have ka : Keeps [] wq (wq.alloc (.cells #[.int .i64 ok, .int .i64 t, .int .i64 id, .slice Ao no co, .slice An nn cn, .string os, .int .i64 on] 37)) := (Keeps.refl [] wq).alloc _
                have hD9 := Lib.hid (hD.out.keep ka)
                have hkw9 := Lib.hid (hkw.out.trans ka)
                have BO := Lib.hid (Blk.new wq 37 #[.int .i64 ok, .int .i64 t, .int .i64 id, .slice Ao no co, .slice An nn cn, .string os, .int .i64 on])
                have hgo1 : Hid (wq.heap.size ∉ F1) := Lib.hid (fun hm => by have := (hD.out.a.lob _ hm).2; omega)
                have hgo2 : Hid (wq.heap.size ∉ F2) := Lib.hid (fun hm => by have := (hD.out.c.lob _ hm).2; omega)
                replace hc := Lib.hid hc
                replace ho := Lib.hid ho
                clear hD hkw ka hr
                go_wp2_with fail
                obtain ⟨go, hgo⟩ : ∃ g, g = wq.heap.size := ⟨_, rfl⟩
                rw [← hgo] at BO hgo1 hgo2 ⊢
                generalize wq.alloc (.cells #[.int .i64 ok, .int .i64 t, .int .i64 id, .slice Ao no co, .slice An nn cn, .string os, .int .i64 on] 37) = wo at *
                clear hgo z0 z1 z2 z3 z4 z5 z6
                have hS : Hid (∀ w', Blk w' go 37 #[.int .i64 ok, .int .i64 t, .int .i64 id, .slice Ao no co, .slice An nn cn, .string os, .int .i64 on] → w'.cell? ⟨go, 1, none⟩ = some (.int .i64 t) ∧ w'.cell? ⟨go, 2, none⟩ = some (.int .i64 id) ∧ w'.cell? ⟨go, 3, none⟩ = some (.slice Ao no co) ∧ w'.cell? ⟨go, 4, none⟩ = some (.slice An nn cn)) := Lib.hid (fun w' hb => ⟨hb.cell 1, hb.cell 2, hb.cell 3, hb.cell 4⟩)
                refine wp_region_I (S := (fun w' : World => w'.cell? ⟨go, 1, none⟩ = some (.int .i64 t) ∧ w'.cell? ⟨go, 2, none⟩ = some (.int .i64 id) ∧ w'.cell? ⟨go, 3, none⟩ = some (.slice Ao no co) ∧ w'.cell? ⟨go, 4, none⟩ = some (.slice An nn cn))) (n := 9) (by kernel_rfl) ?_
                have HS := hS.out _ BO.out.drew
                have BO := Lib.hid BO.out.drew
                have hD := Lib.hid (hD9.out.keep (Keeps.refl [] _).drew)
                have hkw := Lib.hid (hkw9.out.drew)
                have HA := Lib.hid (add_log2 w2.heap.size _ X F1 g1 L S ⟨t, id, Ao, no, co, An, nn, cn⟩ oc hD.out.a (HR.out _ F1 hkw.out (fun y hy => (hD.out.a.lob y hy).1)) hsm.out hwf.out (by have := hLl.out; omega) hD.out.a.bs)
                generalize wo.drew = wc at *
                refine wpAnyI_takeN (i := 0) (v := ?_) (by kernel_rfl) rfl (by kernel_rfl) (by kernel_rfl) (by kernel_rfl) (fun _ _ _ h => h) HS (Or.inl ⟨by rfl, ?_⟩) ?_
                rotate_left
                · (intro w hSw; obtain ⟨y1, y2, y3, y4⟩ := hSw; go_simp; try with_reducible rfl)
                try simp only [Act.put, List.getElem_toArray, List.getElem_cons_succ, List.getElem_cons_zero, List.setIfInBounds_toArray, List.set_cons_zero, List.set_cons_succ]
                refine wpAnyI_takeN (i := 1) (v := ?_) (by kernel_rfl) rfl (by kernel_rfl) (by kernel_rfl) (by kernel_rfl) (fun _ _ _ h => h) HS (Or.inl ⟨by rfl, ?_⟩) ?_
                rotate_left
                · (intro w hSw; obtain ⟨y1, y2, y3, y4⟩ := hSw; go_simp; try with_reducible rfl)
                try simp only [Act.put, List.getElem_toArray, List.getElem_cons_succ, List.getElem_cons_zero, List.setIfInBounds_toArray, List.set_cons_zero, List.set_cons_succ]
                refine wpAnyI_takeN (i := 2) (v := ?_) (by kernel_rfl) rfl (by kernel_rfl) (by kernel_rfl) (by kernel_rfl) (fun _ _ _ h => h) HS (Or.inl ⟨by rfl, ?_⟩) ?_
                rotate_left
                · (intro w hSw; obtain ⟨y1, y2, y3, y4⟩ := hSw; go_simp; try with_reducible rfl)
                try simp only [Act.put, List.getElem_toArray, List.getElem_cons_succ, List.getElem_cons_zero, List.setIfInBounds_toArray, List.set_cons_zero, List.set_cons_succ]
                refine wpAnyI_takeN (i := 4) (v := ?_) (by kernel_rfl) rfl (by kernel_rfl) (by kernel_rfl) (by kernel_rfl) (fun _ _ _ h => h) HS (Or.inl ⟨by rfl, ?_⟩) ?_
                rotate_left
                · (intro w hSw; obtain ⟨y1, y2, y3, y4⟩ := hSw; go_simp; try with_reducible rfl)
                try simp only [Act.put, List.getElem_toArray, List.getElem_cons_succ, List.getElem_cons_zero, List.setIfInBounds_toArray, List.set_cons_zero, List.set_cons_succ]
                refine wpAnyI_takeN (i := 5) (v := ?_) (by kernel_rfl) rfl (by kernel_rfl) (by kernel_rfl) (by kernel_rfl) (fun _ _ _ h => h) HS (Or.inl ⟨by rfl, ?_⟩) ?_
                rotate_left
                · (intro w hSw; obtain ⟨y1, y2, y3, y4⟩ := hSw; go_simp; try with_reducible rfl)
                try simp only [Act.put, List.getElem_toArray, List.getElem_cons_succ, List.getElem_cons_zero, List.setIfInBounds_toArray, List.set_cons_zero, List.set_cons_succ]
                refine wpAnyI_takeN (i := 6) (v := ?_) (by kernel_rfl) rfl (by kernel_rfl) (by kernel_rfl) (by kernel_rfl) (fun _ _ _ h => h) HS (Or.inl ⟨by rfl, ?_⟩) ?_
                rotate_left
                · (intro w hSw; obtain ⟨y1, y2, y3, y4⟩ := hSw; go_simp; try with_reducible rfl)
                try simp only [Act.put, List.getElem_toArray, List.getElem_cons_succ, List.getElem_cons_zero, List.setIfInBounds_toArray, List.set_cons_zero, List.set_cons_succ]
                refine wpAnyI_one (i := 3) rfl (by kernel_rfl) (fun K hK => ?_)
                dsimp only [List.getElem_toArray, List.getElem_cons_succ, List.getElem_cons_zero]
                go_simp
                refine HA.out.mono ?_
                rintro e wA ⟨FA, rfl, pA, tA⟩
                replace BO := Lib.hid (BO.out.keep tA.out.kp hgo1.out)
                have HS := hS.out _ BO.out
                have D2 := Lib.hid (hD.out.left pA.out tA.out)
                have kA : Hid (Keeps [] w2 wA) := Lib.hid (hD.out.base rfl hkw.out tA.out.kp (fun y hy => .inl hy))
                have HB := Lib.hid (add_log2 w2.heap.size wA _ F2 g2 L S ⟨t, id, Ao, no, co, An, nn, cn⟩ oc D2.out.c (HR.out _ F2 kA.out (fun y hy => (D2.out.c.lob y hy).1)) hsm.out hwf.out (by have := hLl.out; omega) D2.out.c.bs)
                refine hK _ _ (Or.inr HS) ?_
                clear hK K pA tA HA
                try simp only [Act.put, List.getElem_toArray, List.getElem_cons_succ, List.getElem_cons_zero, List.setIfInBounds_toArray, List.set_cons_zero, List.set_cons_succ]
                refine wpAnyI_one (i := 7) rfl (by kernel_rfl) (fun K hK => ?_)
                dsimp only [List.getElem_toArray, List.getElem_cons_succ, List.getElem_cons_zero]
                go_simp
                refine HB.out.mono ?_
                rintro e wB ⟨FB, rfl, pB, tB⟩
                replace BO := Lib.hid (BO.out.keep tB.out.kp hgo2.out)
                have HS := hS.out _ BO.out
                have D3 := Lib.hid (D2.out.right pB.out tB.out)
                have kB : Hid (Keeps [] w2 wB) := Lib.hid (D2.out.base rfl kA.out tB.out.kp (fun y hy => .inr hy))
                generalize hec : (if addOk L oc then (0 : Int) else 1) = ec
                refine hK _ _ (Or.inr HS) ?_
                clear hK K pB tB HB hec
                try simp only [Act.put, List.getElem_toArray, List.getElem_cons_succ, List.getElem_cons_zero, List.setIfInBounds_toArray, List.set_cons_zero, List.set_cons_succ]
                refine wpAnyI_one (i := 8) rfl (by kernel_rfl) (fun K hK => ?_)
                dsimp only [List.getElem_toArray, List.getElem_cons_succ, List.getElem_cons_zero]
                go_simp
                refine hK _ _ (Or.inr HS) ?_
                clear hK K
                try simp only [Act.put, List.getElem_toArray, List.getElem_cons_succ, List.getElem_cons_zero, List.setIfInBounds_toArray, List.set_cons_zero, List.set_cons_succ]
                refine wpAnyI_done (by kernel_rfl) ?_ _
                clear HS hS BO D2 hD kA
                go_wp2_with fail
                go_roundw
                case rel => exact ⟨k + 1, _, _, _, by omega, by go_num, by rw [hLn.out]; exact D3, kB⟩
                case measure => simp [intOf]; omega
              · obtain rfl : k = n := by omega
                have hjf : ¬ (k : Int) < (k : Int) := by omega
                have hLe : addsTo L0 (l1.take k) = lsN l0 l1 l2 (1 + 1) := by rw [hL0.out, List.take_of_length_le (by rw [hn.out]; exact Nat.le_refl _)]; rfl
                rw [hLe] at hD
                clear hLe hLl
                have hix : ∀ w', (Instr.index 52 (.agg #[.string ⟨#[102, 105, 114, 115, 116]⟩, .string ⟨#[115, 101, 99, 111, 110, 100]⟩]) (.int .i64 1)).run Try.prog w' = .ok (.string ⟨#[115, 101, 99, 111, 110, 100]⟩) w' := fun w' => by simp [Instr.index, go_sem]
                have HA := Lib.hid (save_at (nm := ⟨#[115, 101, 99, 111, 110, 100]⟩) _ wq X F1 g1 _ S hD.out.a (by rw [hS0.out]; exact (ssN_find l0 l1 l2).2.1) (by decide) (by rw [hS0.out]; exact ssN_small l0 l1 l2 1))
                go_wp2_with fail
                refine HA.out.mono ?_
                rintro e wA ⟨FA, rfl, pA, tA⟩
                have D2 := Lib.hid (hD.out.left pA.out tA.out)
                have kA : Hid (Keeps [] w2 wA) := Lib.hid (hD.out.base rfl hkw.out tA.out.kp (fun y hy => .inl hy))
                have HB := Lib.hid (save_at (nm := ⟨#[115, 101, 99, 111, 110, 100]⟩) _ wA _ F2 g2 _ S D2.out.c (by rw [hS0.out]; exact (ssN_find l0 l1 l2).2.1) (by decide) (by rw [hS0.out]; exact ssN_small l0 l1 l2 1))
                clear HA pA tA
                go_wp2_with fail
                refine HB.out.mono ?_
                rintro e wB ⟨FB, rfl, pB, tB⟩
                have D3 := Lib.hid (D2.out.right pB.out tB.out)
                have kB : Hid (Keeps [] w2 wB) := Lib.hid (D2.out.base rfl kA.out tB.out.kp (fun y hy => .inr hy))
                have hSn : S ++ [(⟨#[115, 101, 99, 111, 110, 100]⟩, (lsN l0 l1 l2 (1 + 1)).length)] = ssN l0 l1 l2 (1 + 1) := by rw [hS0.out]; rfl
                rw [hSn] at D3
                clear HB pB tB D2 kA hSn hD hkw
                go_wp2_with fail
                go_roundw
                case rel => exact ⟨1 + 1, _, _, _, by omega, by go_num, D3, kB⟩
                case measure => simp [intOf]
          · clear hk
            rw [show ((2 : Nat) : Int) = (2 : Int) from rfl]
            obtain ⟨L0, hL0⟩ : ∃ L, L = lsN l0 l1 l2 2 := ⟨_, rfl⟩
            obtain ⟨S, hS0⟩ : ∃ L, L = ssN l0 l1 l2 2 := ⟨_, rfl⟩
            rw [← hL0, ← hS0] at hD
            have hL0n : Hid (L0.length ≤ 180) := Lib.hid (by rw [hL0]; exact lsN_len hf0.out hf1.out hf2.out 2)
            replace hL0 := Lib.hid hL0
            replace hS0 := Lib.hid hS0
            obtain ⟨n, hn⟩ : ∃ n, n = l2.length := ⟨_, rfl⟩
            rw [← hn]
            have hn60 : n ≤ 60 := by have := (few_len hf2.out).1; omega
            replace hn := Lib.hid hn
            have hix : ∀ w', (Instr.index 50 (.agg #[.slice A0 l0.length c0, .slice A1 l1.length c1, .slice A2 n c2]) (.int .i64 2)).run Try.prog w' = .ok (.slice A2 n c2) w' := fun w' => by simp [Instr.index, go_sem]
            go_wp2_with fail
            clear hix
            go_loopw [54] (fun i wr => ∃ (k : Nat) (X F1 F2 : List Nat), k ≤ n ∧ i = .int .i64 k ∧ Hid (Duo 64 82 64 82 w2.heap.size wr X F1 F2 g1 g2 (addsTo L0 (l2.take k)) (addsTo L0 (l2.take k)) S S) ∧ Hid (Keeps [] w2 wr)) (fun i _ => n - (intOf i).toNat)
            case atStart => exact ⟨0, _, _, _, Nat.zero_le _, rfl, hD, hkw⟩
            case round =>
              clear hD hkw
              obtain ⟨k, X, F1, F2, hk, rfl, hD, hkw⟩ := hrel
              obtain ⟨wq, hwq⟩ : ∃ x, x = wr := ⟨_, rfl⟩
              subst hwq
              have hLl : Hid ((addsTo L0 (l2.take k)).length ≤ 240) := Lib.hid (by have h1 := addsTo_len L0 (l2.take k); have h2 := List.length_take_le k l2; have := hL0n.out; omega)
              by_cases hlt : k < n
              · obtain ⟨⟨ok, oc, os, on⟩, ho⟩ : ∃ o, l2[k]? = some o := ⟨l2[k]'(by rw [← hn.out]; exact hlt), List.getElem?_eq_getElem _⟩
                obtain ⟨g, off, ⟨t, id, Ao, no, co, An, nn, cn⟩, rfl, _, hc, hr⟩ := hO2.out k _ ho
                have z0 := hkw.out.cellEq (hc 0 _ rfl) (by simp)
                have z1 := hkw.out.cellEq (hc 1 _ rfl) (by simp)
                have z2 := hkw.out.cellEq (hc 2 _ rfl) (by simp)
                have z3 := hkw.out.cellEq (hc 3 _ rfl) (by simp)
                have z4 := hkw.out.cellEq (hc 4 _ rfl) (by simp)
                have z5 := hkw.out.cellEq (hc 5 _ rfl) (by simp)
                have z6 := hkw.out.cellEq (hc 6 _ rfl) (by simp)
                rw [Nat.add_zero] at z0
                dsimp only at z0 z1 z2 z3 z4 z5 z6 hr
                have hki : (k : Int) < (n : Int) := by omega
                have hsm : Hid (Small oc) := Lib.hid (fewO_small ((few_len hf2.out).2 _ (List.mem_of_getElem? ho)))
                have hwf : Hid (wfC oc) := Lib.hid (h42.out _ (List.mem_of_getElem? ho)).1
                obtain ⟨L, hL⟩ : ∃ L, L = addsTo L0 (l2.take k) := ⟨_, rfl⟩
                have hLn : Hid (addsTo L0 (l2.take (k + 1)) = if addOk L oc then L ++ [oc] else L) := Lib.hid (by rw [take_snoc ho, addsTo_snoc, ← hL]; rfl)
                rw [← hL] at hD hLl
                replace hL := Lib.hid hL
                have HR : Hid (∀ w' F, Keeps [] w2 w' → (∀ y ∈ F, w2.heap.size ≤ y) → RawIs w' F ⟨t, id, Ao, no, co, An, nn, cn⟩ oc) := Lib.hid (fun w' F hk hF => (hr.other (fun y hy => .inr (hF y hy))).keep hk (by simp))
                have ka : Keeps [] wq (wq.alloc (.cells #[.int .i64 ok, .int .i64 t, .int .i64 id, .slice Ao no co, .slice An nn cn, .string os, .int .i64 on] 37)) := (Keeps.refl [] wq).alloc _
                have hD9 := Lib.hid (hD.out.keep ka)
                have hkw9 := Lib.hid (hkw.out.trans ka)
                have BO := Lib.hid (Blk.new wq 37 #[.int .i64 ok, .int .i64 t, .int .i64 id, .slice Ao no co, .slice An nn cn, .string os, .int .i64 on])
                have hgo1 : Hid (wq.heap.size ∉ F1) := Lib.hid (fun hm => by have := (hD.out.a.lob _ hm).2; omega)
                have hgo2 : Hid (wq.heap.size ∉ F2) := Lib.hid (fun hm => by have := (hD.out.c.lob _ hm).2; omega)
                replace hc := Lib.hid hc
                replace ho := Lib.hid ho
                clear hD hkw ka hr
                go_wp2_with fail
                obtain ⟨go, hgo⟩ : ∃ g, g = wq.heap.size := ⟨_, rfl⟩
                rw [← hgo] at BO hgo1 hgo2 ⊢
                generalize wq.alloc (.cells #[.int .i64 ok, .int .i64 t, .int .i64 id, .slice Ao no co, .slice An nn cn, .string os, .int .i64 on] 37) = wo at *
                clear hgo z0 z1 z2 z3 z4 z5 z6
                have hS : Hid (∀ w', Blk w' go 37 #[.int .i64 ok, .int .i64 t, .int .i64 id, .slice Ao no co, .slice An nn cn, .string os, .int .i64 on] → w'.cell? ⟨go, 1, none⟩ = some (.int .i64 t) ∧ w'.cell? ⟨go, 2, none⟩ = some (.int .i64 id) ∧ w'.cell? ⟨go, 3, none⟩ = some (.slice Ao no co) ∧ w'.cell? ⟨go, 4, none⟩ = some (.slice An nn cn)) := Lib.hid (fun w' hb => ⟨hb.cell 1, hb.cell 2, hb.cell 3, hb.cell 4⟩)
                refine wp_region_I (S := (fun w' : World => w'.cell? ⟨go, 1, none⟩ = some (.int .i64 t) ∧ w'.cell? ⟨go, 2, none⟩ = some (.int .i64 id) ∧ w'.cell? ⟨go, 3, none⟩ = some (.slice Ao no co) ∧ w'.cell? ⟨go, 4, none⟩ = some (.slice An nn cn))) (n := 9) (by kernel_rfl) ?_
                have HS := hS.out _ BO.out.drew
                have BO := Lib.hid BO.out.drew
                have hD := Lib.hid (hD9.out.keep (Keeps.refl [] _).drew)
                have hkw := Lib.hid (hkw9.out.drew)
                have HA := Lib.hid (add_log2 w2.heap.size _ X F1 g1 L S ⟨t, id, Ao, no, co, An, nn, cn⟩ oc hD.out.a (HR.out _ F1 hkw.out (fun y hy => (hD.out.a.lob y hy).1)) hsm.out hwf.out (by have := hLl.out; omega) hD.out.a.bs)
                generalize wo.drew = wc at *
                refine wpAnyI_takeN (i := 0) (v := ?_) (by kernel_rfl) rfl (by kernel_rfl) (by kernel_rfl) (by kernel_rfl) (fun _ _ _ h => h) HS (Or.inl ⟨by rfl, ?_⟩) ?_
                rotate_left
                · (intro w hSw; obtain ⟨y1, y2, y3, y4⟩ := hSw; go_simp; try with_reducible rfl)
                try simp only [Act.put, List.getElem_toArray, List.getElem_cons_succ, List.getElem_cons_zero, List.setIfInBounds_toArray, List.set_cons_zero, List.set_cons_succ]
                refine wpAnyI_takeN (i := 1) (v := ?_) (by kernel_rfl) rfl (by kernel_rfl) (by kernel_rfl) (by kernel_rfl) (fun _ _ _ h => h) HS (Or.inl ⟨by rfl, ?_⟩) ?_
                rotate_left
                · (intro w hSw; obtain ⟨y1, y2, y3, y4⟩ := hSw; go_simp; try with_reducible rfl)
                try simp only [Act.put, List.getElem_toArray, List.getElem_cons_succ, List.getElem_cons_zero, List.setIfInBounds_toArray, List.set_cons_zero, List.set_cons_succ]
                refine wpAnyI_takeN (i := 2) (v := ?_) (by kernel_rfl) rfl (by kernel_rfl) (by kernel_rfl) (by kernel_rfl) (fun _ _ _ h => h) HS (Or.inl ⟨by rfl, ?_⟩) ?_
                rotate_left
                · (intro w hSw; obtain ⟨y1, y2, y3, y4⟩ := hSw; go_simp; try with_reducible rfl)
                try simp only [Act.put, List.getElem_toArray, List.getElem_cons_succ, List.getElem_cons_zero, List.setIfInBounds_toArray, List.set_cons_zero, List.set_cons_succ]
                refine wpAnyI_takeN (i := 4) (v := ?_) (by kernel_rfl) rfl (by kernel_rfl) (by kernel_rfl) (by kernel_rfl) (fun _ _ _ h => h) HS (Or.inl ⟨by rfl, ?_⟩) ?_
                rotate_left
                · (intro w hSw; obtain ⟨y1, y2, y3, y4⟩ := hSw; go_simp; try with_reducible rfl)
                try simp only [Act.put, List.getElem_toArray, List.getElem_cons_succ, List.getElem_cons_zero, List.setIfInBounds_toArray, List.set_cons_zero, List.set_cons_succ]
                refine wpAnyI_takeN (i := 5) (v := ?_) (by kernel_rfl) rfl (by kernel_rfl) (by kernel_rfl) (by kernel_rfl) (fun _ _ _ h => h) HS (Or.inl ⟨by rfl, ?_⟩) ?_
                rotate_left
                · (intro w hSw; obtain ⟨y1, y2, y3, y4⟩ := hSw; go_simp; try with_reducible rfl)
                try simp only [Act.put, List.getElem_toArray, List.getElem_cons_succ, List.getElem_cons_zero, List.setIfInBounds_toArray, List.set_cons_zero, List.set_cons_succ]
                refine wpAnyI_takeN (i := 6) (v := ?_) (by kernel_rfl) rfl (by kernel_rfl) (by kernel_rfl) (by kernel_rfl) (fun _ _ _ h => h) HS (Or.inl ⟨by rfl, ?_⟩) ?_
                rotate_left
                · (intro w hSw; obtain ⟨y1, y2, y3, y4⟩ := hSw; go_simp; try with_reducible rfl)
                try simp only [Act.put, List.getElem_toArray, List.getElem_cons_succ, List.getElem_cons_zero, List.setIfInBounds_toArray, List.set_cons_zero, List.set_cons_succ]
                refine wpAnyI_one (i := 3) rfl (by kernel_rfl) (fun K hK => ?_)
                dsimp only [List.getElem_toArray, List.getElem_cons_succ, List.getElem_cons_zero]
                go_simp
                refine HA.out.mono ?_
                rintro e wA ⟨FA, rfl, pA, tA⟩
                replace BO := Lib.hid (BO.out.keep tA.out.kp hgo1.out)
                have HS := hS.out _ BO.out
                have D2 := Lib.hid (hD.out.left pA.out tA.out)
                have kA : Hid (Keeps [] w2 wA) := Lib.hid (hD.out.base rfl hkw.out tA.out.kp (fun y hy => .inl hy))
                have HB := Lib.hid (add_log2 w2.heap.size wA _ F2 g2 L S ⟨t, id, Ao, no, co, An, nn, cn⟩ oc D2.out.c (HR.out _ F2 kA.out (fun y hy => (D2.out.c.lob y hy).1)) hsm.out hwf.out (by have := hLl.out; omega) D2.out.c.bs)
                refine hK _ _ (Or.inr HS) ?_
                clear hK K pA tA HA
                try simp only [Act.put, List.getElem_toArray, List.getElem_cons_succ, List.getElem_cons_zero, List.setIfInBounds_toArray, List.set_cons_zero, List.set_cons_succ]
                refine wpAnyI_one (i := 7) rfl (by kernel_rfl) (fun K hK => ?_)
                dsimp only [List.getElem_toArray, List.getElem_cons_succ, List.getElem_cons_zero]
                go_simp
                refine HB.out.mono ?_
                rintro e wB ⟨FB, rfl, pB, tB⟩
                replace BO := Lib.hid (BO.out.keep tB.out.kp hgo2.out)
                have HS := hS.out _ BO.out
                have D3 := Lib.hid (D2.out.right pB.out tB.out)
                have kB : Hid (Keeps [] w2 wB) := Lib.hid (D2.out.base rfl kA.out tB.out.kp (fun y hy => .inr hy))
                generalize hec : (if addOk L oc then (0 : Int) else 1) = ec
                refine hK _ _ (Or.inr HS) ?_
                clear hK K pB tB HB hec
                try simp only [Act.put, List.getElem_toArray, List.getElem_cons_succ, List.getElem_cons_zero, List.setIfInBounds_toArray, List.set_cons_zero, List.set_cons_succ]
                refine wpAnyI_one (i := 8) rfl (by kernel_rfl) (fun K hK => ?_)
                dsimp only [List.getElem_toArray, List.getElem_cons_succ, List.getElem_cons_zero]
                go_simp
                refine hK _ _ (Or.inr HS) ?_
                clear hK K
                try simp only [Act.put, List.getElem_toArray, List.getElem_cons_succ, List.getElem_cons_zero, List.setIfInBounds_toArray, List.set_cons_zero, List.set_cons_succ]
                refine wpAnyI_done (by kernel_rfl) ?_ _
                clear HS hS BO D2 hD kA
                go_wp2_with fail
                go_roundw
                case rel => exact ⟨k + 1, _, _, _, by omega, by go_num, by rw [hLn.out]; exact D3, kB⟩
                case measure => simp [intOf]; omega
              · obtain rfl : k = n := by omega
                have hjf : ¬ (k : Int) < (k : Int) := by omega
                have hLe : addsTo L0 (l2.take k) = lsN l0 l1 l2 (2 + 1) := by rw [hL0.out, List.take_of_length_le (by rw [hn.out]; exact Nat.le_refl _)]; rfl
                rw [hLe] at hD
                clear hLe hLl
                have hSn : S = ssN l0 l1 l2 3 := by rw [hS0.out]; rfl
                rw [hSn] at hD
                clear hSn
                go_wp2_with fail
                go_roundw
                case rel => exact ⟨3, _, _, _, by omega, by go_num, hD, hkw⟩
                case measure => simp [intOf]
          · clear hk
            obtain ⟨L, hL⟩ : ∃ L, L = lsN l0 l1 l2 3 := ⟨_, rfl⟩
            obtain ⟨S, hS⟩ : ∃ S, S = ssN l0 l1 l2 3 := ⟨_, rfl⟩
            obtain ⟨n1, hn1⟩ : ∃ n, n = (addsTo [] l0).length := ⟨_, rfl⟩
            obtain ⟨n2, hn2⟩ : ∃ n, n = (addsTo (addsTo [] l0) l1).length := ⟨_, rfl⟩
            have hLen : Hid (L.length ≤ 180 ∧ n1 ≤ n2 ∧ n2 ≤ L.length) := Lib.hid (by
              refine ⟨by rw [hL]; exact lsN_len hf0.out hf1.out hf2.out 3, ?_, ?_⟩
              · obtain ⟨M, hM⟩ := addsTo_pre l1 (addsTo [] l0)
                rw [hn1, hn2, hM]; simp
              · obtain ⟨M, hM⟩ := addsTo_pre l2 (addsTo (addsTo [] l0) l1)
                rw [hn2, hL]
                show _ ≤ (addsTo (addsTo (addsTo [] l0) l1) l2).length
                rw [hM]; simp)
            have hSe : S = [(⟨#[102, 105, 114, 115, 116]⟩, n1), (⟨#[115, 101, 99, 111, 110, 100]⟩, n2)] := by rw [hS, hn1, hn2]; rfl
            have hff := ssN_find l0 l1 l2
            rw [← hS] at hff hD
            rw [← hL] at hD
            have hsL : Hid (∀ c ∈ L, Small c) := Lib.hid (fun c hc => (hD.out.a.sm c hc).1)
            have hku : Hid (∀ p ∈ S, p.2 ≤ L.length) := Lib.hid (by
              have := hLen.out
              rw [hSe]
              intro p hp
              simp only [List.mem_cons, List.not_mem_nil, or_false] at hp
              rcases hp with rfl | rfl
              · show n1 ≤ L.length; omega
              · show n2 ≤ L.length; omega)
            have hfu : Hid (findI S ⟨#[102, 105, 114, 115, 116]⟩ = ((0 : Nat) : Int)) := Lib.hid hff.2.2.1
            have hmu : Hid (markAt S 0 = n1) := Lib.hid (by rw [hSe]; rfl)
            have hl5 : Hid (((L.drop n1).reverse.map inv).length = L.length - n1) := Lib.hid (by simp)
            obtain ⟨m5, hm5⟩ : ∃ m, m = L.length - n1 := ⟨_, rfl⟩
            rw [← hm5] at hl5
            replace hL := Lib.hid hL
            replace hS := Lib.hid hS
            replace hn1 := Lib.hid hn1
            replace hn2 := Lib.hid hn2
            replace hm5 := Lib.hid hm5
            replace hSe := Lib.hid hSe
            cases rel
            · have HB := Lib.hid (back_at (nm := ⟨#[115, 101, 99, 111, 110, 100]⟩) _ wq X F2 g2 L S 1 n2 hD.out.c hff.2.2.2.1 (by rw [hSe.out]; rfl) hku.out (by have := hLen.out; omega) (by rw [hSe.out]; simp))
              have hff' := Lib.hid hff
              clear hff
              go_wp2_with fail
              refine HB.out.mono ?_
              rintro e wX ⟨Am, cm, rfl, rm0, pm, km⟩
              obtain ⟨Mm, hMm⟩ : ∃ M, M = (L.drop n2).reverse.map inv := ⟨_, rfl⟩
              obtain ⟨mm, hmm⟩ : ∃ m, m = Mm.length := ⟨_, rfl⟩
              rw [← hMm, ← hmm]
              rw [← hMm] at rm0
              have rm : Hid (ChsAt wX (F1 ++ F2) Am Mm) := Lib.hid (rm0.out _ (fun y hy => by
                rcases List.mem_append.1 hy with hy | hy
                · exact (hD.out.a.lob y hy).2
                · exact (hD.out.c.lob y hy).2))
              have hkX : Hid (Keeps [] w2 wX) := Lib.hid (hD.out.base rfl hkw.out km.out (fun y hy => .inr hy))
              replace hD := Lib.hid (hD.out.right0 pm.out km.out)
              replace hkw := hkX
              obtain ⟨Lv, hLv⟩ : ∃ x, x = L.take n2 := ⟨_, rfl⟩
              obtain ⟨Sv, hSv⟩ : ∃ x, x = S.take 2 := ⟨_, rfl⟩
              rw [show S.take (1 + 1) = S.take 2 from rfl, ← hLv, ← hSv] at hD
              have hlv : Lv.length = n2 := by rw [hLv, List.length_take]; have := hLen.out; omega
              have hfv : Hid (findI Sv ⟨#[102, 105, 114, 115, 116]⟩ = ((0 : Nat) : Int)) := Lib.hid (by rw [hSv]; exact hff'.out.2.2.2.2.2)
              have hmv : Hid (markAt Sv 0 = n1) := Lib.hid (by rw [hSv, hSe.out]; rfl)
              have hkv : Hid (∀ p ∈ Sv, p.2 ≤ Lv.length) := Lib.hid (by
                rw [hlv, hSv, hSe.out]
                intro p hp
                simp only [List.take_succ_cons, List.take_nil, List.take_zero, List.mem_cons, List.not_mem_nil, or_false] at hp
                have := hLen.out
                rcases hp with rfl | rfl
                · show n1 ≤ n2; omega
                · show n2 ≤ n2; omega)
              have hl7 : Hid (((Lv.drop n1).reverse.map inv).length = n2 - n1) := Lib.hid (by simp; omega)
              obtain ⟨m7, hm7⟩ : ∃ m, m = n2 - n1 := ⟨_, rfl⟩
              rw [← hm7] at hl7
              have hlm : Hid (Mm.length = mm) := Lib.hid hmm.symm
              have hEq : Hid ((L.drop n1).reverse.map inv = Mm ++ (Lv.drop n1).reverse.map inv) := Lib.hid (by
                rw [hMm, hLv, ← List.map_append, ← List.reverse_append]
                congr 2
                have hb := hLen.out
                conv => lhs; rw [← List.take_append_drop n2 L]
                rw [List.drop_append_of_le_length (by rw [List.length_take]; omega)])
              have hTk : Hid (L.take n1 = Lv.take n1) := Lib.hid (by rw [hLv, List.take_take, Nat.min_eq_left hLen.out.2.1])
              have hLl : Hid (L.length ≤ 240 ∧ S.length ≤ 10 ∧ Lv.length ≤ 240 ∧ Sv.length ≤ 10 ∧ m5 ≤ 240 ∧ mm ≤ 240 ∧ m7 ≤ 240) := Lib.hid (by
                have := hLen.out
                have e1 : S.length = 2 := by rw [hSe.out]; rfl
                have e2 : Sv.length ≤ 2 := by rw [hSv]; exact List.length_take_le _ _
                have e3 : Mm.length = L.length - n2 := by rw [hMm]; simp
                rw [hm5.out, hm7, hmm, e3]
                omega)
              replace hMm := Lib.hid hMm
              replace hmm := Lib.hid hmm
              replace hLv := Lib.hid hLv
              replace hSv := Lib.hid hSv
              replace hm7 := Lib.hid hm7
              clear HB rm0 pm km hkX hff' hlv hLen
              go_wp2_with fail
              have HU := Lib.hid (back_at (nm := ⟨#[102, 105, 114, 115, 116]⟩) _ wX X F1 g1 L S 0 n1 hD.out.a hfu.out hmu.out hku.out (by have := hLl.out; omega) (by have := hLl.out; omega))
              go_wp2_with fail
              refine HU.out.mono ?_
              rintro e w5 ⟨A5, c5, rfl, r5, p5, k5⟩
              have hm5 : ((L.drop n1).reverse.map inv).length = m5 := hl5.out
              rw [hm5]
              have D5 := Lib.hid (hD.out.left0 p5.out k5.out)
              have kb5 : Hid (Keeps [] w2 w5) := Lib.hid (hD.out.base rfl hkw.out k5.out (fun y hy => .inl hy))
              have r5' : Hid (ChsAt w5 F2 A5 ((L.drop n1).reverse.map inv)) := Lib.hid (r5.out F2 (fun y hy => (hD.out.c.lob y hy).2))
              replace rm := Lib.hid (rm.out.keep k5.out (fun y hy => .inl (List.mem_append_left _ hy)))
              have HV := Lib.hid (back_at (nm := ⟨#[102, 105, 114, 115, 116]⟩) _ w5 X F2 g2 Lv Sv 0 n1 D5.out.c hfv.out hmv.out hkv.out (by have := hLl.out; omega) (by have := hLl.out; omega))
              clear HU r5 p5 k5 hD hkw hm5
              go_wp2_with fail
              refine HV.out.mono ?_
              rintro e w7 ⟨A7, c7, rfl, r7, p7, k7⟩
              have hm7 : ((Lv.drop n1).reverse.map inv).length = m7 := hl7.out
              rw [hm7]
              have D7 := Lib.hid (D5.out.right0 p7.out k7.out)
              have kb7 : Hid (Keeps [] w2 w7) := Lib.hid (D5.out.base rfl kb5.out k7.out (fun y hy => .inr hy))
              replace r5' := Lib.hid (r5'.out.keep k7.out (fun y hy => .inl hy))
              replace rm := Lib.hid (rm.out.keep k7.out (fun y hy => .inl (List.mem_append_right _ hy)))
              have r7' : Hid (ChsAt w7 [] A7 ((Lv.drop n1).reverse.map inv)) := Lib.hid (r7.out [] (by simp))
              obtain ⟨M, hM⟩ : ∃ M, M = (L.drop n1).reverse.map inv := ⟨_, rfl⟩
              obtain ⟨M2, hM2⟩ : ∃ M, M = (Lv.drop n1).reverse.map inv := ⟨_, rfl⟩
              rw [← hM] at r5' hl5 hEq
              rw [← hM2] at r7' hl7 hEq
              have hsM : Hid (∀ c ∈ M, Small c) := Lib.hid (fun c hc => by
                rw [hM] at hc
                obtain ⟨d, hd, rfl⟩ := List.mem_map.1 hc
                have := hsL.out d (List.mem_of_mem_drop (List.mem_reverse.1 hd))
                exact ⟨this.2, this.1⟩)
              obtain ⟨R1, hR1, hs1⟩ := chs_src rm.out
              obtain ⟨R2, hR2, hs2⟩ := chs_src r7'.out
              rw [hlm.out] at hs1
              rw [hl7.out] at hs2
              have hf1 : Hid ((flatC R1).length = mm * 4) := Lib.hid (by rw [flatC_len, hR1.1, hlm.out])
              have hf2 : Hid ((flatC R2).length = m7 * 4) := Lib.hid (by rw [flatC_len, hR2.1, hl7.out])
              have ka : Keeps [] w7 (w7.alloc (.cells #[] 35)) := (Keeps.refl [] w7).alloc _
              have hv := Lib.hid (own_void w7 35 4)
              have hs1' := Lib.hid (hs1.keep0 ka)
              have hs2' := Lib.hid hs2
              have hbs : Hid (w7.heap.size ≤ (w7.alloc (.cells #[] 35)).heap.size) := Lib.hid ka.size
              have HQ : Hid (∀ w9 v9, Hid (w9.ownsRow w7.heap.size 35 4 v9 (mm + m7) (flatC R1 ++ flatC R2)) → Hid (Keeps [] w7 w9) → ∃ A9 c9, v9 = .slice A9 (mm + m7) c9 ∧ Hid (Calls Try.prog 16 #[.slice A5 m5 c5, .slice A9 (mm + m7) c9] w9 fun e w' => e = .returned (.bool true) ∧ Keeps [] w9 w')) := Lib.hid (fun w9 v9 ho hk => by
                obtain ⟨A9, c9, rfl, _⟩ := own_slice ho.out
                refine ⟨A9, c9, rfl, Lib.hid ?_⟩
                have hraw := ((hR1.other (Y := []) (by simp)).append hR2).keep hk.out (by simp)
                have ho' := ho.out
                rw [← flatC_append] at ho'
                refine (same_any w9 F2 [] A5 A9 M (Mm ++ M2) m5 c5 (mm + m7) c9 hl5.out (by rw [List.length_append]; have := hlm.out; have := hl7.out; omega) (r5'.out.keep hk.out (by simp)) (ChsAt.of ho' (by rw [List.length_append, hR1.1, hR2.1]; have := hlm.out; have := hl7.out; omega) hraw (by simp)) hsM.out (by have := hLl.out; omega)).mono ?_
                rintro e w' ⟨rfl, k⟩
                exact ⟨by rw [decide_eq_true hEq.out], k⟩)
              obtain ⟨i5, hi5, hy0, hy1, hy2⟩ := info_parts info35
              replace hi5 := Lib.hid hi5
              replace hy0 := Lib.hid hy0
              replace hy1 := Lib.hid hy1
              replace hy2 := Lib.hid hy2
              obtain ⟨Lf, hLf⟩ : ∃ x, x = L.take n1 := ⟨_, rfl⟩
              rw [← hTk.out, ← hLf] at D7
              obtain ⟨lf, hlf⟩ : ∃ x, x = Lf.length := ⟨_, rfl⟩
              have hlf2 : Hid (lf ≤ 240) := Lib.hid (by rw [hlf, hLf, List.length_take]; have := hLl.out; omega)
              have HLu : Hid (∀ w', Keeps [] w7 w' → Calls Try.prog 20 #[.pointer (some ⟨g1, 0, none⟩)] w' fun e w'' => e = .returned (.int .i64 (lf : Int)) ∧ w' = w'') := Lib.hid (fun w' k => by
                have := len_log _ w' X F1 g1 _ _ (D7.out.a.keep k)
                rw [← hlf] at this
                exact this)
              have HLv : Hid (∀ w', Keeps [] w7 w' → Calls Try.prog 20 #[.pointer (some ⟨g2, 0, none⟩)] w' fun e w'' => e = .returned (.int .i64 (lf : Int)) ∧ w' = w'') := Lib.hid (fun w' k => by
                have := len_log _ w' X F2 g2 _ _ (D7.out.c.keep k)
                rw [← hlf] at this
                exact this)
              have HNu : Hid (∀ w', Keeps [] w7 w' → Calls Try.prog 15 #[.pointer (some ⟨g1, 0, none⟩)] w' (NetO w' Lf)) := Lib.hid (fun w' k => net_o _ w' X F1 g1 Lf _ (D7.out.a.keep k) (by rw [← hlf]; have := hlf2.out; omega))
              have HNv : Hid (∀ w', Keeps [] w7 w' → Calls Try.prog 15 #[.pointer (some ⟨g2, 0, none⟩)] w' (NetO w' Lf)) := Lib.hid (fun w' k => net_o _ w' X F2 g2 Lf _ (D7.out.c.keep k) (by rw [← hlf]; have := hlf2.out; omega))
              have hsN : Hid (∀ c ∈ netOut Lf, Small c) := Lib.hid (netOut_small (fun c hc => hsL.out c (by rw [hLf] at hc; exact List.mem_of_mem_take hc)))
              have hnN : Hid ((netOut Lf).length ≤ 1000000) := Lib.hid (by have := netOut_len Lf; have := hlf2.out; omega)
              have hmb : mm + m7 ≤ 1000 := by have := hLl.out; omega
              replace hM := Lib.hid hM
              replace hM2 := Lib.hid hM2
              replace hLf := Lib.hid hLf
              replace hlf := Lib.hid hlf
              clear HV r7 p7 k7 D5 kb5 r5' rm r7' hR1 hR2 hs1 hs2 ka D7 hsM hEq hTk hl5 hl7 hlm hsL hLl
              go_wp2_with (first
                | (at_builtin; refine wpList_append_row (by rfl) (.tmp 117) (.tmp 118) 28 rfl w7.heap.size 35 i5 (.agg #[.int .i64 0, .int .i64 0, .slice none 0 0, .slice none 0 0]) 4 64 Try.underlying28 hi5.out hy0.out hy1.out hy2.out rfl (by decide) _ 0 [] rfl hv.out Am mm cm (flatC R1) rfl hf1.out hs1'.out (flatC_oneR _) (by unfold maxLen; omega) (by omega) hbs.out ?_; intro v8 w8 q1 q2 q3 q4; have k8 : Hid (Keeps [] w7 w8) := Lib.hid (keeps_append ((Keeps.refl [] w7).alloc _) (Keeps.refl [] _) hv.out q2.out); have o8 : Hid (w8.ownsRow w7.heap.size 35 4 v8 mm (flatC R1)) := Lib.hid (by have := q1.out; rw [List.nil_append, Nat.zero_add] at this; exact this); have hs2x := Lib.hid (hs2'.out.keep0 k8.out); clear q1 q2 q3 q4)
                | (at_builtin; refine wpList_append_row (by rfl) (.tmp 119) (.tmp 120) 28 rfl w7.heap.size 35 i5 (.agg #[.int .i64 0, .int .i64 0, .slice none 0 0, .slice none 0 0]) 4 64 Try.underlying28 hi5.out hy0.out hy1.out hy2.out rfl (by decide) _ mm (flatC R1) rfl o8.out A7 m7 c7 (flatC R2) rfl hf2.out hs2x.out (flatC_oneR _) (by unfold maxLen; omega) (by omega) k8.out.size ?_; intro v9 w9 q1 q2 q3 q4; have k9 : Hid (Keeps [] w7 w9) := Lib.hid (keeps_append k8.out (Keeps.refl [] _) o8.out q2.out); obtain ⟨A9, c9, rfl, HSm⟩ := HQ.out w9 v9 q1 k9; clear q1 q2 q3 q4))
              refine HSm.out.mono ?_
              rintro e wa ⟨rfl, ka⟩
              replace k9 := Lib.hid (k9.out.trans ka)
              clear HSm ka
              go_wp2_with fail
              refine (HLu.out _ k9.out).mono ?_
              rintro e wb ⟨rfl, rfl⟩
              go_wp2_with fail
              refine (HLv.out _ k9.out).mono ?_
              rintro e wb ⟨rfl, rfl⟩
              go_wp2_with fail
              refine (HNu.out _ k9.out).mono ?_
              rintro e wb ⟨Aa, ca, rfl, ra, kb⟩
              replace k9 := Lib.hid (k9.out.trans kb.out)
              clear kb
              go_wp2_with fail
              refine (HNv.out _ k9.out).mono ?_
              rintro e wc ⟨Ab, cb, rfl, rb, kc⟩
              replace k9 := Lib.hid (k9.out.trans kc.out)
              have HS2 : Hid (Calls Try.prog 16 #[.slice Aa (netOut Lf).length ca, .slice Ab (netOut Lf).length cb] wc fun e w' => e = .returned (.bool true) ∧ Keeps [] wc w') := Lib.hid (by
                refine (same_any wc [] [] Aa Ab (netOut Lf) (netOut Lf) _ ca _ cb rfl rfl (ra.out.keep kc.out (by simp)) rb.out hsN.out hnN.out).mono ?_
                rintro e w' ⟨rfl, k⟩
                exact ⟨by rw [decide_eq_true rfl], k⟩)
              clear ra rb kc
              go_wp2_with fail
              refine HS2.out.mono ?_
              rintro e wd ⟨rfl, kd⟩
              replace k9 := Lib.hid (k9.out.trans kd)
              go_wp2_with fail
              go_ret
              exact ⟨rfl, kk.out.trans (kb7.out.trans k9.out)⟩
            · have HB := Lib.hid (release_at (nm := ⟨#[115, 101, 99, 111, 110, 100]⟩) _ wq X F2 g2 L S 1 hD.out.c hff.2.2.2.1 (by rw [hSe.out]; simp))
              have hff' := Lib.hid hff
              clear hff
              go_wp2_with fail
              refine HB.out.mono ?_
              rintro e wX ⟨rfl, pm, km⟩
              obtain ⟨Mm, hMm⟩ : ∃ M : List Chg, M = [] := ⟨_, rfl⟩
              have rm : Hid (ChsAt wX (F1 ++ F2) none Mm) := Lib.hid (by rw [hMm]; intro i c h; simp at h)
              have hkX : Hid (Keeps [] w2 wX) := Lib.hid (hD.out.base rfl hkw.out km.out (fun y hy => .inr hy))
              replace hD := Lib.hid (hD.out.right0 pm.out km.out)
              replace hkw := hkX
              obtain ⟨Lv, hLv⟩ : ∃ x, x = L := ⟨_, rfl⟩
              obtain ⟨Sv, hSv⟩ : ∃ x, x = S.take 1 := ⟨_, rfl⟩
              replace hD : Hid (Duo 64 82 64 82 w2.heap.size wX X F1 F2 g1 g2 L Lv S Sv) := Lib.hid (by rw [hLv, hSv]; exact hD.out)
              have hfv : Hid (findI Sv ⟨#[102, 105, 114, 115, 116]⟩ = ((0 : Nat) : Int)) := Lib.hid (by rw [hSv]; exact hff'.out.2.2.2.2.1)
              have hmv : Hid (markAt Sv 0 = n1) := Lib.hid (by rw [hSv, hSe.out]; rfl)
              have hkv : Hid (∀ p ∈ Sv, p.2 ≤ Lv.length) := Lib.hid (by
                rw [hSv, hLv]
                exact fun p hp => hku.out p (List.mem_of_mem_take hp))
              have hl7 : Hid (((Lv.drop n1).reverse.map inv).length = L.length - n1) := Lib.hid (by rw [hLv]; simp)
              obtain ⟨m7, hm7⟩ : ∃ m, m = L.length - n1 := ⟨_, rfl⟩
              rw [← hm7] at hl7
              have hlm : Hid (Mm.length = 0) := Lib.hid (by rw [hMm]; rfl)
              have hEq : Hid ((L.drop n1).reverse.map inv = Mm ++ (Lv.drop n1).reverse.map inv) := Lib.hid (by rw [hMm, hLv]; rfl)
              have hTk : Hid (L.take n1 = Lv.take n1) := Lib.hid (by rw [hLv])
              have hLl : Hid (L.length ≤ 240 ∧ S.length ≤ 10 ∧ Lv.length ≤ 240 ∧ Sv.length ≤ 10 ∧ m5 ≤ 240 ∧ 0 ≤ 240 ∧ m7 ≤ 240) := Lib.hid (by
                have := hLen.out
                have e1 : S.length = 2 := by rw [hSe.out]; rfl
                have e2 : Sv.length ≤ 2 := by rw [hSv]; exact Nat.le_trans (List.length_take_le _ _) (by omega)
                rw [hm5.out, hm7, hLv]
                omega)
              replace hMm := Lib.hid hMm
              replace hLv := Lib.hid hLv
              replace hSv := Lib.hid hSv
              replace hm7 := Lib.hid hm7
              go_wp2_with fail
              have HU := Lib.hid (back_at (nm := ⟨#[102, 105, 114, 115, 116]⟩) _ wX X F1 g1 L S 0 n1 hD.out.a hfu.out hmu.out hku.out (by have := hLl.out; omega) (by have := hLl.out; omega))
              go_wp2_with fail
              refine HU.out.mono ?_
              rintro e w5 ⟨A5, c5, rfl, r5, p5, k5⟩
              have hm5 : ((L.drop n1).reverse.map inv).length = m5 := hl5.out
              rw [hm5]
              have D5 := Lib.hid (hD.out.left0 p5.out k5.out)
              have kb5 : Hid (Keeps [] w2 w5) := Lib.hid (hD.out.base rfl hkw.out k5.out (fun y hy => .inl hy))
              have r5' : Hid (ChsAt w5 F2 A5 ((L.drop n1).reverse.map inv)) := Lib.hid (r5.out F2 (fun y hy => (hD.out.c.lob y hy).2))
              replace rm := Lib.hid (rm.out.keep k5.out (fun y hy => .inl (List.mem_append_left _ hy)))
              have HV := Lib.hid (back_at (nm := ⟨#[102, 105, 114, 115, 116]⟩) _ w5 X F2 g2 Lv Sv 0 n1 D5.out.c hfv.out hmv.out hkv.out (by have := hLl.out; omega) (by have := hLl.out; omega))
              clear HU r5 p5 k5 hD hkw hm5
              go_wp2_with fail
              refine HV.out.mono ?_
              rintro e w7 ⟨A7, c7, rfl, r7, p7, k7⟩
              have hm7 : ((Lv.drop n1).reverse.map inv).length = m7 := hl7.out
              rw [hm7]
              have D7 := Lib.hid (D5.out.right0 p7.out k7.out)
              have kb7 : Hid (Keeps [] w2 w7) := Lib.hid (D5.out.base rfl kb5.out k7.out (fun y hy => .inr hy))
              replace r5' := Lib.hid (r5'.out.keep k7.out (fun y hy => .inl hy))
              replace rm := Lib.hid (rm.out.keep k7.out (fun y hy => .inl (List.mem_append_right _ hy)))
              have r7' : Hid (ChsAt w7 [] A7 ((Lv.drop n1).reverse.map inv)) := Lib.hid (r7.out [] (by simp))
              obtain ⟨M, hM⟩ : ∃ M, M = (L.drop n1).reverse.map inv := ⟨_, rfl⟩
              obtain ⟨M2, hM2⟩ : ∃ M, M = (Lv.drop n1).reverse.map inv := ⟨_, rfl⟩
              rw [← hM] at r5' hl5 hEq
              rw [← hM2] at r7' hl7 hEq
              have hsM : Hid (∀ c ∈ M, Small c) := Lib.hid (fun c hc => by
                rw [hM] at hc
                obtain ⟨d, hd, rfl⟩ := List.mem_map.1 hc
                have := hsL.out d (List.mem_of_mem_drop (List.mem_reverse.1 hd))
                exact ⟨this.2, this.1⟩)
              obtain ⟨R1, hR1, hs1⟩ := chs_src rm.out
              obtain ⟨R2, hR2, hs2⟩ := chs_src r7'.out
              rw [hlm.out] at hs1
              rw [hl7.out] at hs2
              have hf1 : Hid ((flatC R1).length = 0 * 4) := Lib.hid (by rw [flatC_len, hR1.1, hlm.out])
              have hf2 : Hid ((flatC R2).length = m7 * 4) := Lib.hid (by rw [flatC_len, hR2.1, hl7.out])
              have ka : Keeps [] w7 (w7.alloc (.cells #[] 35)) := (Keeps.refl [] w7).alloc _
              have hv := Lib.hid (own_void w7 35 4)
              have hs1' := Lib.hid (hs1.keep0 ka)
              have hs2' := Lib.hid hs2
              have hfr1 : Hid (flatC R1 = []) := Lib.hid (List.eq_nil_of_length_eq_zero (by rw [hf1.out]))
              have hbs : Hid (w7.heap.size ≤ (w7.alloc (.cells #[] 35)).heap.size) := Lib.hid ka.size
              have HQ : Hid (∀ w9 v9, Hid (w9.ownsRow w7.heap.size 35 4 v9 m7 (flatC R1 ++ flatC R2)) → Hid (Keeps [] w7 w9) → ∃ A9 c9, v9 = .slice A9 m7 c9 ∧ Hid (Calls Try.prog 16 #[.slice A5 m5 c5, .slice A9 m7 c9] w9 fun e w' => e = .returned (.bool true) ∧ Keeps [] w9 w')) := Lib.hid (fun w9 v9 ho hk => by
                obtain ⟨A9, c9, rfl, _⟩ := own_slice ho.out
                refine ⟨A9, c9, rfl, Lib.hid ?_⟩
                have hraw := ((hR1.other (Y := []) (by simp)).append hR2).keep hk.out (by simp)
                have ho' := ho.out
                rw [← flatC_append] at ho'
                refine (same_any w9 F2 [] A5 A9 M (Mm ++ M2) m5 c5 m7 c9 hl5.out (by rw [List.length_append]; have := hlm.out; have := hl7.out; omega) (r5'.out.keep hk.out (by simp)) (ChsAt.of ho' (by rw [List.length_append, hR1.1, hR2.1]; have := hlm.out; have := hl7.out; omega) hraw (by simp)) hsM.out (by have := hLl.out; omega)).mono ?_
                rintro e w' ⟨rfl, k⟩
                exact ⟨by rw [decide_eq_true hEq.out], k⟩)
              obtain ⟨i5, hi5, hy0, hy1, hy2⟩ := info_parts info35
              replace hi5 := Lib.hid hi5
              replace hy0 := Lib.hid hy0
              replace hy1 := Lib.hid hy1
              replace hy2 := Lib.hid hy2
              obtain ⟨Lf, hLf⟩ : ∃ x, x = L.take n1 := ⟨_, rfl⟩
              rw [← hTk.out, ← hLf] at D7
              obtain ⟨lf, hlf⟩ : ∃ x, x = Lf.length := ⟨_, rfl⟩
              have hlf2 : Hid (lf ≤ 240) := Lib.hid (by rw [hlf, hLf, List.length_take]; have := hLl.out; omega)
              have HLu : Hid (∀ w', Keeps [] w7 w' → Calls Try.prog 20 #[.pointer (some ⟨g1, 0, none⟩)] w' fun e w'' => e = .returned (.int .i64 (lf : Int)) ∧ w' = w'') := Lib.hid (fun w' k => by
                have := len_log _ w' X F1 g1 _ _ (D7.out.a.keep k)
                rw [← hlf] at this
                exact this)
              have HLv : Hid (∀ w', Keeps [] w7 w' → Calls Try.prog 20 #[.pointer (some ⟨g2, 0, none⟩)] w' fun e w'' => e = .returned (.int .i64 (lf : Int)) ∧ w' = w'') := Lib.hid (fun w' k => by
                have := len_log _ w' X F2 g2 _ _ (D7.out.c.keep k)
                rw [← hlf] at this
                exact this)
              have HNu : Hid (∀ w', Keeps [] w7 w' → Calls Try.prog 15 #[.pointer (some ⟨g1, 0, none⟩)] w' (NetO w' Lf)) := Lib.hid (fun w' k => net_o _ w' X F1 g1 Lf _ (D7.out.a.keep k) (by rw [← hlf]; have := hlf2.out; omega))
              have HNv : Hid (∀ w', Keeps [] w7 w' → Calls Try.prog 15 #[.pointer (some ⟨g2, 0, none⟩)] w' (NetO w' Lf)) := Lib.hid (fun w' k => net_o _ w' X F2 g2 Lf _ (D7.out.c.keep k) (by rw [← hlf]; have := hlf2.out; omega))
              have hsN : Hid (∀ c ∈ netOut Lf, Small c) := Lib.hid (netOut_small (fun c hc => hsL.out c (by rw [hLf] at hc; exact List.mem_of_mem_take hc)))
              have hnN : Hid ((netOut Lf).length ≤ 1000000) := Lib.hid (by have := netOut_len Lf; have := hlf2.out; omega)
              have hmb : m7 ≤ 1000 := by have := hLl.out; omega
              replace hM := Lib.hid hM
              replace hM2 := Lib.hid hM2
              replace hLf := Lib.hid hLf
              replace hlf := Lib.hid hlf
              clear HV r7 p7 k7 D5 kb5 r5' rm r7' hR1 hR2 hs1 hs2 ka D7 hsM hEq hTk hl5 hl7 hlm hsL hLl
              go_wp2_with (first
                | (at_builtin; refine wpList_append_row (by rfl) (.tmp 117) (.tmp 118) 28 rfl w7.heap.size 35 i5 (.agg #[.int .i64 0, .int .i64 0, .slice none 0 0, .slice none 0 0]) 4 64 Try.underlying28 hi5.out hy0.out hy1.out hy2.out rfl (by decide) (.slice (some ⟨w7.heap.size, 0, none⟩) 0 0) 0 [] rfl hv.out none 0 0 [] rfl rfl (.inl rfl) (by simp) (by simp [maxLen]) (by omega) hbs.out ?_; intro v8 w8 q1 q2 q3 q4; have k8 : Hid (Keeps [] w7 w8) := Lib.hid (keeps_append ((Keeps.refl [] w7).alloc _) (Keeps.refl [] _) hv.out q2.out); have hs2x := Lib.hid (hs2'.out.keep0 k8.out); have o8 := q1; clear q1 q2 q3 q4)
                | (at_builtin; refine wpList_append_row (by rfl) (.tmp 119) (.tmp 120) 28 rfl w7.heap.size 35 i5 (.agg #[.int .i64 0, .int .i64 0, .slice none 0 0, .slice none 0 0]) 4 64 Try.underlying28 hi5.out hy0.out hy1.out hy2.out rfl (by decide) v8 0 [] rfl o8.out A7 m7 c7 (flatC R2) rfl hf2.out hs2x.out (flatC_oneR _) (by unfold maxLen; omega) (by omega) k8.out.size ?_; intro v9 w9 q1 q2 q3 q4; have k9 : Hid (Keeps [] w7 w9) := Lib.hid (keeps_append k8.out (Keeps.refl [] _) o8.out q2.out); have q1' := own_zero q1 hfr1; obtain ⟨A9, c9, rfl, HSm⟩ := HQ.out w9 v9 q1' k9; clear q1 q2 q3 q4 q1'))
              refine HSm.out.mono ?_
              rintro e wa ⟨rfl, ka⟩
              replace k9 := Lib.hid (k9.out.trans ka)
              clear HSm ka
              go_wp2_with fail
              refine (HLu.out _ k9.out).mono ?_
              rintro e wb ⟨rfl, rfl⟩
              go_wp2_with fail
              refine (HLv.out _ k9.out).mono ?_
              rintro e wb ⟨rfl, rfl⟩
              go_wp2_with fail
              refine (HNu.out _ k9.out).mono ?_
              rintro e wb ⟨Aa, ca, rfl, ra, kb⟩
              replace k9 := Lib.hid (k9.out.trans kb.out)
              clear kb
              go_wp2_with fail
              refine (HNv.out _ k9.out).mono ?_
              rintro e wc ⟨Ab, cb, rfl, rb, kc⟩
              replace k9 := Lib.hid (k9.out.trans kc.out)
              have HS2 : Hid (Calls Try.prog 16 #[.slice Aa (netOut Lf).length ca, .slice Ab (netOut Lf).length cb] wc fun e w' => e = .returned (.bool true) ∧ Keeps [] wc w') := Lib.hid (by
                refine (same_any wc [] [] Aa Ab (netOut Lf) (netOut Lf) _ ca _ cb rfl rfl (ra.out.keep kc.out (by simp)) rb.out hsN.out hnN.out).mono ?_
                rintro e w' ⟨rfl, k⟩
                exact ⟨by rw [decide_eq_true rfl], k⟩)
              clear ra rb kc
              go_wp2_with fail
              refine HS2.out.mono ?_
              rintro e wd ⟨rfl, kd⟩
              replace k9 := Lib.hid (k9.out.trans kd)
              go_wp2_with fail
              go_ret
              exact ⟨rfl, kk.out.trans (kb7.out.trans k9.out)⟩
end Go.Proofs.Ytmclfbhcddcebaa
