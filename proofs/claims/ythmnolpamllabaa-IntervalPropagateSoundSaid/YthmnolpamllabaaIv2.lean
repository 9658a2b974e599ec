/- The contract of the reference's Of. -/
import Derived.Test.YthmnolpamllabaaIv1
namespace Go.Proofs.Ythmnolpamllabaa
open Go.RowKit
set_option linter.unusedSimpArgs false
set_option linter.unusedVariables false

/-- out is the only representation of the union of l. -/
structure IsOf (l out : List Iv) : Prop where
  can : Canon out
  same : ∀ n, inn out n ↔ inn l n
  few : out.length ≤ l.length
theorem IsOf.unique {l m a b : List Iv} (h : IsOf l a) (k : IsOf m b) (hs : ∀ n, inn l n ↔ inn m n) : a = b := canon_unique h.can k.can (fun n => by rw [h.same, k.same]; exact hs n)
theorem canon_mem : ∀ {l : List Iv} {x : Iv}, Canon l → x ∈ l → x.1 ≤ x.2
  | y :: r, x, h, hx => by
    rcases List.mem_cons.1 hx with rfl | hx
    · exact h.1
    · exact canon_mem h.2.2 hx
theorem IsOf.all64 {l out : List Iv} (h : IsOf l out) (h64 : All64 l) : All64 out := fun x hx => by
  have hle := canon_mem h.can hx
  obtain ⟨y, hy, h1, h2⟩ := (h.same x.1).1 ⟨x, hx, Int.le_refl _, hle⟩
  obtain ⟨z, hz, h3, h4⟩ := (h.same x.2).1 ⟨x, hx, hle, Int.le_refl _⟩
  have hy6 := h64 y hy
  have hz6 := h64 z hz
  unfold In64 at *
  omega

theorem in64_inn {l : List Iv} {z : Int} (h64 : All64 l) (h : inn l z) : In64 z := by
  obtain ⟨y, hy, h1, h2⟩ := h
  have := h64 y hy
  unfold In64 at *
  omega

def lenOf : Value → Nat
  | .slice _ n _ => n
  | _ => 0
def boolOf : Value → Nat
  | .bool true => 1
  | _ => 0

/-- What the scan needs of the list so far. -/
theorem top_cases (ou : List Iv) : ou = [] ∨ ∃ a z, ou = a ++ [z] := by
  rcases List.eq_nil_or_concat ou with h | ⟨a, z, h⟩
  · exact .inl h
  · exact .inr ⟨a, z, by simpa using h⟩

def OfPost (e : TypeId) (l : List Iv) (w : World) (en : Ending) (w' : World) : Prop := ∃ out, IsOf l out ∧ RowPost e out w en w'

set_option maxHeartbeats 6400000 in
set_option maxRecDepth 100000 in
theorem rof_any (w : World) (B : Nat) (A : Option Addr) (l : List Iv) (n c : Nat) (hl : l.length = n) (hB : B ≤ w.heap.size) (hO : IvAt w B A l) (h64 : All64 l) (hn : n ≤ 1000000) :
    Calls Try.prog 25 #[.slice A n c] w (OfPost 38 l w) := by
  obtain ⟨i0, hi, hz0, hz1, hz2⟩ := info_parts info38
  replace hO := Lib.hid hO
  replace hl := Lib.hid hl
  replace h64 := Lib.hid h64
  replace hi := Lib.hid hi
  replace hz0 := Lib.hid hz0
  replace hz1 := Lib.hid hz1
  replace hz2 := Lib.hid hz2
  go_enter Try.func25, Try.ntmps25
  go_wp2_with fail
  go_loopw [3] (fun out wr => ∃ (ou : List Iv) (p : Nat), ou.length = p ∧ Hid (ROut l ou) ∧ Hid (Keeps [] w wr) ∧ Hid (wr.ownsRow w.heap.size 38 2 out p (flat ou)) ∧ Hid (out = .slice none 0 0 ↔ p = 0)) (fun out _ => n + 1 - lenOf out)
  case atStart => exact ⟨[], 0, rfl, Lib.hid (rout_nil l), Lib.hid (Keeps.refl _ _), Lib.hid ⟨rfl, .inl ⟨rfl, rfl⟩⟩, Lib.hid (by simp)⟩
  case round =>
    obtain ⟨ou, p, hp, hR, hkw, hown, hnil⟩ := hrel
    obtain ⟨wo, hwX⟩ : ∃ x, x = wr := ⟨_, rfl⟩
    subst hwX
    obtain ⟨Ao, co, hout, _, _⟩ := own_slice hown.out
    have hpn : p ≤ n := by have := rout_few hR.out; have := hl.out; omega
    subst hout
    replace hp := Lib.hid hp
    go_wp2_with fail
    go_loopw [4, 5, 6] (fun lo fo i wi => ∃ (k : Nat) (low : Int) (f : Bool), k ≤ n ∧ i = .int .i64 k ∧ lo = .int .i64 low ∧ fo = .bool f ∧ Hid (Scan l (top ou) k low f) ∧ Hid (Keeps [] wo wi)) (fun _ _ i _ => n - (intOf i).toNat)
    case atStart => exact ⟨0, 0, false, Nat.zero_le _, rfl, rfl, rfl, Lib.hid (scan_nil l _ _), Lib.hid (Keeps.refl _ _)⟩
    case round =>
      obtain ⟨k, low, f, hk, rfl, rfl, rfl, hS, hki⟩ := hrel
      obtain ⟨wi, hwX⟩ : ∃ x, x = wr := ⟨_, rfl⟩
      subst hwX
      by_cases hlt : k < n
      · obtain ⟨⟨x1, x2⟩, hx⟩ : ∃ x, l[k]? = some x := ⟨l[k]'(by rw [hl.out]; exact hlt), List.getElem?_eq_getElem _⟩
        have hkk := Lib.hid (hkw.out.trans hki.out)
        obtain ⟨g, o, rfl, _, c1, c2⟩ := hO.out.keep hkk.out (by simp) k _ hx
        have h6 := h64.out _ (List.mem_of_getElem? hx)
        have hb1 : In64 x1 := h6.1
        have hb2 : In64 x2 := h6.2
        unfold In64 at hb1 hb2
        replace hx := Lib.hid hx
        dsimp only at c1 c2
        have hbs := Lib.hid hkk.out.size
        clear h6
        by_cases h12 : x2 < x1
        · have hS2 := Lib.hid (scan_skip hx.out hS.out (fun z h1 h2 => by dsimp only at h1 h2; omega))
          go_wp2_with fail
          go_roundw
          case rel => exact ⟨k + 1, low, f, by omega, by go_num, rfl, rfl, hS2, Lib.hid (hki.out.alloc _)⟩
          case measure => simp [intOf]; omega
        · rcases top_cases ou with hou | ⟨a, z, hou⟩
          · have hp0 : p = 0 := by rw [← hp.out, hou]; rfl
            have ht : top ou = none := by rw [hou]; rfl
            subst hp0
            cases f
            · have hS2 := Lib.hid (scan_take (m := x1) hx.out hS.out (Int.le_refl _) (by dsimp only; omega) (fun h e => by rw [ht] at e; cases e) (fun _ h _ _ => h) (.inl rfl))
              go_wp2_with fail
              go_roundw
              case rel => exact ⟨k + 1, x1, true, by omega, by go_num, rfl, rfl, hS2, Lib.hid (hki.out.alloc _)⟩
              case measure => simp [intOf]; omega
            · by_cases hlow : x1 < low
              · have hS2 := Lib.hid (scan_take (m := x1) hx.out hS.out (Int.le_refl _) (by dsimp only; omega) (fun h e => by rw [ht] at e; cases e) (fun _ h _ _ => h) (.inr hlow))
                go_wp2_with fail
                go_roundw
                case rel => exact ⟨k + 1, x1, true, by omega, by go_num, rfl, rfl, hS2, Lib.hid (hki.out.alloc _)⟩
                case measure => simp [intOf]; omega
              · have hS2 := Lib.hid (scan_keep (m := x1) hx.out hS.out (fun _ h _ _ => h) hlow)
                go_wp2_with fail
                go_roundw
                case rel => exact ⟨k + 1, low, true, by omega, by go_num, rfl, rfl, hS2, Lib.hid (hki.out.alloc _)⟩
                case measure => simp [intOf]; omega
          · obtain ⟨q, hq⟩ : ∃ q, a.length = q := ⟨_, rfl⟩
            have hp1 : p = q + 1 := by rw [← hp.out, hou, List.length_append, hq]; rfl
            have ht : top ou = some z.2 := by rw [hou, top_snoc]
            obtain ⟨z1, z2⟩ := z
            have hwo : wi.ownsRow w.heap.size 38 2 (.slice Ao p co) p (flat ou) := own_keep0 hown.out hki.out
            subst hp1
            obtain ⟨go, co', hv, _, _, _, hgl, hcells, _⟩ := own_row hwo (by omega)
            injection hv with hAo _ hco
            subst hAo hco
            have cz : wi.cell? ⟨go, q * 2 + 1, none⟩ = some (.int .i64 z2) := hcells _ _ (flat_get ou q (z1, z2) (by rw [hou, ← hq]; simp)).2
            replace cz : (wi.alloc (.cells #[.int .i64 x1, .int .i64 x2] 38)).cell? ⟨go, q * 2 + 1, none⟩ = some (.int .i64 z2) := ((Keeps.refl [] wi).alloc _).cellEq cz (by simp)
            have hq1 : IntKind.i64.wrap ((q : Int) + 1 - 1) = (q : Int) := by rw [IntWalk.i64_in _ (by omega)]; omega
            clear hwo hcells
            replace ht := Lib.hid ht
            replace hou := Lib.hid hou
            have hgl2 := Lib.hid hgl
            clear hgl
            have hgne : go ≠ wi.heap.size := by have := hgl2.out; omega
            by_cases hsk : x2 ≤ z2
            · have hS2 := Lib.hid (scan_skip hx.out hS.out (fun y h1 h2 hpst => by have := hpst z2 ht.out; dsimp only at h1 h2; omega))
              go_wp2_with fail
              go_roundw
              case rel => exact ⟨k + 1, low, f, by omega, by go_num, rfl, rfl, hS2, Lib.hid (hki.out.alloc _)⟩
              case measure => simp [intOf]; omega
            · have hz1w : IntKind.i64.wrap (z2 + 1) = z2 + 1 := IntWalk.i64_in _ (by
                have h8 : In64 z2 := by
                  exact in64_inn h64.out ((hR.out.ex z2).1 (by rw [hou.out]; exact inn_append.2 (.inr (inn_cons.2 (.inl ⟨canon_mem hR.out.can (by rw [hou.out]; simp), Int.le_refl _⟩))))).1
                unfold In64 at h8
                omega)
              by_cases hmv : x1 ≤ z2
              · have hpp : past (top ou) (z2 + 1) := fun h e => by rw [ht.out] at e; cases e; omega
                have hmm : ∀ y, x1 ≤ y → y ≤ x2 → past (top ou) y → z2 + 1 ≤ y := fun y _ _ hy => by have := hy z2 ht.out; omega
                replace hpp := Lib.hid hpp
                replace hmm := Lib.hid hmm
                cases f
                · have hS2 := Lib.hid (scan_take (m := z2 + 1) hx.out hS.out (by dsimp only; omega) (by dsimp only; omega) hpp.out hmm.out (.inl rfl))
                  go_wp2_with fail
                  go_roundw
                  case rel => exact ⟨k + 1, z2 + 1, true, by omega, by go_num, rfl, rfl, hS2, Lib.hid (hki.out.alloc _)⟩
                  case measure => simp [intOf]; omega
                · by_cases hlow : z2 + 1 < low
                  · have hS2 := Lib.hid (scan_take (m := z2 + 1) hx.out hS.out (by dsimp only; omega) (by dsimp only; omega) hpp.out hmm.out (.inr hlow))
                    go_wp2_with fail
                    go_roundw
                    case rel => exact ⟨k + 1, z2 + 1, true, by omega, by go_num, rfl, rfl, hS2, Lib.hid (hki.out.alloc _)⟩
                    case measure => simp [intOf]; omega
                  · have hS2 := Lib.hid (scan_keep (m := z2 + 1) hx.out hS.out hmm.out hlow)
                    go_wp2_with fail
                    go_roundw
                    case rel => exact ⟨k + 1, low, true, by omega, by go_num, rfl, rfl, hS2, Lib.hid (hki.out.alloc _)⟩
                    case measure => simp [intOf]; omega
              · have hpp : past (top ou) x1 := fun h e => by rw [ht.out] at e; cases e; omega
                replace hpp := Lib.hid hpp
                cases f
                · have hS2 := Lib.hid (scan_take (m := x1) hx.out hS.out (Int.le_refl _) (by dsimp only; omega) hpp.out (fun _ h _ _ => h) (.inl rfl))
                  go_wp2_with fail
                  go_roundw
                  case rel => exact ⟨k + 1, x1, true, by omega, by go_num, rfl, rfl, hS2, Lib.hid (hki.out.alloc _)⟩
                  case measure => simp [intOf]; omega
                · by_cases hlow : x1 < low
                  · have hS2 := Lib.hid (scan_take (m := x1) hx.out hS.out (Int.le_refl _) (by dsimp only; omega) hpp.out (fun _ h _ _ => h) (.inr hlow))
                    go_wp2_with fail
                    go_roundw
                    case rel => exact ⟨k + 1, x1, true, by omega, by go_num, rfl, rfl, hS2, Lib.hid (hki.out.alloc _)⟩
                    case measure => simp [intOf]; omega
                  · have hS2 := Lib.hid (scan_keep (m := x1) hx.out hS.out (fun _ h _ _ => h) hlow)
                    go_wp2_with fail
                    go_roundw
                    case rel => exact ⟨k + 1, low, true, by omega, by go_num, rfl, rfl, hS2, Lib.hid (hki.out.alloc _)⟩
                    case measure => simp [intOf]; omega
      · obtain rfl : k = n := by omega
        have hkk := Lib.hid (hkw.out.trans hki.out)
        have hSl : Hid (Scan l (top ou) l.length low f) := Lib.hid (by rw [hl.out]; exact hS.out)
        clear hS
        cases f
        · have hfin := Lib.hid (RowPost.mk' (e := 38) (w := w) (l := ou) hp.out (own_keep0 hown.out hki.out) hnil.out hkk.out)
          have his := Lib.hid (IsOf.mk (l := l) hR.out.can (rout_done hR.out hSl.out) (rout_few hR.out))
          go_wp2_with fail
          go_ret
          exact ⟨ou, his.out, hfin.out⟩
        · have hlin := (hSl.out.yes rfl).1
          rw [List.take_length] at hlin
          replace hlin := Lib.hid hlin
          go_wp2_with fail
          go_loopw [9, 10] (fun hi ch wj => ∃ (high : Int) (f : Bool), hi = .int .i64 high ∧ ch = .bool f ∧ Hid (High l low high) ∧ Hid (f = false → Still l l.length high) ∧ Hid (Keeps [] wi wj)) (fun hi ch _ => 2 * beyond l (intOf hi) + boolOf ch)
          case atStart => exact ⟨low, true, rfl, rfl, Lib.hid (high_start hlin.out), Lib.hid (fun h => by cases h), Lib.hid (Keeps.refl _ _)⟩
          case round =>
            obtain ⟨high, f, rfl, rfl, hH, hSt, hkj⟩ := hrel
            obtain ⟨wj, hwX⟩ : ∃ x, x = wr := ⟨_, rfl⟩
            subst hwX
            cases f
            · have hRn := rout_snoc hR.out hSl.out hH.out (hSt.out rfl)
              have hpn2 : p + 1 ≤ k := by
                have := rout_few hRn
                rw [List.length_append, hp.out, hl.out] at this
                exact this
              replace hRn := Lib.hid hRn
              have hkk2 := Lib.hid (hkk.out.trans hkj.out)
              have hown2 := Lib.hid (own_keep0 hown.out (hki.out.trans hkj.out))
              have hsz := hkk2.out.size
              go_wp2_with (at_builtin; refine wpList_append_own _ rfl (.tmp 113) (.tmp 117) 23 rfl w.heap.size 38 i0 (.agg #[.int .i64 0, .int .i64 0]) 2 16 Try.underlying23 hi.out hz0.out hz1.out hz2.out rfl (by decide) (.slice Ao p co) p (flat ou) rfl (own_keep0 hown2.out ((Keeps.refl [] wj).alloc (.cells #[.int .i64 low, .int .i64 high] 38))) ⟨wj.heap.size, 0, none⟩ 1 1 [.int .i64 low, .int .i64 high] rfl rfl (World.news_of_block (cs := #[.int .i64 low, .int .i64 high]) (t := 38) (fr := (0, 0)) (heap_alloc_new wj _)) (by simp [Value.oneCell']) (by unfold maxLen; omega) (by omega) (by simp; omega) ?_; intro v' w1 ho1 hg1 hn1; replace ho1 := Lib.hid ho1; replace hg1 := Lib.hid hg1; replace hn1 := Lib.hid hn1)
              go_roundw
              case rel => exact ⟨ou ++ [(low, high)], p + 1, by rw [List.length_append, hp.out]; rfl, hRn, Lib.hid (keeps_append hkk2.out ((Keeps.refl [] wj).alloc _) hown2.out hg1.out), Lib.hid (by rw [flat_append]; exact ho1.out), Lib.hid (by have := hn1.out; simp at this ⊢; exact this)⟩
              case measure =>
                obtain ⟨A5, c5, e5, _, _⟩ := own_slice ho1.out
                subst e5
                simp [lenOf]
                omega
            · go_wp2_with fail
              go_loopw [9, 10, 11] (fun hi ch i wk => ∃ (j : Nat) (hig : Int) (f : Bool), j ≤ k ∧ i = .int .i64 j ∧ hi = .int .i64 hig ∧ ch = .bool f ∧ Hid (High l low hig) ∧ Hid (f = false → hig = high ∧ Still l j hig) ∧ Hid (f = true → beyond l hig < beyond l high) ∧ Hid (Keeps [] wj wk)) (fun _ _ i _ => k - (intOf i).toNat)
              case atStart => exact ⟨0, high, false, Nat.zero_le _, rfl, rfl, rfl, hH, Lib.hid (fun _ => ⟨rfl, still_zero l high⟩), Lib.hid (fun h => by cases h), Lib.hid (Keeps.refl _ _)⟩
              case round =>
                obtain ⟨j, hig, f, hj, rfl, rfl, rfl, hH2, hF, hT, hkk3⟩ := hrel
                obtain ⟨wk, hwX⟩ : ∃ x, x = wr := ⟨_, rfl⟩
                subst hwX
                by_cases hjl : j < k
                · obtain ⟨⟨x1, x2⟩, hx⟩ : ∃ x, l[j]? = some x := ⟨l[j]'(by rw [hl.out]; exact hjl), List.getElem?_eq_getElem _⟩
                  have hkk4 := Lib.hid ((hkk.out.trans hkj.out).trans hkk3.out)
                  obtain ⟨g, o, rfl, _, c1, c2⟩ := hO.out.keep hkk4.out (by simp) j _ hx
                  have h6 := h64.out _ (List.mem_of_getElem? hx)
                  have hb1 : In64 x1 := h6.1
                  have hb2 : In64 x2 := h6.2
                  unfold In64 at hb1 hb2
                  replace hx := Lib.hid hx
                  dsimp only at c1 c2
                  clear h6
                  have hno : (x1 ≤ x2 → hig < x2 → hig + 1 < x1) → Hid (f = false → hig = high ∧ Still l (j + 1) hig) := fun h => Lib.hid (fun e => ⟨(hF.out e).1, still_step (hF.out e).2 hx.out h⟩)
                  have hyes : x1 ≤ hig + 1 → hig < x2 → Hid (High l low x2) ∧ Hid (beyond l x2 < beyond l high) := fun h1 h2 => by
                    refine ⟨Lib.hid (high_more hH2.out hx.out h1 h2), Lib.hid ?_⟩
                    have h3 := beyond_lt hx.out h2
                    dsimp only at h3
                    cases hf : f
                    · rw [(hF.out hf).1] at h3; exact h3
                    · have := hT.out hf; omega
                  have hig6 := in64_inn h64.out (hH2.out.all hig hH2.out.le (Int.le_refl _))
                  unfold In64 at hig6
                  replace hno := Lib.hid hno
                  replace hyes := Lib.hid hyes
                  by_cases a1 : x1 ≤ x2
                  · have d1 := decide_eq_true a1
                    by_cases a2 : hig < x2
                    · have d2 := decide_eq_true a2
                      by_cases a3 : x1 ≤ hig
                      · have d3 := decide_eq_true a3
                        obtain ⟨hm, hbe⟩ := hyes.out (by omega) a2
                        go_wp2_with fail
                        go_quiet (fail)
                        go_wp2_with fail
                        go_roundw
                        case rel => exact ⟨j + 1, x2, true, by omega, by go_num, rfl, rfl, hm, Lib.hid (fun h => by cases h), Lib.hid (fun _ => hbe.out), Lib.hid (hkk3.out.drewN _)⟩
                        case measure => simp [intOf]; omega
                      · have d3 := decide_eq_false a3
                        have hw1 : IntKind.i64.wrap (hig + 1) = hig + 1 := IntWalk.i64_in _ (by omega)
                        by_cases a4 : x1 = hig + 1
                        · have d4 : (x1 == hig + 1) = true := by simpa using a4
                          obtain ⟨hm, hbe⟩ := hyes.out (by omega) a2
                          replace a4 := Lib.hid a4
                          go_wp2_with fail
                          go_quiet (fail)
                          go_wp2_with fail
                          go_roundw
                          case rel => exact ⟨j + 1, x2, true, by omega, by go_num, rfl, rfl, hm, Lib.hid (fun h => by cases h), Lib.hid (fun _ => hbe.out), Lib.hid (hkk3.out.drewN _)⟩
                          case measure => simp [intOf]; omega
                        · have d4 : (x1 == hig + 1) = false := by simpa using a4
                          have hn2 := hno.out (fun _ _ => by omega)
                          go_wp2_with fail
                          go_quiet (fail)
                          go_wp2_with fail
                          go_roundw
                          case rel => exact ⟨j + 1, hig, f, by omega, by go_num, rfl, rfl, hH2, hn2, hT, Lib.hid (hkk3.out.drewN _)⟩
                          case measure => simp [intOf]; omega
                    · have d2 := decide_eq_false a2
                      have hn2 := hno.out (fun _ h => absurd h a2)
                      go_wp2_with fail
                      go_quiet (fail)
                      go_wp2_with fail
                      go_roundw
                      case rel => exact ⟨j + 1, hig, f, by omega, by go_num, rfl, rfl, hH2, hn2, hT, Lib.hid (hkk3.out.drewN _)⟩
                      case measure => simp [intOf]; omega
                  · have d1 := decide_eq_false a1
                    have hn2 := hno.out (fun h _ => absurd h a1)
                    go_wp2_with fail
                    go_quiet (fail)
                    go_wp2_with fail
                    go_roundw
                    case rel => exact ⟨j + 1, hig, f, by omega, by go_num, rfl, rfl, hH2, hn2, hT, Lib.hid (hkk3.out.drewN _)⟩
                    case measure => simp [intOf]; omega
                · obtain rfl : j = k := by omega
                  have hSt2 : Hid (f = false → Still l l.length hig) := Lib.hid (fun e => by rw [hl.out]; exact (hF.out e).2)
                  go_wp2_with fail
                  go_roundw
                  case rel => exact ⟨hig, f, rfl, rfl, hH2, hSt2, Lib.hid (hkj.out.trans hkk3.out)⟩
                  case measure =>
                    cases f
                    · have := (hF.out rfl).1; subst this; simp [intOf, boolOf]
                    · have := hT.out rfl; simp [intOf, boolOf]; omega
end Go.Proofs.Ythmnolpamllabaa
