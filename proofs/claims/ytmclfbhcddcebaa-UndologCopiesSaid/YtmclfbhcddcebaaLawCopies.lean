/- The walk of the statement UndologCopies. -/
import Derived.Test.YtmclfbhcddcebaaLawNested
import Derived.Test.YtmclfbhcddcebaaU37
import Derived.Test.YtmclfbhcddcebaaCopyP
namespace Go.Proofs.Ytmclfbhcddcebaa
open Go.RowKit Go.Shelf
set_option linter.unusedSimpArgs false
set_option linter.unusedVariables false

set_option maxRecDepth 100000 in
set_option maxHeartbeats 32000000 in
theorem law_copies (w : World) (A : Option Addr) (c : Nat) (l : List Oo) (h1 : l.length ≤ c) (h2 : c ≤ maxLen) (h3 : OpsAt w [] A l) (h4 : ∀ o ∈ l, wfC o.c ∧ (Lit.int .i64 o.n).wf = true) :
    Calls Try.prog 3 #[.slice A l.length c] w fun e w' => e = .returned (.bool true) ∧ Keeps [] w w' := by
  obtain ⟨i0, hi, hz0, hz1, hz2⟩ := info_parts info41
  replace hi := Lib.hid hi
  replace hz0 := Lib.hid hz0
  replace hz1 := Lib.hid hz1
  replace hz2 := Lib.hid hz2
  obtain ⟨n, hn⟩ : ∃ n, n = l.length := ⟨_, rfl⟩
  rw [← hn] at h1 ⊢
  have hF := Lib.hid (fun (w1 : World) (k : Keeps [] w w1) => few_any w1 [] A l n c hn.symm (h3.keep k (by simp)) (by omega))
  replace hn := Lib.hid hn
  replace h3 := Lib.hid h3
  replace h4 := Lib.hid h4
  clear h1 h2
  go_enter Try.func3, Try.ntmps3
  go_wp2_with fail
  refine (awake_any w).mono ?_
  rintro e w1 ⟨rfl, k1⟩
  replace hF := Lib.hid (hF.out w1 k1)
  have kk := Lib.hid k1
  clear k1
  cases hfew : fewB l
  · rw [hfew] at hF
    clear hfew
    go_wp2_with fail
    refine hF.out.mono ?_
    rintro e w2 ⟨rfl, k2⟩
    replace kk := Lib.hid (kk.out.trans k2)
    clear hF k2
    go_wp2_with fail
    refine (awake_any w2).mono ?_
    rintro e w9 ⟨rfl, k9⟩
    replace kk := Lib.hid (kk.out.trans k9)
    clear k9
    go_wp2_with fail
    go_ret
    exact ⟨rfl, kk.out⟩
  · have hfl := Lib.hid (few_len hfew)
    rw [hfew] at hF
    clear hfew
    go_wp2_with fail
    refine hF.out.mono ?_
    rintro e w2 ⟨rfl, k2⟩
    replace kk := Lib.hid (kk.out.trans k2)
    clear hF k2
    go_wp2_with fail
    refine (new_any w2).mono ?_
    rintro e w3 ⟨rfl, rfl⟩
    have hD0 := Lib.hid (Duo.new_ 64 82 31 99 w2 (GLog.new_ 64 82 w2.heap.size w2 (Nat.le_refl _) [] (by simp)))
    have hO2 := Lib.hid (h3.out.keep kk.out (by simp))
    obtain ⟨g1, hg1⟩ : ∃ g, g = w2.heap.size := ⟨_, rfl⟩
    obtain ⟨g2, hg2⟩ : ∃ g, g = w2.heap.size + 1 := ⟨_, rfl⟩
    have hk0 : Hid (Keeps [] w2 ((w2.alloc (.cells #[.slice none 0 0, .slice none 0 0] 64)).alloc (.cells #[.slice none 0 0, .slice none 0 0] 31))) := Lib.hid (((Keeps.refl [] w2).alloc _).alloc _)
    have hgs : (w2.alloc (.cells #[.slice none 0 0, .slice none 0 0] 64)).heap.size = g2 := by rw [hg2]; simp
    rw [← hg2, ← hg1] at hD0
    replace hD0 : Hid (Duo 64 82 31 99 w2.heap.size _ _ _ _ g1 g2 [] [] [] []) := Lib.hid (by rw [← hg1]; exact hD0.out)
    have hX0 : Hid (∀ x ∈ [g2, g1], w2.heap.size ≤ x) := Lib.hid (by simp; omega)
    replace hg1 := Lib.hid hg1
    replace hg2 := Lib.hid hg2
    replace hgs := Lib.hid hgs
    go_wp2_with fail
    rw [← hg2.out, ← hg1.out]
    generalize (w2.alloc (.cells #[.slice none 0 0, .slice none 0 0] 64)).alloc (.cells #[.slice none 0 0, .slice none 0 0] 31) = w4 at *
    clear hgs hg1 hg2 h3
    go_loopw [28] (fun i wr => ∃ (k : Nat) (X F1 F2 : List Nat), k ≤ n ∧ i = .int .i64 k ∧ Hid (Duo 64 82 31 99 w2.heap.size wr X F1 F2 g1 g2 (addsTo [] (l.take k)) (addsTo [] (l.take k)) [] []) ∧ Hid (∀ x ∈ X, w2.heap.size ≤ x) ∧ Hid (Keeps [] w2 wr)) (fun i _ => n - (intOf i).toNat)
    case atStart => exact ⟨0, _, _, _, Nat.zero_le _, rfl, hD0, hX0, hk0⟩
    case round =>
      obtain ⟨k, X, F1, F2, hk, rfl, hD, hXb, hkw⟩ := hrel
      clear hD0 hk0 hX0
      obtain ⟨wq, hwq⟩ : ∃ x, x = wr := ⟨_, rfl⟩
      subst hwq
      have hn60 : n ≤ 60 := by have := hfl.out.1; have := hn.out; omega
      by_cases hlt : k < n
      · obtain ⟨⟨ok, oc, os, on⟩, ho⟩ : ∃ o, l[k]? = some o := ⟨l[k]'(by rw [← hn.out]; exact hlt), List.getElem?_eq_getElem _⟩
        obtain ⟨g, off, ⟨t, id, Ao, no, co, An, nn, cn⟩, rfl, _, hc, hr⟩ := hO2.out k _ ho
        have z0 := hkw.out.cellEq (hc 0 _ rfl) (by simp)
        have z1 := hkw.out.cellEq (hc 1 _ rfl) (by simp)
        have z2 := hkw.out.cellEq (hc 2 _ rfl) (by simp)
        have z3 := hkw.out.cellEq (hc 3 _ rfl) (by simp)
        have z4 := hkw.out.cellEq (hc 4 _ rfl) (by simp)
        have z5 := hkw.out.cellEq (hc 5 _ rfl) (by simp)
        have z6 := hkw.out.cellEq (hc 6 _ rfl) (by simp)
        rw [Nat.add_zero] at z0
        dsimp only at z0 z1 z2 z3 z4 z5 z6 hr
        have hki : (k : Int) < (n : Int) := by omega
        have hsm : Hid (Small oc) := Lib.hid (fewO_small (hfl.out.2 _ (List.mem_of_getElem? ho)))
        have hwf : Hid (wfC oc) := Lib.hid (h4.out _ (List.mem_of_getElem? ho)).1
        obtain ⟨L, hL⟩ : ∃ L, L = addsTo [] (l.take k) := ⟨_, rfl⟩
        have hrun : Hid (addsTo [] (l.take (k + 1)) = if addOk L oc then L ++ [oc] else L) := Lib.hid (by rw [take_snoc ho, addsTo_snoc, ← hL]; rfl)
        rw [← hL] at hD
        have hLl : Hid (L.length ≤ 60) := Lib.hid (by have h5 := List.length_take_le k l; have h6 := addsTo_len [] (l.take k); rw [← hL] at h6; simp only [List.length_nil] at h6; omega)
        have hnn : Hid (oc.new.length = nn ∧ nn ≤ 1000000) := Lib.hid ⟨hr.nn, by have := hsm.out.2; have := hr.nn; dsimp only at this; omega⟩
        have HR : Hid (∀ w' F, Keeps [] w2 w' → (∀ y ∈ F, w2.heap.size ≤ y) → RawIs w' F ⟨t, id, Ao, no, co, An, nn, cn⟩ oc) := Lib.hid (fun w' F hk hF => (hr.other (fun y hy => .inr (hF y hy))).keep hk (by simp))
        obtain ⟨wB, hwB⟩ : ∃ x, x = (wq.alloc (.cells #[.int .i64 ok, .int .i64 t, .int .i64 id, .slice Ao no co, .slice An nn cn, .string os, .int .i64 on] 37)).alloc (.cells #[.int .i64 t, .int .i64 id, .slice Ao no co, .slice An nn cn] 35) := ⟨_, rfl⟩
        obtain ⟨go, hgo⟩ : ∃ x, x = wq.heap.size := ⟨_, rfl⟩
        obtain ⟨gc, hgc⟩ : ∃ x, x = wq.heap.size + 1 := ⟨_, rfl⟩
        have kB : Keeps [] wq wB := by rw [hwB]; exact ((Keeps.refl [] wq).alloc _).alloc _
        have BO := Lib.hid (show Blk wB go 37 #[.int .i64 ok, .int .i64 t, .int .i64 id, .slice Ao no co, .slice An nn cn, .string os, .int .i64 on] by rw [hwB, hgo]; exact (Blk.new wq 37 _).alloc _)
        have BC := Lib.hid (show Blk wB gc 35 #[.int .i64 t, .int .i64 id, .slice Ao no co, .slice An nn cn] by rw [hwB, hgc]; have := Blk.new (wq.alloc (.cells #[.int .i64 ok, .int .i64 t, .int .i64 id, .slice Ao no co, .slice An nn cn, .string os, .int .i64 on] 37)) 35 #[.int .i64 t, .int .i64 id, .slice Ao no co, .slice An nn cn]; simpa using this)
        have hszB : Hid (wB.heap.size = gc + 1) := Lib.hid (by rw [hwB, hgc]; simp)
        have hszq : Hid (wq.heap.size = go ∧ gc = go + 1) := Lib.hid (by omega)
        have kq := Lib.hid kB
        have hDB := Lib.hid (hD.out.keep kB)
        have hkB := Lib.hid (hkw.out.trans kB)
        have hsrc : Hid (SrcAt (((wq.alloc (.cells #[.int .i64 ok, .int .i64 t, .int .i64 id, .slice Ao no co, .slice An nn cn, .string os, .int .i64 on] 37)).alloc (.cells #[.int .i64 t, .int .i64 id, .slice Ao no co, .slice An nn cn] 35)).alloc (.cells #[] 41)) An nn (flatV oc.new)) := Lib.hid (by
          have := src_row (hr.new.keep (((hkw.out.alloc (.cells #[.int .i64 ok, .int .i64 t, .int .i64 id, .slice Ao no co, .slice An nn cn, .string os, .int .i64 on] 37)).alloc (.cells #[.int .i64 t, .int .i64 id, .slice Ao no co, .slice An nn cn] 35)).alloc (.cells #[] 41)) (by simp))
          rw [hnn.out.1] at this
          exact this)
        have hv : Hid ((((wq.alloc (.cells #[.int .i64 ok, .int .i64 t, .int .i64 id, .slice Ao no co, .slice An nn cn, .string os, .int .i64 on] 37)).alloc (.cells #[.int .i64 t, .int .i64 id, .slice Ao no co, .slice An nn cn] 35)).alloc (.cells #[] 41)).ownsRow ((wq.alloc (.cells #[.int .i64 ok, .int .i64 t, .int .i64 id, .slice Ao no co, .slice An nn cn, .string os, .int .i64 on] 37)).alloc (.cells #[.int .i64 t, .int .i64 id, .slice Ao no co, .slice An nn cn] 35)).heap.size 41 3 (.slice (some ⟨wq.heap.size + 1 + 1, 0, none⟩) 0 0) 0 []) := Lib.hid (by
          have := own_void ((wq.alloc (.cells #[.int .i64 ok, .int .i64 t, .int .i64 id, .slice Ao no co, .slice An nn cn, .string os, .int .i64 on] 37)).alloc (.cells #[.int .i64 t, .int .i64 id, .slice Ao no co, .slice An nn cn] 35)) 41 3
          rw [show (((wq.alloc (.cells #[.int .i64 ok, .int .i64 t, .int .i64 id, .slice Ao no co, .slice An nn cn, .string os, .int .i64 on] 37)).alloc (.cells #[.int .i64 t, .int .i64 id, .slice Ao no co, .slice An nn cn] 35)).heap.size : Nat) = wq.heap.size + 1 + 1 by simp] at this ⊢
          exact this)
        have hfv : Hid ((flatV oc.new).length = nn * 3) := Lib.hid (by rw [flatV_len, hnn.out.1])
        have hbs : ((wq.alloc (.cells #[.int .i64 ok, .int .i64 t, .int .i64 id, .slice Ao no co, .slice An nn cn, .string os, .int .i64 on] 37)).alloc (.cells #[.int .i64 t, .int .i64 id, .slice Ao no co, .slice An nn cn] 35)).heap.size ≤ (((wq.alloc (.cells #[.int .i64 ok, .int .i64 t, .int .i64 id, .slice Ao no co, .slice An nn cn, .string os, .int .i64 on] 37)).alloc (.cells #[.int .i64 t, .int .i64 id, .slice Ao no co, .slice An nn cn] 35)).alloc (.cells #[] 41)).heap.size := (Keeps.alloc (Keeps.refl [] _) _).size
        have hnnx : nn ≤ 1000000 := hnn.out.2
        replace hc := Lib.hid hc
        replace ho := Lib.hid ho
        replace hL := Lib.hid hL
        replace hwB := Lib.hid hwB
        replace hgo := Lib.hid hgo
        replace hgc := Lib.hid hgc
        clear hr kB
        go_wp2_with (at_builtin; refine wpList_append_row (by rfl) (.tmp 34) (.tmp 36) 33 rfl ((wq.alloc (.cells #[.int .i64 ok, .int .i64 t, .int .i64 id, .slice Ao no co, .slice An nn cn, .string os, .int .i64 on] 37)).alloc (.cells #[.int .i64 t, .int .i64 id, .slice Ao no co, .slice An nn cn] 35)).heap.size 41 i0 (.agg #[.int .i64 0, .int .i64 0, .string ⟨#[]⟩]) 3 32 Try.underlying33 hi.out hz0.out hz1.out hz2.out rfl (by decide) _ 0 [] rfl hv.out An nn cn (flatV oc.new) rfl hfv.out hsrc.out (flatV_one oc.new) (by unfold maxLen; omega) (by omega) hbs ?_; intro v6 w1 q1 q2 q3 q4; obtain ⟨A6, c6, w5, rfl, hw5, b3, f3, b0, b1, b2, BO5, BC5, o5, k5⟩ := copy_mid hwB.out hgo.out hgc.out hszB.out BO.out BC.out hv.out q1.out q2.out kq.out; clear q1 q2 q3 q4)
        rw [← hw5.out, ← hgc.out, ← hgo.out]
        have hk5 : Hid (Keeps [] w2 w5) := Lib.hid (hkw.out.trans k5.out)
        have hlo6 : Hid (∀ y ∈ fb A6, wB.heap.size ≤ y ∧ y < w5.heap.size) := Lib.hid (fun y hy => ⟨(own_lo o5.out hy).1, (own_lo o5.out hy).2.1⟩)
        have D6 := Lib.hid (hD.out.wider (Y := fb A6) k5.out (fun y hy => ⟨by have := (hlo6.out y hy).1; have := hszB.out; have := hszq.out; omega, (hlo6.out y hy).2⟩))
        have hF1q : Hid (∀ y ∈ F1, y < go ∧ w2.heap.size ≤ y) := Lib.hid (fun y hy => by have := hD.out.a.lob y hy; have := hszq.out; omega)
        have hF2q : Hid (∀ y ∈ F2, y < go ∧ w2.heap.size ≤ y) := Lib.hid (fun y hy => by have := hD.out.c.lob y hy; have := hszq.out; omega)
        have hcA : RawIs w5 F1 ⟨t, id, Ao, no, co, A6, nn, c6⟩ oc := by
          have h0 := HR.out w5 F1 hk5.out (fun y hy => (hF1q.out y hy).2)
          exact ⟨h0.t, h0.id, h0.no, h0.nn, h0.old, (row_of_own o5.out hnn.out.1).fresh (fresh_of_own o5.out) (fun y hy => by have := (hF1q.out y hy).1; have := hszB.out; have := hszq.out; omega)⟩
        have hb2 : Hid (w2.heap.size ≤ w5.heap.size) := Lib.hid hk5.out.size
        refine (add_log2 w2.heap.size w5 (fb A6 ++ X) F1 g1 L [] ⟨t, id, Ao, no, co, A6, nn, c6⟩ oc D6.out.a hcA hsm.out hwf.out (by have := hLl.out; omega) hb2.out).mono ?_
        rintro e wA ⟨FA, rfl, pA, tA⟩
        have D7 := Lib.hid (D6.out.left pA.out tA.out)
        have kA : Hid (Keeps [] w2 wA) := Lib.hid (D6.out.base rfl hk5.out tA.out.kp (fun y hy => .inl hy))
        have hgoF1 : Hid (go ∉ F1 ∧ gc ∉ F1 ∧ (∀ y ∈ fb A6, y ∉ F1)) := Lib.hid ⟨fun hm => by have := (hF1q.out _ hm).1; omega, fun hm => by have := (hF1q.out _ hm).1; have := hszq.out; omega, fun y hy hm => by have := (hF1q.out _ hm).1; have := (hlo6.out y hy).1; have := hszB.out; have := hszq.out; omega⟩
        have hgoF2 : Hid (go ∉ F2 ∧ gc ∉ F2 ∧ (∀ y ∈ fb A6, y ∉ F2)) := Lib.hid ⟨fun hm => by have := (hF2q.out _ hm).1; omega, fun hm => by have := (hF2q.out _ hm).1; have := hszq.out; omega, fun y hy hm => by have := (hF2q.out _ hm).1; have := (hlo6.out y hy).1; have := hszB.out; have := hszq.out; omega⟩
        have BO7 := Lib.hid (BO5.out.keep tA.out.kp hgoF1.out.1)
        have BC7 := Lib.hid (BC5.out.keep tA.out.kp hgoF1.out.2.1)
        have o7 := Lib.hid (own_keep o5.out tA.out.kp (fun g hg => hgoF1.out.2.2 g (own_fb hg)))
        have y1 := BO7.out.cell 1
        have y2 := BO7.out.cell 2
        have y3 := BO7.out.cell 3
        have y4 := BO7.out.cell 4
        have hXA : Hid (∀ x ∈ FA ++ (fb A6 ++ X), w2.heap.size ≤ x) := Lib.hid (fun x hx => by
          rcases List.mem_append.1 hx with hx | hx
          · exact (D7.out.a.lob x hx).1
          · rcases List.mem_append.1 hx with hx | hx
            · have := (hlo6.out x hx).1; have := hszB.out; have := hszq.out; have := hkw.out.size; omega
            · exact hXb.out x hx)
        have HB := Lib.hid (radd_log w2.heap.size wA (FA ++ (fb A6 ++ X)) F2 g2 L [] ⟨t, id, Ao, no, co, An, nn, cn⟩ oc D7.out.c (HR.out wA _ kA.out hXA.out) hsm.out hwf.out (by have := hLl.out; omega))
        have hFA6 : Hid (∀ y ∈ fb A6, y ∉ FA) := Lib.hid (fun y hy hm => by
          rcases tA.out.nw y hm with h | h
          · exact hgoF1.out.2.2 y hy h
          · have := (hlo6.out y hy).2; omega)
        have hszA : Hid (w5.heap.size ≤ wA.heap.size) := Lib.hid tA.out.kp.size
        clear hD hDB hkB D6 BO BC BO5 BC5 o5 k5 hcA pA tA b0 b1 b2 b3 f3 hw5 hv hsrc hbs hfv z0 z1 z2 z3 z4 z5 z6 kq hk5
        generalize hec : (if addOk L oc then (0 : Int) else 1) = ec
        go_wp2_with fail
        refine HB.out.mono ?_
        rintro e wC ⟨FB, rfl, pB, tB⟩
        rw [hec]
        have D8 := Lib.hid (D7.out.right pB.out tB.out)
        have kC : Hid (Keeps [] w2 wC) := Lib.hid (D7.out.base rfl kA.out tB.out.kp (fun y hy => .inr hy))
        have BC8 := Lib.hid (BC7.out.keep tB.out.kp hgoF2.out.2.1)
        have o8 := Lib.hid (own_keep o7.out tB.out.kp (fun g hg => hgoF2.out.2.2 g (own_fb hg)))
        have hXC : Hid (∀ x ∈ FB ++ (FA ++ (fb A6 ++ X)), w2.heap.size ≤ x) := Lib.hid (fun x hx => by
          rcases List.mem_append.1 hx with hx | hx
          · exact (D8.out.c.lob x hx).1
          · exact hXA.out x hx)
        have hq6 : Hid (gc ∉ fb A6 ∧ (∀ y ∈ fb A6, y ∉ FA ∧ y ∉ FB)) := Lib.hid ⟨fun hm => by have := (hlo6.out _ hm).1; have := hszB.out; omega, fun y hy => ⟨hFA6.out y hy, fun hm => by
          rcases tB.out.nw y hm with h | h
          · exact hgoF2.out.2.2 y hy h
          · have := (hlo6.out y hy).2; have := hszA.out; omega⟩⟩
        have hpad : Hid (Pad wC A6 nn) := Lib.hid (pad_own o8.out)
        have x3 := BC8.out.cell 3
        replace hec := Lib.hid hec
        clear HB pB tB y1 y2 y3 y4 D7 kA BO7 BC7 o7
        go_wp2_with fail
        clear x3
        go_loopw [51] (fun i wr => ∃ j : Nat, j ≤ nn ∧ i = .int .i64 j ∧ Hid (Wr A6 wC wr)) (fun i _ => nn - (intOf i).toNat)
        case atStart => exact ⟨0, Nat.zero_le _, rfl, Lib.hid (Wr.refl _ _)⟩
        case round =>
          obtain ⟨j, hj, rfl, hW⟩ := hrel
          obtain ⟨wv, hwv⟩ : ∃ x, x = wr := ⟨_, rfl⟩
          subst hwv
          have x3 := (BC8.out.keep hW.out.kp hq6.out.1).cell 3
          by_cases hjn : j < nn
          · have hjl : (j : Int) < (nn : Int) := by omega
            obtain ⟨g6, off6, cl, rfl, hb6, hs6⟩ := pad_lt (hpad.out.wr hW.out) hjn
            go_wp2_with (refine wpList_store_mid (by rfl) 41 (.tmp 58) (.tmp 57) rfl g6 (off6 + j * 3) rfl 41 cl [.int .i64 1, .int .i64 99, .string ⟨#[]⟩] rfl hb6 (by rfl) (by simp; omega) (by simp [Value.oneCell']) ?_; intro w7 b7 k7)
            have hW7 : Hid (Wr (some ⟨g6, off6, none⟩) wC w7) := Lib.hid (hW.out.step k7 hb6 b7.out (by simp; exact splice_len (by simp; omega)))
            go_wp2_with fail
            go_roundw
            case rel => exact ⟨j + 1, by omega, by go_num, hW7⟩
            case measure => simp [intOf]; omega
          · obtain rfl : j = nn := by omega
            have hjl : ¬ (j : Int) < (j : Int) := by omega
            have D9 : Hid (Duo 64 82 31 99 w2.heap.size wv (FB ++ (FA ++ (fb A6 ++ X))) FA FB g1 g2 (addsTo [] (l.take (k + 1))) (addsTo [] (l.take (k + 1))) [] []) := Lib.hid (by
              rw [hrun.out]
              exact ⟨D8.out.a.step hW.out.kp (fun y hy => (hq6.out.2 y hy).1) (fun y hy => .inl (by simp [hy])) (fun x hx => .inl hx) D8.out.a.sub, D8.out.c.step hW.out.kp (fun y hy => (hq6.out.2 y hy).2) (fun y hy => .inl (by simp [hy])) (fun x hx => .inl hx) D8.out.c.sub, D8.out.dj⟩)
            have k9 : Hid (Keeps [] w2 wv) := Lib.hid ((kC.out.nil.trans hW.out.kp).mono (fun y hy => .inr (hXC.out y (by simp [hy]))))
            go_wp2_with fail
            go_roundw
            case rel => exact ⟨k + 1, _, _, _, by omega, by go_num, D9, hXC, k9⟩
            case measure => simp [intOf]; omega
      · obtain rfl : k = n := by omega
        have hjf : ¬ (k : Int) < (k : Int) := by omega
        obtain ⟨L, hL⟩ : ∃ L, L = addsTo [] (l.take k) := ⟨_, rfl⟩
        rw [← hL] at hD
        have hLl : Hid (L.length ≤ 60) := Lib.hid (by have h5 := List.length_take_le k l; have h6 := addsTo_len [] (l.take k); rw [← hL] at h6; simp only [List.length_nil] at h6; omega)
        have hsL : Hid (∀ c ∈ L, Small c) := Lib.hid (fun c hc => (hD.out.a.sm c hc).1)
        have hsN : Hid (∀ c ∈ netOut L, Small c) := Lib.hid (netOut_small hsL.out)
        have hnN : Hid ((netOut L).length ≤ 1000000) := Lib.hid (by have := netOut_len L; have := hLl.out; omega)
        replace hL := Lib.hid hL
        go_wp2_with fail
        refine (net_log _ wq X F1 g1 L [] hD.out.a (by have := hLl.out; omega)).mono ?_
        rintro e wN ⟨AN, cN, P, M, hPM, hM, rfl, hN⟩
        obtain ⟨m, hm⟩ : ∃ m, m = P.length := ⟨_, rfl⟩
        have hC0 := Lib.hid (Clob.refl hN.kp)
        replace hN := Lib.hid hN
        rw [← hm]
        have hMo := netIs_out hM
        have hm6 : m ≤ 60 := by
          have h5 := netOut_len L
          have h6 := congrArg List.length hPM
          rw [List.length_map, hMo] at h6
          have := hLl.out
          omega
        have hsP : Hid (∀ p ∈ P, p.2.new.length ≤ 1000000) := Lib.hid (fun p hp => (hsN.out p.2 (by rw [← hMo, ← hPM]; exact List.mem_map_of_mem hp)).2)
        replace hm := Lib.hid hm
        clear hPM hM hMo
        go_wp2_with fail
        go_loopw [64] (fun i wr => ∃ j : Nat, j ≤ m ∧ i = .int .i64 j ∧ Hid (Clob wq wN wr)) (fun i _ => m - (intOf i).toNat)
        case atStart => exact ⟨0, Nat.zero_le _, rfl, hC0⟩
        case round =>
          obtain ⟨j, hj, rfl, hC⟩ := hrel
          clear hC0
          obtain ⟨wv, hwv⟩ : ∃ x, x = wr := ⟨_, rfl⟩
          subst hwv
          by_cases hjm : j < m
          · have hji : (j : Int) < (m : Int) := by omega
            obtain ⟨⟨⟨t, id, Ao, no, co, An, nn, cn⟩, ch⟩, hp⟩ : ∃ p, P[j]? = some p := ⟨P[j]'(by rw [← hm.out]; exact hjm), List.getElem?_eq_getElem _⟩
            have hraw := hN.out.is_ _ (List.mem_of_getElem? hp)
            obtain ⟨_, hfr, hcel⟩ := hN.out.new _ (List.mem_of_getElem? hp)
            have hnn6 : nn ≤ 1000000 := by
              have h5 := hsP.out _ (List.mem_of_getElem? hp)
              have h6 := hraw.nn
              dsimp only at h5 h6
              omega
            obtain ⟨gA, hgA, _, _, z0, z1, z2, z3⟩ := own_at (hC.out.own hN.out.own) rfl hp
            subst hgA
            dsimp only at z0 z1 z2 z3 hraw hfr hcel
            have hfr := Lib.hid hfr
            have hcel := Lib.hid hcel
            obtain ⟨gv, hgv⟩ : ∃ x, x = wv.heap.size := ⟨_, rfl⟩
            have k6 : Keeps [] wv (wv.alloc (.cells #[.int .i64 t, .int .i64 id, .slice Ao no co, .slice An nn cn] 35)) := (Keeps.refl [] wv).alloc _
            have hC6 := Lib.hid (hC.out.keep k6)
            have B6 := Lib.hid (Blk.new wv 35 #[.int .i64 t, .int .i64 id, .slice Ao no co, .slice An nn cn])
            have hpad : Hid (Pad (wv.alloc (.cells #[.int .i64 t, .int .i64 id, .slice Ao no co, .slice An nn cn] 35)) An nn) := Lib.hid (hC6.out.pad (pad_cel hraw.new hcel.out hraw.nn))
            have hgA6 : Hid (gv ∉ fb An) := Lib.hid (by rw [hgv]; exact fb_block (hC6.out.cel hcel.out) B6.out (by decide))
            rw [← hgv] at B6
            replace hgv := Lib.hid hgv
            clear hraw hp
            go_wp2_with fail
            rw [← hgv.out]
            generalize wv.alloc (.cells #[.int .i64 t, .int .i64 id, .slice Ao no co, .slice An nn cn] 35) = w6 at *
            clear z0 z1 z2 z3 k6
            go_loopw [71] (fun i wr => ∃ q : Nat, q ≤ nn ∧ i = .int .i64 q ∧ Hid (Wr An w6 wr)) (fun i _ => nn - (intOf i).toNat)
            case atStart => exact ⟨0, Nat.zero_le _, rfl, Lib.hid (Wr.refl _ _)⟩
            case round =>
              obtain ⟨q, hq, rfl, hW⟩ := hrel
              obtain ⟨wz, hwz⟩ : ∃ x, x = wr := ⟨_, rfl⟩
              subst hwz
              have x3 := (B6.out.keep hW.out.kp hgA6.out).cell 3
              by_cases hqn : q < nn
              · have hql : (q : Int) < (nn : Int) := by omega
                obtain ⟨g6, off6, cl, rfl, hb6, hs6⟩ := pad_lt (hpad.out.wr hW.out) hqn
                go_wp2_with (refine wpList_store_mid (by rfl) 41 (.tmp 78) (.tmp 77) rfl g6 (off6 + q * 3) rfl 41 cl [.int .i64 1, .int .i64 99, .string ⟨#[]⟩] rfl hb6 (by rfl) (by simp; omega) (by simp [Value.oneCell']) ?_; intro w7 b7 k7)
                have hW7 : Hid (Wr (some ⟨g6, off6, none⟩) w6 w7) := Lib.hid (hW.out.step k7 hb6 b7.out (by simp; exact splice_len (by simp; omega)))
                go_wp2_with fail
                go_roundw
                case rel => exact ⟨q + 1, by omega, by go_num, hW7⟩
                case measure => simp [intOf]; omega
              · obtain rfl : q = nn := by omega
                have hql : ¬ (q : Int) < (q : Int) := by omega
                have hC9 := Lib.hid (hC6.out.wr hW.out hfr.out hcel.out)
                go_wp2_with fail
                go_roundw
                case rel => exact ⟨j + 1, by omega, by go_num, hC9⟩
                case measure => simp [intOf]; omega
          · obtain rfl : j = m := by omega
            have hji : ¬ (j : Int) < (j : Int) := by omega
            have D3 := Lib.hid (hD.out.keep hC.out.kp)
            have k3 := Lib.hid (kk.out.trans (hkw.out.trans hC.out.kp))
            go_wp2_with fail
            refine (net_o _ wv _ _ g1 _ _ D3.out.a (by have := hLl.out; omega)).mono ?_
            rintro e w8 ⟨Aa, ca, rfl, ra, ka⟩
            have D4 := Lib.hid (D3.out.keep ka.out)
            have k4 := Lib.hid (k3.out.trans ka.out)
            clear ka D3 k3
            go_wp2_with fail
            refine (rnet_log _ w8 _ _ g2 _ _ D4.out.c (by have := hLl.out; omega)).mono ?_
            rintro e w9 ⟨Ab, cb, rfl, rb, kb⟩
            have ra := Lib.hid (ra.out.keep kb.out (by simp))
            have k5 := Lib.hid (k4.out.trans kb.out)
            clear kb D4 k4
            go_wp2_with fail
            refine (same_any w9 [] X Aa Ab (netOut L) (netOut L) _ ca _ cb rfl rfl ra.out rb.out hsN.out hnN.out).mono ?_
            rintro e w10 ⟨rfl, kb⟩
            rw [decide_eq_true rfl]
            have k6 := Lib.hid (k5.out.trans kb)
            clear kb k5 ra rb
            go_wp2_with fail
            go_ret
            exact ⟨rfl, k6.out⟩
end Go.Proofs.Ytmclfbhcddcebaa
