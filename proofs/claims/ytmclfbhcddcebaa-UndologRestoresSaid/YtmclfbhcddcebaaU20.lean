/- awake and few. -/
import Derived.Test.YtmclfbhcddcebaaU19
namespace Go.Proofs.Ytmclfbhcddcebaa
open Go.RowKit Go.Shelf
set_option linter.unusedSimpArgs false
set_option linter.unusedVariables false

def v1 (n : Int) : Val := ⟨1, n, ⟨#[]⟩⟩
theorem row_got (w : World) (n : Int) : Calls Try.prog 28 #[.int .i64 n] w fun e w' => ∃ A, e = .returned (.slice A 1 1) ∧ Hid (∀ X : List Nat, (∀ x ∈ X, x < w.heap.size) → RowAt w' X A [v1 n]) ∧ Hid (Keeps [] w w') := by
  refine (rowf_any w n).mono ?_
  rintro e w' ⟨rfl, rfl⟩
  refine ⟨_, rfl, Lib.hid (fun X hX i v hi => ?_), Lib.hid ((Keeps.refl [] w).alloc _)⟩
  have hc := (Blk.new w 41 #[.int .i64 1, .int .i64 n, .string ⟨#[]⟩]).cell
  cases i with
  | zero =>
    obtain rfl : v1 n = v := by simpa using hi
    exact ⟨w.heap.size, 0, rfl, fun hm => absurd (hX _ hm) (by omega), hc 0, hc 1, hc 2⟩
  | succ i => simp at hi
theorem Turn.nil {F F' : List Nat} {w0 w w' : World} (h : Turn F F' w w') (k : Keeps [] w0 w) (hF : ∀ g ∈ F, w0.heap.size ≤ g) : Keeps [] w0 w' := (k.nil.trans h.kp).mono (fun x hx => .inr (hF x hx))
theorem ChsAt.of {w : World} {b n c : Nat} {X : List Nat} {A : Option Addr} {R : List Raw} {L : List Chg} (h : w.ownsRow b 35 4 (.slice A n c) n (flatC R)) (hn : R.length = n) (hR : RawsIs w X R L) (hA : ∀ g ∈ fb A, g ∉ X) : ChsAt w X A L := fun i ch hi => by
  have hlt : i < L.length := (List.getElem?_eq_some_iff.1 hi).1
  rw [← hR.1] at hlt
  obtain ⟨g, h1, h2, h3, h4⟩ := raws_of_own h hn (by omega)
  subst h1
  obtain ⟨c0, c1, c2, c3⟩ := h4 i _ (List.getElem?_eq_getElem hlt)
  exact ⟨g, 0, _, rfl, hA g (by simp [fb]), c0, c1, c2, c3, hR.2 i _ ch (List.getElem?_eq_getElem hlt) hi⟩
theorem rawsIs_of {w : World} {X : List Nat} {P : List PQ} (h : PIs w X P) : RawsIs w X (P.map (·.1)) (P.map (·.2)) := ⟨by simp, fun i r c h1 h2 => by
  rw [List.getElem?_map] at h1 h2
  cases hp : P[i]? with
  | none => rw [hp] at h1; cases h1
  | some p =>
    rw [hp] at h1 h2
    cases h1
    cases h2
    exact h p (List.mem_of_getElem? hp)⟩
theorem PIs.nil_ {w : World} {X : List Nat} {P : List PQ} (h : PIs w X P) : PIs w [] P := fun p hp => (h p hp).other (by simp)
/-- A result of Net can be compared. -/
theorem NetR.chs {w wr : World} {A : Option Addr} {c : Nat} {P : List PQ} (h : NetR w (.slice A P.length c) P wr) : ChsAt wr [] A (P.map (·.2)) :=
  ChsAt.of h.own (by simp) (rawsIs_of h.is_.nil_) (by simp)
theorem Small1 {t id : Int} {o n : List Val} (h : o.length ≤ 1 ∧ n.length ≤ 1) : Small ⟨t, id, o, n⟩ := ⟨by have := h.1; dsimp only; omega, by have := h.2; dsimp only; omega⟩
theorem raw1 {w : World} {X : List Nat} {A B : Option Addr} {o n : List Val} {a b c d : Nat} (ha : RowAt w X A o) (hb : RowAt w X B n) (h1 : o.length = a) (h2 : n.length = b) : RawIs w X ⟨0, 1, A, a, c, B, b, d⟩ ⟨0, 1, o, n⟩ := ⟨rfl, rfl, h1, h2, ha, hb⟩
theorem netIs_one {L : List Chg} {M : List Chg} {x : Chg} (h : NetIs L M) (he : (netM L).filter (fun c => !decide (c.old = c.new)) = [x]) : M = [x] := List.perm_singleton.1 (he ▸ h.1)
theorem netIs_none {L : List Chg} {M : List Chg} (h : NetIs L M) (he : (netM L).filter (fun c => !decide (c.old = c.new)) = []) : M = [] := List.perm_nil.1 (he ▸ h.1)

def e1 : Chg := ⟨0, 1, [], [v1 5]⟩
def e2 : Chg := ⟨0, 1, [v1 5], [v1 7]⟩
def e3 : Chg := ⟨0, 1, [v1 7], []⟩
theorem ok1 : addOk [] e1 = true := by simp [addOk, valid, fits, e1]
theorem ok2 : addOk [e1] e2 = true := by simp [addOk, valid, fits, hits, e1, e2]
theorem ok3 : addOk [e1, e2] e3 = true := by simp [addOk, valid, fits, hits, e1, e2, e3]
theorem net2 : (netM [e1, e2]).filter (fun c => !decide (c.old = c.new)) = [⟨0, 1, [], [v1 7]⟩] := by simp [netM, put, pos, hits, cAt, e1, e2]
theorem net3 : (netM [e1, e2, e3]).filter (fun c => !decide (c.old = c.new)) = [] := by simp [netM, put, pos, hits, cAt, e1, e2, e3]
theorem w64 : (Lit.int .i64 0).wf = true ∧ (Lit.int .i64 1).wf = true := by decide

set_option maxRecDepth 100000 in
set_option maxHeartbeats 8000000 in
theorem awake_any (w : World) : Calls Try.prog 10 #[] w fun e w' => e = .returned (.bool true) ∧ Keeps [] w w' := by
  go_enter Try.func10, Try.ntmps10
  go_wp2_with fail
  refine (new_any w).mono ?_
  rintro e w1 ⟨rfl, rfl⟩
  have hP := Lib.hid (GLog.new_ 64 82 w.heap.size w (Nat.le_refl _) [] (by simp))
  have kk : Hid (Keeps [] w (w.alloc (.cells #[.slice none 0 0, .slice none 0 0] 64))) := Lib.hid ((Keeps.refl [] w).alloc _)
  obtain ⟨gl, hgl⟩ : ∃ g, g = w.heap.size := ⟨_, rfl⟩
  rw [← hgl] at hP ⊢
  replace hgl := Lib.hid hgl
  generalize w.alloc (.cells #[.slice none 0 0, .slice none 0 0] 64) = w1 at *
  generalize [gl] = F at *
  go_wp2_with fail
  refine (row_got w1 5).mono ?_
  rintro e w2 ⟨A2, rfl, r2, k2⟩
  have hP2 := Lib.hid (hP.out.keep k2.out)
  replace kk := Lib.hid (kk.out.trans k2.out)
  have HA : Hid (Calls Try.prog 13 #[.pointer (some ⟨gl, 0, none⟩), .agg #[.int .i64 0, .int .i64 1, .slice none 0 0, .slice A2 1 1]] w2 (AddL gl w2 F F gl [] [] e1)) := Lib.hid (add_log gl w2 _ _ gl _ _ ⟨0, 1, none, 0, 0, A2, 1, 1⟩ e1 hP2.out (raw1 (RowAt.nil _ _ _) (r2.out _ hP.out.hi) rfl rfl) (Small1 (by simp)) w64 (by simp) hP2.out.bs)
  clear hP r2 k2
  go_wp2_with fail
  refine HA.out.mono ?_
  rintro e w3 ⟨F3, rfl, hP3, t3⟩
  rw [ok1] at hP3 ⊢
  replace kk := Lib.hid (t3.out.nil kk.out (fun g hg => by have := (hP2.out.lob g hg).1; have := hgl.out; omega))
  replace hP3 : Hid (PLog gl w3 (F3 ++ F) F3 gl [e1] []) := hP3
  generalize F3 ++ F = X3 at *
  clear HA hP2 t3
  go_wp2_with fail
  refine (row_got w3 5).mono ?_
  rintro e w4 ⟨A4, rfl, r4, k4⟩
  have hP4 := Lib.hid (hP3.out.keep k4.out)
  replace kk := Lib.hid (kk.out.trans k4.out)
  replace r4 := Lib.hid (r4.out _ hP3.out.hi)
  clear hP3 k4
  go_wp2_with fail
  refine (row_got w4 7).mono ?_
  rintro e w5 ⟨A5, rfl, r5, k5⟩
  have hP5 := Lib.hid (hP4.out.keep k5.out)
  replace kk := Lib.hid (kk.out.trans k5.out)
  replace r4 := Lib.hid (r4.out.keep k5.out (by simp))
  replace r5 := Lib.hid (r5.out _ hP4.out.hi)
  have HA : Hid (Calls Try.prog 13 #[.pointer (some ⟨gl, 0, none⟩), .agg #[.int .i64 0, .int .i64 1, .slice A4 1 1, .slice A5 1 1]] w5 (AddL gl w5 X3 F3 gl [e1] [] e2)) := Lib.hid (add_log gl w5 _ _ gl _ _ ⟨0, 1, A4, 1, 1, A5, 1, 1⟩ e2 hP5.out (raw1 r4.out r5.out rfl rfl) (Small1 (by simp)) w64 (by simp) hP5.out.bs)
  clear hP4 k5 r4 r5
  go_wp2_with fail
  refine HA.out.mono ?_
  rintro e w6 ⟨F6, rfl, hP6, t6⟩
  rw [ok2] at hP6 ⊢
  replace kk := Lib.hid (t6.out.nil kk.out (fun g hg => by have := (hP5.out.lob g hg).1; have := hgl.out; omega))
  replace hP6 : Hid (PLog gl w6 (F6 ++ X3) F6 gl [e1, e2] []) := hP6
  generalize F6 ++ X3 = X6 at *
  clear HA hP5 t6
  go_wp2_with fail
  refine (net_log gl w6 X6 F6 gl [e1, e2] [] hP6.out (by simp)).mono ?_
  rintro e w7 ⟨A7, c7, P7, M7, hPM, hM, rfl, hN7⟩
  have hM7 := netIs_one hM net2
  rw [hM7] at hPM
  have hP7 := Lib.hid (hP6.out.keep hN7.kp)
  replace kk := Lib.hid (kk.out.trans hN7.kp)
  have hc7 := Lib.hid hN7.chs
  have hl7 : P7.length = 1 := by rw [← List.length_map (f := (·.2)), hPM]; rfl
  rw [hPM] at hc7
  rw [hl7]
  replace hl7 := Lib.hid hl7
  clear hP6 hM hN7 hM7 hPM
  go_wp2_with fail
  refine (row_got w7 7).mono ?_
  rintro e w8 ⟨A8, rfl, r8, k8⟩
  have hP8 := Lib.hid (hP7.out.keep k8.out)
  replace kk := Lib.hid (kk.out.trans k8.out)
  have hc8 := Lib.hid (hc7.out.keep k8.out (by simp))
  replace r8 := Lib.hid (r8.out [] (by simp))
  have hB8 := Lib.hid (Blk.new w8 35 #[.int .i64 0, .int .i64 1, .slice none 0 0, .slice A8 1 1])
  have hS : Hid (Calls Try.prog 16 #[.slice A7 1 c7, .slice (some ⟨w8.heap.size, 0, none⟩) 1 1] (w8.alloc (.cells #[.int .i64 0, .int .i64 1, .slice none 0 0, .slice A8 1 1] 35)) fun e w' => e = .returned (.bool true) ∧ Keeps [] (w8.alloc (.cells #[.int .i64 0, .int .i64 1, .slice none 0 0, .slice A8 1 1] 35)) w') := Lib.hid (by
    have ka : Keeps [] w8 (w8.alloc (.cells #[.int .i64 0, .int .i64 1, .slice none 0 0, .slice A8 1 1] 35)) := (Keeps.refl [] w8).alloc _
    refine (same_any _ [] [] A7 (some ⟨w8.heap.size, 0, none⟩) [⟨0, 1, [], [v1 7]⟩] [⟨0, 1, [], [v1 7]⟩] 1 c7 1 1 rfl rfl (hc8.out.keep ka (by simp)) ?_ (fun c hc => by rw [List.mem_singleton.1 hc]; exact Small1 (by simp)) (by omega)).mono ?_
    · intro i c hi
      cases i with
      | zero =>
        obtain rfl : (⟨0, 1, [], [v1 7]⟩ : Chg) = c := by simpa using hi
        have hc := hB8.out.cell
        exact ⟨w8.heap.size, 0, ⟨0, 1, none, 0, 0, A8, 1, 1⟩, rfl, by simp, hc 0, hc 1, hc 2, hc 3, raw1 (RowAt.nil _ _ _) (r8.out.keep ka (by simp)) rfl rfl⟩
      | succ i => simp at hi
    · rintro e w' ⟨rfl, k⟩
      exact ⟨by rw [decide_eq_true rfl], k⟩)
  clear hP7 hc7 k8 r8 hB8 hc8
  go_wp2_with fail
  refine hS.out.mono ?_
  rintro e w9 ⟨rfl, k9⟩
  have ka9 : Keeps [] w8 w9 := ((Keeps.refl [] w8).alloc _).trans k9
  have hP9 := Lib.hid (hP8.out.keep ka9)
  replace kk := Lib.hid (kk.out.trans ka9)
  clear hP8 ka9 k9 hS
  go_wp2_with fail
  refine (row_got w9 7).mono ?_
  rintro e w10 ⟨A10, rfl, r10, k10⟩
  have hP10 := Lib.hid (hP9.out.keep k10.out)
  replace kk := Lib.hid (kk.out.trans k10.out)
  have HA : Hid (Calls Try.prog 13 #[.pointer (some ⟨gl, 0, none⟩), .agg #[.int .i64 0, .int .i64 1, .slice A10 1 1, .slice none 0 0]] w10 (AddL gl w10 X6 F6 gl [e1, e2] [] e3)) := Lib.hid (add_log gl w10 _ _ gl _ _ ⟨0, 1, A10, 1, 1, none, 0, 0⟩ e3 hP10.out (raw1 (r10.out _ hP9.out.hi) (RowAt.nil _ _ _) rfl rfl) (Small1 (by simp)) w64 (by simp) hP10.out.bs)
  clear hP9 k10 r10
  go_wp2_with fail
  refine HA.out.mono ?_
  rintro e w11 ⟨F11, rfl, hP11, t11⟩
  rw [ok3] at hP11 ⊢
  replace kk := Lib.hid (t11.out.nil kk.out (fun g hg => by have := (hP10.out.lob g hg).1; have := hgl.out; omega))
  replace hP11 : Hid (PLog gl w11 (F11 ++ X6) F11 gl [e1, e2, e3] []) := hP11
  generalize F11 ++ X6 = X11 at *
  clear HA hP10 t11
  go_wp2_with fail
  refine (net_log gl w11 X11 F11 gl [e1, e2, e3] [] hP11.out (by simp)).mono ?_
  rintro e w12 ⟨A12, c12, P12, M12, hPM, hM, rfl, hN12⟩
  have hM12 := netIs_none hM net3
  rw [hM12] at hPM
  have hP12 := Lib.hid (hP11.out.keep hN12.kp)
  replace kk := Lib.hid (kk.out.trans hN12.kp)
  have hl12 : P12.length = 0 := by rw [← List.length_map (f := (·.2)), hPM]; rfl
  rw [hl12]
  clear hP11 hM hN12 hM12 hPM hl12
  go_wp2_with fail
  refine (len_log gl w12 X11 F11 gl [e1, e2, e3] [] hP12.out).mono ?_
  rintro e w13 ⟨rfl, rfl⟩
  clear hP12
  go_wp2_with fail
  go_ret
  exact ⟨rfl, kk.out⟩
end Go.Proofs.Ytmclfbhcddcebaa
