/- Append of the program's log. -/
import Derived.Test.YtnoaahgjfknnlaaWal2
import Derived.Test.YtnoaahgjfknnlaaDisk8
import Derived.Deep.RegionHeld3
namespace Go.Proofs.Ytnoaahgjfknnlaa
open Go.RowKit
set_option linter.unusedSimpArgs false
set_option linter.unusedVariables false

/-- The writes of an append: the data d from sector i on. -/
def wrs (s : St) (i ep : Nat) : Nat → List UInt8 → St × Int
  | 0, d => (s, 0)
  | f + 1, d => if d = [] then (s, 0) else if (wr s i (pack (d.take 59) ep)).2 = 0 then wrs (wr s i (pack (d.take 59) ep)).1 (i + 1) ep f (d.drop 59) else wr s i (pack (d.take 59) ep)

theorem wrs_nil (s : St) (i ep f : Nat) : wrs s i ep f [] = (s, 0) := by
  cases f with
  | zero => rfl
  | succ f => show (if ([] : List UInt8) = [] then (s, 0) else _) = _; rw [if_pos rfl]
theorem wrs_ok {s : St} {i ep f : Nat} {d : List UInt8} (hd : d ≠ []) (h : (wr s i (pack (d.take 59) ep)).2 = 0) : wrs s i ep (f + 1) d = wrs (wr s i (pack (d.take 59) ep)).1 (i + 1) ep f (d.drop 59) := by
  show (if d = [] then (s, 0) else if (wr s i (pack (d.take 59) ep)).2 = 0 then _ else _) = _
  rw [if_neg hd, if_pos h]
theorem wrs_bad {s : St} {i ep f : Nat} {d : List UInt8} (hd : d ≠ []) (h : (wr s i (pack (d.take 59) ep)).2 ≠ 0) : wrs s i ep (f + 1) d = wr s i (pack (d.take 59) ep) := by
  show (if d = [] then (s, 0) else if (wr s i (pack (d.take 59) ep)).2 = 0 then _ else _) = _
  rw [if_neg hd, if_neg h]
theorem wr_writes (s : St) (i : Int) (b : List UInt8) (h : 0 ≤ s.writes) : 0 ≤ (wr s i b).1.writes ∧ (wr s i b).1.writes ≤ s.writes + 1 := by
  unfold wr fail
  split
  · dsimp only; omega
  · split
    · dsimp only; omega
    · split
      · dsimp only; omega
      · dsimp only; omega

/-- What the program lays into the sector, step by step. -/
theorem lay_one (ch : List UInt8) (n : Nat) (hn : ch.length = n) (h : n ≤ 59) : splice (List.replicate 64 0) 0 (ch.take 64) = ch ++ List.replicate (64 - n) 0 := by
  rw [List.take_of_length_le (by omega)]
  simp only [splice, List.take_zero, List.nil_append, Nat.zero_add, List.drop_replicate, hn]
theorem lay_two (ch : List UInt8) (n : Nat) (hn : ch.length = n) (h : n ≤ 59) : ((((ch ++ List.replicate (64 - n) 0).map bv).toArray).setIfInBounds 59 (.int .u8 (n : Int))) = ((ch ++ List.replicate (59 - n) 0 ++ [UInt8.ofNat n] ++ List.replicate 4 0).map bv).toArray := by
  have hv : (Value.int .u8 (n : Int)) = bv (UInt8.ofNat n) := by
    unfold bv
    rw [UInt8.toNat_ofNat', show n % 2 ^ 8 = n by omega]
  rw [hv, List.setIfInBounds_toArray, ← List.map_set]
  congr 2
  rw [show 64 - n = (59 - n) + (1 + 4) by omega, ← List.replicate_append_replicate, ← List.replicate_append_replicate, ← List.append_assoc, List.set_append_right _ _ (by simp; omega)]
  simp only [List.length_append, List.length_replicate, hn]
  rw [show 59 - (n + (59 - n)) = 0 by omega]
  simp
theorem lay_three (ch : List UInt8) (n ep : Nat) (hn : ch.length = n) (h : n ≤ 59) : splice (ch ++ List.replicate (59 - n) 0 ++ [UInt8.ofNat n] ++ List.replicate 4 0) 60 ((be32 ep).take 4) = pack ch ep := by
  have h4 : (be32 ep).take 4 = be32 ep := List.take_of_length_le (by rw [be32_len]; omega)
  rw [h4]
  have hl : (ch ++ List.replicate (59 - n) 0 ++ [UInt8.ofNat n]).length = 60 := by simp; omega
  unfold splice pack
  rw [List.take_left' hl, be32_len, List.drop_of_length_le (by simp; omega), List.append_nil, hn]

theorem put4_any (w : World) (n : Nat) (hn : n < 4294967296) : Calls Try.prog 40 #[.int .u32 n] w fun e w' => e = .returned (.slice (some ⟨w.heap.size, 0, none⟩) 4 4) ∧ Blk w' w.heap.size 5 ((be32 n).map bv).toArray ∧ Keeps [] w w' :=
  (put_any w n hn).mono fun e w' h => h
theorem bts_new {w : World} {g : Nat} {l : List UInt8} (h : Blk w g 5 (l.map bv).toArray) : Bts w (some ⟨g, 0, none⟩) l := .inr ⟨g, 0, rfl, fun j v hj => by
  rw [h.cell, Nat.zero_add]
  simp [hj]⟩

theorem lay_cell {w : World} {g k : Nat} {ch : List UInt8} (h : Blk w g 5 ((ch ++ List.replicate (64 - k) 0).map bv).toArray) (hk : ch.length = k) (hk59 : k ≤ 59) :
    w.cell? ⟨g, 59, none⟩ = some (bv ((ch ++ List.replicate (64 - k) 0).getD 59 0)) := by
  rw [h.cell]
  have hl : 59 < (ch ++ List.replicate (64 - k) (0 : UInt8)).length := by simp; omega
  simp only [List.getElem?_toArray, List.getElem?_map, List.getD_eq_getElem?_getD, List.getElem?_eq_getElem hl]
  rfl
theorem new_keep {w w1 w2 : World} {X : List Nat} (h1 : Keeps [] w w1) (h2 : Keeps [w.heap.size] w1 w2) : Keeps X w w2 :=
  (h1.nil.trans h2).mono (by intro x hx; simp at hx; subst hx; exact .inr (Nat.le_refl _))

theorem lay_fit {ch : List UInt8} {k : Nat} (hk : ch.length = k) (h : k ≤ 59) : 60 + 4 ≤ (ch ++ List.replicate (59 - k) 0 ++ [UInt8.ofNat k] ++ List.replicate 4 0).length := by
  simp only [List.length_append, List.length_replicate, List.length_singleton]
  omega
theorem new_keep2 {w w1 w2 : World} {X : List Nat} (h1 : Keeps X w w1) (h2 : Keeps [w.heap.size] w1 w2) : Keeps X w w2 :=
  ((h1.mono (Y := w.heap.size :: X) (fun x hx => .inl (by simp [hx]))).trans (h2.mono (fun x hx => .inl (by simp at hx; simp [hx])))).mono (by intro x hx; simp at hx; rcases hx with rfl | hx; exact .inr (Nat.le_refl _); exact .inl hx)
theorem ne_new {w : World} {g : Nat} {t : TypeId} {cs : Array Value} (h : Blk w g t cs) : g ∉ [w.heap.size] := by
  have := h.lt
  simp
  omega

theorem step_copy_bts {P : Program} {w : World} {ops : Array Oper} {o : Oper} {a : Act} {K : Act → World → Prop} {Q : Exit → Act → World → Prop} {E : Prop} (hgd : Region.wanted o (yielded ops a.tmps) = true) (d s : Operand) (dT sT : TypeId)
    (ho : o.op = .call { callee := .builtin .copy, args := #[d, s], argTypes := #[dT, sT] }) (elem : TypeId) (hu : P.underlying dT = some (.slice elem)) (hsz : (P.info? elem).map (·.size) = some 1)
    (g off dLen dCap : Nat) (A : Option Addr) (l : List UInt8) (sLen sCap : Nat) (hd : a.eval d = .slice (some ⟨g, off, none⟩) dLen dCap) (hs : a.eval s = .slice A sLen sCap) (hl : l.length = sLen) (hB : Bts w A l)
    (cur : List UInt8) (t : TypeId) (hg : Blk w g t (cur.map bv).toArray) (hfit : off + dLen ≤ cur.length)
    (h : ∀ w', Hid (Blk w' g t ((splice cur off (l.take dLen)).map bv).toArray) → Keeps [g] w w' → K (a.put o.dst (goInt ((min sLen dLen : Nat) : Int))) w') :
    if Region.wanted o (yielded ops a.tmps) = true then Oper.wp P o a w K Q else E := by
  rw [if_pos hgd]
  obtain ⟨w', hr, h1, h2⟩ := run_copy_bts (P := P) (w := w) dT sT o.type elem hu hsz g off dLen dCap A l sLen sCap hl hB cur t hg hfit
  unfold Oper.wp execOp
  simp only [ho, resolve, invoke, builtin, Sem.run_bind, Sem.run_pure, Result.andThen_ok, List.map_toArray, List.map_cons, List.map_nil, hd, hs, hr]
  exact h w' (Lib.hid h1) h2

def AppPost (Z : List Nat) (w : World) (bl bd bs fi co ep rc : Nat) (L r : List UInt8) (q : St × Int) (e : Ending) (w' : World) : Prop :=
  e = .returned (.int .i64 q.2) ∧ DRep w' bd bs q.1 ∧ (if q.2 = 0 then LRep Z w' bl bd fi co ep (L ++ enc r) (rc + 1) else LRep Z w' bl bd fi co ep L rc) ∧ Keeps [bl, bd, bs] w w'

theorem app_end {Z : List Nat} {w y2 : World} {bl bd fi co ep rc base u2 ct a c4 : Nat} {L r E : List UInt8} {At A4 : Option Addr} (hL : LRep Z w bl bd fi co ep L rc) (hrc : rc + 1 ≤ 1000000) (hu : L.length + (r.length + 4) = u2) (hfit : u2 ≤ 59 * co)
    (hB : Blk y2 bl 67 #[.pointer (some ⟨bd, 0, none⟩), .int .i64 fi, .int .i64 co, .int .u32 ep, .int .i64 (u2 : Nat), .slice At a ct, .int .i64 rc])
    (o5 : y2.ownsRow base 5 1 (.slice A4 (u2 % 59) c4) (u2 % 59) (E.map bv)) (hE : E = (L ++ enc r).drop (59 * (u2 / 59))) (hZ : ∀ z ∈ Z, z < base) :
    LRep Z ((y2.setCell ⟨bl, 5, none⟩ (.slice A4 (u2 % 59) c4)).setCell ⟨bl, 6, none⟩ (.int .i64 ((rc : Int) + 1))) bl bd fi co ep (L ++ enc r) (rc + 1) := by
  have hl : (L ++ enc r).length = u2 := by rw [List.length_append, enc_len]; omega
  obtain ⟨h1, h2, h3, h4, h5⟩ := own_bts o5
  have k : Keeps [bl] y2 ((y2.setCell ⟨bl, 5, none⟩ (.slice A4 (u2 % 59) c4)).setCell ⟨bl, 6, none⟩ (.int .i64 ((rc : Int) + 1))) := ((Keeps.refl _ _).setCell (by simp) _).setCell (by simp) _
  have hb := (hB.set_ 5 (.slice A4 (u2 % 59) c4)).set_ 6 (.int .i64 ((rc : Int) + 1))
  refine ⟨⟨A4, c4, ?_, by rw [hl]; exact h3, h4, ?_, ?_⟩, hL.co1, hL.fi1, hL.ep0, hL.ep1, by rw [hl]; exact hfit, hrc⟩
  · rw [hl]
    rw [show (((rc + 1 : Nat)) : Int) = (rc : Int) + 1 by omega]
    exact hb
  · rw [hl, ← hE]
    refine h1.keep k ?_
    intro x hx
    obtain ⟨_, _, cur, hc⟩ := h5 x hx
    simp
    exact hc.ne_ hB (by decide)
  · intro x hx
    obtain ⟨hb5, _, cur, hc⟩ := h5 x hx
    refine ⟨fun hz => by have := hZ _ hz; omega, cur, hc.keep k ?_⟩
    simp
    exact hc.ne_ hB (by decide)

set_option maxHeartbeats 400000 in
theorem app_full (Z : List Nat) (w : World) (bl bd fi co ep rc : Nat) (L r : List UInt8) (A : Option Addr) (n c : Nat) (h : LRep Z w bl bd fi co ep L rc) (hn : r.length = n) (hf : freeOf (59 * co - L.length : Int) < n) :
    Calls Try.prog 17 #[.pointer (some ⟨bl, 0, none⟩), .slice A n c] w fun e w' => e = .returned (.int .i64 16) ∧ Keeps [] w w' := by
  have HF := Lib.hid (free_any Z w bl bd fi co ep rc L h)
  clear h
  go_enter Try.func17, Try.ntmps17
  go_wp2_with fail
  refine HF.out.mono ?_
  rintro e w1 ⟨rfl, m, rfl⟩
  clear HF
  go_wp2_with fail
  go_ret
  exact ⟨rfl, (Keeps.refl _ _).drewN _⟩

set_option maxHeartbeats 3200000 in
theorem app_any (Z : List Nat) (w : World) (bl bd bs fi co ep rc : Nat) (s : St) (L r : List UInt8) (A : Option Addr) (n c : Nat) (hD : DRep w bd bs s) (h : LRep Z w bl bd fi co ep L rc) (hn : r.length = n) (hnc : n ≤ c) (hB : Bts w A r)
    (hf : (n : Int) ≤ freeOf (59 * co - L.length : Int)) (hw0 : 0 ≤ s.writes) (hw : s.writes ≤ 800000) (hZ : ∀ z ∈ Z, z < w.heap.size) (hrc : rc + 1 ≤ 1000000) :
    Calls Try.prog 17 #[.pointer (some ⟨bl, 0, none⟩), .slice A n c] w
      (AppPost Z w bl bd bs fi co ep rc L r (wrs s (fi + L.length / 59) ep (L.drop (59 * (L.length / 59)) ++ enc r).length (L.drop (59 * (L.length / 59)) ++ enc r))) := by
  have HF := Lib.hid (free_any Z w bl bd fi co ep rc L h)
  obtain ⟨At, ct, hBl, hct, hctm, htb, htk⟩ := h.ex
  have hco := h.co1
  have hfi := h.fi1
  have hep := h.ep1
  have hlen := h.len
  have hc := hBl.cell
  have hfr : (n : Int) ≤ 59 * co - L.length - 4 ∧ n ≤ 16777216 := by unfold freeOf at hf; omega
  have htl : (L.drop (59 * (L.length / 59))).length = L.length % 59 := by rw [List.length_drop]; omega
  replace h := Lib.hid h
  have hD0 := Lib.hid hD
  replace hD := Lib.hid hD
  replace hB := Lib.hid hB
  replace hn := Lib.hid hn
  replace htb := Lib.hid htb
  replace htk := Lib.hid htk
  replace hBl := Lib.hid hBl
  replace htl := Lib.hid htl
  replace hZ := Lib.hid hZ
  have hf' : ¬ freeOf (59 * (co : Int) - (L.length : Int)) < (n : Int) := by omega
  clear hf
  generalize hT : L.drop (59 * (L.length / 59)) = T at *
  replace hT := Lib.hid hT
  obtain ⟨u, hu⟩ : ∃ u, L.length = u := ⟨_, rfl⟩
  rw [hu] at hc hfr hct hlen hf'
  have htl' : Hid (T.length = u % 59) := Lib.hid (by rw [htl.out, hu])
  rw [hu] at HF
  have hBl2 := hBl.out
  rw [hu] at hBl2
  replace hBl := Lib.hid hBl2
  clear hBl2
  rw [hu]
  replace hu := Lib.hid hu
  clear htl
  obtain ⟨D, hDD⟩ : ∃ D, T ++ enc r = D := ⟨_, rfl⟩
  rw [hDD]
  have hDl : Hid (D.length = u % 59 + (n + 4)) := Lib.hid (by rw [← hDD, List.length_append, enc_len, htl'.out, hn.out])
  replace hDD := Lib.hid hDD
  go_enter Try.func17, Try.ntmps17
  go_wp2_with fail
  refine HF.out.mono ?_
  rintro e w1 ⟨rfl, m, rfl⟩
  have kd := (Keeps.refl [] w).drewN m
  generalize w.drewN m = wa at *
  have s5 : wa.cell? ⟨bl, 5, none⟩ = some (.slice At (u % 59) ct) := ((hBl.out.keep kd (by simp)).cell 5).trans rfl
  have s5a := fun o => ((Keeps.refl [] wa).alloc o).cellEq s5 (by simp)
  replace hBl := Lib.hid (hBl.out.keep kd (by simp))
  replace hD := Lib.hid (hD.out.keep kd (by simp) (by simp))
  replace hB := Lib.hid (hB.out.keep kd (by simp))
  replace htb := Lib.hid (htb.out.keep kd (by simp))
  replace kd := Lib.hid kd
  clear hc HF
  have HM : Hid ((wa.alloc (.cells #[] 5)).ownsRow wa.heap.size 5 1 (.slice (some ⟨wa.heap.size, 0, none⟩) 0 0) ([] : List UInt8).length (([] : List UInt8).map bv)) := Lib.hid (World.ownsRow_made wa #[] 0 (Nat.le_refl _) (by simp [maxLen]) (by simp))
  have info5 : Hid ((Try.prog.info? 5).map (fun i => (i.zero, i.size, i.bytes)) = some (some (.int .u8 0), 1, 1)) := Lib.hid (by kernel_rfl)
  have KA : Hid (Keeps [] wa (wa.alloc (.cells #[] 5))) := Lib.hid ((Keeps.refl [] _).alloc _)
  have HTB := Lib.hid (htb.out.keep KA.out (by simp))
  have hzz : Hid (([] : List UInt8).length + u % 59 = u % 59) := Lib.hid (Nat.zero_add _)
  have hz4 : Hid (T.length + 4 = u % 59 + 4) := Lib.hid (by rw [htl'.out])
  have hz6 : Hid ((T ++ be32 n).length = u % 59 + 4) := Lib.hid (by rw [List.length_append, be32_len, htl'.out])
  have hz7 : Hid ((T ++ be32 n).length + n = D.length) := Lib.hid (by rw [hz6.out, hDl.out]; omega)
  have hz8 : Hid (T ++ be32 n ++ r = D) := Lib.hid (by rw [← hDD.out, List.append_assoc, ← hn.out]; rfl)
  have n32 : n < 4294967296 := by omega
  have e32 : (n : Int) % 4294967296 = n := by omega
  go_wp2_with (first
    | (at_builtin; refine wpList_append_bts rfl (.tmp 16) (.tmp 20) 34 rfl wa.heap.size 5 Try.underlying34 info5.out (.slice (some ⟨wa.heap.size, 0, none⟩) 0 0) [] T rfl ?_ _ _ _ rfl ?_ ?_ ?_ ?_ ?_; (exact HM.out); (exact htl'.out); (exact HTB.out); (rw [htl'.out, List.length_nil]; omega); (exact KA.out.size); intro A1 c1 wb G1 G2 G3; rw [hzz.out]; have g1 := G1.out; rw [hzz.out, List.nil_append] at g1; have kb := keep_grown (w := wa) HM.out KA.out (Nat.le_refl _) G2.out; have kb' := Lib.hid kb; have o1 : wb.ownsRow wa.heap.size 5 1 (.slice A1 (u % 59) c1) T.length (T.map bv) := htl'.out.symm ▸ g1; replace o1 := Lib.hid o1; clear G1 G2 G3 g1 kb)
    | (go_at_call 40; refine (put4_any wb n n32).mono ?_; rintro e wc ⟨rfl, hP, k4⟩; have o2 := Lib.hid (own_keep o1.out k4 (fun _ _ => List.not_mem_nil)); have kc := Lib.hid (kb'.out.trans k4); have hPb := Lib.hid (bts_new hP); clear hP k4 o1 kb')
    | (at_builtin; refine wpList_append_bts rfl (.tmp 21) (.tmp 25) 34 rfl wa.heap.size 5 Try.underlying34 info5.out (.slice A1 (u % 59) c1) T (be32 n) rfl ?_ _ _ _ rfl ?_ ?_ ?_ ?_ ?_; (exact o2.out); (exact be32_len n); (exact hPb.out); (rw [htl'.out, be32_len]; omega); (exact kc.out.size); intro A2 c2 wd G1 G2 G3; rw [hz4.out]; have g1 := G1.out; rw [hz4.out] at g1; have kd' := Lib.hid (keep_grown (w := wa) o2.out kc.out (Nat.le_refl _) G2.out); have o3 := Lib.hid (hz6.out.symm ▸ g1 : wd.ownsRow wa.heap.size 5 1 (.slice A2 (u % 59 + 4) c2) (T ++ be32 n).length ((T ++ be32 n).map bv)); have hB3 := Lib.hid (hB.out.keep kd'.out (fun _ _ => List.not_mem_nil)); clear G1 G2 G3 g1 o2 kc hPb)
    | (at_builtin; refine wpList_append_bts rfl (.tmp 26) (.tmp 27) 34 rfl wa.heap.size 5 Try.underlying34 info5.out (.slice A2 (u % 59 + 4) c2) (T ++ be32 n) r rfl ?_ _ _ _ rfl ?_ ?_ ?_ ?_ ?_; (exact o3.out); (exact hn.out); (exact hB3.out); (rw [hz6.out, hn.out]; omega); (exact kd'.out.size); intro A3 c3 we G1 G2 G3; rw [hz7.out]; have g1 := G1.out; rw [hz7.out, hz8.out] at g1; have ke := Lib.hid (keep_grown (w := wa) o3.out kd'.out (Nat.le_refl _) G2.out); have o4 := Lib.hid g1; clear G1 G2 G3 g1 o3 kd' hB3))
  clear s5 s5a HM KA HTB hzz hz4 hz6 hz7 e32
  have hBe := Lib.hid (hBl.out.keep ke.out (by simp))
  have s0 : we.cell? ⟨bl, 0, none⟩ = some (.pointer (some ⟨bd, 0, none⟩)) := (hBe.out.cell 0).trans rfl
  have s1 : we.cell? ⟨bl, 1, none⟩ = some (.int .i64 fi) := (hBe.out.cell 1).trans rfl
  have s4 : we.cell? ⟨bl, 4, none⟩ = some (.int .i64 u) := (hBe.out.cell 4).trans rfl
  go_quiet (fail)
  go_wp2_with fail
  have kq := (Keeps.refl [] we).drewN nq
  replace o4 := Lib.hid (own_keep o4.out kq (by simp))
  replace hBe := Lib.hid (hBe.out.keep kq (by simp))
  replace ke := Lib.hid (ke.out.trans kq)
  clear s0 s1 s4 kq
  generalize we.drewN nq = wl at *
  have hDl2 := Lib.hid (hD.out.keep ke.out (by simp) (by simp))
  have hne1 : bl ≠ bd := hBe.out.ne_ hDl2.out.d (by decide)
  have hne2 : bl ≠ bs := hBe.out.ne_ hDl2.out.m (by decide)
  obtain ⟨hDB, _, hc3, hm3, hD5⟩ := own_bts o4.out
  have hDB0 : Hid (Bts wl A3 D ∧ ∀ a, A3 = some a → ∃ cur, Blk wl a.block 5 cur) := Lib.hid ⟨hDB, fun a ha => (hD5 a ha).2.2⟩
  replace o4 := Lib.hid o4.out
  clear hDB hD5
  have hzm : Hid (madeCells #[.int .u8 0] 64 = ((List.replicate 64 (0 : UInt8)).map bv).toArray) := Lib.hid (by rw [List.map_replicate]; exact madeCells_same 1 64 (bv 0) (by decide))
  obtain ⟨i0, hi0⟩ : ∃ i0, fi + u / 59 = i0 := ⟨_, rfl⟩
  rw [hi0]
  have hi0c : i0 ≤ 140000 := by omega
  have hi0i : Hid ((fi : Int) + (u : Int) / 59 = (i0 : Int) + ((0 : Nat) : Int)) := Lib.hid (by omega)
  replace hi0 := Lib.hid hi0
  have hDb : Hid (D.length ≤ 3866700) := Lib.hid (by rw [hDl.out]; omega)
  go_loopw [6, 7] (fun se rest wr => ∃ (j l c : Nat) (s' : St) (d : List UInt8) (B : Option Addr), se = .int .i64 ((i0 : Int) + (j : Int)) ∧ rest = .slice B l c ∧ Hid (d.length = l) ∧ l ≤ c ∧ c ≤ maxLen ∧ l ≤ D.length ∧ j ≤ D.length ∧ Hid (l = 0 ∨ 59 * j + l = D.length) ∧ Hid (Bts wr B d ∧ ∀ a, B = some a → ∃ cur, Blk wr a.block 5 cur) ∧ Hid (DRep wr bd bs s') ∧ Hid (0 ≤ s'.writes ∧ s'.writes ≤ s.writes + j) ∧ Hid (wrs s i0 ep D.length D = wrs s' (i0 + j) ep (D.length - j) d) ∧ Hid (Keeps [bd, bs] wl wr)) (fun _ rest _ => lenOf rest)
  case atStart => exact ⟨0, D.length, c3, s, D, A3, congrArg (Value.int .i64) hi0i.out, rfl, Lib.hid rfl, hc3, hm3, Nat.le_refl _, Nat.zero_le _, Lib.hid (.inr (by omega)), hDB0, hDl2, Lib.hid (by omega), Lib.hid (by simp), Lib.hid (Keeps.refl _ _)⟩
  case round =>
    obtain ⟨j, l, c5, s', d, B, rfl, rfl, hdl, hlc, hcm, hlD, hjD, hjl, hBd, hDs, hws, heq, hkw⟩ := hrel
    clear hDl2
    unfold maxLen at hcm
    by_cases h0 : l = 0
    · have hd0 : d = [] := List.eq_nil_of_length_eq_zero (hdl.out.trans h0)
      have heq0 := heq.out
      rw [hd0, wrs_nil] at heq0
      replace heq0 := Lib.hid heq0
      have hBr := Lib.hid (hBe.out.keep hkw.out (by simp; exact ⟨hne1, hne2⟩))
      have hc := hBr.out.cell
      have hfz := hBr.out.frozen
      have hDk := Lib.hid (hDB0.out.1.keep hkw.out (by
        intro a ha
        obtain ⟨cur, hx⟩ := hDB0.out.2 a ha
        have hDx := hD.out.keep ke.out (by simp) (by simp)
        have h1 := hx.ne_ hDx.d (by decide)
        have h2 := hx.ne_ hDx.m (by decide)
        simp; exact ⟨h1, h2⟩))
      clear heq hdl hBd hjl hws hd0 hDB0
      subst h0
      obtain ⟨gD, rfl⟩ : ∃ g, A3 = some ⟨g, 0, none⟩ := by
        rcases o4.out.2 with ⟨h1, h2⟩ | ⟨g, cap, cur, hv, _⟩
        · have := hDl.out; omega
        · injection hv with hv; exact ⟨g, hv⟩
      obtain ⟨u2, hu2⟩ : ∃ u2, u + (n + 4) = u2 := ⟨_, rfl⟩
      obtain ⟨t, ht⟩ : ∃ t, D.length - u2 % 59 = t := ⟨_, rfl⟩
      have hDl' := hDl.out
      have htD : t ≤ D.length := by omega
      have htv : D.length - t = u2 % 59 := by omega
      have htc : t ≤ c3 := by omega
      go_upto_region 18 with fail
      have hB1 := hBr.out.set_ 4 (.int .i64 ((u : Int) + (4 + (n : Int))))
      have k1 : Keeps [bl] wr (wr.setCell ⟨bl, 4, none⟩ (.int .i64 ((u : Int) + (4 + (n : Int))))) := (Keeps.refl _ _).setCell (by simp) _
      generalize wr.setCell ⟨bl, 4, none⟩ (.int .i64 ((u : Int) + (4 + (n : Int)))) = y1 at *
      rw [show ((u : Int) + (4 + (n : Int))) = ((u2 : Nat) : Int) by omega] at hB1
      have hD1 := Lib.hid (hDk.out.keep k1 (by
        intro a ha; cases ha
        obtain ⟨_, cur, hx⟩ := own_blk o4.out (g := gD) rfl
        simp
        exact hx.ne_ hBe.out (by decide)))
      have s4 : y1.cell? ⟨bl, 4, none⟩ = some (.int .i64 (u2 : Nat)) := (hB1.cell 4).trans rfl
      have s4a := fun o => ((Keeps.refl [] y1).alloc o).cellEq s4 (by simp)
      have e1 : IntKind.i64.wrap ((D.length : Int) - (u2 : Int) % 59) = (t : Int) := by rw [IntWalk.i64_in _ (by have := hDb.out; omega)]; omega
      have HM1 : Hid ((y1.alloc (.cells #[] 5)).ownsRow y1.heap.size 5 1 (.slice (some ⟨y1.heap.size, 0, none⟩) 0 0) ([] : List UInt8).length (([] : List UInt8).map bv)) := Lib.hid (World.ownsRow_made y1 #[] 0 (Nat.le_refl _) (by simp [maxLen]) (by simp))
      have KA1 : Hid (Keeps [] y1 (y1.alloc (.cells #[] 5))) := Lib.hid ((Keeps.refl [] _).alloc _)
      have HB1 := Lib.hid ((hD1.out.keep KA1.out (by simp)).cut (k := t) hc3)
      have hzt : Hid ((D.drop t).length = D.length - t) := Lib.hid (List.length_drop ..)
      have hzv : Hid (([] : List UInt8).length + (D.length - t) = u2 % 59) := Lib.hid (by rw [htv]; exact Nat.zero_add _)
      replace hB1 := Lib.hid hB1
      replace k1 := Lib.hid k1
      have hti : (0 : Int) ≤ (t : Int) := by omega
      have htDi : (t : Int) ≤ (D.length : Int) := by omega
      have htci : (t : Int) ≤ (c3 : Int) := by omega
      replace hDl' := Lib.hid hDl'
      replace ht := Lib.hid ht
      replace hu2 := Lib.hid hu2
      replace htv := Lib.hid htv
      clear hD1 hDk hBr hc hfz
      by_cases hct3 : c3 = t
      · have HB2 := HB1.out
        rw [if_pos hct3] at HB2
        replace HB2 := Lib.hid HB2
        clear HB1
        go_wp2_with (at_builtin; refine wpList_append_bts rfl (.tmp 90) (.tmp 100) 34 rfl y1.heap.size 5 Try.underlying34 info5.out (.slice (some ⟨y1.heap.size, 0, none⟩) 0 0) [] (D.drop t) rfl ?_ _ _ _ rfl ?_ ?_ ?_ ?_ ?_; (exact HM1.out); (exact hzt.out); (exact HB2.out); (rw [hzt.out, List.length_nil]; have := hDb.out; omega); (exact KA1.out.size); intro A4 c4 y2 G1 G2 G3; rw [hzv.out]; have g1 := G1.out; rw [hzv.out, List.nil_append] at g1; have ky2 := Lib.hid (keep_grown (w := y1) HM1.out KA1.out (Nat.le_refl _) G2.out); have o5 := Lib.hid g1; have hB2 := Lib.hid (hB1.out.keep ky2.out List.not_mem_nil); have s5 : y2.cell? ⟨bl, 5, none⟩ = some (.slice At (u % 59) ct) := (hB2.out.cell 5).trans rfl; have s6 : y2.cell? ⟨bl, 6, none⟩ = some (.int .i64 rc) := (hB2.out.cell 6).trans rfl; have f5 := hB2.out.frozen; clear G1 G2 G3 g1)
        go_ret
        unfold AppPost
        rw [hi0.out, heq0.out]
        have kw1 := (kd.out.trans ke.out).nil.trans hkw.out
        have kw2 : Keeps [bl, bd, bs] w y2 := ((kw1.mono (fun x hx => .inl (by simp at hx; simp; omega))).trans (k1.out.mono (fun x hx => .inl (by simp at hx; simp [hx])))).trans ky2.out.nil
        have kw3 : Keeps [bl, bd, bs] w ((y2.setCell ⟨bl, 5, none⟩ (.slice A4 (u2 % 59) c4)).setCell ⟨bl, 6, none⟩ (.int .i64 ((rc : Int) + 1))) := (kw2.setCell (.inl (by simp)) _).setCell (.inl (by simp)) _
        have ks : Keeps [bl] y2 ((y2.setCell ⟨bl, 5, none⟩ (.slice A4 (u2 % 59) c4)).setCell ⟨bl, 6, none⟩ (.int .i64 ((rc : Int) + 1))) := ((Keeps.refl _ _).setCell (by simp) _).setCell (by simp) _
        have hDf := ((hDs.out.keep k1.out (by simp; exact fun h => hne1 h.symm) (by simp; exact fun h => hne2 h.symm)).keep ky2.out (by simp) (by simp)).keep ks (by simp; exact fun h => hne1 h.symm) (by simp; exact fun h => hne2 h.symm)
        refine ⟨rfl, hDf, ?_, kw3⟩
        rw [if_pos rfl]
        refine app_end h.out hrc (by rw [hu.out, hn.out]; exact hu2.out) ?_ hB2.out o5.out ?_ ?_
        · have := hu2.out; omega
        · have hLu := hu.out
          have h1 := ht.out
          have h2 := hu2.out
          have h3 := hDl'.out
          rw [← hDD.out, ← hT.out, hLu, ← List.drop_append_of_le_length (by omega), List.drop_drop]
          congr 1
          have h4 : (L.drop (59 * (u / 59)) ++ enc r).length = D.length := by rw [← hDD.out, ← hT.out, hLu]
          omega
        · intro z hz
          have := hZ.out z hz
          have := (kw1.size)
          have := k1.out.size
          omega
      · have HB2 := HB1.out
        rw [if_neg hct3, Nat.zero_add] at HB2
        replace HB2 := Lib.hid HB2
        clear HB1
        go_wp2_with (at_builtin; refine wpList_append_bts rfl (.tmp 90) (.tmp 100) 34 rfl y1.heap.size 5 Try.underlying34 info5.out (.slice (some ⟨y1.heap.size, 0, none⟩) 0 0) [] (D.drop t) rfl ?_ _ _ _ rfl ?_ ?_ ?_ ?_ ?_; (exact HM1.out); (exact hzt.out); (exact HB2.out); (rw [hzt.out, List.length_nil]; have := hDb.out; omega); (exact KA1.out.size); intro A4 c4 y2 G1 G2 G3; rw [hzv.out]; have g1 := G1.out; rw [hzv.out, List.nil_append] at g1; have ky2 := Lib.hid (keep_grown (w := y1) HM1.out KA1.out (Nat.le_refl _) G2.out); have o5 := Lib.hid g1; have hB2 := Lib.hid (hB1.out.keep ky2.out List.not_mem_nil); have s5 : y2.cell? ⟨bl, 5, none⟩ = some (.slice At (u % 59) ct) := (hB2.out.cell 5).trans rfl; have s6 : y2.cell? ⟨bl, 6, none⟩ = some (.int .i64 rc) := (hB2.out.cell 6).trans rfl; have f5 := hB2.out.frozen; clear G1 G2 G3 g1)
        go_ret
        unfold AppPost
        rw [hi0.out, heq0.out]
        have kw1 := (kd.out.trans ke.out).nil.trans hkw.out
        have kw2 : Keeps [bl, bd, bs] w y2 := ((kw1.mono (fun x hx => .inl (by simp at hx; simp; omega))).trans (k1.out.mono (fun x hx => .inl (by simp at hx; simp [hx])))).trans ky2.out.nil
        have kw3 : Keeps [bl, bd, bs] w ((y2.setCell ⟨bl, 5, none⟩ (.slice A4 (u2 % 59) c4)).setCell ⟨bl, 6, none⟩ (.int .i64 ((rc : Int) + 1))) := (kw2.setCell (.inl (by simp)) _).setCell (.inl (by simp)) _
        have ks : Keeps [bl] y2 ((y2.setCell ⟨bl, 5, none⟩ (.slice A4 (u2 % 59) c4)).setCell ⟨bl, 6, none⟩ (.int .i64 ((rc : Int) + 1))) := ((Keeps.refl _ _).setCell (by simp) _).setCell (by simp) _
        have hDf := ((hDs.out.keep k1.out (by simp; exact fun h => hne1 h.symm) (by simp; exact fun h => hne2 h.symm)).keep ky2.out (by simp) (by simp)).keep ks (by simp; exact fun h => hne1 h.symm) (by simp; exact fun h => hne2 h.symm)
        refine ⟨rfl, hDf, ?_, kw3⟩
        rw [if_pos rfl]
        refine app_end h.out hrc (by rw [hu.out, hn.out]; exact hu2.out) ?_ hB2.out o5.out ?_ ?_
        · have := hu2.out; omega
        · have hLu := hu.out
          have h1 := ht.out
          have h2 := hu2.out
          have h3 := hDl'.out
          rw [← hDD.out, ← hT.out, hLu, ← List.drop_append_of_le_length (by omega), List.drop_drop]
          congr 1
          have h4 : (L.drop (59 * (u / 59)) ++ enc r).length = D.length := by rw [← hDD.out, ← hT.out, hLu]
          omega
        · intro z hz
          have := hZ.out z hz
          have := (kw1.size)
          have := k1.out.size
          omega
    · have hl1 : 1 ≤ l := by omega
      have hl1i : (0 : Int) < (l : Int) := by omega
      go_upto_region 7 with fail
      go_cut [8] from 42 to 46 (fun s8 wx => ∃ k : Nat, s8 = .int .i64 k ∧ 1 ≤ k ∧ k ≤ 59 ∧ k ≤ l ∧ (k = 59 ∨ k = l) ∧ wx = wr)
      case first =>
        by_cases h59 : (59 : Int) < (l : Int)
        · go_wp2_with fail
          go_meet
          exact ⟨59, rfl, by omega, by omega, by omega, .inl rfl, rfl⟩
        · go_wp2_with fail
          go_meet
          exact ⟨l, rfl, by omega, by omega, by omega, .inr rfl, rfl⟩
      case rest =>
        obtain ⟨k, rfl, hk1, hk59, hkl, hkk, rfl⟩ := hcut
        have hdne : d ≠ [] := by rintro rfl; have := hdl.out; simp at this; omega
        obtain ⟨gB, oB, rfl⟩ : ∃ g o, B = some ⟨g, o, none⟩ := by
          rcases hBd.out.1 with h | ⟨g, o, h, _⟩
          · exact absurd h hdne
          · exact ⟨g, o, h⟩
        have hdk : d.take k = d.take 59 ∧ d.drop k = d.drop 59 := by
          rcases hkk with rfl | rfl
          · exact ⟨rfl, rfl⟩
          · have := hdl.out
            exact ⟨by rw [List.take_of_length_le (by omega), List.take_of_length_le (by omega)], by rw [List.drop_of_length_le (by omega), List.drop_of_length_le (by omega)]⟩
        replace hdk := Lib.hid hdk
        have hk1i : (1 : Int) ≤ (k : Int) := by omega
        have hk59i : (k : Int) ≤ 59 := by omega
        have hkli : (k : Int) ≤ (l : Int) := by omega
        have hkci : k ≤ c5 := by omega
        have htk' : Hid ((d.take k).length = k) := Lib.hid (by rw [List.length_take, hdl.out]; omega)
        have infoS : Hid ((Try.prog.info? 5).map (·.size) = some 1) := Lib.hid (by kernel_rfl)
        have kmod : (k : Int) % 256 = k := by omega
        go_wp2_with (first
          | (refine wpList_make rfl 34 (.const (.int .i64 64)) (.const (.int .i64 64)) rfl 5 (.int .u8 0) 1 1 Try.underlying34 info5.out .i64 .i64 64 64 rfl rfl ?_ ?_ ?_ ?_; omega; omega; omega; intro x1 m1 y1 z1; have B1 : Hid (Blk x1 wc.heap.size 5 ((List.replicate 64 (0 : UInt8)).map bv).toArray) := Lib.hid (hzm.out ▸ m1.out); have hB1 := Lib.hid (hBd.out.1.keep y1 (fun _ _ => List.not_mem_nil)); replace y1 := Lib.hid y1; clear m1 z1)
          | (refine wpList_copy_bts rfl (.tmp 47) (.tmp 50) 34 34 rfl 5 Try.underlying34 infoS.out wc.heap.size 0 64 64 _ (d.take k) _ _ rfl rfl ?_ ?_ (List.replicate 64 (0 : UInt8)) 5 B1.out ?_ ?_; (exact htk'.out); (exact hB1.out.take k); (rw [List.length_replicate]; exact Nat.le_refl 64); intro x2 m2 y2; rw [lay_one _ k htk'.out hk59] at m2; have q59 : x2.cell? ⟨wc.heap.size, 59, none⟩ = some (bv ((d.take k ++ List.replicate (64 - k) 0).getD 59 0)) := lay_cell m2.out htk'.out hk59; have f59 := m2.out.frozen 59; have kx2 := Lib.hid (new_keep (X := []) y1.out y2); replace y2 := Lib.hid y2))
        have b3 := m2.out.set_ 59 (.int .u8 (k : Int))
        rw [lay_two _ k htk'.out hk59] at b3
        have kx3 : Keeps [] wc (x2.setCell ⟨wc.heap.size, 59, none⟩ (.int .u8 (k : Int))) := kx2.out.setCell (.inr (Nat.le_refl _)) _
        have hBc := hBe.out.keep hkw.out (by simp; exact ⟨hne1, hne2⟩)
        have hc3b := hBc.keep kx3 (by simp)
        have hgl : wc.heap.size < (x2.setCell ⟨wc.heap.size, 59, none⟩ (.int .u8 (k : Int))).heap.size := b3.lt
        clear q59 f59 m2 B1 hB1 y1 y2 kx2
        generalize x2.setCell ⟨wc.heap.size, 59, none⟩ (.int .u8 (k : Int)) = x3 at *
        have s3 : x3.cell? ⟨bl, 3, none⟩ = some (.int .u32 ep) := (hc3b.cell 3).trans rfl
        replace b3 := Lib.hid b3
        replace kx3 := Lib.hid kx3
        replace hc3b := Lib.hid hc3b
        replace hBc := Lib.hid hBc
        have hbln := Lib.hid (ne_new hBc.out)
        have hepn := hep
        have KR : Hid (Keeps [wc.heap.size] x3 x3.drew) := Lib.hid (Keeps.refl _ _).drew
        replace b3 := Lib.hid b3.out.drew
        replace kx3 := Lib.hid kx3.out.drew
        replace hc3b := Lib.hid hc3b.out.drew
        go_region_held3 (fun w' => w'.cell? ⟨bl, 3, none⟩ = some (.int .u32 ep))
          ((refine (fun (kk : Keeps [wc.heap.size] x3 _) => kk.cellEq s3 hbln.out) ?_; exact KR.out))
          (first
            | (go_at_call 40; refine (put4_any _ ep hepn).mono ?_; rintro e x5 ⟨rfl, hP, k5⟩; have hPb := Lib.hid (bts_new hP); have b5 := Lib.hid (b3.out.keep k5 List.not_mem_nil); have kx5 := Lib.hid (kx3.out.trans k5); have hc5b := Lib.hid (hc3b.out.keep k5 List.not_mem_nil); replace KR := Lib.hid (KR.out.trans k5.nil); clear hP k5)
            | (refine step_copy_bts (by rfl) (.tmp 57) (.tmp 62) 34 34 (by rfl) 5 Try.underlying34 infoS.out wc.heap.size 60 4 4 _ (be32 ep) _ _ (by rfl) (by rfl) ?_ ?_ (d.take k ++ List.replicate (59 - k) 0 ++ [UInt8.ofNat k] ++ List.replicate 4 0) 5 b5.out ?_ ?_; (exact be32_len ep); (exact hPb.out); (exact lay_fit htk'.out hk59); intro x6 m6 y6; rw [lay_three _ k ep htk'.out hk59] at m6; have kx6 := Lib.hid (new_keep2 kx5.out y6); have hc6b := Lib.hid (hc5b.out.keep y6 hbln.out); have t0 : x6.cell? ⟨bl, 0, none⟩ = some (.pointer (some ⟨bd, 0, none⟩)) := (hc6b.out.cell 0).trans rfl; have hp6 := Lib.hid (bts_new m6.out); replace KR := Lib.hid (KR.out.trans y6); clear y6 m6 b5 hPb))
        clear s3
        have hD6 := hDs.out.keep kx6.out (by simp) (by simp)
        have hgbd : wc.heap.size ≠ bd := by have := hDs.out.d.lt; omega
        have hws1 := hws.out
        have HW := write_any x6 bd bs s' ((i0 : Int) + (j : Int)) (some ⟨wc.heap.size, 0, none⟩) (pack (d.take k) ep) 64 64 (pack_len (by rw [htk'.out]; exact hk59)) hD6 hp6.out (fun _ a ha => by cases ha; exact hgbd) (Nat.le_refl _) hws1.1 (by have := hDb.out; have := hjl.out; omega)
        have hqw := wr_writes s' ((i0 : Int) + (j : Int)) (pack (d.take k) ep) hws1.1
        have hjD : j < D.length := by have := hjl.out; omega
        have hfu : D.length - j = (D.length - (j + 1)) + 1 := by omega
        have heq' := heq.out
        rw [hfu] at heq'
        have hcast : ((i0 + j : Nat) : Int) = (i0 : Int) + (j : Int) := by omega
        have hstep : ((wr s' ((i0 : Int) + (j : Int)) (pack (d.take k) ep)).2 = 0 → wrs s i0 ep D.length D = wrs (wr s' ((i0 : Int) + (j : Int)) (pack (d.take k) ep)).1 (i0 + (j + 1)) ep (D.length - (j + 1)) (d.drop k)) ∧
            ((wr s' ((i0 : Int) + (j : Int)) (pack (d.take k) ep)).2 ≠ 0 → wrs s i0 ep D.length D = wr s' ((i0 : Int) + (j : Int)) (pack (d.take k) ep)) := by
          rw [hdk.out.1, hdk.out.2, ← hcast, heq']
          exact ⟨fun h => wrs_ok hdne h, fun h => wrs_bad hdne h⟩
        generalize wr s' ((i0 : Int) + (j : Int)) (pack (d.take k) ep) = q at *
        replace HW := Lib.hid HW
        replace hstep := Lib.hid hstep
        replace hqw := Lib.hid hqw
        replace hws1 := Lib.hid hws1
        clear heq' hfu hcast hD6 hp6 b3 hc3b kx3 KR hbln
        go_wp2_with fail
        refine HW.out.mono ?_
        rintro e x7 ⟨rfl, hD7, k7⟩
        clear HW t0
        have hT5 := hBd.out.2
        have hgB : gB ∉ [bd, bs] := by
          obtain ⟨cur, hc⟩ := hT5 _ rfl
          have h1 := hc.ne_ hDs.out.d (by decide)
          have h2 := hc.ne_ hDs.out.m (by decide)
          simp; exact ⟨h1, h2⟩
        have k67 : Keeps [bd, bs] wc x7 := kx6.out.nil.trans k7
        have hB7 : Hid (Bts x7 (some ⟨gB, oB, none⟩) d ∧ ∃ cur, Blk x7 gB 5 cur) := Lib.hid ⟨hBd.out.1.keep k67 (by intro a ha; cases ha; exact hgB), by obtain ⟨cur, hc⟩ := hT5 _ rfl; exact ⟨cur, hc.keep k67 hgB⟩⟩
        have hkw7 := Lib.hid (hkw.out.trans k67)
        replace hD7 := Lib.hid hD7
        clear k67 k7 kx6 hT5 hgB hBd hDs hc6b kx5 hc5b
        by_cases hq0 : q.2 = 0
        · have hqb : (q.2 != 0) = false := by simp [hq0]
          have heq7 := Lib.hid (hstep.out.1 hq0)
          have ew : IntKind.i64.wrap ((i0 : Int) + (j : Int) + 1) = (i0 : Int) + (j : Int) + 1 := IntWalk.i64_in _ (by have := hDb.out; have := hjl.out; omega)
          by_cases hck : c5 = k
          · go_wp2_with fail
            go_roundw
            case rel =>
              have hdb := hDb.out
              have hjl1 := hjl.out
              refine ⟨j + 1, l - k, 0, q.1, d.drop k, _, ?_, rfl, Lib.hid (by rw [List.length_drop, hdl.out]), ?_, ?_, ?_, ?_, Lib.hid (by omega), ?_, hD7, Lib.hid (by have := hqw.out; have := hws1.out; omega), heq7, hkw7⟩
              · exact congrArg (Value.int .i64) (by omega)
              · omega
              · simp [maxLen]; try omega
              · omega
              · omega
              · refine Lib.hid ⟨?_, fun a ha => by cases ha; exact hB7.out.2⟩
                exact .inl (List.drop_of_length_le (by rw [hdl.out]; omega))
            case measure =>
              simp [lenOf]; omega
          · go_wp2_with fail
            go_roundw
            case rel =>
              have hdb := hDb.out
              have hjl1 := hjl.out
              refine ⟨j + 1, l - k, c5 - k, q.1, d.drop k, _, ?_, rfl, Lib.hid (by rw [List.length_drop, hdl.out]), ?_, ?_, ?_, ?_, Lib.hid (by omega), ?_, hD7, Lib.hid (by have := hqw.out; have := hws1.out; omega), heq7, hkw7⟩
              · exact congrArg (Value.int .i64) (by omega)
              · omega
              · simp [maxLen]; try omega
              · omega
              · omega
              · refine Lib.hid ⟨?_, fun a ha => by cases ha; exact hB7.out.2⟩
                have := hB7.out.1.cut (c := c5) (k := k) (by rw [hdl.out]; exact hlc); rw [if_neg hck] at this; exact this
            case measure =>
              simp [lenOf]; omega
        · have hqb : (q.2 != 0) = true := by simp [hq0]
          have heq7 := Lib.hid (hstep.out.2 hq0)
          go_wp2_with fail
          go_ret
          unfold AppPost
          rw [heq7.out, if_neg hq0]
          have hkf : Keeps [bd, bs] w x7 := (kd.out.trans ke.out).nil.trans hkw7.out
          refine ⟨rfl, hD7.out, h.out.keep hkf ?_ ?_, hkf.mono (fun x hx => .inl (by simp at hx; simp; omega))⟩
          · simp; exact ⟨hne1, hne2⟩
          · intro g cur hB _
            have h1 := hB.ne_ hD0.out.d (by decide)
            have h2 := hB.ne_ hD0.out.m (by decide)
            simp; exact ⟨h1, h2⟩
end Go.Proofs.Ytnoaahgjfknnlaa
