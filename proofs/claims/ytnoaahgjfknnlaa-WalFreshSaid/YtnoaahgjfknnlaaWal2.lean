/- Lists of byte strings in memory; Scan. -/
import Derived.Test.YtnoaahgjfknnlaaWal1
import Derived.Deep.DeepCutAuto
import Derived.Deep.CutBlock
namespace Go.Proofs.Ytnoaahgjfknnlaa
open Go.RowKit
set_option linter.unusedSimpArgs false
set_option linter.unusedVariables false

theorem Bts.cut {w : World} {l : List UInt8} {g o c k : Nat} (h : Bts w (some ⟨g, o, none⟩) l) (hl : l.length ≤ c) : Bts w (if c = k then some ⟨g, o, none⟩ else some ⟨g, o + k, none⟩) (l.drop k) := by
  by_cases hc : c = k
  · exact .inl (List.drop_eq_nil_of_le (by omega))
  · rw [if_neg hc]
    rcases h with rfl | ⟨g', o', e, h⟩
    · exact .inl (by simp)
    · injection e with e
      injection e with e1 e2
      subst e1 e2
      refine .inr ⟨_, _, rfl, fun j v hj => ?_⟩
      rw [List.getElem?_drop] at hj
      rw [Nat.add_assoc]
      exact h _ _ hj

/-- A list of byte strings that the call has made. -/
def OutAt (base : Nat) (w : World) (v : Value) (rs : List (List UInt8)) : Prop :=
  ∃ vs : List Value, w.ownsRow base 34 1 v rs.length vs ∧ ∀ (j : Nat) (r : List UInt8), rs[j]? = some r → ∃ (B : Option Addr) (c : Nat), vs[j]? = some (Value.slice B r.length c) ∧ r.length ≤ c ∧ c ≤ maxLen ∧ Bts w B r ∧ ∀ a, B = some a → base ≤ a.block ∧ ∃ cur, Blk w a.block 5 cur

theorem OutAt.keep {base : Nat} {w w' : World} {v : Value} {rs : List (List UInt8)} (h : OutAt base w v rs) (hk : Keeps [] w w') : OutAt base w' v rs := by
  obtain ⟨vs, h1, h2⟩ := h
  refine ⟨vs, own_keep h1 hk (by simp), fun j r hj => ?_⟩
  obtain ⟨B, c, e, hl, hm, hb, hx⟩ := h2 j r hj
  refine ⟨B, c, e, hl, hm, hb.keep hk (by simp), fun a ha => ?_⟩
  obtain ⟨h3, cur, h4⟩ := hx a ha
  exact ⟨h3, cur, h4.keep hk (by simp)⟩
theorem OutAt.nil (base : Nat) (w : World) : OutAt base w (.slice none 0 0) [] := ⟨[], World.ownsRow_nil _ _ _ _, fun j r hj => by cases hj⟩
theorem OutAt.slice {base : Nat} {w : World} {v : Value} {rs : List (List UInt8)} (h : OutAt base w v rs) : ∃ A c, v = .slice A rs.length c ∧ rs.length ≤ c ∧ c ≤ maxLen := by
  obtain ⟨vs, h1, _⟩ := h
  rcases h1.2 with ⟨rfl, h0⟩ | ⟨g, cap, cur, hv, hb, hg, hc, hm, hs, ht⟩
  · exact ⟨none, 0, by rw [h0], by omega, by simp [maxLen]⟩
  · exact ⟨_, cap, hv, hc, hm⟩
/-- One byte string more. -/
theorem OutAt.push {base : Nat} {w1 w2 : World} {v v' : Value} {rs : List (List UInt8)} {vs : List Value} {r : List UInt8} {B : Option Addr} {c n : Nat} {o : Obj} (hn : r.length = n)
    (hel : ∀ (j : Nat) (r : List UInt8), rs[j]? = some r → ∃ (B : Option Addr) (c : Nat), vs[j]? = some (Value.slice B r.length c) ∧ r.length ≤ c ∧ c ≤ maxLen ∧ Bts w1 B r ∧ ∀ a, B = some a → base ≤ a.block ∧ ∃ cur, Blk w1 a.block 5 cur)
    (hown : w1.ownsRow base 34 1 v rs.length vs) (hr : w1.ownsRow base 5 1 (.slice B n c) n (r.map bv))
    (hown2 : w2.ownsRow base 34 1 v' (rs.length + 1) (vs ++ [.slice B n c])) (hg : (w1.alloc o).grownBy w2 v.ownBlock) : OutAt base w2 v' (rs ++ [r]) := by
  have hk : Keeps v.ownBlock.toList w1 w2 := ((Keeps.refl _ _).alloc o).trans (Keeps.grown hg (by intro g h; rw [h]; simp))
  have hvl : vs.length = rs.length := by have := hown.1; simpa using this
  have hno : ∀ g cur, Blk w1 g 5 cur → g ∉ v.ownBlock.toList := by
    intro g cur hB hx
    obtain ⟨_, cur2, hB2⟩ := own_blk hown (g := g) (by simpa using hx)
    exact hB.ne_ hB2 (by decide) rfl
  refine ⟨vs ++ [.slice B n c], by rw [List.length_append]; exact hown2, fun j r' hj => ?_⟩
  by_cases hjl : j < rs.length
  · rw [List.getElem?_append_left hjl] at hj
    obtain ⟨B', c', e, hl, hm, hb, hx⟩ := hel j r' hj
    refine ⟨B', c', by rw [List.getElem?_append_left (by omega)]; exact e, hl, hm, hb.keep hk (fun a ha => ?_), fun a ha => ?_⟩
    · obtain ⟨_, cur, h4⟩ := hx a ha; exact hno _ _ h4
    · obtain ⟨h3, cur, h4⟩ := hx a ha; exact ⟨h3, cur, h4.keep hk (hno _ _ h4)⟩
  · have hjl2 : j = rs.length := by
      have := (List.getElem?_eq_some_iff.1 hj).1
      simp at this
      omega
    subst hjl2
    rw [List.getElem?_append_right (Nat.le_refl _), Nat.sub_self] at hj
    obtain rfl : r = r' := by simpa using hj
    obtain ⟨h1, h2, h3, h4, h5⟩ := own_bts hr
    refine ⟨B, c, by rw [List.getElem?_append_right (by omega), hvl, Nat.sub_self, hn]; rfl, by omega, h4, h1.keep hk (fun a ha => ?_), fun a ha => ?_⟩
    · obtain ⟨_, _, cur, h6⟩ := h5 a ha; exact hno _ _ h6
    · obtain ⟨h7, _, cur, h6⟩ := h5 a ha; exact ⟨h7, cur, h6.keep hk (hno _ _ h6)⟩

def lenOf : Value → Nat
  | .slice _ n _ => n
  | _ => 0

theorem info34 : (Try.prog.info? 34).map (fun i => (i.zero, i.size, i.bytes)) = some (some (.slice none 0 0), 1, 24) := by kernel_rfl

theorem strm_le (S : Nat → List UInt8) (ep : Nat) : ∀ k i, (strm S ep k i).length ≤ 59 * k
  | 0, i => Nat.le_refl _
  | k + 1, i => by
    unfold strm
    split
    · simp
    · rename_i h
      have ih := strm_le S ep k (i + 1)
      rw [List.length_append, List.length_take]
      split <;> simp <;> omega

theorem own_slice5 {w : World} {base : Nat} {e : TypeId} {v : Value} {n : Nat} {xs : List Value} (h : w.ownsRow base e 1 v n xs) : ∃ A c, v = .slice A n c ∧ n ≤ c ∧ c ≤ maxLen := by
  rcases h.2 with ⟨rfl, rfl⟩ | ⟨g, cap, cur, hv, hb, hg, hc, hm, hs, ht⟩
  · exact ⟨none, 0, rfl, Nat.le_refl _, by simp [maxLen]⟩
  · exact ⟨_, cap, hv, hc, hm⟩

theorem own_le {w : World} {base base' : Nat} {e : TypeId} {size n : Nat} {v : Value} {xs : List Value} (h : w.ownsRow base' e size v n xs) (hb : base ≤ base') : w.ownsRow base e size v n xs := by
  refine ⟨h.1, ?_⟩
  rcases h.2 with h | ⟨g, cap, cur, hv, h1, hr⟩
  · exact .inl h
  · exact .inr ⟨g, cap, cur, hv, Nat.le_trans hb h1, hr⟩

def ScanPost (rs : List (List UInt8)) (w : World) (e : Ending) (w' : World) : Prop :=
  ∃ v, e = .returned (.tuple #[v, .int .i64 0]) ∧ OutAt w.heap.size w' v rs ∧ Keeps [] w w'

theorem sec_len {w : World} {bd bs : Nat} {s : St} (hD : DRep w bd bs s) {i : Nat} (hi : i < s.n) : (sec s i).length = 64 := by
  unfold sec
  rw [List.length_take, List.length_drop, hD.len]
  omega

/-- Behind an append to a row that the call has made nothing that was there has turned. -/
theorem keep_grown {w w1 w2 : World} {base : Nat} {e : TypeId} {size n : Nat} {v : Value} {xs : List Value} (hown : w1.ownsRow base e size v n xs) (k : Keeps [] w w1) (hb : w.heap.size ≤ base) (hg : w1.grownBy w2 v.ownBlock) : Keeps [] w w2 := by
  refine (k.nil.trans (Keeps.grown (X := v.ownBlock.toList) hg (by intro g h; rw [h]; simp))).mono ?_
  intro x hx
  right
  simp only [Option.mem_toList] at hx
  exact Nat.le_trans hb (own_blk hown hx).1

theorem strm_succ (S : Nat → List UInt8) (ep k i : Nat) : strm S ep (k + 1) i = if epo (S i) ≠ ep ∨ 59 < cnt (S i) then [] else (S i).take (cnt (S i)) ++ (if cnt (S i) < 59 then [] else strm S ep k (i + 1)) := rfl
theorem keeps_of_grown {w w1 w2 : World} {base : Nat} {e : TypeId} {size n : Nat} {v : Value} {xs : List Value} (hown : w1.ownsRow base e size v n xs) (hg : w1.grownBy w2 v.ownBlock) (k : Keeps [] w w1) : Keeps v.ownBlock.toList w w2 :=
  k.nil.trans (Keeps.grown hg (by intro g h; rw [h]; simp))
theorem out_ne {w : World} {base n g : Nat} {v : Value} {vs : List Value} {cur : Array Value} (hown : w.ownsRow base 34 1 v n vs) (hB : Blk w g 5 cur) : g ∉ v.ownBlock.toList := by
  intro hx
  obtain ⟨_, cur2, hB2⟩ := own_blk hown (g := g) (by simpa using hx)
  exact hB.ne_ hB2 (by decide) rfl
/-- What is left of the stream behind an append to the list. -/
theorem tail_keep {w3 w4 : World} {base n g o : Nat} {v : Value} {vs : List Value} {R : List UInt8} (hT : ∃ cur, Blk w3 g 5 cur) (hown : w3.ownsRow base 34 1 v n vs) (k : Keeps v.ownBlock.toList w3 w4) (hB : Bts w3 (some ⟨g, o, none⟩) R) :
    Bts w4 (some ⟨g, o, none⟩) R ∧ ∀ a, (some ⟨g, o, none⟩ : Option Addr) = some a → ∃ cur, Blk w4 a.block 5 cur := by
  obtain ⟨cur, hc⟩ := hT
  have hne := out_ne hown hc
  refine ⟨hB.keep k (by intro a ha; cases ha; exact hne), fun a ha => ?_⟩
  cases ha
  exact ⟨cur, hc.keep k hne⟩
theorem strm_stop {S : Nat → List UInt8} {ep k i : Nat} (h : epo (S i) ≠ ep ∨ 59 < cnt (S i)) : strm S ep k i = [] := by
  cases k with
  | zero => rfl
  | succ k => unfold strm; rw [if_pos h]
theorem strm_last {S : Nat → List UInt8} {ep k i : Nat} (h1 : epo (S i) = ep) (h2 : cnt (S i) < 59) : strm S ep (k + 1) i = (S i).take (cnt (S i)) := by
  rw [strm_succ, if_neg (by omega), if_pos h2, List.append_nil]
theorem strm_more {S : Nat → List UInt8} {ep k i : Nat} (h1 : epo (S i) = ep) (h2 : cnt (S i) = 59) : strm S ep (k + 1) i = (S i).take 59 ++ strm S ep k (i + 1) := by
  rw [strm_succ, if_neg (by omega), if_neg (by omega), h2]

set_option maxHeartbeats 3200000 in
theorem scan_ok (w : World) (bd bs : Nat) (s : St) (fi co ep : Nat) (hD : DRep w bd bs s) (hdown : s.down = false) (hx : okR s.n fi co ep) (hep : ep < 4294967296) :
    Calls Try.prog 24 #[.pointer (some ⟨bd, 0, none⟩), .int .i64 fi, .int .i64 co, .int .u32 ep] w (ScanPost (recsOf (strm (sec s) ep co fi)) w) := by
  have hn := hD.n
  have hx2 := hx
  unfold okR at hx2
  have HV := valid_any w bd bs s fi co ep hD hep (by omega) (by omega)
  rw [decide_eq_true hx] at HV
  have HF := failed_any w bd bs s hD
  rw [hdown] at HF
  have hT := strm_le (sec s) ep co fi
  generalize hTT : strm (sec s) ep co fi = T at *
  replace hTT := Lib.hid hTT
  replace HV := Lib.hid HV
  replace HF := Lib.hid HF
  replace hD := Lib.hid hD
  replace hx := Lib.hid hx
  go_enter Try.func24, Try.ntmps24
  go_wp2_with fail
  refine HV.out.mono ?_
  rintro e w1 ⟨rfl, rfl⟩
  go_wp2_with fail
  refine HF.out.mono ?_
  rintro e w1 ⟨rfl, rfl⟩
  clear HV HF
  go_upto_block 0 with fail
  go_cut [10] from 11 to 61 (fun st wx => Hid (wx.ownsRow w.heap.size 5 1 st T.length (T.map bv)) ∧ Hid (Keeps [] w wx))
  case first =>
    go_wp2_with fail
    go_loopw [10, 26] (fun st i wr => ∃ (k : Nat) (acc : List UInt8), k ≤ co ∧ i = .int .i64 k ∧ acc.length ≤ 59 * k ∧ Hid (wr.ownsRow w.heap.size 5 1 st acc.length (acc.map bv)) ∧ Hid (strm (sec s) ep co fi = acc ++ strm (sec s) ep (co - k) (fi + k)) ∧ Hid (Keeps [] w wr)) (fun _ i _ => co - (intOf i).toNat)
    case atStart => exact ⟨0, [], Nat.zero_le _, rfl, by simp, Lib.hid (World.ownsRow_nil _ _ _ _), Lib.hid (by simp), Lib.hid (Keeps.refl _ _)⟩
    case round =>
      obtain ⟨k, acc, hk, rfl, hacc, hown, heq, hkw⟩ := hrel
      by_cases hlt : k < co
      · have hi : fi + k < s.n := by omega
        have hck : chk s ((fi + k : Nat) : Int) = 0 := by unfold chk; rw [hdown]; simp; omega
        have HR := read_ok wr bd bs s (fi + k) (hD.out.keep hkw.out (by simp) (by simp)) hck hi
        rw [show ((fi + k : Nat) : Int) = (fi : Int) + (k : Int) by omega] at HR
        have hbl := sec_len hD.out hi
        generalize hb : sec s (fi + k) = b at *
        replace hb := Lib.hid hb
        replace HR := Lib.hid HR
        have hk0 : (k : Int) < (co : Int) := by omega
        clear hck
        go_wp2_with fail
        refine HR.out.mono ?_
        rintro e w1 ⟨rfl, hB, k1⟩
        replace hown := Lib.hid (own_keep hown.out k1 (by simp))
        replace hkw := Lib.hid (hkw.out.trans k1)
        have c59 : w1.cell? ⟨wr.heap.size, 59, none⟩ = some (.int .u8 (cnt b : Nat)) := by
          rw [hB.cell]
          simp only [cnt, List.getD_eq_getElem?_getD, List.getElem?_toArray, List.getElem?_map]
          rw [List.getElem?_eq_getElem (by omega)]
          rfl
        have hBt : Bts w1 (some ⟨wr.heap.size, 0, none⟩) b := .inr ⟨_, 0, rfl, fun j v hj => by
          rw [hB.cell, Nat.zero_add]
          simp [hj]⟩
        have hB60 : Bts w1 (some ⟨wr.heap.size, 60, none⟩) (b.drop 60) := .inr ⟨_, 60, rfl, fun j v hj => by
          rw [hB.cell]
          rw [List.getElem?_drop] at hj
          simp [hj]⟩
        have HG := Lib.hid (get_any w1 (some ⟨wr.heap.size, 60, none⟩) (b.drop 60) 4 4 hB60 (by rw [List.length_drop]; omega) (by omega))
        rw [show num (b.drop 60) = epo b from rfl] at HG
        have hq8 : cnt b < 256 := by unfold cnt; exact (b.getD 59 0).toNat_lt
        have hEl : epo b < 4294967296 := num_lt _
        generalize hq : cnt b = q at *
        generalize hE : epo b = E at *
        replace hq := Lib.hid hq
        replace hE := Lib.hid hE
        replace hBt := Lib.hid hBt
        clear HR hB hB60 k1
        go_wp2_with fail
        refine HG.out.mono ?_
        rintro e w2 ⟨rfl, m, rfl⟩
        replace hown := Lib.hid (own_keep hown.out ((Keeps.refl [] w1).drewN m) (by simp))
        replace hkw := Lib.hid (hkw.out.drewN m)
        replace hBt := Lib.hid (hBt.out.keep ((Keeps.refl [] w1).drewN m) (by simp))
        clear HG c59
        generalize w1.drewN m = w2 at *
        by_cases hEe : E = ep
        · have hEi : ((E : Int) != (ep : Int)) = false := by simp; omega
          rcases (by omega : 59 < q ∨ q < 59 ∨ q = 59) with hq1 | hq1 | hq1
          · have hq2 : (59 : Int) < (q : Int) := by omega
            have hnil : strm (sec s) ep (co - k) (fi + k) = [] := strm_stop (.inr (by rw [hb.out, hq.out]; omega))
            rw [hnil, List.append_nil, hTT.out] at heq
            go_wp2_with fail
            go_meet
            have := heq.out
            subst this
            exact ⟨hown, hkw⟩
          · have hq2 : (q : Int) < 59 := by omega
            have htl := Lib.hid (show (b.take q).length = q by rw [List.length_take]; omega)
            have hnil : strm (sec s) ep (co - k - 1 + 1) (fi + k) = b.take q := by
              rw [strm_last (by rw [hb.out, hE.out, hEe]) (by rw [hb.out, hq.out]; exact hq1), hb.out, hq.out]
            rw [show co - k - 1 + 1 = co - k by omega] at hnil
            rw [hnil, hTT.out] at heq
            go_wp2_with (refine wpList_append_bts rfl (.tmp 53) (.tmp 56) 34 rfl w.heap.size 5 Try.underlying34 (by kernel_rfl) u10 acc (b.take q) rfl hown.out (some ⟨wr.heap.size, 0, none⟩) q 64 rfl htl.out (hBt.out.take q) ?_ hkw.out.size ?_; (rw [htl.out]; omega); intro A' c' w3 G1 G2 G3; have kw3 := Lib.hid (keep_grown hown.out hkw.out (Nat.le_refl _) G2.out))
            have g1 := G1.out
            rw [show acc.length + q = (acc ++ b.take q).length by rw [List.length_append, htl.out]] at g1
            replace g1 := Lib.hid g1
            clear G1 G2 G3 hown hkw
            go_wp2_with fail
            go_meet
            have hl : acc.length + q = T.length := by rw [heq.out, List.length_append, htl.out]
            rw [← heq.out] at g1
            rw [hl]
            exact ⟨g1, kw3⟩
          · have hq2 : ¬ (q : Int) < 59 := by omega
            have hq3 : ¬ (59 : Int) < (q : Int) := by omega
            have htl := Lib.hid (show (b.take q).length = q by rw [List.length_take]; omega)
            have hnil : strm (sec s) ep (co - k - 1 + 1) (fi + k) = b.take 59 ++ strm (sec s) ep (co - (k + 1)) (fi + (k + 1)) := by
              rw [strm_more (by rw [hb.out, hE.out, hEe]) (by rw [hb.out, hq.out]; exact hq1), hb.out, show co - k - 1 = co - (k + 1) by omega, show fi + k + 1 = fi + (k + 1) by omega]
            rw [show co - k - 1 + 1 = co - k by omega] at hnil
            rw [hnil, ← List.append_assoc] at heq
            rw [show b.take 59 = b.take q by rw [hq1]] at heq
            clear hnil hq hE
            replace hq1 := Lib.hid hq1
            go_wp2_with (refine wpList_append_bts rfl (.tmp 53) (.tmp 56) 34 rfl w.heap.size 5 Try.underlying34 (by kernel_rfl) u10 acc (b.take q) rfl hown.out (some ⟨wr.heap.size, 0, none⟩) q 64 rfl htl.out (hBt.out.take q) ?_ hkw.out.size ?_; (rw [htl.out]; omega); intro A' c' w3 G1 G2 G3; have kw3 := Lib.hid (keep_grown hown.out hkw.out (Nat.le_refl _) G2.out))
            have g1 := G1.out
            rw [show acc.length + q = (acc ++ b.take q).length by rw [List.length_append, htl.out]] at g1
            replace g1 := Lib.hid g1
            clear G1 G2 G3 hown hkw
            go_wp2_with fail
            go_roundw
            case rel => exact ⟨k + 1, acc ++ b.take q, by omega, by go_num, by rw [List.length_append, htl.out]; have := hq1.out; omega, by rw [show acc.length + q = (acc ++ b.take q).length by rw [List.length_append, htl.out]]; exact g1, heq, kw3⟩
            case measure => simp [intOf]; omega
        · have hEi : ((E : Int) != (ep : Int)) = true := by simp; omega
          have hnil : strm (sec s) ep (co - k) (fi + k) = [] := strm_stop (.inl (by rw [hb.out, hE.out]; exact hEe))
          rw [hnil, List.append_nil, hTT.out] at heq
          go_wp2_with fail
          go_meet
          have := heq.out
          subst this
          exact ⟨hown, hkw⟩
      · obtain rfl : k = co := by omega
        go_wp2_with fail
        go_meet
        have := heq.out
        rw [hTT.out, Nat.sub_self] at this
        simp only [strm, List.append_nil] at this
        subst this
        exact ⟨hown, hkw⟩
  case rest =>
    obtain ⟨hown, hkw⟩ := hcut
    obtain ⟨A0, c0, rfl, _, _⟩ := own_slice5 hown.out
    obtain ⟨hB0', _, hc0, hm0, hT0⟩ := own_bts hown.out
    have hB0 : Hid (Bts wc A0 T ∧ ∀ a, A0 = some a → ∃ cur, Blk wc a.block 5 cur) := Lib.hid ⟨hB0', fun a ha => (hT0 a ha).2.2⟩
    clear hB0' hT0
    clear hown
    obtain ⟨i0, hi, hz0, hz1, hz2⟩ := info_parts info34
    replace hi := Lib.hid hi
    replace hz0 := Lib.hid hz0
    replace hz1 := Lib.hid hz1
    replace hz2 := Lib.hid hz2
    go_wp2_with fail
    go_loopw [10, 15] (fun st out wr => ∃ (A : Option Addr) (l c : Nat) (done : List (List UInt8)) (rest : List UInt8), st = .slice A l c ∧ Hid (rest.length = l) ∧ l ≤ c ∧ c ≤ maxLen ∧ done.length + l ≤ T.length ∧ Hid (Bts wr A rest ∧ ∀ a, A = some a → ∃ cur, Blk wr a.block 5 cur) ∧ Hid (OutAt w.heap.size wr out done) ∧ Hid (recsOf T = done ++ recsOf rest) ∧ Hid (Keeps [] w wr)) (fun st _ _ => lenOf st)
    case atStart => exact ⟨A0, T.length, c0, [], T, rfl, Lib.hid rfl, hc0, hm0, by simp, hB0, Lib.hid (OutAt.nil _ _), Lib.hid rfl, hkw⟩
    case round =>
      clear hB0 hkw
      obtain ⟨A, l, c, done, rest, rfl, hl, hlc, hcm, hdl, hBB, hout, heq, hkw⟩ := hrel
      have hB := Lib.hid hBB.out.1
      have hT5 := Lib.hid hBB.out.2
      clear hBB
      unfold maxLen at hcm
      by_cases h4 : 4 ≤ l
      · have HG := Lib.hid (get_any wr A rest l c hB.out hl.out h4)
        have hN := num_lt rest
        have h4i : (4 : Int) ≤ (l : Int) := by omega
        obtain ⟨N, hNn⟩ : ∃ N, num rest = N := ⟨_, rfl⟩
        rw [hNn] at HG hN
        replace hNn := Lib.hid hNn
        go_wp2_with fail
        refine HG.out.mono ?_
        rintro e w2 ⟨rfl, m, rfl⟩
        have kd := (Keeps.refl [] wr).drewN m
        replace hB := Lib.hid (hB.out.keep kd (by simp))
        replace hT5 := Lib.hid (fun a ha => (hT5.out a ha).imp fun cur h => h.keep kd (by simp))
        replace hout := Lib.hid (hout.out.keep kd)
        replace hkw := Lib.hid (hkw.out.drewN m)
        clear HG kd
        generalize wr.drewN m = w2 at *
        by_cases hN1 : (16777216 : Int) < (N : Int)
        · have hnil := recsOf_stop (s := rest) (by have := hl.out; omega) (.inl (by rw [hNn.out]; omega))
          rw [hnil, List.append_nil] at heq
          go_wp2_with fail
          go_ret2
          exact ⟨_, rfl, by rw [heq.out]; exact hout.out, hkw.out⟩
        · by_cases hN2 : (l : Int) - 4 < (N : Int)
          · have hnil := recsOf_stop (s := rest) (by have := hl.out; omega) (.inr (by rw [hNn.out]; have := hl.out; omega))
            rw [hnil, List.append_nil] at heq
            go_wp2_with fail
            go_ret2
            exact ⟨_, rfl, by rw [heq.out]; exact hout.out, hkw.out⟩
          · have hstep := recsOf_step (s := rest) (by have := hl.out; omega) (by rw [hNn.out]; omega) (by rw [hNn.out]; have := hl.out; omega)
            rw [hNn.out] at hstep
            obtain ⟨g, o, rfl⟩ : ∃ g o, A = some ⟨g, o, none⟩ := by
              rcases hB.out with h | ⟨g, o, h, _⟩
              · have := hl.out; rw [h] at this; simp at this; omega
              · exact ⟨g, o, h⟩
            have hrl : ((rest.drop 4).take N).length = N := by rw [List.length_take, List.length_drop]; have := hl.out; omega
            have e1 : (4 : Int) + N ≤ l := by omega
            have e2 : 4 + N ≤ c := by omega
            obtain ⟨R, hR⟩ : ∃ R, (rest.drop 4).take N = R := ⟨_, rfl⟩
            obtain ⟨R2, hR2⟩ : ∃ R2, rest.drop (N + 4) = R2 := ⟨_, rfl⟩
            rw [hR] at hrl
            rw [hR, hR2] at hstep
            have hR2l : Hid (R2.length = l - (4 + N)) := Lib.hid (by rw [← hR2, List.length_drop, hl.out]; omega)
            have hle : rest.length ≤ c := by rw [hl.out]; exact hlc
            rw [hstep] at heq
            have hcc : ∃ A1 c1 A2, Hid (A1 = if c = 4 then some ⟨g, o, none⟩ else some ⟨g, o + 4, none⟩) ∧ Hid (A2 = if c = 4 + N then some ⟨g, o, none⟩ else some ⟨g, o + (4 + N), none⟩) ∧ Hid (Bts w2 A1 R) ∧ Hid (Bts w2 A2 R2) ∧ c1 = c - 4 :=
              ⟨_, _, _, Lib.hid rfl, Lib.hid rfl, Lib.hid (by rw [← hR]; exact (hB.out.cut (k := 4) hle).take N), Lib.hid (by rw [← hR2, Nat.add_comm N 4]; exact hB.out.cut (k := 4 + N) hle), rfl⟩
            obtain ⟨A1, c1, A2, hA1, hA2, hB1, hB2, rfl⟩ := hcc
            clear hR hR2 hle hB hstep hNn hl
            have hT6 : Hid (∃ cur, Blk w2 g 5 cur) := Lib.hid (hT5.out _ rfl)
            clear hT5
            have hkw0 := hkw
            replace hrl := Lib.hid hrl
            by_cases k0 : N = 0
            · subst k0
              obtain ⟨vs, hv1, hv2⟩ := hout.out.keep ((Keeps.refl [] w2).alloc (.cells #[] 5))
              replace hv1 := Lib.hid hv1
              replace hv2 := Lib.hid hv2
              have hT7 : Hid (∃ cur, Blk (w2.alloc (.cells #[] 5)) g 5 cur) := Lib.hid (hT6.out.imp fun cur h => h.alloc _)
              replace hB2 := Lib.hid (hB2.out.keep ((Keeps.refl [] w2).alloc (.cells #[] 5)) (by simp))
              have hg1 : Hid ((w2.alloc (.cells #[] 5)).ownsRow w.heap.size 5 1 (.slice (some ⟨w2.heap.size, 0, none⟩) 0 0) 0 (R.map bv)) := Lib.hid (by
                rw [List.eq_nil_of_length_eq_zero hrl.out]
                exact own_le (World.ownsRow_made w2 #[] 0 (Nat.le_refl _) (by simp [maxLen]) (by simp)) hkw.out.size)
              by_cases k4 : c = 4
              · have q1 : l = 4 := by omega
                subst q1 k4
                have hA1' := hA1.out
                have hA2' := hA2.out
                rw [if_pos rfl] at hA1' hA2'
                subst hA1' hA2'
                clear hA1 hA2
                go_wp2_with (at_builtin; refine wpList_append_own _ rfl (.tmp 76) (.tmp 84) 36 rfl w.heap.size 34 i0 (.slice none 0 0) 1 24 Try.underlying36 hi.out hz0.out hz1.out hz2.out rfl (by decide) u15 done.length vs rfl (hv1.out.alloc _) ⟨w2.heap.size + 1, 0, none⟩ 1 1 [.slice (some ⟨w2.heap.size, 0, none⟩) 0 0] rfl rfl (World.news_of_block (cs := #[.slice (some ⟨w2.heap.size, 0, none⟩) 0 0]) (t := 34) (fr := (0, 0)) (heap_alloc2_new w2 _ _)) (by simp [Value.oneCell']) ?_ ?_ ?_ ?_; (unfold maxLen; omega); omega; (have := hkw.out.size; simp; omega); intro v' w4 ho1 hgr hn1; have kg := Lib.hid (keep_grown (w := w) (hv1.out.alloc (.cells #[.slice (some ⟨w2.heap.size, 0, none⟩) 0 0] 34)) ((hkw.out.alloc _).alloc _) (Nat.le_refl _) hgr); have kg2 := Lib.hid (keeps_of_grown (w := w2.alloc (.cells #[] 5)) (hv1.out.alloc (.cells #[.slice (some ⟨w2.heap.size, 0, none⟩) 0 0] 34)) hgr ((Keeps.refl [] (w2.alloc (.cells #[] 5))).alloc _)); have ho := Lib.hid (OutAt.push (r := R) hrl.out hv2.out hv1.out hg1.out ho1 hgr); clear hn1 ho1 hgr)
                go_roundw
                case rel =>
                  refine ⟨some ⟨g, o, none⟩, 0, 0, done ++ [R], R2, ?_, ?_, ?_, ?_, ?_, ?_, ho, ?_, kg⟩
                  · first | rfl | rw [kN]
                  · exact hR2l
                  · omega
                  · unfold maxLen; omega
                  · rw [List.length_append, List.length_singleton]; omega
                  · exact Lib.hid (tail_keep hT7.out hv1.out kg2.out hB2.out)
                  · exact Lib.hid (by rw [heq.out, List.append_assoc]; rfl)
                case measure =>
                  first | (simp [lenOf]; done) | (simp [lenOf]; omega)
              · have hA2' := hA2.out
                rw [if_neg (by omega)] at hA2'
                subst hA2'
                clear hA1 hA2
                go_wp2_with (at_builtin; refine wpList_append_own _ rfl (.tmp 76) (.tmp 84) 36 rfl w.heap.size 34 i0 (.slice none 0 0) 1 24 Try.underlying36 hi.out hz0.out hz1.out hz2.out rfl (by decide) u15 done.length vs rfl (hv1.out.alloc _) ⟨w2.heap.size + 1, 0, none⟩ 1 1 [.slice (some ⟨w2.heap.size, 0, none⟩) 0 0] rfl rfl (World.news_of_block (cs := #[.slice (some ⟨w2.heap.size, 0, none⟩) 0 0]) (t := 34) (fr := (0, 0)) (heap_alloc2_new w2 _ _)) (by simp [Value.oneCell']) ?_ ?_ ?_ ?_; (unfold maxLen; omega); omega; (have := hkw.out.size; simp; omega); intro v' w4 ho1 hgr hn1; have kg := Lib.hid (keep_grown (w := w) (hv1.out.alloc (.cells #[.slice (some ⟨w2.heap.size, 0, none⟩) 0 0] 34)) ((hkw.out.alloc _).alloc _) (Nat.le_refl _) hgr); have kg2 := Lib.hid (keeps_of_grown (w := w2.alloc (.cells #[] 5)) (hv1.out.alloc (.cells #[.slice (some ⟨w2.heap.size, 0, none⟩) 0 0] 34)) hgr ((Keeps.refl [] (w2.alloc (.cells #[] 5))).alloc _)); have ho := Lib.hid (OutAt.push (r := R) hrl.out hv2.out hv1.out hg1.out ho1 hgr); clear hn1 ho1 hgr)
                go_roundw
                case rel =>
                  refine ⟨some ⟨g, o + (4 + 0), none⟩, l - (4 + 0), c - (4 + 0), done ++ [R], R2, ?_, ?_, ?_, ?_, ?_, ?_, ho, ?_, kg⟩
                  · first | rfl | rw [kN]
                  · exact hR2l
                  · omega
                  · unfold maxLen; omega
                  · rw [List.length_append, List.length_singleton]; omega
                  · exact Lib.hid (tail_keep hT7.out hv1.out kg2.out hB2.out)
                  · exact Lib.hid (by rw [heq.out, List.append_assoc]; rfl)
                case measure =>
                  first | (simp [lenOf]; done) | (simp [lenOf]; omega)
            · have hzz : Hid (([] : List UInt8).length + (4 + N - 4) = N) := Lib.hid (by rw [Nat.add_sub_cancel_left]; exact Nat.zero_add N)
              have hzz2 : Hid (([] : List UInt8).length + N = N) := Lib.hid (Nat.zero_add N)
              have k4 : ¬ c = 4 := by omega
              have hA1' := hA1.out
              rw [if_neg k4] at hA1'
              subst hA1'
              have HM : Hid ((w2.alloc (.cells #[] 5)).ownsRow w2.heap.size 5 1 (.slice (some ⟨w2.heap.size, 0, none⟩) 0 0) ([] : List UInt8).length (([] : List UInt8).map bv)) := Lib.hid (World.ownsRow_made w2 #[] 0 (Nat.le_refl _) (by simp [maxLen]) (by simp))
              have info5 : Hid ((Try.prog.info? 5).map (fun i => (i.zero, i.size, i.bytes)) = some (some (.int .u8 0), 1, 1)) := Lib.hid (by kernel_rfl)
              have KA : Hid (Keeps [] w2 (w2.alloc (.cells #[] 5))) := Lib.hid ((Keeps.refl [] _).alloc _)
              have HB1 := Lib.hid (hB1.out.keep KA.out (by simp))
              by_cases kN : c = 4 + N
              · have hA2' := hA2.out
                rw [if_pos kN] at hA2'
                subst hA2'
                clear hA1 hA2
                go_wp2_with (first
                  | (at_builtin; refine wpList_append_bts rfl (.tmp 77) (.tmp 82) 34 rfl w2.heap.size 5 Try.underlying34 info5.out (.slice (some ⟨w2.heap.size, 0, none⟩) 0 0) [] R rfl ?_ _ _ _ rfl ?_ ?_ ?_ ?_ ?_; (exact HM.out); (first | exact hrl.out | exact hrl.out.trans (Nat.add_sub_cancel_left 4 N).symm); (exact HB1.out); (rw [hrl.out, List.length_nil]; omega); (exact KA.out.size); intro A' c' w3 G1 G2 G3; (first | rw [hzz.out] | rw [hzz2.out]); have g1 := G1.out; (first | rw [hzz.out, List.nil_append] at g1 | rw [hzz2.out, List.nil_append] at g1); have k23 := keep_grown (w := w2) HM.out KA.out (Nat.le_refl _) G2.out; obtain ⟨vs, hv1, hv2⟩ := hout.out.keep k23; replace hkw := Lib.hid (hkw.out.trans k23); replace hB2 := Lib.hid (hB2.out.keep k23 (fun _ _ => List.not_mem_nil)); have hT7 : Hid (∃ cur, Blk w3 g 5 cur) := Lib.hid (hT6.out.imp fun cur h => h.keep k23 List.not_mem_nil); have hg1 := Lib.hid (own_le g1 hkw0.out.size); replace hv1 := Lib.hid hv1; replace hv2 := Lib.hid hv2; clear G1 G2 G3 g1 k23)
                  | (at_builtin; refine wpList_append_own _ rfl (.tmp 76) (.tmp 84) 36 rfl w.heap.size 34 i0 (.slice none 0 0) 1 24 Try.underlying36 hi.out hz0.out hz1.out hz2.out rfl (by decide) u15 done.length vs rfl (hv1.out.alloc _) ⟨w3.heap.size, 0, none⟩ 1 1 [.slice A' N c'] rfl rfl (World.news_of_block (cs := #[.slice A' N c']) (t := 34) (fr := (0, 0)) (heap_alloc_new w3 _)) (by simp [Value.oneCell']) ?_ ?_ ?_ ?_; (unfold maxLen; omega); omega; (have := hkw.out.size; simp; omega); intro v' w4 ho1 hgr hn1; have kg := Lib.hid (keep_grown (w := w) (hv1.out.alloc (.cells #[.slice A' N c'] 34)) (hkw.out.alloc _) (Nat.le_refl _) hgr); have kg2 := Lib.hid (keeps_of_grown (w := w3) (hv1.out.alloc (.cells #[.slice A' N c'] 34)) hgr ((Keeps.refl [] w3).alloc _)); have ho := Lib.hid (OutAt.push (r := R) hrl.out hv2.out hv1.out hg1.out ho1 hgr); clear hn1 ho1 hgr))
                go_roundw
                case rel =>
                  refine ⟨some ⟨g, o, none⟩, l - (4 + N), c - (4 + N), done ++ [R], R2, ?_, ?_, ?_, ?_, ?_, ?_, ho, ?_, kg⟩
                  · first | rfl | rw [kN]
                  · exact hR2l
                  · omega
                  · unfold maxLen; omega
                  · rw [List.length_append, List.length_singleton]; omega
                  · exact Lib.hid (tail_keep hT7.out hv1.out kg2.out hB2.out)
                  · exact Lib.hid (by rw [heq.out, List.append_assoc]; rfl)
                case measure =>
                  first | (simp [lenOf]; done) | (simp [lenOf]; omega)
              · have hA2' := hA2.out
                rw [if_neg kN] at hA2'
                subst hA2'
                clear hA1 hA2
                go_wp2_with (first
                  | (at_builtin; refine wpList_append_bts rfl (.tmp 77) (.tmp 82) 34 rfl w2.heap.size 5 Try.underlying34 info5.out (.slice (some ⟨w2.heap.size, 0, none⟩) 0 0) [] R rfl ?_ _ _ _ rfl ?_ ?_ ?_ ?_ ?_; (exact HM.out); (first | exact hrl.out | exact hrl.out.trans (Nat.add_sub_cancel_left 4 N).symm); (exact HB1.out); (rw [hrl.out, List.length_nil]; omega); (exact KA.out.size); intro A' c' w3 G1 G2 G3; (first | rw [hzz.out] | rw [hzz2.out]); have g1 := G1.out; (first | rw [hzz.out, List.nil_append] at g1 | rw [hzz2.out, List.nil_append] at g1); have k23 := keep_grown (w := w2) HM.out KA.out (Nat.le_refl _) G2.out; obtain ⟨vs, hv1, hv2⟩ := hout.out.keep k23; replace hkw := Lib.hid (hkw.out.trans k23); replace hB2 := Lib.hid (hB2.out.keep k23 (fun _ _ => List.not_mem_nil)); have hT7 : Hid (∃ cur, Blk w3 g 5 cur) := Lib.hid (hT6.out.imp fun cur h => h.keep k23 List.not_mem_nil); have hg1 := Lib.hid (own_le g1 hkw0.out.size); replace hv1 := Lib.hid hv1; replace hv2 := Lib.hid hv2; clear G1 G2 G3 g1 k23)
                  | (at_builtin; refine wpList_append_own _ rfl (.tmp 76) (.tmp 84) 36 rfl w.heap.size 34 i0 (.slice none 0 0) 1 24 Try.underlying36 hi.out hz0.out hz1.out hz2.out rfl (by decide) u15 done.length vs rfl (hv1.out.alloc _) ⟨w3.heap.size, 0, none⟩ 1 1 [.slice A' N c'] rfl rfl (World.news_of_block (cs := #[.slice A' N c']) (t := 34) (fr := (0, 0)) (heap_alloc_new w3 _)) (by simp [Value.oneCell']) ?_ ?_ ?_ ?_; (unfold maxLen; omega); omega; (have := hkw.out.size; simp; omega); intro v' w4 ho1 hgr hn1; have kg := Lib.hid (keep_grown (w := w) (hv1.out.alloc (.cells #[.slice A' N c'] 34)) (hkw.out.alloc _) (Nat.le_refl _) hgr); have kg2 := Lib.hid (keeps_of_grown (w := w3) (hv1.out.alloc (.cells #[.slice A' N c'] 34)) hgr ((Keeps.refl [] w3).alloc _)); have ho := Lib.hid (OutAt.push (r := R) hrl.out hv2.out hv1.out hg1.out ho1 hgr); clear hn1 ho1 hgr))
                go_roundw
                case rel =>
                  refine ⟨some ⟨g, o + (4 + N), none⟩, l - (4 + N), c - (4 + N), done ++ [R], R2, ?_, ?_, ?_, ?_, ?_, ?_, ho, ?_, kg⟩
                  · first | rfl | rw [kN]
                  · exact hR2l
                  · omega
                  · unfold maxLen; omega
                  · rw [List.length_append, List.length_singleton]; omega
                  · exact Lib.hid (tail_keep hT7.out hv1.out kg2.out hB2.out)
                  · exact Lib.hid (by rw [heq.out, List.append_assoc]; rfl)
                case measure =>
                  first | (simp [lenOf]; done) | (simp [lenOf]; omega)
      · have hnil := recsOf_short (s := rest) (by have := hl.out; omega)
        rw [hnil, List.append_nil] at heq
        go_wp2_with fail
        go_ret2
        exact ⟨_, rfl, by rw [heq.out]; exact hout.out, hkw.out⟩
end Go.Proofs.Ytnoaahgjfknnlaa
