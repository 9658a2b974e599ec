/- The walk of the statement SessionExecutes. -/
import Derived.Test.YtbhdangjafokaaaSess8
import Derived.Test.YtbhdangjafokaaaLawCovers
namespace Go.Proofs.Ytbhdangjafokaaa
open Go.RowKit
set_option linter.unusedSimpArgs false
set_option linter.unusedVariables false

theorem st_statement {w0 w : World} {b : Nat} {num : Int} {ks : List Int} {cur dn : Nat} (h : St w0 w b num ks cur dn) {y i : Int} {ok : Bool} (hf : stN ks cur dn = (stm y i, ok)) :
    Calls Try.prog 21 #[.pointer (some ⟨b, 0, none⟩)] w fun e w' => e = .returned (.tuple #[.agg (stm y i).toArray, .bool ok]) ∧ Hid (St w0 w' b num ks cur dn) := by
  refine (statement_any w b num ks cur dn h.rep).mono ?_
  rw [hf]
  rintro e w' ⟨rfl, k⟩
  exact ⟨rfl, Lib.hid ⟨h.rep.keep k, h.keep.trans k.nil⟩⟩
theorem stN_in {ks : List Int} {k d x L : Nat} (hp : (split ks)[k]? = some (x, L)) (h : x + d ≤ L) : stN ks k d = (stm (ks.getD (x + d) 0) ((x + d : Nat) : Int), true) := by
  unfold stN
  rw [nx_in hp, if_pos h]
  rfl
theorem stN_out {ks : List Int} {k d x L : Nat} (hp : (split ks)[k]? = some (x, L)) (h : ¬ x + d ≤ L) : stN ks k d = (stm 0 0, false) := by
  unfold stN
  rw [nx_in hp, if_neg h]
  rfl
theorem adv_in {ks : List Int} {k d x L : Nat} (hp : (split ks)[k]? = some (x, L)) (h : x + d ≤ L) : adv ks k d = d + 1 := by
  unfold adv
  rw [nx_in hp, if_pos h]
  rfl
theorem fin_in {ks : List Int} {k d : Nat} (h : k < (split ks).length) : fin ks k d = (k + 1, 0) := by
  unfold fin; rw [if_pos h]
/-- A new block that is written leaves the session. -/
theorem St.new_ {w0 w w' : World} {b : Nat} {num : Int} {ks : List Int} {cur dn : Nat} (h : St w0 w b num ks cur dn) {o : Obj} (k : Keeps [w.heap.size] (w.alloc o) w') : St w0 w' b num ks cur dn := by
  have k2 : Keeps [] w w' := ((((Keeps.refl [] w).alloc o).nil).trans k).mono (by intro x hx; simp at hx; subst hx; exact .inr (Nat.le_refl _))
  exact h.keep_ k2

set_option maxHeartbeats 3200000 in
theorem law_executes (w : World) (num : Int) (hnum : 0 ≤ num ∧ num < 256) (A : Option Addr) (ks : List Int) (n c : Nat) (hn : ks.length = n) (hnc : n ≤ c) (hO : IntsAt w w.heap.size A ks) (hbig : n ≤ 1048576) :
    Calls Try.prog 7 #[.int .u8 num, .slice A n c] w fun e w' => e = .returned (.bool true) ∧ Keeps [] w w' := by
  replace hO := Lib.hid hO
  replace hn := Lib.hid hn
  have h8 : 0 ≤ num % 8 ∧ num % 8 < 8 := by omega
  go_enter Try.func7, Try.ntmps7
  go_wp2_with fail
  refine (script_any w w.heap.size A ks n c hn.out hnc (Nat.le_refl _) hO.out hbig).mono ?_
  rintro e w2 ⟨v, rfl, o2, n2, k2⟩
  replace o2 := Lib.hid o2
  replace n2 := Lib.hid n2
  replace k2 := Lib.hid k2
  clear hO
  go_wp2_with fail
  refine (new_ok w2 (num % 8) v _ ks n hn.out o2.out n2.out hbig h8.1 h8.2).mono ?_
  rintro e w3 ⟨b, rfl, r3, hb, k3⟩
  have T : Hid (St w w3 b (num % 8) ks 0 0) := Lib.hid ⟨r3, (k2.out.trans k3).nil⟩
  replace hb : w.heap.size ≤ b := Nat.le_trans k2.out.size hb
  clear o2 n2 k2 k3 r3
  by_cases h60 : 60 < n
  · go_wp2_with fail
    refine (awake_any w3).mono ?_
    rintro e w4 ⟨rfl, k4⟩
    replace T := Lib.hid (T.out.keep_ k4)
    clear k4
    go_wp2_with fail
    refine (awake_any w4).mono ?_
    rintro e w5 ⟨rfl, k5⟩
    replace T := Lib.hid (T.out.keep_ k5)
    clear k5
    go_wp2_with fail
    go_ret
    exact ⟨rfl, T.out.keep.mono (by intro x hx; simp at hx; subst hx; exact .inr hb)⟩
  · go_wp2_with fail
    refine (awake_any w3).mono ?_
    rintro e w4 ⟨rfl, k4⟩
    replace T := Lib.hid (T.out.keep_ k4)
    clear k4
    have hsl := Lib.hid (split_len ks)
    go_wp2_with fail
    go_loopw [6, 30] (fun next i wr => ∃ k x : Nat, k ≤ (split ks).length ∧ i = .int .i64 k ∧ next = .int .i64 x ∧ x ≤ n ∧ Hid (from_ ks x = (split ks).drop k) ∧ Hid (St w wr b (num % 8) ks k 0)) (fun _ i _ => (split ks).length - (intOf i).toNat)
    case atStart => exact ⟨0, 0, Nat.zero_le _, rfl, rfl, Nat.zero_le _, Lib.hid rfl, T⟩
    case round =>
      clear T
      obtain ⟨k, x, hk, rfl, rfl, hx, hd, T⟩ := hrel
      have hkn : (k : Int) < (n : Int) + 1 := by have := hsl.out; have := hn.out; omega
      by_cases hlt : k < (split ks).length
      · obtain ⟨hxl, hp, hnext⟩ := split_at hd.out hlt
        have hge := stop_ge ks hxl
        generalize hL : stop ks x = L at *
        replace hL := Lib.hid hL
        replace hnext := Lib.hid hnext
        replace hp := Lib.hid hp
        have hLn : L < n := by have := hge.2; have := hn.out; omega
        have hxL : x ≤ L := hge.1
        clear hge hxl
        go_wp2_with fail
        refine (st_done T.out (d := false) (by simp; omega)).mono ?_
        rintro e v1 ⟨rfl, T1⟩
        clear T
        go_wp2_with fail
        go_loopw [6, 37] (fun next i wr => ∃ d : Nat, x + d ≤ L + 1 ∧ i = .int .i64 d ∧ next = .int .i64 ((x + d : Nat) : Int) ∧ Hid (St w wr b (num % 8) ks k d)) (fun _ i _ => n + 1 - (intOf i).toNat)
        case atStart => exact ⟨0, by omega, rfl, rfl, T1⟩
        case round =>
          clear T1
          obtain ⟨d, hd, rfl, rfl, T⟩ := hrel
          have hdn : (d : Int) < (n : Int) + 1 := by omega
          by_cases hle : x + d ≤ L
          · go_wp2_with fail
            refine (st_statement T.out (stN_in hp.out hle)).mono ?_
            rintro e v2 ⟨rfl, T2⟩
            clear T
            go_wp2_with (refine wpList_store_mid rfl 57 (.tmp 7) (.tmp 42) rfl v2.heap.size 0 rfl 57 (stm 0 0) (stm (ks.getD (x + d) 0) ((x + d : Nat) : Int)) rfl (Blk.new _ _ _) (by rw [stm_len]; kernel_rfl) (Nat.le_refl 22) (stm_one _ _) ?_; intro v3 hm3 hk3; rw [splice_all _ _ (by simp only [stm_len])] at hm3; have T3 := Lib.hid (T2.out.new_ hk3); have c20 : v3.cell? ⟨v2.heap.size, 20, none⟩ = some (.int .i64 ((x + d : Nat) : Int)) := (hm3.out.cell 20).trans rfl; clear hk3 hm3 T2)
            refine (st_advance T3.out (adv_in hp.out hle)).mono ?_
            rintro e v4 ⟨rfl, T4⟩
            clear T3 c20
            go_wp2_with fail
            go_roundw
            case rel => exact ⟨d + 1, by omega, by go_num, by go_num, T4⟩
            case measure => simp [intOf]; omega
          · go_wp2_with fail
            refine (st_statement T.out (stN_out hp.out hle)).mono ?_
            rintro e v2 ⟨rfl, T2⟩
            clear T
            go_wp2_with (refine wpList_store_mid rfl 57 (.tmp 7) (.tmp 42) rfl v2.heap.size 0 rfl 57 (stm 0 0) (stm 0 0) rfl (Blk.new _ _ _) (by rw [stm_len]; kernel_rfl) (Nat.le_refl 22) (stm_one _ _) ?_; intro v3 hm3 hk3; rw [splice_all _ _ (by simp only [stm_len])] at hm3; have T3 := Lib.hid (T2.out.new_ hk3); have c20 : v3.cell? ⟨v2.heap.size, 20, none⟩ = some (.int .i64 0) := (hm3.out.cell 20).trans rfl; clear hk3 hm3 T2)
            refine (st_finish T3.out (fin_in hlt)).mono ?_
            rintro e v4 ⟨rfl, T4⟩
            clear T3 c20
            go_wp2_with fail
            go_roundw
            case rel => exact ⟨k + 1, L + 1, by omega, by go_num, by go_num, by omega, hnext, T4⟩
            case measure => simp [intOf]; omega
      · obtain rfl : k = (split ks).length := by omega
        have hxn := split_none hd.out (by rw [hn.out]; exact hx)
        obtain rfl : x = n := by rw [hxn, hn.out]
        go_wp2_with fail
        refine (st_done T.out (d := true) (by simp)).mono ?_
        rintro e v1 ⟨rfl, T1⟩
        clear T
        go_wp2_with fail
        refine (st_done T1.out (d := true) (by simp)).mono ?_
        rintro e v2 ⟨rfl, T2⟩
        clear T1
        go_wp2_with fail
        go_ret
        exact ⟨rfl, T2.out.keep.mono (by intro x hx; simp at hx; subst hx; exact .inr hb)⟩
end Go.Proofs.Ytbhdangjafokaaa
