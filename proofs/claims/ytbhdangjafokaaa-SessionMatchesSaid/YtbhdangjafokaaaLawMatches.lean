/- The walk of the statement SessionMatches. -/
import Derived.Test.YtbhdangjafokaaaSess11
import Derived.Test.YtbhdangjafokaaaSessByte
namespace Go.Proofs.Ytbhdangjafokaaa
open Go.RowKit
set_option linter.unusedSimpArgs false
set_option linter.unusedVariables false

theorem SRep.other {w w' : World} {b g : Nat} {num : Int} {ks : List Int} {cur dn : Nat} {cs : Array Value} (h : SRep w b num ks cur dn) (hg : Blk w g 62 cs) (hk : Keeps [g] w w') : SRep w' b num ks cur dn := by
  obtain ⟨sv, pv, h1, h2, h3⟩ := h.ex
  refine ⟨⟨sv, pv, h1.keep hk ?_, own_keep h2 hk ?_, own_keep h3 hk ?_⟩, h.n0, h.n1, h.len, h.cur, h.dn⟩
  · intro hx; simp at hx; subst hx; exact h1.ne_ hg (by decide) rfl
  · intro g' hg' hx
    obtain ⟨_, cur, hB⟩ := own_blk h2 hg'
    simp at hx; subst hx
    exact hB.ne_ hg (by decide) rfl
  · intro g' hg' hx
    obtain ⟨_, cur, hB⟩ := own_blk h3 hg'
    simp at hx; subst hx
    exact hB.ne_ hg (by decide) rfl

/-- The session and the reference's, side by side. -/
structure Mt (w0 w : World) (b g : Nat) (num : Int) (ks : List Int) (A : Option Addr) (n c cur dn cr dr : Nat) : Prop where
  rep : SRep w b num ks cur dn
  blk : Blk w g 62 (rs num A n c cr dr)
  keep : Keeps [b, g] w0 w
  hb : w0.heap.size ≤ b
  hg : w0.heap.size ≤ g
  ne : g ≠ b
  end_ : (split ks).length ≤ cur → dn = 0

section
variable {w0 w w' : World} {b g : Nat} {num : Int} {ks : List Int} {A : Option Addr} {n c cur dn cr dr : Nat}
theorem Mt.keep_ (h : Mt w0 w b g num ks A n c cur dn cr dr) (k : Keeps [] w w') : Mt w0 w' b g num ks A n c cur dn cr dr :=
  ⟨h.rep.keep k, h.blk.keep k (by simp), h.keep.trans k.nil, h.hb, h.hg, h.ne, h.end_⟩
theorem Mt.turn_ {cur' dn' : Nat} (h : Mt w0 w b g num ks A n c cur dn cr dr) (r : SRep w' b num ks cur' dn') (k : Keeps [b] w w') (he : (split ks).length ≤ cur' → dn' = 0) : Mt w0 w' b g num ks A n c cur' dn' cr dr :=
  ⟨r, h.blk.keep k (by simp; exact h.ne), h.keep.trans (k.mono (fun x hx => .inl (by simp at hx; simp [hx]))), h.hb, h.hg, h.ne, he⟩
theorem Mt.store_ {cr' dr' : Nat} (h : Mt w0 w b g num ks A n c cur dn cr dr) (hB : Blk w' g 62 (rs num A n c cr' dr')) (k : Keeps [g] w w') : Mt w0 w' b g num ks A n c cur dn cr' dr' :=
  ⟨h.rep.other h.blk k, hB, h.keep.trans (k.mono (fun x hx => .inl (by simp at hx; simp [hx]))), h.hb, h.hg, h.ne, h.end_⟩
theorem Mt.ints (h : Mt w0 w b g num ks A n c cur dn cr dr) (hO : IntsAt w0 w0.heap.size A ks) : IntsAt w w0.heap.size A ks :=
  hO.keep h.keep (by intro x hx; simp at hx; rcases hx with rfl | rfl; exact h.hb; exact h.hg)

theorem adv_end (h : (split ks).length ≤ cur → dn = 0) : (split ks).length ≤ cur → adv ks cur dn = 0 := by
  intro hc
  unfold adv
  rw [nx_end hc]
  simpa using h hc
theorem fin_end (h : (split ks).length ≤ cur → dn = 0) : (split ks).length ≤ (fin ks cur dn).1 → (fin ks cur dn).2 = 0 := by
  unfold fin
  split
  · intro _; rfl
  · rename_i hc
    intro _
    exact h (by omega)

theorem mt_adv (h : Mt w0 w b g num ks A n c cur dn cr dr) : Calls Try.prog 18 #[.pointer (some ⟨b, 0, none⟩)] w fun e w' => e = .returned (.tuple #[]) ∧ Hid (Mt w0 w' b g num ks A n c cur (adv ks cur dn) cr dr) := by
  refine (advance_any w b num ks cur dn h.rep).mono ?_
  rintro e w' ⟨rfl, r, k⟩
  exact ⟨rfl, Lib.hid (h.turn_ r k (adv_end h.end_))⟩
theorem mt_restart (h : Mt w0 w b g num ks A n c cur dn cr dr) : Calls Try.prog 19 #[.pointer (some ⟨b, 0, none⟩)] w fun e w' => e = .returned (.tuple #[]) ∧ Hid (Mt w0 w' b g num ks A n c cur 0 cr dr) := by
  refine (restart_any w b num ks cur dn h.rep).mono ?_
  rintro e w' ⟨rfl, r, k⟩
  exact ⟨rfl, Lib.hid (h.turn_ r k (fun _ => rfl))⟩
theorem mt_finish (h : Mt w0 w b g num ks A n c cur dn cr dr) : Calls Try.prog 16 #[.pointer (some ⟨b, 0, none⟩)] w fun e w' => e = .returned (.tuple #[]) ∧ Hid (Mt w0 w' b g num ks A n c (fin ks cur dn).1 (fin ks cur dn).2 cr dr) := by
  refine (finish_any w b num ks cur dn h.rep).mono ?_
  rintro e w' ⟨rfl, r, k⟩
  exact ⟨rfl, Lib.hid (h.turn_ r k (fin_end h.end_))⟩
theorem mt_do (h : Mt w0 w b g num ks A n c cur dn cr dr) (op : Int) (hn : ks.length = n) (hnc : n ≤ c) (h60 : n ≤ 1048576) (hO : IntsAt w0 w0.heap.size A ks) (hd : dr ≤ n) (hc : cr ≤ n) {c' d' : Nat} (hr : rdo ks cr dr op = (c', d')) :
    Calls Try.prog 23 #[.agg (rs num A n c cr dr), .int .i64 op] w fun e w' => e = .returned (.agg (rs num A n c c' d')) ∧ Hid (Mt w0 w' b g num ks A n c cur dn cr dr) := by
  refine (rdo_any w w0.heap.size A ks num op n c cr dr hn hnc (h.ints hO) h.keep.size h60 hd hc).mono ?_
  rintro e w' ⟨rfl, k⟩
  rw [hr]
  exact ⟨rfl, Lib.hid (h.keep_ k)⟩
theorem mt_agree (h : Mt w0 w b g num ks A n c cur dn cur dn) (hn : ks.length = n) (hnc : n ≤ c) (hc : c ≤ maxLen) (hO : IntsAt w0 w0.heap.size A ks) :
    Calls Try.prog 22 #[.pointer (some ⟨b, 0, none⟩), .agg (rs num A n c cur dn)] w fun e w' => e = .returned (.bool true) ∧ Hid (Mt w0 w' b g num ks A n c cur dn cur dn) := by
  refine (agree_any w b w0.heap.size A ks num n c cur dn h.rep hn hnc hc (h.ints hO) h.keep.size).mono ?_
  rintro e w' ⟨rfl, k⟩
  exact ⟨rfl, Lib.hid (h.keep_ k)⟩
end

/-- The program's step and the reference's. -/
theorem rdo_same {ks : List Int} {cur dn : Nat} (h : (split ks).length ≤ cur → dn = 0) :
    rdo ks cur dn 0 = (cur, adv ks cur dn) ∧ rdo ks cur dn 1 = (cur, 0) ∧ rdo ks cur dn 2 = ((fin ks cur dn).1, (fin ks cur dn).2) := by
  refine ⟨rfl, ?_, rfl⟩
  unfold rdo
  rw [if_neg (by decide), if_pos rfl]
  by_cases hc : cur < (split ks).length
  · rw [if_pos hc]
  · rw [if_neg hc, h (by omega)]
theorem rdo_other {ks : List Int} {cur dn : Nat} {op : Int} (h0 : (op == 0) = false) (h1 : (op == 1) = false) (h2 : (op == 2) = false) : rdo ks cur dn op = (cur, dn) := by
  unfold rdo
  rw [if_neg (by simpa using h0), if_neg (by simpa using h1), if_neg (by simpa using h2)]

set_option maxHeartbeats 3200000 in
theorem law_matches (w : World) (num : Int) (A B : Option Addr) (ks os : List Int) (n c l cl : Nat) (hn : ks.length = n) (hnc : n ≤ c) (hc : c ≤ maxLen) (hO : IntsAt w w.heap.size A ks)
    (hl : os.length = l) (hlc : l ≤ cl) (hlm : cl ≤ maxLen) (hP : BytesAt w w.heap.size B os) :
    Calls Try.prog 8 #[.int .i64 num, .slice A n c, .slice B l cl] w fun e w' => e = .returned (.bool true) ∧ Keeps [] w w' := by
  replace hO := Lib.hid hO
  replace hn := Lib.hid hn
  replace hl := Lib.hid hl
  replace hP := Lib.hid hP
  replace hc := Lib.hid hc
  unfold maxLen at hlm
  go_enter Try.func8, Try.ntmps8
  by_cases h60 : 60 < n ∨ (n ≤ 60 ∧ 60 < l)
  · rcases h60 with h60 | ⟨h60, h61⟩
    all_goals
      go_wp2_with fail
      refine (awake_any w).mono ?_
      rintro e w1 ⟨rfl, k1⟩
      replace k1 := Lib.hid k1
      go_wp2_with fail
      refine (awake_any w1).mono ?_
      rintro e w2 ⟨rfl, k2⟩
      replace k2 := Lib.hid (k1.out.trans k2)
      clear k1
      go_wp2_with fail
      go_ret
      exact ⟨rfl, k2.out⟩
  · have h61 : n ≤ 60 := by omega
    have h62 : l ≤ 60 := by omega
    clear h60
    go_wp2_with fail
    refine (awake_any w).mono ?_
    rintro e w1 ⟨rfl, k1⟩
    have i1 := Lib.hid (hO.out.keep k1 (by simp))
    replace k1 := Lib.hid k1
    go_wp2_with fail
    refine (script_any w1 w.heap.size A ks n c hn.out hnc k1.out.size i1.out (by omega)).mono ?_
    rintro e w2 ⟨v, rfl, o2, n2, k2⟩
    replace o2 := Lib.hid o2
    replace n2 := Lib.hid n2
    replace k2 := Lib.hid (k1.out.trans k2)
    clear k1 i1
    by_cases hbad : num < 0 ∨ (0 ≤ num ∧ 8 ≤ num)
    · obtain ⟨A2, c2, rfl, _, _⟩ := own_slice o2.out
      rcases hbad with hb | ⟨hb0, hb⟩
      all_goals
        go_wp2_with fail
        refine (new_bad w2 num A2 n c2 (by omega)).mono ?_
        rintro e w3 ⟨rfl, rfl⟩
        go_wp2_with fail
        go_ret
        exact ⟨rfl, k2.out⟩
    · have h0 : 0 ≤ num := by omega
      have h8 : num < 8 := by omega
      clear hbad
      go_wp2_with fail
      refine (new_ok w2 num v _ ks n hn.out o2.out n2.out (by omega) h0 h8).mono ?_
      rintro e w3 ⟨b, rfl, r3, hb, k3⟩
      have hM : Hid (Mt w (w3.alloc (.cells (rs num A n c 0 0) 62)) b w3.heap.size num ks A n c 0 0 0 0) := by
        have hbw : b < w3.heap.size := by obtain ⟨_, _, hB, _, _⟩ := r3.ex; exact hB.lt
        have hw3 : w.heap.size ≤ w3.heap.size := (k2.out.trans k3).size
        exact Lib.hid ⟨r3.keep ((Keeps.refl _ _).alloc _), Blk.new _ _ _, ((k2.out.trans k3).alloc _).nil, Nat.le_trans k2.out.size hb, hw3, by omega, fun _ => rfl⟩
      clear o2 n2 k2 k3 r3 hb
      go_wp2_with fail
      refine (mt_agree hM.out hn.out hnc hc.out hO.out).mono ?_
      rintro e w4 ⟨rfl, hM4⟩
      generalize w3.heap.size = g at *
      clear hM
      go_wp2_with fail
      go_loopw [49] (fun i wr => ∃ k cur dn : Nat, k ≤ l ∧ i = .int .i64 k ∧ Hid (Mt w wr b g num ks A n c cur dn cur dn)) (fun i _ => l - (intOf i).toNat)
      case atStart => exact ⟨0, 0, 0, Nat.zero_le _, rfl, hM4⟩
      case round =>
        clear hM4
        obtain ⟨k, cur, dn, hk, rfl, hM⟩ := hrel
        by_cases hlt : k < l
        · skip
          have hdn : dn ≤ n := by have := hM.out.rep.dn; have := hn.out; omega
          have hcu : cur ≤ n := by have := hM.out.rep.cur; have := split_len ks; have := hn.out; omega
          have he := hM.out.end_
          replace he := Lib.hid he
          obtain ⟨o, ho⟩ : ∃ o, os[k]? = some o := ⟨os[k]'(by have := hl.out; omega), List.getElem?_eq_getElem _⟩
          obtain ⟨h8', g', off, rfl, hg', co⟩ := (hP.out.keep hM.out.keep (by intro x hx; simp at hx; rcases hx with rfl | rfl; exact hM.out.hb; exact hM.out.hg)) k o ho
          clear ho
          have hk0 : (0 : Int) ≤ (k : Int) := by omega
          have hkl : (k : Int) < (l : Int) := by omega
          have ho : o = 0 ∨ o = 1 ∨ o = 2 ∨ ((o == 0) = false ∧ (o == 1) = false ∧ (o == 2) = false) := by
            by_cases a0 : o = 0
            · exact .inl a0
            · by_cases a1 : o = 1
              · exact .inr (.inl a1)
              · by_cases a2 : o = 2
                · exact .inr (.inr (.inl a2))
                · exact .inr (.inr (.inr ⟨by simpa using a0, by simpa using a1, by simpa using a2⟩))
          rcases ho with rfl | rfl | rfl | ⟨a0, a1, a2⟩
          · go_wp2_with fail
            refine (mt_adv hM.out).mono ?_
            rintro e v1 ⟨rfl, M1⟩
            clear hM co
            have c8 := M1.out.blk.cell
            go_wp2_with fail
            refine (mt_do M1.out 0 hn.out hnc (by omega) hO.out hdn hcu (rdo_same he.out).1).mono ?_
            rintro e v2 ⟨rfl, M2⟩
            clear M1 c8
            go_wp2_with (refine wpList_store_all rfl 62 (.tmp 8) (.tmp 69) rfl g rfl 62 [.int .i64 num, .slice A n c, .int .i64 cur, .int .i64 dn] [.int .i64 num, .slice A n c, .int .i64 (cur : Nat), .int .i64 ((adv ks cur dn) : Nat)] rfl M2.out.blk (by kernel_rfl) rfl ?_ ?_; (simp [Value.oneCell']); intro v3 hm3 hk3; have M3 := Lib.hid (M2.out.store_ hm3.out hk3); have c9 := M3.out.blk.cell; clear hm3 hk3 M2)
            refine (mt_agree M3.out hn.out hnc hc.out hO.out).mono ?_
            rintro e v4 ⟨rfl, M4⟩
            clear M3 c9
            go_wp2_with fail
            go_roundw
            case rel => exact ⟨k + 1, _, _, by omega, by go_num, M4⟩
            case measure => simp [intOf]; omega
          · go_wp2_with fail
            refine (mt_restart hM.out).mono ?_
            rintro e v1 ⟨rfl, M1⟩
            clear hM co
            have c8 := M1.out.blk.cell
            go_wp2_with fail
            refine (mt_do M1.out 1 hn.out hnc (by omega) hO.out hdn hcu (rdo_same he.out).2.1).mono ?_
            rintro e v2 ⟨rfl, M2⟩
            clear M1 c8
            go_wp2_with (refine wpList_store_all rfl 62 (.tmp 8) (.tmp 69) rfl g rfl 62 [.int .i64 num, .slice A n c, .int .i64 cur, .int .i64 dn] [.int .i64 num, .slice A n c, .int .i64 (cur : Nat), .int .i64 (0 : Nat)] rfl M2.out.blk (by kernel_rfl) rfl ?_ ?_; (simp [Value.oneCell']); intro v3 hm3 hk3; have M3 := Lib.hid (M2.out.store_ hm3.out hk3); have c9 := M3.out.blk.cell; clear hm3 hk3 M2)
            refine (mt_agree M3.out hn.out hnc hc.out hO.out).mono ?_
            rintro e v4 ⟨rfl, M4⟩
            clear M3 c9
            go_wp2_with fail
            go_roundw
            case rel => exact ⟨k + 1, _, _, by omega, by go_num, M4⟩
            case measure => simp [intOf]; omega
          · go_wp2_with fail
            refine (mt_finish hM.out).mono ?_
            rintro e v1 ⟨rfl, M1⟩
            clear hM co
            have c8 := M1.out.blk.cell
            go_wp2_with fail
            refine (mt_do M1.out 2 hn.out hnc (by omega) hO.out hdn hcu (rdo_same he.out).2.2).mono ?_
            rintro e v2 ⟨rfl, M2⟩
            clear M1 c8
            go_wp2_with (refine wpList_store_all rfl 62 (.tmp 8) (.tmp 69) rfl g rfl 62 [.int .i64 num, .slice A n c, .int .i64 cur, .int .i64 dn] [.int .i64 num, .slice A n c, .int .i64 (((fin ks cur dn).1) : Nat), .int .i64 (((fin ks cur dn).2) : Nat)] rfl M2.out.blk (by kernel_rfl) rfl ?_ ?_; (simp [Value.oneCell']); intro v3 hm3 hk3; have M3 := Lib.hid (M2.out.store_ hm3.out hk3); have c9 := M3.out.blk.cell; clear hm3 hk3 M2)
            refine (mt_agree M3.out hn.out hnc hc.out hO.out).mono ?_
            rintro e v4 ⟨rfl, M4⟩
            clear M3 c9
            go_wp2_with fail
            go_roundw
            case rel => exact ⟨k + 1, _, _, by omega, by go_num, M4⟩
            case measure => simp [intOf]; omega
          · have M1 := hM
            clear hM
            have c8 := M1.out.blk.cell
            go_wp2_with fail
            refine (mt_do M1.out o hn.out hnc (by omega) hO.out hdn hcu (rdo_other a0 a1 a2)).mono ?_
            rintro e v2 ⟨rfl, M2⟩
            clear M1 c8
            go_wp2_with (refine wpList_store_all rfl 62 (.tmp 8) (.tmp 69) rfl g rfl 62 [.int .i64 num, .slice A n c, .int .i64 cur, .int .i64 dn] [.int .i64 num, .slice A n c, .int .i64 (cur : Nat), .int .i64 (dn : Nat)] rfl M2.out.blk (by kernel_rfl) rfl ?_ ?_; (simp [Value.oneCell']); intro v3 hm3 hk3; have M3 := Lib.hid (M2.out.store_ hm3.out hk3); have c9 := M3.out.blk.cell; clear hm3 hk3 M2)
            refine (mt_agree M3.out hn.out hnc hc.out hO.out).mono ?_
            rintro e v4 ⟨rfl, M4⟩
            clear M3 c9
            go_wp2_with fail
            go_roundw
            case rel => exact ⟨k + 1, _, _, by omega, by go_num, M4⟩
            case measure => simp [intOf]; omega
        · obtain rfl : k = l := by omega
          go_wp2_with fail
          go_ret
          exact ⟨rfl, hM.out.keep.mono (by intro x hx; simp at hx; right; rcases hx with rfl | rfl; exact hM.out.hb; exact hM.out.hg)⟩
end Go.Proofs.Ytbhdangjafokaaa
