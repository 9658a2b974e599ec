/- DeleteFunc at 'empty', on a row that the call owns. -/
import Derived.Test.YthmnolpamllabaaIv3
namespace Go.Proofs.Ythmnolpamllabaa
open Go.RowKit
set_option linter.unusedSimpArgs false
set_option linter.unusedVariables false

theorem enter35 : ∀ args w, (callFunc 35 args).run Try.prog w = .ok (.enter 35 args) w := enters_of Try.func35 (by kernel_rfl) rfl

/-- The first empty one. -/
def firstE (l : List Iv) : Int := Lib.idxBy (fun _ y => !full y) l default
theorem firstE_from : ∀ (l : List Iv) (k : Nat), (Lib.idxByFrom (fun _ y => !full y) default l k = -1 ∧ ∀ x ∈ l, full x = true) ∨ (∃ i, Lib.idxByFrom (fun _ y => !full y) default l k = ((k + i : Nat) : Int) ∧ i < l.length ∧ (∀ x ∈ l.take i, full x = true) ∧ ∃ x, l[i]? = some x ∧ full x = false)
  | [], k => .inl ⟨rfl, fun x h => by cases h⟩
  | y :: r, k => by
    by_cases hy : full y = true
    · rcases firstE_from r (k + 1) with ⟨h1, h2⟩ | ⟨i, h1, h2, h3, h4⟩
      · refine .inl ⟨by simp [Lib.idxByFrom, hy, h1], fun x hx => ?_⟩
        rcases List.mem_cons.1 hx with rfl | hx
        · exact hy
        · exact h2 x hx
      · refine .inr ⟨i + 1, by simp [Lib.idxByFrom, hy, h1]; omega, by simp; omega, fun x hx => ?_, by simpa using h4⟩
        rw [List.take_succ_cons] at hx
        rcases List.mem_cons.1 hx with rfl | hx
        · exact hy
        · exact h3 x hx
    · have hy' : full y = false := by simpa using hy
      exact .inr ⟨0, by simp [Lib.idxByFrom, hy'], by simp, fun x hx => by simp at hx, y, rfl, hy'⟩
theorem filter_all {l : List Iv} (h : ∀ x ∈ l, full x = true) : l.filter full = l := List.filter_eq_self.2 h

/-- The row through DeleteFunc: i kept, then what is left over, then what was not looked at. -/
structure DelAt (l : List Iv) (i j : Nat) (L : List Iv) : Prop where
  keep : (l.take j).filter full = L.take i
  len : ((l.take j).filter full).length = i
  rest : L.drop j = l.drop j
  all : L.length = l.length
  lt : i < j

theorem del_skip {l L : List Iv} {i j : Nat} {x : Iv} (h : DelAt l i j L) (hx : l[j]? = some x) (hf : full x = false) : DelAt l i (j + 1) L := by
  have e : (l.take (j + 1)).filter full = (l.take j).filter full := by
    rw [List.take_add_one, hx, List.filter_append]
    simp [hf]
  refine ⟨by rw [e]; exact h.keep, by rw [e]; exact h.len, ?_, h.all, by have := h.lt; omega⟩
  rw [← List.drop_drop, h.rest, List.drop_drop]
theorem del_take {l L : List Iv} {i j : Nat} {x : Iv} (h : DelAt l i j L) (hx : l[j]? = some x) (hf : full x = true) : DelAt l (i + 1) (j + 1) (L.set i x) := by
  have hjl : j < l.length := (List.getElem?_eq_some_iff.1 hx).1
  have hlt := h.lt
  have hall := h.all
  have e : (l.take (j + 1)).filter full = (l.take j).filter full ++ [x] := by
    rw [List.take_add_one, hx, List.filter_append]
    simp [hf]
  refine ⟨?_, by rw [e, List.length_append, h.len]; rfl, ?_, by rw [List.length_set]; exact hall, by omega⟩
  · rw [e, h.keep, List.take_add_one, List.take_set_of_le (Nat.le_refl i), List.getElem?_set_self (by omega)]
    rfl
  · rw [List.drop_set_of_lt (by omega), ← List.drop_drop, h.rest, List.drop_drop]
theorem del_get {l L : List Iv} {i j : Nat} {x : Iv} (h : DelAt l i j L) (hx : l[j]? = some x) : L[j]? = some x := by
  have : (L.drop j)[0]? = some x := by rw [h.rest, List.getElem?_drop]; exact hx
  rw [List.getElem?_drop] at this
  exact this

def DelPost (w : World) (base g n c : Nat) (l : List Iv) (e : Ending) (w' : World) : Prop :=
  e = .returned (.slice (some ⟨g, 0, none⟩) (l.filter full).length c) ∧ w'.ownsRow base 39 2 (.slice (some ⟨g, 0, none⟩) (l.filter full).length c) (l.filter full).length (flat (l.filter full)) ∧ Keeps [g] w w'

set_option maxHeartbeats 3200000 in
set_option maxRecDepth 100000 in
theorem del_any (w : World) (base g n c : Nat) (l : List Iv) (hl : l.length = n) (hown : w.ownsRow base 39 2 (.slice (some ⟨g, 0, none⟩) n c) n (flat l)) (hn : n ≤ 1048576) :
    Calls Try.prog 43 #[.slice (some ⟨g, 0, none⟩) n c, .func (.func 35) #[] #[]] w (DelPost w base g n c l) := by
  obtain ⟨cur, hbg, hg, hnc, hcm, hcs, hct⟩ : ∃ cur : Array Value, base ≤ g ∧ Blk w g 39 cur ∧ n ≤ c ∧ c ≤ maxLen ∧ cur.size = c * 2 ∧ cur.toList.take (n * 2) = flat l := by
    rcases hown.2 with ⟨h, _⟩ | ⟨g', cap, cur, hv, h1, h2, h3, h4, h5, h6⟩
    · simp at h
    · simp only [Value.slice.injEq, Option.some.injEq, Addr.mk.injEq] at hv
      obtain ⟨⟨rfl, _, _⟩, _, rfl⟩ := hv
      exact ⟨cur, h1, h2, h3, h4, h5, h6⟩
  have hfl := flat_len l
  obtain ⟨tail, htail⟩ : ∃ tail, cur.toList = flat l ++ tail := ⟨cur.toList.drop (n * 2), by rw [← hct, List.take_append_drop]⟩
  have htl : (flat l ++ tail).length = c * 2 := by rw [← htail]; simpa using hcs
  have hB : Blk w g 39 (flat l ++ tail).toArray := by rw [← htail]; exact hg
  have hcell : ∀ (wz : World) (L : List Iv), L.length = n → Blk wz g 39 (flat L ++ tail).toArray → ∀ j x, L[j]? = some x → wz.cell? ⟨g, j * 2, none⟩ = some (.int .i64 x.1) ∧ wz.cell? ⟨g, j * 2 + 1, none⟩ = some (.int .i64 x.2) := by
    intro wz L hL hb j x hx
    obtain ⟨h1, h2⟩ := flat_get L j x hx
    have hj : j < L.length := (List.getElem?_eq_some_iff.1 hx).1
    have hf := flat_len L
    refine ⟨?_, ?_⟩
    · rw [hb.cell, List.getElem?_toArray, List.getElem?_append_left (by omega)]; exact h1
    · rw [hb.cell, List.getElem?_toArray, List.getElem?_append_left (by omega)]; exact h2
  have HI := Try.slices_IndexFunc_f49 (α := Iv) 2 Try.isAgg39 Try.sizeOf39 cv cv_len (fun x => !full x) 35 #[] enter35 g 0 n c l w (pred_empty w) (by omega) (by omega) hB.lt (fun j hj i v hv => by
    obtain ⟨x, hx⟩ : ∃ x, l[j]? = some x := ⟨l[j], List.getElem?_eq_getElem hj⟩
    obtain ⟨h1, h2⟩ := hcell w l hl hB j x hx
    rw [getElem!_pos l j hj, show l[j] = x by rw [List.getElem?_eq_getElem hj] at hx; exact Option.some.inj hx] at hv
    rw [Nat.zero_add]
    match i, hv with
    | 0, hv => simp [cv] at hv; rw [← hv]; exact h1
    | 1, hv => simp [cv] at hv; rw [← hv]; exact h2)
  rw [List.take_of_length_le (by omega)] at HI
  have hfe := firstE_from l 0
  have he0 : Lib.idxBy (fun _ y => !full y) l default = Lib.idxByFrom (fun _ y => !full y) default l 0 := rfl
  rw [he0] at HI
  generalize Lib.idxByFrom (fun _ y => !full y) default l 0 = f0 at *
  replace HI := Lib.hid HI
  replace hcell := Lib.hid hcell
  replace htl := Lib.hid htl
  have hB0 := Lib.hid hB
  have hown0 := Lib.hid hown
  clear hB hown hg hct hcs htail he0 hfl
  rcases hfe with ⟨rfl, hall⟩ | ⟨i0, hf0, hi0, htake, x0, hx0, hfx0⟩
  · have hfil := Lib.hid (filter_all hall)
    replace hall := Lib.hid hall
    go_enter Try.func43, Try.ntmps43
    go_wp2_with fail
    refine HI.out.mono ?_
    rintro e w1 ⟨rfl, b1⟩
    have k1 := Lib.hid (Keeps.of_below (X := []) b1 (fun z h1 h2 => absurd h2 (by omega)))
    clear HI b1
    go_wp2_with fail
    go_ret
    unfold DelPost
    rw [hfil.out, hl]
    exact ⟨rfl, own_keep0 hown0.out k1.out, k1.out.nil⟩
  · rw [Nat.zero_add] at hf0
    subst hf0
    have hD0 : Hid (DelAt l i0 (i0 + 1) l) := Lib.hid (by
      have e : (l.take (i0 + 1)).filter full = l.take i0 := by
        rw [List.take_add_one, hx0, List.filter_append, filter_all htake]
        simp [hfx0]
      exact ⟨e, by rw [e, List.length_take]; omega, rfl, rfl, by omega⟩)
    have hne1 : ((i0 : Int) == -1) = false := by simp
    have hi0n : i0 < n := by omega
    have hw1 : IntKind.i64.wrap ((i0 : Int) + 1) = (i0 : Int) + 1 := IntWalk.i64_in _ (by omega)
    clear htake hx0 hfx0
    go_enter Try.func43, Try.ntmps43
    go_wp2_with fail
    refine HI.out.mono ?_
    rintro e w1 ⟨rfl, b1⟩
    have k1 := Lib.hid (Keeps.of_below (X := []) b1 (fun z h1 h2 => absurd h2 (by omega)))
    have hB1 := Lib.hid (hB0.out.keep k1.out (by simp))
    clear HI b1
    go_wp2_with fail
    clear hw1
    go_loopw [5, 6] (fun iv jv wr => ∃ (i j : Nat) (L : List Iv), j ≤ n ∧ iv = .int .i64 i ∧ jv = .int .i64 j ∧ Hid (DelAt l i j L) ∧ Hid (Blk wr g 39 (flat L ++ tail).toArray) ∧ Hid (Keeps [g] w wr)) (fun _ jv _ => n - (intOf jv).toNat)
    case atStart => exact ⟨i0, i0 + 1, l, by omega, rfl, by go_num, hD0, hB1, Lib.hid k1.out.nil⟩
    case round =>
      obtain ⟨i, j, L, hj, rfl, rfl, hD, hBr, hkw⟩ := hrel
      have hij := hD.out.lt
      have hLn : L.length = n := hD.out.all.trans hl
      by_cases hlt : j < n
      · obtain ⟨⟨x1, x2⟩, hx⟩ : ∃ x, l[j]? = some x := ⟨l[j]'(by rw [hl]; exact hlt), List.getElem?_eq_getElem _⟩
        obtain ⟨c1, c2⟩ := hcell.out wr L hLn hBr.out j _ (del_get hD.out hx)
        have hjn : (j : Int) < (n : Int) := by omega
        dsimp only at c1 c2
        have HE := Lib.hid (empty_any (wr.alloc (.cells #[.int .i64 x1, .int .i64 x2] 39)) x1 x2)
        have ka : Keeps [] wr (wr.alloc (.cells #[.int .i64 x1, .int .i64 x2] 39)) := (Keeps.refl [] wr).alloc _
        have hq := Blk.new wr 39 #[.int .i64 x1, .int .i64 x2]
        have hBa := Lib.hid (hBr.out.keep ka (by simp))
        have hka := Lib.hid (hkw.out.trans ka.nil)
        have hgn : Hid (wr.heap.size ≠ g) := Lib.hid (by have := hBr.out.lt; omega)
        replace hq := Lib.hid hq
        clear ka
        by_cases hf : x2 < x1
        · have hD2 := Lib.hid (del_skip hD.out hx (by unfold full; simp; omega))
          have hb := decide_eq_true hf
          replace hx := Lib.hid hx
          go_wp2_with fail
          refine HE.out.mono ?_
          rintro e wb ⟨rfl, kb⟩
          have hBb := Lib.hid (hBa.out.keep kb (by simp))
          have hkb := Lib.hid (hka.out.trans kb.nil)
          clear HE kb c1 c2
          go_wp2_with fail
          go_roundw
          case rel => exact ⟨i, j + 1, L, by omega, rfl, by go_num, hD2, hBb, hkb⟩
          case measure => simp [intOf]; omega
        · have hD2 := Lib.hid (del_take hD.out hx (by unfold full; simp; omega))
          have hb := decide_eq_false hf
          have hsp := Lib.hid (splice_flat L i (x1, x2) tail (by omega))
          replace hx := Lib.hid hx
          have hfit : Hid (i * 2 + 2 ≤ (flat L ++ tail).length) := Lib.hid (by rw [List.length_append, flat_len]; omega)
          have hin : (i : Int) < (n : Int) := by omega
          go_wp2_with fail
          refine HE.out.mono ?_
          rintro e wb ⟨rfl, kb⟩
          have hBb := Lib.hid (hBa.out.keep kb (by simp))
          have hkb := Lib.hid (hka.out.trans kb.nil)
          have hqb := (hq.out.keep kb (by simp)).cell
          clear HE kb c1 c2
          go_wp2_with (refine wpList_store_mid rfl 39 (.tmp 33) (.tmp 32) rfl g (i * 2) rfl 39 (flat L ++ tail) (cv (x1, x2)) rfl hBb.out (by kernel_rfl) hfit.out (cv_one _) ?_; intro wc m1 y1; replace y1 := Lib.hid y1)
          have hBc : Hid (Blk wc g 39 (flat (L.set i (x1, x2)) ++ tail).toArray) := Lib.hid (by have := m1.out; rw [hsp.out] at this; exact this)
          have hkc := Lib.hid (hkb.out.trans y1.out)
          go_roundw
          case rel => exact ⟨i + 1, j + 1, L.set i (x1, x2), by omega, by go_num, by go_num, hD2, hBc, hkc⟩
          case measure => simp [intOf]; omega
      · obtain rfl : j = n := by omega
        have hF : Hid (l.filter full = L.take i ∧ (l.filter full).length = i) := Lib.hid (by
          have h1 := hD.out.keep
          have h2 := hD.out.len
          rw [List.take_of_length_le (by omega)] at h1 h2
          exact ⟨h1, h2⟩)
        have hci : ¬ c = i := by omega
        have hci2 : (i : Int) ≤ (c : Int) := by omega
        have hic : (i : Int) ≤ (j : Int) := by omega
        have hjf : ¬ (j : Int) < (j : Int) := by omega
        have hfit : Hid (i * 2 + (j - i) * 2 ≤ (flat L ++ tail).length) := Lib.hid (by rw [List.length_append, flat_len]; omega)
        obtain ⟨wc, new, hrun, m1, m2, m2', m3⟩ := run_clear_two wr 0 g (i * 2) (j - i) (c - i) (flat L ++ tail) hBr.out hfit.out
        have hFF := hF.out.1
        have hFl := hF.out.2
        have hown2 : Hid (wc.ownsRow base 39 2 (.slice (some ⟨g, 0, none⟩) i c) i (flat (l.filter full))) := Lib.hid (by
          refine ⟨by rw [flat_len, hFl], .inr ⟨g, c, new.toArray, rfl, hbg, m1, by omega, hcm, ?_, ?_⟩⟩
          · rw [List.size_toArray, m2, List.length_append, flat_len]
            have := htl.out
            rw [List.length_append, flat_len] at this
            omega
          · show new.take (i * 2) = _
            rw [m2', List.take_append_of_le_length (by rw [flat_len]; omega), hFF]
            have : flat (L.take i ++ L.drop i) = flat (L.take i) ++ flat (L.drop i) := flat_append _ _
            rw [List.take_append_drop] at this
            rw [this, List.take_append_of_le_length (by rw [flat_len, List.length_take]; omega), List.take_of_length_le (by rw [flat_len, List.length_take]; omega)])
        have hkc := Lib.hid (hkw.out.trans m3)
        clear m1 m2 m2' m3
        go_wp2_with fail
        go_ret
        unfold DelPost
        rw [hFl]
        exact ⟨rfl, hown2.out, hkc.out⟩
end Go.Proofs.Ythmnolpamllabaa
