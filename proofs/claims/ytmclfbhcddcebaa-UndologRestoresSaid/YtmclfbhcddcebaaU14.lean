/- DeleteFunc: its contract. -/
import Derived.Test.YtmclfbhcddcebaaU13
namespace Go.Proofs.Ytmclfbhcddcebaa
open Go.RowKit Go.Shelf
set_option linter.unusedSimpArgs false
set_option linter.unusedVariables false

def DelPost (w : World) (base g n c : Nat) (l : List PQ) (e : Ending) (w' : World) : Prop :=
  e = .returned (.slice (some ⟨g, 0, none⟩) (l.filter full).length c) ∧ w'.ownsRow base 35 4 (.slice (some ⟨g, 0, none⟩) (l.filter full).length c) (l.filter full).length (rows (l.filter full)) ∧ Keeps [g] w w'
theorem filter_all {l : List PQ} (h : ∀ x ∈ l, full x = true) : l.filter full = l := List.filter_eq_self.2 h

set_option maxHeartbeats 6400000 in
set_option maxRecDepth 100000 in
theorem del_any (w : World) (X : List Nat) (base g n c : Nat) (l : List PQ) (hl : l.length = n) (hown : w.ownsRow base 35 4 (.slice (some ⟨g, 0, none⟩) n c) n (rows l)) (hP : PIs w X l) (hgX : g ∈ X) (hs : ∀ p ∈ l, Small p.2) (hn : n ≤ 1000000) :
    Calls Try.prog 34 #[.slice (some ⟨g, 0, none⟩) n c, .func (.func 35) #[] #[]] w (DelPost w base g n c l) := by
  obtain ⟨cur, hbg, hg, hnc, hcm, hcs, hct⟩ : ∃ cur : Array Value, base ≤ g ∧ Blk w g 35 cur ∧ n ≤ c ∧ c ≤ maxLen ∧ cur.size = c * 4 ∧ cur.toList.take (n * 4) = rows l := by
    rcases hown.2 with ⟨h, _⟩ | ⟨g', cap, cur, hv, h1, h2, h3, h4, h5, h6⟩
    · simp at h
    · simp only [Value.slice.injEq, Option.some.injEq, Addr.mk.injEq] at hv
      obtain ⟨⟨rfl, _, _⟩, _, rfl⟩ := hv
      exact ⟨cur, h1, h2, h3, h4, h5, h6⟩
  have hfl := rows_len l
  obtain ⟨tail, htail⟩ : ∃ tail, cur.toList = rows l ++ tail := ⟨cur.toList.drop (n * 4), by rw [← hct, List.take_append_drop]⟩
  have htl : (rows l ++ tail).length = c * 4 := by rw [← htail]; simpa using hcs
  have hB : Blk w g 35 (rows l ++ tail).toArray := by rw [← htail]; exact hg
  have hcell : ∀ (wz : World) (L : List PQ), L.length = n → Blk wz g 35 (rows L ++ tail).toArray → ∀ j p, L[j]? = some p → wz.cell? ⟨g, j * 4, none⟩ = some (.int .i64 p.1.t) ∧ wz.cell? ⟨g, j * 4 + 1, none⟩ = some (.int .i64 p.1.id) ∧ wz.cell? ⟨g, j * 4 + 2, none⟩ = some (.slice p.1.Ao p.1.no p.1.co) ∧ wz.cell? ⟨g, j * 4 + 3, none⟩ = some (.slice p.1.An p.1.nn p.1.cn) := by
    intro wz L hL hb j x hx
    obtain ⟨h1, h2, h3, h4⟩ := flatC_get (L.map (·.1)) j x.1 (by rw [List.getElem?_map, hx]; rfl)
    have hj : j < L.length := (List.getElem?_eq_some_iff.1 hx).1
    have hf := rows_len L
    unfold rows at hb hf
    refine ⟨?_, ?_, ?_, ?_⟩
    · rw [hb.cell, List.getElem?_toArray, List.getElem?_append_left (by omega)]; exact h1
    · rw [hb.cell, List.getElem?_toArray, List.getElem?_append_left (by omega)]; exact h2
    · rw [hb.cell, List.getElem?_toArray, List.getElem?_append_left (by omega)]; exact h3
    · rw [hb.cell, List.getElem?_toArray, List.getElem?_append_left (by omega)]; exact h4
  have HI := Lib.hid (idx50 w X g n c l hl hB.lt hP hs hn (hcell w l hl hB))
  have hP' : Hid (∀ wz, Keeps [g] w wz → PIs wz X l) := Lib.hid (fun wz hk => hP.keep hk (by intro y hy; left; rw [List.mem_singleton.1 hy]; exact hgX))
  replace hs := Lib.hid hs
  replace hcell := Lib.hid hcell
  replace htl := Lib.hid htl
  have hB0 := Lib.hid hB
  have hown0 := Lib.hid hown
  clear hB hown hg hct hcs htail hfl hP hgX
  by_cases hall : ∀ p ∈ l, full p = true
  · have hfil := Lib.hid (filter_all hall)
    replace hall := Lib.hid hall
    go_enter Try.func34, Try.ntmps34
    go_wp2_with fail
    refine HI.out.mono ?_
    rintro e w1 ⟨k1, hor⟩
    obtain rfl : e = .returned (.int .i64 (-1)) := by
      rcases hor with ⟨h, _⟩ | ⟨i, _, _, _, p, hp, hf⟩
      · exact h
      · have := hall.out p (List.mem_of_getElem? hp); rw [hf] at this; cases this
    clear hor
    replace k1 := Lib.hid k1
    clear HI
    go_wp2_with fail
    go_ret
    unfold DelPost
    rw [hfil.out, hl]
    exact ⟨rfl, own_keep0 hown0.out k1.out, k1.out.nil⟩
  · replace hall := Lib.hid hall
    go_enter Try.func34, Try.ntmps34
    go_wp2_with fail
    refine HI.out.mono ?_
    rintro e w1 ⟨k1, hor⟩
    obtain ⟨i0, rfl, hi0, htake, x0, hx0, hfx0⟩ : ∃ i : Nat, e = .returned (.int .i64 (i : Int)) ∧ i < n ∧ (∀ p ∈ l.take i, full p = true) ∧ ∃ p, l[i]? = some p ∧ full p = false := by
      rcases hor with ⟨_, h⟩ | h
      · exact absurd h hall.out
      · exact h
    clear hor
    have hD0 : Hid (DelAt l i0 (i0 + 1) l) := Lib.hid (by
      have e : (l.take (i0 + 1)).filter full = l.take i0 := by
        rw [List.take_add_one, hx0, List.filter_append, filter_all htake]
        simp [hfx0]
      exact ⟨e, by rw [e, List.length_take]; omega, rfl, rfl, by omega⟩)
    have hne1 : ((i0 : Int) == -1) = false := by simp
    have hw1 : IntKind.i64.wrap ((i0 : Int) + 1) = (i0 : Int) + 1 := IntWalk.i64_in _ (by omega)
    clear htake hx0 hfx0 hall
    have hB1 := Lib.hid (hB0.out.keep k1 (by simp))
    replace k1 := Lib.hid k1
    clear HI
    go_wp2_with fail
    clear hw1
    go_loopw [5, 6] (fun iv jv wr => ∃ (i j : Nat) (L : List PQ), j ≤ n ∧ iv = .int .i64 i ∧ jv = .int .i64 j ∧ Hid (DelAt l i j L) ∧ Hid (Blk wr g 35 (rows L ++ tail).toArray) ∧ Hid (Keeps [g] w wr)) (fun _ jv _ => n - (intOf jv).toNat)
    case atStart => exact ⟨i0, i0 + 1, l, by omega, rfl, by go_num, hD0, hB1, Lib.hid k1.out.nil⟩
    case round =>
      obtain ⟨i, j, L, hj, rfl, rfl, hD, hBr, hkw⟩ := hrel
      have hij := hD.out.lt
      have hLn : L.length = n := hD.out.all.trans hl
      by_cases hlt : j < n
      · obtain ⟨⟨⟨t, id, Ao, no, co, An, nn, cn⟩, cc⟩, hx⟩ : ∃ x, l[j]? = some x := ⟨l[j]'(by rw [hl]; exact hlt), List.getElem?_eq_getElem _⟩
        obtain ⟨c0, c1, c2, c3⟩ := hcell.out wr L hLn hBr.out j _ (del_get hD.out hx)
        have hjn : (j : Int) < (n : Int) := by omega
        dsimp only at c0 c1 c2 c3
        have ka : Keeps [] wr (wr.alloc (.cells #[.int .i64 t, .int .i64 id, .slice Ao no co, .slice An nn cn] 35)) := (Keeps.refl [] wr).alloc _
        have HE : Hid (Calls Try.prog 35 #[.agg #[.int .i64 t, .int .i64 id, .slice Ao no co, .slice An nn cn]] (wr.alloc (.cells #[.int .i64 t, .int .i64 id, .slice Ao no co, .slice An nn cn] 35)) fun e w' => e = .returned (.bool (!full (⟨t, id, Ao, no, co, An, nn, cn⟩, cc))) ∧ Keeps [] (wr.alloc (.cells #[.int .i64 t, .int .i64 id, .slice Ao no co, .slice An nn cn] 35)) w') :=
          Lib.hid (closure35 _ X (⟨t, id, Ao, no, co, An, nn, cn⟩, cc) ((hP'.out _ (hkw.out.trans ka.nil)) _ (List.mem_of_getElem? hx)) (hs.out _ (List.mem_of_getElem? hx)))
        have hq := Blk.new wr 35 #[.int .i64 t, .int .i64 id, .slice Ao no co, .slice An nn cn]
        have hBa := Lib.hid (hBr.out.keep ka (by simp))
        have hka := Lib.hid (hkw.out.trans ka.nil)
        have hgn : Hid (wr.heap.size ≠ g) := Lib.hid (by have := hBr.out.lt; omega)
        replace hq := Lib.hid hq
        clear ka
        cases hf : full (⟨t, id, Ao, no, co, An, nn, cn⟩, cc)
        · have hD2 := Lib.hid (del_skip hD.out hx hf)
          rw [hf] at HE
          replace hx := Lib.hid hx
          replace hf := Lib.hid hf
          go_wp2_with fail
          refine HE.out.mono ?_
          rintro e wb ⟨rfl, kb⟩
          have hBb := Lib.hid (hBa.out.keep kb (by simp))
          have hkb := Lib.hid (hka.out.trans kb.nil)
          clear HE kb c0 c1 c2 c3
          go_wp2_with fail
          go_roundw
          case rel => exact ⟨i, j + 1, L, by omega, rfl, by go_num, hD2, hBb, hkb⟩
          case measure => simp [intOf]; omega
        · have hD2 := Lib.hid (del_take hD.out hx hf)
          rw [hf] at HE
          have hsp := Lib.hid (splice_rows L i (⟨t, id, Ao, no, co, An, nn, cn⟩, cc) tail (by omega))
          replace hx := Lib.hid hx
          replace hf := Lib.hid hf
          have hfit : Hid (i * 4 + 4 ≤ (rows L ++ tail).length) := Lib.hid (by rw [List.length_append, rows_len]; omega)
          have hin : (i : Int) < (n : Int) := by omega
          go_wp2_with fail
          refine HE.out.mono ?_
          rintro e wb ⟨rfl, kb⟩
          have hBb := Lib.hid (hBa.out.keep kb (by simp))
          have hkb := Lib.hid (hka.out.trans kb.nil)
          have hqb := (hq.out.keep kb (by simp)).cell
          clear HE kb c0 c1 c2 c3
          go_wp2_with (refine wpList_store_mid rfl 35 (.tmp 33) (.tmp 32) rfl g (i * 4) rfl 35 (rows L ++ tail) (Raw.cells ⟨t, id, Ao, no, co, An, nn, cn⟩) rfl hBb.out (by kernel_rfl) hfit.out (cells_one _) ?_; intro wc m1 y1; replace y1 := Lib.hid y1)
          have hBc : Hid (Blk wc g 35 (rows (L.set i (⟨t, id, Ao, no, co, An, nn, cn⟩, cc)) ++ tail).toArray) := Lib.hid (by have := m1.out; rw [hsp.out] at this; exact this)
          have hkc := Lib.hid (hkb.out.trans y1.out)
          go_roundw
          case rel => exact ⟨i + 1, j + 1, L.set i (⟨t, id, Ao, no, co, An, nn, cn⟩, cc), by omega, by go_num, by go_num, hD2, hBc, hkc⟩
          case measure => simp [intOf]; omega
      · obtain rfl : j = n := by omega
        have hF : Hid (l.filter full = L.take i ∧ (l.filter full).length = i) := Lib.hid (by
          have h1 := hD.out.keep
          have h2 := hD.out.len
          rw [List.take_of_length_le (by omega)] at h1 h2
          exact ⟨h1, h2⟩)
        have hci : ¬ c = i := by omega
        have hci2 : (i : Int) ≤ (c : Int) := by omega
        have hic : (i : Int) ≤ (j : Int) := by omega
        have hjf : ¬ (j : Int) < (j : Int) := by omega
        have hfit : Hid (i * 4 + (j - i) * 4 ≤ (rows L ++ tail).length) := Lib.hid (by rw [List.length_append, rows_len]; omega)
        obtain ⟨wc, new, hrun, m1, m2, m2', m3⟩ := run_clear_four wr 0 g (i * 4) (j - i) (c - i) (rows L ++ tail) hBr.out hfit.out
        have hFF := hF.out.1
        have hFl := hF.out.2
        have hown2 : Hid (wc.ownsRow base 35 4 (.slice (some ⟨g, 0, none⟩) i c) i (rows (l.filter full))) := Lib.hid (by
          refine ⟨by rw [rows_len, hFl], .inr ⟨g, c, new.toArray, rfl, hbg, m1, by omega, hcm, ?_, ?_⟩⟩
          · rw [List.size_toArray, m2, List.length_append, rows_len]
            have := htl.out
            rw [List.length_append, rows_len] at this
            omega
          · show new.take (i * 4) = _
            rw [m2', List.take_append_of_le_length (by rw [rows_len]; omega), hFF]
            have : rows (L.take i ++ L.drop i) = rows (L.take i) ++ rows (L.drop i) := rows_append _ _
            rw [List.take_append_drop] at this
            rw [this, List.take_append_of_le_length (by rw [rows_len, List.length_take]; omega), List.take_of_length_le (by rw [rows_len, List.length_take]; omega)])
        have hkc := Lib.hid (hkw.out.trans m3)
        clear m1 m2 m2' m3
        go_wp2_with fail
        go_ret
        unfold DelPost
        rw [hFl]
        exact ⟨rfl, hown2.out, hkc.out⟩

set_option maxHeartbeats 1000000 in
theorem idx50_nil (w : World) (A : Option Addr) (c : Nat) (f : Value) : Calls Try.prog 50 #[.slice A 0 c, f] w fun e w' => e = .returned (.int .i64 (-1)) ∧ w = w' := by
  go_enter Try.func50, Try.ntmps50
  go_wp2_with fail
  go_loopw [8] (fun i wr => i = .int .i64 0 ∧ w = wr) (fun _ _ => 0)
  case atStart => exact ⟨rfl, rfl⟩
  case round =>
    obtain ⟨rfl, rfl⟩ := hrel
    go_wp2_with fail
    go_ret
    exact ⟨rfl, rfl⟩
theorem del_nil (w : World) (A : Option Addr) (c : Nat) (f : Value) : Calls Try.prog 34 #[.slice A 0 c, f] w fun e w' => e = .returned (.slice A 0 c) ∧ w = w' := by
  have HI := idx50_nil w A c f
  go_enter Try.func34, Try.ntmps34
  go_wp2_with fail
  refine HI.mono ?_
  rintro e w1 ⟨rfl, rfl⟩
  go_wp2_with fail
  go_ret
  exact ⟨rfl, rfl⟩
end Go.Proofs.Ytmclfbhcddcebaa
