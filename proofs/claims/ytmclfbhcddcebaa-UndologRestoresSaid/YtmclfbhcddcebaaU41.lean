/- Equal of the reference. -/
import Derived.Test.YtmclfbhcddcebaaU38
namespace Go.Proofs.Ytmclfbhcddcebaa
open Go.RowKit Go.Shelf
set_option linter.unusedSimpArgs false
set_option linter.unusedVariables false

theorem sameCl_step {a b : List Cl} {i : Nat} {x : Cl} (h : ∀ z ∈ a.take i, b.any (fun y => decide (z = y)) = true) (hx : a[i]? = some x) (hb : b.any (fun y => decide (x = y)) = true) : ∀ z ∈ a.take (i + 1), b.any (fun y => decide (z = y)) = true := fun z hz => by
  rw [take_snoc hx] at hz
  rcases List.mem_append.1 hz with hz | hz
  · exact h z hz
  · rw [List.mem_singleton.1 hz]; exact hb
theorem any_snoc {b : List Cl} {k : Nat} {x y : Cl} (hy : b[k]? = some y) : (b.take (k + 1)).any (fun z => decide (x = z)) = ((b.take k).any (fun z => decide (x = z)) || decide (x = y)) := by
  rw [take_snoc hy, List.any_append]
  simp

set_option maxRecDepth 100000 in
set_option maxHeartbeats 16000000 in
theorem requal_any (w : World) (X Y : List Nat) (A B : Option Addr) (a b : List Cl) (n c m d : Nat) (ha : ClsAt w X A a) (hb0 : ClsAt w Y B b) (hn : a.length = n) (hm : b.length = m) (hn6 : n ≤ 1000000) (hs : ∀ x ∈ a, x.row.length ≤ 1000000) :
    Calls Try.prog 27 #[.slice A n c, .slice B m d] w fun e w' => e = .returned (.bool (sameCl a b)) ∧ Keeps [] w w' := by
  by_cases hnm : n = m
  · subst hnm
    have haA := Lib.hid ha
    have hbB := Lib.hid hb0
    replace hn := Lib.hid hn
    replace hm := Lib.hid hm
    replace hs := Lib.hid hs
    have hlen : Hid (decide (a.length = b.length) = true) := Lib.hid (decide_eq_true (by rw [hn.out, hm.out]))
    clear ha hb0
    go_enter Try.func27, Try.ntmps27
    go_wp2_with fail
    go_loopw [5] (fun iv wr => ∃ i : Nat, i ≤ n ∧ iv = .int .i64 i ∧ Hid (∀ z ∈ a.take i, b.any (fun y => decide (z = y)) = true) ∧ Hid (Keeps [] w wr)) (fun iv _ => n - (intOf iv).toNat)
    case atStart => exact ⟨0, Nat.zero_le _, rfl, Lib.hid (by simp), Lib.hid (Keeps.refl _ _)⟩
    case round =>
      obtain ⟨i, hi, rfl, hall, hkw⟩ := hrel
      obtain ⟨wq, hwq⟩ : ∃ x, x = wr := ⟨_, rfl⟩
      subst hwq
      by_cases hlt : i < n
      · obtain ⟨⟨xt0, xi0, xr⟩, hx⟩ : ∃ x, a[i]? = some x := ⟨a[i]'(by rw [hn.out]; exact hlt), List.getElem?_eq_getElem _⟩
        obtain ⟨ga, oa, ⟨xt, xi, xA, xn, xc⟩, rfl, _, x0, x1, x2, hxr⟩ := haA.out i _ hx
        obtain ⟨ht, hid, hxn, hxrow⟩ := hxr
        dsimp only at ht hid hxn hxrow x0 x1 x2
        subst ht hid
        have hin : (i : Int) < (n : Int) := by omega
        have hxs : Hid (xr.length ≤ 1000000) := Lib.hid (hs.out _ (List.mem_of_getElem? hx))
        obtain ⟨xx, hxx⟩ : ∃ x : Cl, x = ⟨xt, xi, xr⟩ := ⟨_, rfl⟩
        rw [← hxx] at hx
        have hx0 : Hid (∀ w', Keeps [] w w' → w'.cell? ⟨ga, oa + i * 3, none⟩ = some (.int .i64 xt) ∧ w'.cell? ⟨ga, oa + i * 3 + 1, none⟩ = some (.int .i64 xi) ∧ w'.cell? ⟨ga, oa + i * 3 + 2, none⟩ = some (.slice xA xn xc)) := Lib.hid (fun w' k => ⟨k.cellEq x0 (by simp), k.cellEq x1 (by simp), k.cellEq x2 (by simp)⟩)
        have hxrow' := Lib.hid hxrow
        replace hx := Lib.hid hx
        replace hxx := Lib.hid hxx
        replace hxn := Lib.hid hxn
        clear x0 x1 x2 hxrow
        go_wp2_with fail
        go_loopw [6, 7] (fun fv kv wr => ∃ (k : Nat) (fd : Bool), k ≤ n ∧ kv = .int .i64 k ∧ fv = .bool fd ∧ Hid (fd = (b.take k).any (fun z => decide (xx = z))) ∧ Hid (Keeps [] w wr)) (fun _ kv _ => n - (intOf kv).toNat)
        case atStart => exact ⟨0, false, Nat.zero_le _, rfl, rfl, Lib.hid (by simp), hkw⟩
        case round =>
          obtain ⟨k, fd, hk, rfl, rfl, hfd, hkq⟩ := hrel
          obtain ⟨wo, hwo⟩ : ∃ x, x = wr := ⟨_, rfl⟩
          subst hwo
          by_cases hkm : k < n
          · obtain ⟨⟨yt0, yi0, yr⟩, hy⟩ : ∃ x, b[k]? = some x := ⟨b[k]'(by rw [hm.out]; exact hkm), List.getElem?_eq_getElem _⟩
            obtain ⟨gb, ob, ⟨yt, yi, yA, yn, yc⟩, rfl, _, y0, y1, y2, hyr⟩ := hbB.out k _ hy
            obtain ⟨ht, hid, hyn, hyrow⟩ := hyr
            dsimp only at ht hid hyn hyrow y0 y1 y2
            subst ht hid
            have hkn : (k : Int) < (n : Int) := by omega
            replace y0 := hkq.out.cellEq y0 (by simp)
            replace y1 := hkq.out.cellEq y1 (by simp)
            replace y2 := hkq.out.cellEq y2 (by simp)
            obtain ⟨x0, x1, x2⟩ := hx0.out _ hkq.out
            have hnext : Hid ((b.take (k + 1)).any (fun z => decide (xx = z)) = (fd || decide (xx = (⟨yt, yi, yr⟩ : Cl)))) := Lib.hid (by rw [any_snoc hy, hfd.out])
            have hsame : Hid (decide (xx = (⟨yt, yi, yr⟩ : Cl)) = (decide (xt = yt) && (decide (xi = yi) && decide (xr = yr)))) := Lib.hid (by
              rw [hxx.out, Bool.eq_iff_iff]
              simp only [Cl.mk.injEq, decide_eq_true_eq, Bool.and_eq_true])
            replace hy := Lib.hid hy
            cases fd
            · by_cases e1 : xt = yt
              · have b1 : (xt == yt) = true := by simpa using e1
                by_cases e2 : xi = yi
                · have b2 : (xi == yi) = true := by simpa using e2
                  have hfin : Hid ((b.take (k + 1)).any (fun z => decide (xx = z)) = decide (xr = yr)) := Lib.hid (by rw [hnext.out, hsame.out, decide_eq_true e1, decide_eq_true e2]; rfl)
                  obtain rfl := e1
                  obtain rfl := e2
                  have hS10 : Hid (∀ w', Keeps [] wo w' → (fun w' : World => (w'.cell? ⟨ga, oa + i * 3, none⟩ = some (.int .i64 xt) ∧ w'.cell? ⟨ga, oa + i * 3 + 1, none⟩ = some (.int .i64 xi) ∧ w'.cell? ⟨ga, oa + i * 3 + 2, none⟩ = some (.slice xA xn xc)) ∧ (w'.cell? ⟨gb, ob + k * 3, none⟩ = some (.int .i64 xt) ∧ w'.cell? ⟨gb, ob + k * 3 + 1, none⟩ = some (.int .i64 xi) ∧ w'.cell? ⟨gb, ob + k * 3 + 2, none⟩ = some (.slice yA yn yc))) w') := Lib.hid (fun w' h => ⟨⟨h.cellEq x0 (by simp), h.cellEq x1 (by simp), h.cellEq x2 (by simp)⟩, ⟨h.cellEq y0 (by simp), h.cellEq y1 (by simp), h.cellEq y2 (by simp)⟩⟩)
                  have HRow : Hid (∀ w', Keeps [] wo w' → Calls Try.prog 32 #[.slice xA xn xc, .slice yA yn yc] w' fun e w'' => e = .returned (.bool (decide (xr = yr))) ∧ Keeps [] w' w'') := Lib.hid (fun w' h => by
                    have kk := hkq.out.trans h
                    exact rows_any w' X Y xA yA xr yr xn xc yn yc hxn.out hyn (hxrow'.out.keep kk (by simp)) (hyrow.keep kk (by simp)) (by have := hxs.out; have := hxn.out; omega))
                  clear x0 x1 x2 y0 y1 y2 hyn hyrow
                  cases hrow : decide (xr = yr)
                  · have hb : Hid (decide (xr = yr) = false) := Lib.hid hrow
                    rw [hrow] at hfin
                    replace hrow := Lib.hid hrow
                    go_wp2_with fail
                    refine wp_region_I (S := (fun w' : World => (w'.cell? ⟨ga, oa + i * 3, none⟩ = some (.int .i64 xt) ∧ w'.cell? ⟨ga, oa + i * 3 + 1, none⟩ = some (.int .i64 xi) ∧ w'.cell? ⟨ga, oa + i * 3 + 2, none⟩ = some (.slice xA xn xc)) ∧ (w'.cell? ⟨gb, ob + k * 3, none⟩ = some (.int .i64 xt) ∧ w'.cell? ⟨gb, ob + k * 3 + 1, none⟩ = some (.int .i64 xi) ∧ w'.cell? ⟨gb, ob + k * 3 + 2, none⟩ = some (.slice yA yn yc)))) (n := 41) (by kernel_rfl) ?_
                    have HS := hS10.out wo.drew (Keeps.refl [] wo).drew
                    have kd : Hid (Keeps [] wo wo.drew) := Lib.hid (Keeps.refl [] wo).drew
                    generalize wo.drew = wc at *
                    refine wpAnyI_takeN (i := 0) (v := ?_) (by kernel_rfl) rfl (by kernel_rfl) (by kernel_rfl) (by kernel_rfl) (fun _ _ _ h => h) HS (Or.inl ⟨by rfl, ?_⟩) ?_
                    rotate_left
                    · (intro w hSw; obtain ⟨⟨x0, x1, x2⟩, ⟨y0, y1, y2⟩⟩ := hSw; go_simp; try with_reducible rfl)
                    try simp only [Act.put, List.getElem_toArray, List.getElem_cons_succ, List.getElem_cons_zero, List.setIfInBounds_toArray, List.set_cons_zero, List.set_cons_succ]
                    refine wpAnyI_takeN (i := 1) (v := ?_) (by kernel_rfl) rfl (by kernel_rfl) (by kernel_rfl) (by kernel_rfl) (fun _ _ _ h => h) HS (Or.inl ⟨by rfl, ?_⟩) ?_
                    rotate_left
                    · (intro w hSw; obtain ⟨⟨x0, x1, x2⟩, ⟨y0, y1, y2⟩⟩ := hSw; go_simp; try with_reducible rfl)
                    try simp only [Act.put, List.getElem_toArray, List.getElem_cons_succ, List.getElem_cons_zero, List.setIfInBounds_toArray, List.set_cons_zero, List.set_cons_succ]
                    refine wpAnyI_takeN (i := 2) (v := ?_) (by kernel_rfl) rfl (by kernel_rfl) (by kernel_rfl) (by kernel_rfl) (fun _ _ _ h => h) HS (Or.inl ⟨by rfl, ?_⟩) ?_
                    rotate_left
                    · (intro w hSw; obtain ⟨⟨x0, x1, x2⟩, ⟨y0, y1, y2⟩⟩ := hSw; go_simp; try with_reducible rfl)
                    try simp only [Act.put, List.getElem_toArray, List.getElem_cons_succ, List.getElem_cons_zero, List.setIfInBounds_toArray, List.set_cons_zero, List.set_cons_succ]
                    refine wpAnyI_takeN (i := 3) (v := ?_) (by kernel_rfl) rfl (by kernel_rfl) (by kernel_rfl) (by kernel_rfl) (fun _ _ _ h => h) HS (Or.inl ⟨by rfl, ?_⟩) ?_
                    rotate_left
                    · (intro w hSw; obtain ⟨⟨x0, x1, x2⟩, ⟨y0, y1, y2⟩⟩ := hSw; go_simp; try with_reducible rfl)
                    try simp only [Act.put, List.getElem_toArray, List.getElem_cons_succ, List.getElem_cons_zero, List.setIfInBounds_toArray, List.set_cons_zero, List.set_cons_succ]
                    refine wpAnyI_takeN (i := 4) (v := ?_) (by kernel_rfl) rfl (by kernel_rfl) (by kernel_rfl) (by kernel_rfl) (fun _ _ _ h => h) HS (Or.inl ⟨by rfl, ?_⟩) ?_
                    rotate_left
                    · (intro w hSw; obtain ⟨⟨x0, x1, x2⟩, ⟨y0, y1, y2⟩⟩ := hSw; go_simp; try with_reducible rfl)
                    try simp only [Act.put, List.getElem_toArray, List.getElem_cons_succ, List.getElem_cons_zero, List.setIfInBounds_toArray, List.set_cons_zero, List.set_cons_succ]
                    refine wpAnyI_takeN (i := 5) (v := ?_) (by kernel_rfl) rfl (by kernel_rfl) (by kernel_rfl) (by kernel_rfl) (fun _ _ _ h => h) HS (Or.inl ⟨by rfl, ?_⟩) ?_
                    rotate_left
                    · (intro w hSw; obtain ⟨⟨x0, x1, x2⟩, ⟨y0, y1, y2⟩⟩ := hSw; go_simp; try with_reducible rfl)
                    try simp only [Act.put, List.getElem_toArray, List.getElem_cons_succ, List.getElem_cons_zero, List.setIfInBounds_toArray, List.set_cons_zero, List.set_cons_succ]
                    refine wpAnyI_takeN (i := 6) (v := ?_) (by kernel_rfl) rfl (by kernel_rfl) (by kernel_rfl) (by kernel_rfl) (fun _ _ _ h => h) HS (Or.inl ⟨by rfl, ?_⟩) ?_
                    rotate_left
                    · (intro w hSw; obtain ⟨⟨x0, x1, x2⟩, ⟨y0, y1, y2⟩⟩ := hSw; go_simp; try with_reducible rfl)
                    try simp only [Act.put, List.getElem_toArray, List.getElem_cons_succ, List.getElem_cons_zero, List.setIfInBounds_toArray, List.set_cons_zero, List.set_cons_succ]
                    refine wpAnyI_takeN (i := 7) (v := ?_) (by kernel_rfl) rfl (by kernel_rfl) (by kernel_rfl) (by kernel_rfl) (fun _ _ _ h => h) HS (Or.inl ⟨by rfl, ?_⟩) ?_
                    rotate_left
                    · (intro w hSw; obtain ⟨⟨x0, x1, x2⟩, ⟨y0, y1, y2⟩⟩ := hSw; go_simp; try with_reducible rfl)
                    try simp only [Act.put, List.getElem_toArray, List.getElem_cons_succ, List.getElem_cons_zero, List.setIfInBounds_toArray, List.set_cons_zero, List.set_cons_succ]
                    refine wpAnyI_takeN (i := 8) (v := ?_) (by kernel_rfl) rfl (by kernel_rfl) (by kernel_rfl) (by kernel_rfl) (fun _ _ _ h => h) HS (Or.inl ⟨by rfl, ?_⟩) ?_
                    rotate_left
                    · (intro w hSw; obtain ⟨⟨x0, x1, x2⟩, ⟨y0, y1, y2⟩⟩ := hSw; go_simp; try with_reducible rfl)
                    try simp only [Act.put, List.getElem_toArray, List.getElem_cons_succ, List.getElem_cons_zero, List.setIfInBounds_toArray, List.set_cons_zero, List.set_cons_succ]
                    refine wpAnyI_takeN (i := 9) (v := ?_) (by kernel_rfl) rfl (by kernel_rfl) (by kernel_rfl) (by kernel_rfl) (fun _ _ _ h => h) HS (Or.inl ⟨by rfl, ?_⟩) ?_
                    rotate_left
                    · (intro w hSw; obtain ⟨⟨x0, x1, x2⟩, ⟨y0, y1, y2⟩⟩ := hSw; go_simp; try with_reducible rfl)
                    try simp only [Act.put, List.getElem_toArray, List.getElem_cons_succ, List.getElem_cons_zero, List.setIfInBounds_toArray, List.set_cons_zero, List.set_cons_succ]
                    refine wpAnyI_takeN (i := 10) (v := ?_) (by kernel_rfl) rfl (by kernel_rfl) (by kernel_rfl) (by kernel_rfl) (fun _ _ _ h => h) HS (Or.inl ⟨by rfl, ?_⟩) ?_
                    rotate_left
                    · (intro w hSw; obtain ⟨⟨x0, x1, x2⟩, ⟨y0, y1, y2⟩⟩ := hSw; go_simp; try with_reducible rfl)
                    try simp only [Act.put, List.getElem_toArray, List.getElem_cons_succ, List.getElem_cons_zero, List.setIfInBounds_toArray, List.set_cons_zero, List.set_cons_succ]
                    refine wpAnyI_takeN (i := 11) (v := ?_) (by kernel_rfl) rfl (by kernel_rfl) (by kernel_rfl) (by kernel_rfl) (fun _ _ _ h => h) HS (Or.inl ⟨by rfl, ?_⟩) ?_
                    rotate_left
                    · (intro w hSw; obtain ⟨⟨x0, x1, x2⟩, ⟨y0, y1, y2⟩⟩ := hSw; go_simp; try with_reducible rfl)
                    try simp only [Act.put, List.getElem_toArray, List.getElem_cons_succ, List.getElem_cons_zero, List.setIfInBounds_toArray, List.set_cons_zero, List.set_cons_succ]
                    refine wpAnyI_takeN (i := 12) (v := ?_) (by kernel_rfl) rfl (by kernel_rfl) (by kernel_rfl) (by kernel_rfl) (fun _ _ _ h => h) HS (Or.inl ⟨by rfl, ?_⟩) ?_
                    rotate_left
                    · (intro w hSw; obtain ⟨⟨x0, x1, x2⟩, ⟨y0, y1, y2⟩⟩ := hSw; go_simp; try with_reducible rfl)
                    try simp only [Act.put, List.getElem_toArray, List.getElem_cons_succ, List.getElem_cons_zero, List.setIfInBounds_toArray, List.set_cons_zero, List.set_cons_succ]
                    refine wpAnyI_takeN (i := 13) (v := ?_) (by kernel_rfl) rfl (by kernel_rfl) (by kernel_rfl) (by kernel_rfl) (fun _ _ _ h => h) HS (Or.inl ⟨by rfl, ?_⟩) ?_
                    rotate_left
                    · (intro w hSw; obtain ⟨⟨x0, x1, x2⟩, ⟨y0, y1, y2⟩⟩ := hSw; go_simp; try with_reducible rfl)
                    try simp only [Act.put, List.getElem_toArray, List.getElem_cons_succ, List.getElem_cons_zero, List.setIfInBounds_toArray, List.set_cons_zero, List.set_cons_succ]
                    refine wpAnyI_takeN (i := 14) (v := ?_) (by kernel_rfl) rfl (by kernel_rfl) (by kernel_rfl) (by kernel_rfl) (fun _ _ _ h => h) HS (Or.inl ⟨by rfl, ?_⟩) ?_
                    rotate_left
                    · (intro w hSw; obtain ⟨⟨x0, x1, x2⟩, ⟨y0, y1, y2⟩⟩ := hSw; go_simp; try with_reducible rfl)
                    try simp only [Act.put, List.getElem_toArray, List.getElem_cons_succ, List.getElem_cons_zero, List.setIfInBounds_toArray, List.set_cons_zero, List.set_cons_succ]
                    refine wpAnyI_takeN (i := 15) (v := ?_) (by kernel_rfl) rfl (by kernel_rfl) (by kernel_rfl) (by kernel_rfl) (fun _ _ _ h => h) HS (Or.inl ⟨by rfl, ?_⟩) ?_
                    rotate_left
                    · (intro w hSw; obtain ⟨⟨x0, x1, x2⟩, ⟨y0, y1, y2⟩⟩ := hSw; go_simp; try with_reducible rfl)
                    try simp only [Act.put, List.getElem_toArray, List.getElem_cons_succ, List.getElem_cons_zero, List.setIfInBounds_toArray, List.set_cons_zero, List.set_cons_succ]
                    refine wpAnyI_takeN (i := 16) (v := ?_) (by kernel_rfl) rfl (by kernel_rfl) (by kernel_rfl) (by kernel_rfl) (fun _ _ _ h => h) HS (Or.inl ⟨by rfl, ?_⟩) ?_
                    rotate_left
                    · (intro w hSw; obtain ⟨⟨x0, x1, x2⟩, ⟨y0, y1, y2⟩⟩ := hSw; go_simp; try with_reducible rfl)
                    try simp only [Act.put, List.getElem_toArray, List.getElem_cons_succ, List.getElem_cons_zero, List.setIfInBounds_toArray, List.set_cons_zero, List.set_cons_succ]
                    refine wpAnyI_takeN (i := 17) (v := ?_) (by kernel_rfl) rfl (by kernel_rfl) (by kernel_rfl) (by kernel_rfl) (fun _ _ _ h => h) HS (Or.inl ⟨by rfl, ?_⟩) ?_
                    rotate_left
                    · (intro w hSw; obtain ⟨⟨x0, x1, x2⟩, ⟨y0, y1, y2⟩⟩ := hSw; go_simp; try with_reducible rfl)
                    try simp only [Act.put, List.getElem_toArray, List.getElem_cons_succ, List.getElem_cons_zero, List.setIfInBounds_toArray, List.set_cons_zero, List.set_cons_succ]
                    refine wpAnyI_takeN (i := 18) (v := ?_) (by kernel_rfl) rfl (by kernel_rfl) (by kernel_rfl) (by kernel_rfl) (fun _ _ _ h => h) HS (Or.inl ⟨by rfl, ?_⟩) ?_
                    rotate_left
                    · (intro w hSw; obtain ⟨⟨x0, x1, x2⟩, ⟨y0, y1, y2⟩⟩ := hSw; go_simp; try with_reducible rfl)
                    try simp only [Act.put, List.getElem_toArray, List.getElem_cons_succ, List.getElem_cons_zero, List.setIfInBounds_toArray, List.set_cons_zero, List.set_cons_succ]
                    refine wpAnyI_takeN (i := 19) (v := ?_) (by kernel_rfl) rfl (by kernel_rfl) (by kernel_rfl) (by kernel_rfl) (fun _ _ _ h => h) HS (Or.inl ⟨by rfl, ?_⟩) ?_
                    rotate_left
                    · (intro w hSw; obtain ⟨⟨x0, x1, x2⟩, ⟨y0, y1, y2⟩⟩ := hSw; go_simp; try with_reducible rfl)
                    try simp only [Act.put, List.getElem_toArray, List.getElem_cons_succ, List.getElem_cons_zero, List.setIfInBounds_toArray, List.set_cons_zero, List.set_cons_succ]
                    refine wpAnyI_takeN (i := 20) (v := ?_) (by kernel_rfl) rfl (by kernel_rfl) (by kernel_rfl) (by kernel_rfl) (fun _ _ _ h => h) HS (Or.inl ⟨by rfl, ?_⟩) ?_
                    rotate_left
                    · (intro w hSw; obtain ⟨⟨x0, x1, x2⟩, ⟨y0, y1, y2⟩⟩ := hSw; go_simp; try with_reducible rfl)
                    try simp only [Act.put, List.getElem_toArray, List.getElem_cons_succ, List.getElem_cons_zero, List.setIfInBounds_toArray, List.set_cons_zero, List.set_cons_succ]
                    refine wpAnyI_takeN (i := 21) (v := ?_) (by kernel_rfl) rfl (by kernel_rfl) (by kernel_rfl) (by kernel_rfl) (fun _ _ _ h => h) HS (Or.inl ⟨by rfl, ?_⟩) ?_
                    rotate_left
                    · (intro w hSw; obtain ⟨⟨x0, x1, x2⟩, ⟨y0, y1, y2⟩⟩ := hSw; go_simp; try with_reducible rfl)
                    try simp only [Act.put, List.getElem_toArray, List.getElem_cons_succ, List.getElem_cons_zero, List.setIfInBounds_toArray, List.set_cons_zero, List.set_cons_succ]
                    refine wpAnyI_takeN (i := 22) (v := ?_) (by kernel_rfl) rfl (by kernel_rfl) (by kernel_rfl) (by kernel_rfl) (fun _ _ _ h => h) HS (Or.inl ⟨by rfl, ?_⟩) ?_
                    rotate_left
                    · (intro w hSw; obtain ⟨⟨x0, x1, x2⟩, ⟨y0, y1, y2⟩⟩ := hSw; go_simp; try with_reducible rfl)
                    try simp only [Act.put, List.getElem_toArray, List.getElem_cons_succ, List.getElem_cons_zero, List.setIfInBounds_toArray, List.set_cons_zero, List.set_cons_succ]
                    refine wpAnyI_takeN (i := 23) (v := ?_) (by kernel_rfl) rfl (by kernel_rfl) (by kernel_rfl) (by kernel_rfl) (fun _ _ _ h => h) HS (Or.inl ⟨by rfl, ?_⟩) ?_
                    rotate_left
                    · (intro w hSw; obtain ⟨⟨x0, x1, x2⟩, ⟨y0, y1, y2⟩⟩ := hSw; go_simp; try with_reducible rfl)
                    try simp only [Act.put, List.getElem_toArray, List.getElem_cons_succ, List.getElem_cons_zero, List.setIfInBounds_toArray, List.set_cons_zero, List.set_cons_succ]
                    refine wpAnyI_takeN (i := 24) (v := ?_) (by kernel_rfl) rfl (by kernel_rfl) (by kernel_rfl) (by kernel_rfl) (fun _ _ _ h => h) HS (Or.inl ⟨by rfl, ?_⟩) ?_
                    rotate_left
                    · (intro w hSw; obtain ⟨⟨x0, x1, x2⟩, ⟨y0, y1, y2⟩⟩ := hSw; go_simp; try with_reducible rfl)
                    try simp only [Act.put, List.getElem_toArray, List.getElem_cons_succ, List.getElem_cons_zero, List.setIfInBounds_toArray, List.set_cons_zero, List.set_cons_succ]
                    refine wpAnyI_takeN (i := 25) (v := ?_) (by kernel_rfl) rfl (by kernel_rfl) (by kernel_rfl) (by kernel_rfl) (fun _ _ _ h => h) HS (Or.inl ⟨by rfl, ?_⟩) ?_
                    rotate_left
                    · (intro w hSw; obtain ⟨⟨x0, x1, x2⟩, ⟨y0, y1, y2⟩⟩ := hSw; go_simp; try with_reducible rfl)
                    try simp only [Act.put, List.getElem_toArray, List.getElem_cons_succ, List.getElem_cons_zero, List.setIfInBounds_toArray, List.set_cons_zero, List.set_cons_succ]
                    refine wpAnyI_takeN (i := 26) (v := ?_) (by kernel_rfl) rfl (by kernel_rfl) (by kernel_rfl) (by kernel_rfl) (fun _ _ _ h => h) HS (Or.inl ⟨by rfl, ?_⟩) ?_
                    rotate_left
                    · (intro w hSw; obtain ⟨⟨x0, x1, x2⟩, ⟨y0, y1, y2⟩⟩ := hSw; go_simp; try with_reducible rfl)
                    try simp only [Act.put, List.getElem_toArray, List.getElem_cons_succ, List.getElem_cons_zero, List.setIfInBounds_toArray, List.set_cons_zero, List.set_cons_succ]
                    refine wpAnyI_takeN (i := 27) (v := ?_) (by kernel_rfl) rfl (by kernel_rfl) (by kernel_rfl) (by kernel_rfl) (fun _ _ _ h => h) HS (Or.inl ⟨by rfl, ?_⟩) ?_
                    rotate_left
                    · (intro w hSw; obtain ⟨⟨x0, x1, x2⟩, ⟨y0, y1, y2⟩⟩ := hSw; go_simp; try with_reducible rfl)
                    try simp only [Act.put, List.getElem_toArray, List.getElem_cons_succ, List.getElem_cons_zero, List.setIfInBounds_toArray, List.set_cons_zero, List.set_cons_succ]
                    refine wpAnyI_takeN (i := 28) (v := ?_) (by kernel_rfl) rfl (by kernel_rfl) (by kernel_rfl) (by kernel_rfl) (fun _ _ _ h => h) HS (Or.inl ⟨by rfl, ?_⟩) ?_
                    rotate_left
                    · (intro w hSw; obtain ⟨⟨x0, x1, x2⟩, ⟨y0, y1, y2⟩⟩ := hSw; go_simp; try with_reducible rfl)
                    try simp only [Act.put, List.getElem_toArray, List.getElem_cons_succ, List.getElem_cons_zero, List.setIfInBounds_toArray, List.set_cons_zero, List.set_cons_succ]
                    refine wpAnyI_takeN (i := 29) (v := ?_) (by kernel_rfl) rfl (by kernel_rfl) (by kernel_rfl) (by kernel_rfl) (fun _ _ _ h => h) HS (Or.inl ⟨by rfl, ?_⟩) ?_
                    rotate_left
                    · (intro w hSw; obtain ⟨⟨x0, x1, x2⟩, ⟨y0, y1, y2⟩⟩ := hSw; go_simp; try with_reducible rfl)
                    try simp only [Act.put, List.getElem_toArray, List.getElem_cons_succ, List.getElem_cons_zero, List.setIfInBounds_toArray, List.set_cons_zero, List.set_cons_succ]
                    refine wpAnyI_takeN (i := 30) (v := ?_) (by kernel_rfl) rfl (by kernel_rfl) (by kernel_rfl) (by kernel_rfl) (fun _ _ _ h => h) HS (Or.inl ⟨by rfl, ?_⟩) ?_
                    rotate_left
                    · (intro w hSw; obtain ⟨⟨x0, x1, x2⟩, ⟨y0, y1, y2⟩⟩ := hSw; go_simp; try with_reducible rfl)
                    try simp only [Act.put, List.getElem_toArray, List.getElem_cons_succ, List.getElem_cons_zero, List.setIfInBounds_toArray, List.set_cons_zero, List.set_cons_succ]
                    refine wpAnyI_takeN (i := 31) (v := ?_) (by kernel_rfl) rfl (by kernel_rfl) (by kernel_rfl) (by kernel_rfl) (fun _ _ _ h => h) HS (Or.inl ⟨by rfl, ?_⟩) ?_
                    rotate_left
                    · (intro w hSw; obtain ⟨⟨x0, x1, x2⟩, ⟨y0, y1, y2⟩⟩ := hSw; go_simp; try with_reducible rfl)
                    try simp only [Act.put, List.getElem_toArray, List.getElem_cons_succ, List.getElem_cons_zero, List.setIfInBounds_toArray, List.set_cons_zero, List.set_cons_succ]
                    refine wpAnyI_takeN (i := 32) (v := ?_) (by kernel_rfl) rfl (by kernel_rfl) (by kernel_rfl) (by kernel_rfl) (fun _ _ _ h => h) HS (Or.inl ⟨by rfl, ?_⟩) ?_
                    rotate_left
                    · (intro w hSw; obtain ⟨⟨x0, x1, x2⟩, ⟨y0, y1, y2⟩⟩ := hSw; go_simp; try with_reducible rfl)
                    try simp only [Act.put, List.getElem_toArray, List.getElem_cons_succ, List.getElem_cons_zero, List.setIfInBounds_toArray, List.set_cons_zero, List.set_cons_succ]
                    refine wpAnyI_takeN (i := 33) (v := ?_) (by kernel_rfl) rfl (by kernel_rfl) (by kernel_rfl) (by kernel_rfl) (fun _ _ _ h => h) HS (Or.inl ⟨by rfl, ?_⟩) ?_
                    rotate_left
                    · (intro w hSw; obtain ⟨⟨x0, x1, x2⟩, ⟨y0, y1, y2⟩⟩ := hSw; go_simp; try with_reducible rfl)
                    try simp only [Act.put, List.getElem_toArray, List.getElem_cons_succ, List.getElem_cons_zero, List.setIfInBounds_toArray, List.set_cons_zero, List.set_cons_succ]
                    refine wpAnyI_takeN (i := 34) (v := ?_) (by kernel_rfl) rfl (by kernel_rfl) (by kernel_rfl) (by kernel_rfl) (fun _ _ _ h => h) HS (Or.inl ⟨by rfl, ?_⟩) ?_
                    rotate_left
                    · (intro w hSw; obtain ⟨⟨x0, x1, x2⟩, ⟨y0, y1, y2⟩⟩ := hSw; go_simp; try with_reducible rfl)
                    try simp only [Act.put, List.getElem_toArray, List.getElem_cons_succ, List.getElem_cons_zero, List.setIfInBounds_toArray, List.set_cons_zero, List.set_cons_succ]
                    refine wpAnyI_takeN (i := 35) (v := ?_) (by kernel_rfl) rfl (by kernel_rfl) (by kernel_rfl) (by kernel_rfl) (fun _ _ _ h => h) HS (Or.inl ⟨by rfl, ?_⟩) ?_
                    rotate_left
                    · (intro w hSw; obtain ⟨⟨x0, x1, x2⟩, ⟨y0, y1, y2⟩⟩ := hSw; go_simp; try with_reducible rfl)
                    try simp only [Act.put, List.getElem_toArray, List.getElem_cons_succ, List.getElem_cons_zero, List.setIfInBounds_toArray, List.set_cons_zero, List.set_cons_succ]
                    refine wpAnyI_takeN (i := 36) (v := ?_) (by kernel_rfl) rfl (by kernel_rfl) (by kernel_rfl) (by kernel_rfl) (fun _ _ _ h => h) HS (Or.inl ⟨by rfl, ?_⟩) ?_
                    rotate_left
                    · (intro w hSw; obtain ⟨⟨x0, x1, x2⟩, ⟨y0, y1, y2⟩⟩ := hSw; go_simp; try with_reducible rfl)
                    try simp only [Act.put, List.getElem_toArray, List.getElem_cons_succ, List.getElem_cons_zero, List.setIfInBounds_toArray, List.set_cons_zero, List.set_cons_succ]
                    refine wpAnyI_one (i := 37) rfl (by kernel_rfl) (fun K hK => ?_)
                    dsimp only [List.getElem_toArray, List.getElem_cons_succ, List.getElem_cons_zero]
                    go_simp
                    refine (HRow.out _ kd.out).mono ?_
                    rintro e wn ⟨rfl, kn⟩
                    have HS := hS10.out _ (kd.out.trans kn)
                    have kn' : Hid (Keeps [] wo wn) := Lib.hid (kd.out.trans kn)
                    rw [hb.out]
                    refine hK _ _ (Or.inr HS) ?_
                    clear hK K kn kd
                    try simp only [Act.put, List.getElem_toArray, List.getElem_cons_succ, List.getElem_cons_zero, List.setIfInBounds_toArray, List.set_cons_zero, List.set_cons_succ]
                    refine wpAnyI_takeN (i := 38) (v := ?_) (by kernel_rfl) rfl (by kernel_rfl) (by kernel_rfl) (by kernel_rfl) (fun _ _ _ h => h) HS (Or.inl ⟨by rfl, ?_⟩) ?_
                    rotate_left
                    · (intro w hSw; obtain ⟨⟨x0, x1, x2⟩, ⟨y0, y1, y2⟩⟩ := hSw; go_simp; try with_reducible rfl)
                    try simp only [Act.put, List.getElem_toArray, List.getElem_cons_succ, List.getElem_cons_zero, List.setIfInBounds_toArray, List.set_cons_zero, List.set_cons_succ]
                    refine wpAnyI_takeN (i := 39) (v := ?_) (by kernel_rfl) rfl (by kernel_rfl) (by kernel_rfl) (by kernel_rfl) (fun _ _ _ h => h) HS (Or.inl ⟨by rfl, ?_⟩) ?_
                    rotate_left
                    · (intro w hSw; obtain ⟨⟨x0, x1, x2⟩, ⟨y0, y1, y2⟩⟩ := hSw; go_simp; try with_reducible rfl)
                    try simp only [Act.put, List.getElem_toArray, List.getElem_cons_succ, List.getElem_cons_zero, List.setIfInBounds_toArray, List.set_cons_zero, List.set_cons_succ]
                    refine wpAnyI_takeN (i := 40) (v := ?_) (by kernel_rfl) rfl (by kernel_rfl) (by kernel_rfl) (by kernel_rfl) (fun _ _ _ h => h) HS (Or.inl ⟨by rfl, ?_⟩) ?_
                    rotate_left
                    · (intro w hSw; obtain ⟨⟨x0, x1, x2⟩, ⟨y0, y1, y2⟩⟩ := hSw; go_simp; try with_reducible rfl)
                    try simp only [Act.put, List.getElem_toArray, List.getElem_cons_succ, List.getElem_cons_zero, List.setIfInBounds_toArray, List.set_cons_zero, List.set_cons_succ]
                    refine wpAnyI_done (by kernel_rfl) ?_ _
                    go_wp2_with fail
                    go_roundw
                    case rel => exact ⟨k + 1, false, by omega, by go_num, rfl, Lib.hid hfin.out.symm, Lib.hid (hkq.out.trans kn'.out)⟩
                    case measure => simp [intOf]; omega
                  · have hb : Hid (decide (xr = yr) = true) := Lib.hid hrow
                    rw [hrow] at hfin
                    replace hrow := Lib.hid hrow
                    go_wp2_with fail
                    refine wp_region_I (S := (fun w' : World => (w'.cell? ⟨ga, oa + i * 3, none⟩ = some (.int .i64 xt) ∧ w'.cell? ⟨ga, oa + i * 3 + 1, none⟩ = some (.int .i64 xi) ∧ w'.cell? ⟨ga, oa + i * 3 + 2, none⟩ = some (.slice xA xn xc)) ∧ (w'.cell? ⟨gb, ob + k * 3, none⟩ = some (.int .i64 xt) ∧ w'.cell? ⟨gb, ob + k * 3 + 1, none⟩ = some (.int .i64 xi) ∧ w'.cell? ⟨gb, ob + k * 3 + 2, none⟩ = some (.slice yA yn yc)))) (n := 41) (by kernel_rfl) ?_
                    have HS := hS10.out wo.drew (Keeps.refl [] wo).drew
                    have kd : Hid (Keeps [] wo wo.drew) := Lib.hid (Keeps.refl [] wo).drew
                    generalize wo.drew = wc at *
                    refine wpAnyI_takeN (i := 0) (v := ?_) (by kernel_rfl) rfl (by kernel_rfl) (by kernel_rfl) (by kernel_rfl) (fun _ _ _ h => h) HS (Or.inl ⟨by rfl, ?_⟩) ?_
                    rotate_left
                    · (intro w hSw; obtain ⟨⟨x0, x1, x2⟩, ⟨y0, y1, y2⟩⟩ := hSw; go_simp; try with_reducible rfl)
                    try simp only [Act.put, List.getElem_toArray, List.getElem_cons_succ, List.getElem_cons_zero, List.setIfInBounds_toArray, List.set_cons_zero, List.set_cons_succ]
                    refine wpAnyI_takeN (i := 1) (v := ?_) (by kernel_rfl) rfl (by kernel_rfl) (by kernel_rfl) (by kernel_rfl) (fun _ _ _ h => h) HS (Or.inl ⟨by rfl, ?_⟩) ?_
                    rotate_left
                    · (intro w hSw; obtain ⟨⟨x0, x1, x2⟩, ⟨y0, y1, y2⟩⟩ := hSw; go_simp; try with_reducible rfl)
                    try simp only [Act.put, List.getElem_toArray, List.getElem_cons_succ, List.getElem_cons_zero, List.setIfInBounds_toArray, List.set_cons_zero, List.set_cons_succ]
                    refine wpAnyI_takeN (i := 2) (v := ?_) (by kernel_rfl) rfl (by kernel_rfl) (by kernel_rfl) (by kernel_rfl) (fun _ _ _ h => h) HS (Or.inl ⟨by rfl, ?_⟩) ?_
                    rotate_left
                    · (intro w hSw; obtain ⟨⟨x0, x1, x2⟩, ⟨y0, y1, y2⟩⟩ := hSw; go_simp; try with_reducible rfl)
                    try simp only [Act.put, List.getElem_toArray, List.getElem_cons_succ, List.getElem_cons_zero, List.setIfInBounds_toArray, List.set_cons_zero, List.set_cons_succ]
                    refine wpAnyI_takeN (i := 3) (v := ?_) (by kernel_rfl) rfl (by kernel_rfl) (by kernel_rfl) (by kernel_rfl) (fun _ _ _ h => h) HS (Or.inl ⟨by rfl, ?_⟩) ?_
                    rotate_left
                    · (intro w hSw; obtain ⟨⟨x0, x1, x2⟩, ⟨y0, y1, y2⟩⟩ := hSw; go_simp; try with_reducible rfl)
                    try simp only [Act.put, List.getElem_toArray, List.getElem_cons_succ, List.getElem_cons_zero, List.setIfInBounds_toArray, List.set_cons_zero, List.set_cons_succ]
                    refine wpAnyI_takeN (i := 4) (v := ?_) (by kernel_rfl) rfl (by kernel_rfl) (by kernel_rfl) (by kernel_rfl) (fun _ _ _ h => h) HS (Or.inl ⟨by rfl, ?_⟩) ?_
                    rotate_left
                    · (intro w hSw; obtain ⟨⟨x0, x1, x2⟩, ⟨y0, y1, y2⟩⟩ := hSw; go_simp; try with_reducible rfl)
                    try simp only [Act.put, List.getElem_toArray, List.getElem_cons_succ, List.getElem_cons_zero, List.setIfInBounds_toArray, List.set_cons_zero, List.set_cons_succ]
                    refine wpAnyI_takeN (i := 5) (v := ?_) (by kernel_rfl) rfl (by kernel_rfl) (by kernel_rfl) (by kernel_rfl) (fun _ _ _ h => h) HS (Or.inl ⟨by rfl, ?_⟩) ?_
                    rotate_left
                    · (intro w hSw; obtain ⟨⟨x0, x1, x2⟩, ⟨y0, y1, y2⟩⟩ := hSw; go_simp; try with_reducible rfl)
                    try simp only [Act.put, List.getElem_toArray, List.getElem_cons_succ, List.getElem_cons_zero, List.setIfInBounds_toArray, List.set_cons_zero, List.set_cons_succ]
                    refine wpAnyI_takeN (i := 6) (v := ?_) (by kernel_rfl) rfl (by kernel_rfl) (by kernel_rfl) (by kernel_rfl) (fun _ _ _ h => h) HS (Or.inl ⟨by rfl, ?_⟩) ?_
                    rotate_left
                    · (intro w hSw; obtain ⟨⟨x0, x1, x2⟩, ⟨y0, y1, y2⟩⟩ := hSw; go_simp; try with_reducible rfl)
                    try simp only [Act.put, List.getElem_toArray, List.getElem_cons_succ, List.getElem_cons_zero, List.setIfInBounds_toArray, List.set_cons_zero, List.set_cons_succ]
                    refine wpAnyI_takeN (i := 7) (v := ?_) (by kernel_rfl) rfl (by kernel_rfl) (by kernel_rfl) (by kernel_rfl) (fun _ _ _ h => h) HS (Or.inl ⟨by rfl, ?_⟩) ?_
                    rotate_left
                    · (intro w hSw; obtain ⟨⟨x0, x1, x2⟩, ⟨y0, y1, y2⟩⟩ := hSw; go_simp; try with_reducible rfl)
                    try simp only [Act.put, List.getElem_toArray, List.getElem_cons_succ, List.getElem_cons_zero, List.setIfInBounds_toArray, List.set_cons_zero, List.set_cons_succ]
                    refine wpAnyI_takeN (i := 8) (v := ?_) (by kernel_rfl) rfl (by kernel_rfl) (by kernel_rfl) (by kernel_rfl) (fun _ _ _ h => h) HS (Or.inl ⟨by rfl, ?_⟩) ?_
                    rotate_left
                    · (intro w hSw; obtain ⟨⟨x0, x1, x2⟩, ⟨y0, y1, y2⟩⟩ := hSw; go_simp; try with_reducible rfl)
                    try simp only [Act.put, List.getElem_toArray, List.getElem_cons_succ, List.getElem_cons_zero, List.setIfInBounds_toArray, List.set_cons_zero, List.set_cons_succ]
                    refine wpAnyI_takeN (i := 9) (v := ?_) (by kernel_rfl) rfl (by kernel_rfl) (by kernel_rfl) (by kernel_rfl) (fun _ _ _ h => h) HS (Or.inl ⟨by rfl, ?_⟩) ?_
                    rotate_left
                    · (intro w hSw; obtain ⟨⟨x0, x1, x2⟩, ⟨y0, y1, y2⟩⟩ := hSw; go_simp; try with_reducible rfl)
                    try simp only [Act.put, List.getElem_toArray, List.getElem_cons_succ, List.getElem_cons_zero, List.setIfInBounds_toArray, List.set_cons_zero, List.set_cons_succ]
                    refine wpAnyI_takeN (i := 10) (v := ?_) (by kernel_rfl) rfl (by kernel_rfl) (by kernel_rfl) (by kernel_rfl) (fun _ _ _ h => h) HS (Or.inl ⟨by rfl, ?_⟩) ?_
                    rotate_left
                    · (intro w hSw; obtain ⟨⟨x0, x1, x2⟩, ⟨y0, y1, y2⟩⟩ := hSw; go_simp; try with_reducible rfl)
                    try simp only [Act.put, List.getElem_toArray, List.getElem_cons_succ, List.getElem_cons_zero, List.setIfInBounds_toArray, List.set_cons_zero, List.set_cons_succ]
                    refine wpAnyI_takeN (i := 11) (v := ?_) (by kernel_rfl) rfl (by kernel_rfl) (by kernel_rfl) (by kernel_rfl) (fun _ _ _ h => h) HS (Or.inl ⟨by rfl, ?_⟩) ?_
                    rotate_left
                    · (intro w hSw; obtain ⟨⟨x0, x1, x2⟩, ⟨y0, y1, y2⟩⟩ := hSw; go_simp; try with_reducible rfl)
                    try simp only [Act.put, List.getElem_toArray, List.getElem_cons_succ, List.getElem_cons_zero, List.setIfInBounds_toArray, List.set_cons_zero, List.set_cons_succ]
                    refine wpAnyI_takeN (i := 12) (v := ?_) (by kernel_rfl) rfl (by kernel_rfl) (by kernel_rfl) (by kernel_rfl) (fun _ _ _ h => h) HS (Or.inl ⟨by rfl, ?_⟩) ?_
                    rotate_left
                    · (intro w hSw; obtain ⟨⟨x0, x1, x2⟩, ⟨y0, y1, y2⟩⟩ := hSw; go_simp; try with_reducible rfl)
                    try simp only [Act.put, List.getElem_toArray, List.getElem_cons_succ, List.getElem_cons_zero, List.setIfInBounds_toArray, List.set_cons_zero, List.set_cons_succ]
                    refine wpAnyI_takeN (i := 13) (v := ?_) (by kernel_rfl) rfl (by kernel_rfl) (by kernel_rfl) (by kernel_rfl) (fun _ _ _ h => h) HS (Or.inl ⟨by rfl, ?_⟩) ?_
                    rotate_left
                    · (intro w hSw; obtain ⟨⟨x0, x1, x2⟩, ⟨y0, y1, y2⟩⟩ := hSw; go_simp; try with_reducible rfl)
                    try simp only [Act.put, List.getElem_toArray, List.getElem_cons_succ, List.getElem_cons_zero, List.setIfInBounds_toArray, List.set_cons_zero, List.set_cons_succ]
                    refine wpAnyI_takeN (i := 14) (v := ?_) (by kernel_rfl) rfl (by kernel_rfl) (by kernel_rfl) (by kernel_rfl) (fun _ _ _ h => h) HS (Or.inl ⟨by rfl, ?_⟩) ?_
                    rotate_left
                    · (intro w hSw; obtain ⟨⟨x0, x1, x2⟩, ⟨y0, y1, y2⟩⟩ := hSw; go_simp; try with_reducible rfl)
                    try simp only [Act.put, List.getElem_toArray, List.getElem_cons_succ, List.getElem_cons_zero, List.setIfInBounds_toArray, List.set_cons_zero, List.set_cons_succ]
                    refine wpAnyI_takeN (i := 15) (v := ?_) (by kernel_rfl) rfl (by kernel_rfl) (by kernel_rfl) (by kernel_rfl) (fun _ _ _ h => h) HS (Or.inl ⟨by rfl, ?_⟩) ?_
                    rotate_left
                    · (intro w hSw; obtain ⟨⟨x0, x1, x2⟩, ⟨y0, y1, y2⟩⟩ := hSw; go_simp; try with_reducible rfl)
                    try simp only [Act.put, List.getElem_toArray, List.getElem_cons_succ, List.getElem_cons_zero, List.setIfInBounds_toArray, List.set_cons_zero, List.set_cons_succ]
                    refine wpAnyI_takeN (i := 16) (v := ?_) (by kernel_rfl) rfl (by kernel_rfl) (by kernel_rfl) (by kernel_rfl) (fun _ _ _ h => h) HS (Or.inl ⟨by rfl, ?_⟩) ?_
                    rotate_left
                    · (intro w hSw; obtain ⟨⟨x0, x1, x2⟩, ⟨y0, y1, y2⟩⟩ := hSw; go_simp; try with_reducible rfl)
                    try simp only [Act.put, List.getElem_toArray, List.getElem_cons_succ, List.getElem_cons_zero, List.setIfInBounds_toArray, List.set_cons_zero, List.set_cons_succ]
                    refine wpAnyI_takeN (i := 17) (v := ?_) (by kernel_rfl) rfl (by kernel_rfl) (by kernel_rfl) (by kernel_rfl) (fun _ _ _ h => h) HS (Or.inl ⟨by rfl, ?_⟩) ?_
                    rotate_left
                    · (intro w hSw; obtain ⟨⟨x0, x1, x2⟩, ⟨y0, y1, y2⟩⟩ := hSw; go_simp; try with_reducible rfl)
                    try simp only [Act.put, List.getElem_toArray, List.getElem_cons_succ, List.getElem_cons_zero, List.setIfInBounds_toArray, List.set_cons_zero, List.set_cons_succ]
                    refine wpAnyI_takeN (i := 18) (v := ?_) (by kernel_rfl) rfl (by kernel_rfl) (by kernel_rfl) (by kernel_rfl) (fun _ _ _ h => h) HS (Or.inl ⟨by rfl, ?_⟩) ?_
                    rotate_left
                    · (intro w hSw; obtain ⟨⟨x0, x1, x2⟩, ⟨y0, y1, y2⟩⟩ := hSw; go_simp; try with_reducible rfl)
                    try simp only [Act.put, List.getElem_toArray, List.getElem_cons_succ, List.getElem_cons_zero, List.setIfInBounds_toArray, List.set_cons_zero, List.set_cons_succ]
                    refine wpAnyI_takeN (i := 19) (v := ?_) (by kernel_rfl) rfl (by kernel_rfl) (by kernel_rfl) (by kernel_rfl) (fun _ _ _ h => h) HS (Or.inl ⟨by rfl, ?_⟩) ?_
                    rotate_left
                    · (intro w hSw; obtain ⟨⟨x0, x1, x2⟩, ⟨y0, y1, y2⟩⟩ := hSw; go_simp; try with_reducible rfl)
                    try simp only [Act.put, List.getElem_toArray, List.getElem_cons_succ, List.getElem_cons_zero, List.setIfInBounds_toArray, List.set_cons_zero, List.set_cons_succ]
                    refine wpAnyI_takeN (i := 20) (v := ?_) (by kernel_rfl) rfl (by kernel_rfl) (by kernel_rfl) (by kernel_rfl) (fun _ _ _ h => h) HS (Or.inl ⟨by rfl, ?_⟩) ?_
                    rotate_left
                    · (intro w hSw; obtain ⟨⟨x0, x1, x2⟩, ⟨y0, y1, y2⟩⟩ := hSw; go_simp; try with_reducible rfl)
                    try simp only [Act.put, List.getElem_toArray, List.getElem_cons_succ, List.getElem_cons_zero, List.setIfInBounds_toArray, List.set_cons_zero, List.set_cons_succ]
                    refine wpAnyI_takeN (i := 21) (v := ?_) (by kernel_rfl) rfl (by kernel_rfl) (by kernel_rfl) (by kernel_rfl) (fun _ _ _ h => h) HS (Or.inl ⟨by rfl, ?_⟩) ?_
                    rotate_left
                    · (intro w hSw; obtain ⟨⟨x0, x1, x2⟩, ⟨y0, y1, y2⟩⟩ := hSw; go_simp; try with_reducible rfl)
                    try simp only [Act.put, List.getElem_toArray, List.getElem_cons_succ, List.getElem_cons_zero, List.setIfInBounds_toArray, List.set_cons_zero, List.set_cons_succ]
                    refine wpAnyI_takeN (i := 22) (v := ?_) (by kernel_rfl) rfl (by kernel_rfl) (by kernel_rfl) (by kernel_rfl) (fun _ _ _ h => h) HS (Or.inl ⟨by rfl, ?_⟩) ?_
                    rotate_left
                    · (intro w hSw; obtain ⟨⟨x0, x1, x2⟩, ⟨y0, y1, y2⟩⟩ := hSw; go_simp; try with_reducible rfl)
                    try simp only [Act.put, List.getElem_toArray, List.getElem_cons_succ, List.getElem_cons_zero, List.setIfInBounds_toArray, List.set_cons_zero, List.set_cons_succ]
                    refine wpAnyI_takeN (i := 23) (v := ?_) (by kernel_rfl) rfl (by kernel_rfl) (by kernel_rfl) (by kernel_rfl) (fun _ _ _ h => h) HS (Or.inl ⟨by rfl, ?_⟩) ?_
                    rotate_left
                    · (intro w hSw; obtain ⟨⟨x0, x1, x2⟩, ⟨y0, y1, y2⟩⟩ := hSw; go_simp; try with_reducible rfl)
                    try simp only [Act.put, List.getElem_toArray, List.getElem_cons_succ, List.getElem_cons_zero, List.setIfInBounds_toArray, List.set_cons_zero, List.set_cons_succ]
                    refine wpAnyI_takeN (i := 24) (v := ?_) (by kernel_rfl) rfl (by kernel_rfl) (by kernel_rfl) (by kernel_rfl) (fun _ _ _ h => h) HS (Or.inl ⟨by rfl, ?_⟩) ?_
                    rotate_left
                    · (intro w hSw; obtain ⟨⟨x0, x1, x2⟩, ⟨y0, y1, y2⟩⟩ := hSw; go_simp; try with_reducible rfl)
                    try simp only [Act.put, List.getElem_toArray, List.getElem_cons_succ, List.getElem_cons_zero, List.setIfInBounds_toArray, List.set_cons_zero, List.set_cons_succ]
                    refine wpAnyI_takeN (i := 25) (v := ?_) (by kernel_rfl) rfl (by kernel_rfl) (by kernel_rfl) (by kernel_rfl) (fun _ _ _ h => h) HS (Or.inl ⟨by rfl, ?_⟩) ?_
                    rotate_left
                    · (intro w hSw; obtain ⟨⟨x0, x1, x2⟩, ⟨y0, y1, y2⟩⟩ := hSw; go_simp; try with_reducible rfl)
                    try simp only [Act.put, List.getElem_toArray, List.getElem_cons_succ, List.getElem_cons_zero, List.setIfInBounds_toArray, List.set_cons_zero, List.set_cons_succ]
                    refine wpAnyI_takeN (i := 26) (v := ?_) (by kernel_rfl) rfl (by kernel_rfl) (by kernel_rfl) (by kernel_rfl) (fun _ _ _ h => h) HS (Or.inl ⟨by rfl, ?_⟩) ?_
                    rotate_left
                    · (intro w hSw; obtain ⟨⟨x0, x1, x2⟩, ⟨y0, y1, y2⟩⟩ := hSw; go_simp; try with_reducible rfl)
                    try simp only [Act.put, List.getElem_toArray, List.getElem_cons_succ, List.getElem_cons_zero, List.setIfInBounds_toArray, List.set_cons_zero, List.set_cons_succ]
                    refine wpAnyI_takeN (i := 27) (v := ?_) (by kernel_rfl) rfl (by kernel_rfl) (by kernel_rfl) (by kernel_rfl) (fun _ _ _ h => h) HS (Or.inl ⟨by rfl, ?_⟩) ?_
                    rotate_left
                    · (intro w hSw; obtain ⟨⟨x0, x1, x2⟩, ⟨y0, y1, y2⟩⟩ := hSw; go_simp; try with_reducible rfl)
                    try simp only [Act.put, List.getElem_toArray, List.getElem_cons_succ, List.getElem_cons_zero, List.setIfInBounds_toArray, List.set_cons_zero, List.set_cons_succ]
                    refine wpAnyI_takeN (i := 28) (v := ?_) (by kernel_rfl) rfl (by kernel_rfl) (by kernel_rfl) (by kernel_rfl) (fun _ _ _ h => h) HS (Or.inl ⟨by rfl, ?_⟩) ?_
                    rotate_left
                    · (intro w hSw; obtain ⟨⟨x0, x1, x2⟩, ⟨y0, y1, y2⟩⟩ := hSw; go_simp; try with_reducible rfl)
                    try simp only [Act.put, List.getElem_toArray, List.getElem_cons_succ, List.getElem_cons_zero, List.setIfInBounds_toArray, List.set_cons_zero, List.set_cons_succ]
                    refine wpAnyI_takeN (i := 29) (v := ?_) (by kernel_rfl) rfl (by kernel_rfl) (by kernel_rfl) (by kernel_rfl) (fun _ _ _ h => h) HS (Or.inl ⟨by rfl, ?_⟩) ?_
                    rotate_left
                    · (intro w hSw; obtain ⟨⟨x0, x1, x2⟩, ⟨y0, y1, y2⟩⟩ := hSw; go_simp; try with_reducible rfl)
                    try simp only [Act.put, List.getElem_toArray, List.getElem_cons_succ, List.getElem_cons_zero, List.setIfInBounds_toArray, List.set_cons_zero, List.set_cons_succ]
                    refine wpAnyI_takeN (i := 30) (v := ?_) (by kernel_rfl) rfl (by kernel_rfl) (by kernel_rfl) (by kernel_rfl) (fun _ _ _ h => h) HS (Or.inl ⟨by rfl, ?_⟩) ?_
                    rotate_left
                    · (intro w hSw; obtain ⟨⟨x0, x1, x2⟩, ⟨y0, y1, y2⟩⟩ := hSw; go_simp; try with_reducible rfl)
                    try simp only [Act.put, List.getElem_toArray, List.getElem_cons_succ, List.getElem_cons_zero, List.setIfInBounds_toArray, List.set_cons_zero, List.set_cons_succ]
                    refine wpAnyI_takeN (i := 31) (v := ?_) (by kernel_rfl) rfl (by kernel_rfl) (by kernel_rfl) (by kernel_rfl) (fun _ _ _ h => h) HS (Or.inl ⟨by rfl, ?_⟩) ?_
                    rotate_left
                    · (intro w hSw; obtain ⟨⟨x0, x1, x2⟩, ⟨y0, y1, y2⟩⟩ := hSw; go_simp; try with_reducible rfl)
                    try simp only [Act.put, List.getElem_toArray, List.getElem_cons_succ, List.getElem_cons_zero, List.setIfInBounds_toArray, List.set_cons_zero, List.set_cons_succ]
                    refine wpAnyI_takeN (i := 32) (v := ?_) (by kernel_rfl) rfl (by kernel_rfl) (by kernel_rfl) (by kernel_rfl) (fun _ _ _ h => h) HS (Or.inl ⟨by rfl, ?_⟩) ?_
                    rotate_left
                    · (intro w hSw; obtain ⟨⟨x0, x1, x2⟩, ⟨y0, y1, y2⟩⟩ := hSw; go_simp; try with_reducible rfl)
                    try simp only [Act.put, List.getElem_toArray, List.getElem_cons_succ, List.getElem_cons_zero, List.setIfInBounds_toArray, List.set_cons_zero, List.set_cons_succ]
                    refine wpAnyI_takeN (i := 33) (v := ?_) (by kernel_rfl) rfl (by kernel_rfl) (by kernel_rfl) (by kernel_rfl) (fun _ _ _ h => h) HS (Or.inl ⟨by rfl, ?_⟩) ?_
                    rotate_left
                    · (intro w hSw; obtain ⟨⟨x0, x1, x2⟩, ⟨y0, y1, y2⟩⟩ := hSw; go_simp; try with_reducible rfl)
                    try simp only [Act.put, List.getElem_toArray, List.getElem_cons_succ, List.getElem_cons_zero, List.setIfInBounds_toArray, List.set_cons_zero, List.set_cons_succ]
                    refine wpAnyI_takeN (i := 34) (v := ?_) (by kernel_rfl) rfl (by kernel_rfl) (by kernel_rfl) (by kernel_rfl) (fun _ _ _ h => h) HS (Or.inl ⟨by rfl, ?_⟩) ?_
                    rotate_left
                    · (intro w hSw; obtain ⟨⟨x0, x1, x2⟩, ⟨y0, y1, y2⟩⟩ := hSw; go_simp; try with_reducible rfl)
                    try simp only [Act.put, List.getElem_toArray, List.getElem_cons_succ, List.getElem_cons_zero, List.setIfInBounds_toArray, List.set_cons_zero, List.set_cons_succ]
                    refine wpAnyI_takeN (i := 35) (v := ?_) (by kernel_rfl) rfl (by kernel_rfl) (by kernel_rfl) (by kernel_rfl) (fun _ _ _ h => h) HS (Or.inl ⟨by rfl, ?_⟩) ?_
                    rotate_left
                    · (intro w hSw; obtain ⟨⟨x0, x1, x2⟩, ⟨y0, y1, y2⟩⟩ := hSw; go_simp; try with_reducible rfl)
                    try simp only [Act.put, List.getElem_toArray, List.getElem_cons_succ, List.getElem_cons_zero, List.setIfInBounds_toArray, List.set_cons_zero, List.set_cons_succ]
                    refine wpAnyI_takeN (i := 36) (v := ?_) (by kernel_rfl) rfl (by kernel_rfl) (by kernel_rfl) (by kernel_rfl) (fun _ _ _ h => h) HS (Or.inl ⟨by rfl, ?_⟩) ?_
                    rotate_left
                    · (intro w hSw; obtain ⟨⟨x0, x1, x2⟩, ⟨y0, y1, y2⟩⟩ := hSw; go_simp; try with_reducible rfl)
                    try simp only [Act.put, List.getElem_toArray, List.getElem_cons_succ, List.getElem_cons_zero, List.setIfInBounds_toArray, List.set_cons_zero, List.set_cons_succ]
                    refine wpAnyI_one (i := 37) rfl (by kernel_rfl) (fun K hK => ?_)
                    dsimp only [List.getElem_toArray, List.getElem_cons_succ, List.getElem_cons_zero]
                    go_simp
                    refine (HRow.out _ kd.out).mono ?_
                    rintro e wn ⟨rfl, kn⟩
                    have HS := hS10.out _ (kd.out.trans kn)
                    have kn' : Hid (Keeps [] wo wn) := Lib.hid (kd.out.trans kn)
                    rw [hb.out]
                    refine hK _ _ (Or.inr HS) ?_
                    clear hK K kn kd
                    try simp only [Act.put, List.getElem_toArray, List.getElem_cons_succ, List.getElem_cons_zero, List.setIfInBounds_toArray, List.set_cons_zero, List.set_cons_succ]
                    refine wpAnyI_takeN (i := 38) (v := ?_) (by kernel_rfl) rfl (by kernel_rfl) (by kernel_rfl) (by kernel_rfl) (fun _ _ _ h => h) HS (Or.inl ⟨by rfl, ?_⟩) ?_
                    rotate_left
                    · (intro w hSw; obtain ⟨⟨x0, x1, x2⟩, ⟨y0, y1, y2⟩⟩ := hSw; go_simp; try with_reducible rfl)
                    try simp only [Act.put, List.getElem_toArray, List.getElem_cons_succ, List.getElem_cons_zero, List.setIfInBounds_toArray, List.set_cons_zero, List.set_cons_succ]
                    refine wpAnyI_takeN (i := 39) (v := ?_) (by kernel_rfl) rfl (by kernel_rfl) (by kernel_rfl) (by kernel_rfl) (fun _ _ _ h => h) HS (Or.inl ⟨by rfl, ?_⟩) ?_
                    rotate_left
                    · (intro w hSw; obtain ⟨⟨x0, x1, x2⟩, ⟨y0, y1, y2⟩⟩ := hSw; go_simp; try with_reducible rfl)
                    try simp only [Act.put, List.getElem_toArray, List.getElem_cons_succ, List.getElem_cons_zero, List.setIfInBounds_toArray, List.set_cons_zero, List.set_cons_succ]
                    refine wpAnyI_takeN (i := 40) (v := ?_) (by kernel_rfl) rfl (by kernel_rfl) (by kernel_rfl) (by kernel_rfl) (fun _ _ _ h => h) HS (Or.inl ⟨by rfl, ?_⟩) ?_
                    rotate_left
                    · (intro w hSw; obtain ⟨⟨x0, x1, x2⟩, ⟨y0, y1, y2⟩⟩ := hSw; go_simp; try with_reducible rfl)
                    try simp only [Act.put, List.getElem_toArray, List.getElem_cons_succ, List.getElem_cons_zero, List.setIfInBounds_toArray, List.set_cons_zero, List.set_cons_succ]
                    refine wpAnyI_done (by kernel_rfl) ?_ _
                    go_wp2_with fail
                    go_roundw
                    case rel => exact ⟨k + 1, true, by omega, by go_num, rfl, Lib.hid hfin.out.symm, Lib.hid (hkq.out.trans kn'.out)⟩
                    case measure => simp [intOf]; omega
                · have b2 : (xi == yi) = false := by simpa using e2
                  have hfin : Hid ((b.take (k + 1)).any (fun z => decide (xx = z)) = false) := Lib.hid (by rw [hnext.out, hsame.out, decide_eq_false e2]; simp)
                  obtain rfl := e1
                  replace e2 := Lib.hid e2
                  go_wp2_with fail
                  go_quiet (fail)
                  go_wp2_with fail
                  go_roundw
                  case rel => exact ⟨k + 1, false, by omega, by go_num, rfl, Lib.hid hfin.out.symm, Lib.hid (hkq.out.drewN _)⟩
                  case measure => simp [intOf]; omega
              · have b1 : (xt == yt) = false := by simpa using e1
                have hfin : Hid ((b.take (k + 1)).any (fun z => decide (xx = z)) = false) := Lib.hid (by rw [hnext.out, hsame.out, decide_eq_false e1]; simp)
                replace e1 := Lib.hid e1
                go_wp2_with fail
                go_quiet (fail)
                go_wp2_with fail
                go_roundw
                case rel => exact ⟨k + 1, false, by omega, by go_num, rfl, Lib.hid hfin.out.symm, Lib.hid (hkq.out.drewN _)⟩
                case measure => simp [intOf]; omega
            · have hfin : Hid ((b.take (k + 1)).any (fun z => decide (xx = z)) = true) := Lib.hid (by rw [hnext.out]; rfl)
              go_wp2_with fail
              go_quiet (fail)
              go_wp2_with fail
              go_roundw
              case rel => exact ⟨k + 1, true, by omega, by go_num, rfl, Lib.hid hfin.out.symm, Lib.hid (hkq.out.drewN _)⟩
              case measure => simp [intOf]; omega
          · obtain rfl : k = n := by omega
            have hkf : ¬ (k : Int) < (k : Int) := by omega
            have ht : b.take k = b := List.take_of_length_le (by rw [hm.out]; exact Nat.le_refl _)
            rw [ht] at hfd
            cases fd
            · have hno : Hid (sameCl a b = false) := Lib.hid (by
                unfold sameCl
                have : a.all (fun x => b.any (fun y => decide (x = y))) = false := by
                  cases hh : a.all (fun x => b.any (fun y => decide (x = y)))
                  · rfl
                  · have := List.all_eq_true.1 hh xx (List.mem_of_getElem? hx.out)
                    rw [← hfd.out] at this
                    cases this
                rw [this, Bool.and_false])
              go_wp2_with fail
              go_ret
              exact ⟨by rw [hno.out]; rfl, hkq.out⟩
            · have hall' := Lib.hid (sameCl_step hall.out hx.out hfd.out.symm)
              go_wp2_with fail
              go_roundw
              case rel => exact ⟨i + 1, by omega, by go_num, hall', hkq⟩
              case measure => simp [intOf]; omega
      · obtain rfl : i = n := by omega
        have hif : ¬ (i : Int) < (i : Int) := by omega
        have hyes : Hid (sameCl a b = true) := Lib.hid (by
          unfold sameCl
          rw [hlen.out, Bool.true_and, List.all_eq_true]
          intro z hz
          exact hall.out z (by rw [List.take_of_length_le (by rw [hn.out]; exact Nat.le_refl _)]; exact hz))
        go_wp2_with fail
        go_ret
        exact ⟨by rw [hyes.out]; rfl, hkw.out⟩
  · have hne : sameCl a b = false := by
      unfold sameCl
      rw [decide_eq_false (by rw [hn, hm]; exact hnm), Bool.false_and]
    have hb : ((n : Int) == (m : Int)) = false := by simpa using (by omega : ¬ (n : Int) = m)
    replace hnm : ¬ (n : Int) = m := by omega
    clear ha hb0 hn hm
    go_enter Try.func27, Try.ntmps27
    go_wp2_with fail
    go_ret
    exact ⟨by rw [hne]; simp [hb], Keeps.refl _ _⟩
end Go.Proofs.Ytmclfbhcddcebaa
