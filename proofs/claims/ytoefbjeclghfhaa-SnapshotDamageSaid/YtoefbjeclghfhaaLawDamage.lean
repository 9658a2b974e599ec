/- The walk of the statement SnapshotDamage. -/
import Derived.Test.YtoefbjeclghfhaaSnapV
namespace Go.Proofs.Ytoefbjeclghfhaa
open Go.RowKit
set_option linter.unusedSimpArgs false
set_option linter.unusedVariables false

/-- What the law SnapshotDamage needs of the plain answers. -/
theorem damage_law {m ep i : Nat} {l : List UInt8} {b : UInt8} {t : St} (hq : swrite (st0 m) ep l = (t, 0)) (hh : Held m t ep l) (h7 : 7 ≤ m) (h60 : m ≤ 60) (h1 : 0 < ep) (h2 : ep < 4294967296) (h3 : l.length ≤ capOf m) (hi : i < l.length) (hb : b ≠ 0) :
    3 + area m + i / 64 < m ∧ t.n = m ∧ chk t ((3 + area m + i / 64 : Nat) : Int) = 0 ∧ ∃ (c : UInt8) (u : St), (sec t (3 + area m + i / 64))[i % 64]? = some c ∧ wr t ((3 + area m + i / 64 : Nat) : Int) ((sec t (3 + area m + i / 64)).set (i % 64) (c ^^^ b)) = (u, 0) ∧ sread u = ([], 0, 17) := by
  have hc : capOf (m : Int) = 64 * area m := by unfold capOf; rw [if_neg (by omega)]; simp
  rw [hc] at h3
  have hk : 3 + area m + i / 64 < m := by
    have : i / 64 < area m := by omega
    unfold area at this ⊢
    omega
  obtain ⟨hd, _, _, _⟩ := vbad_zero hh.good
  have hs : (sec t (3 + area m + i / 64)).length = 64 := by
    unfold sec
    rw [List.length_take, List.length_drop, hh.len, hh.sz]
    omega
  have hg := List.getElem?_eq_getElem (l := sec t (3 + area m + i / 64)) (i := i % 64) (by omega)
  have hD := damage_sees (by_ := b) (b := l) (i := i) (c := (sec t (3 + area m + i / 64))[i % 64]'(by omega)) h7 h60 h1 h2 h3 hi hb (by rw [hq]; exact hg)
  rw [hq] at hD
  refine ⟨hk, hh.sz, ?_, _, _, hg, Prod.ext rfl hD.1, hD.2⟩
  unfold chk
  rw [hd, if_neg (by decide), if_neg (by rw [hh.sz]; omega)]

set_option maxHeartbeats 3200000 in
set_option maxRecDepth 100000 in
theorem law_damage (w : World) (S : Int) (ep : Nat) (A : Option Addr) (n c : Nat) (l : List UInt8) (hl : l.length = n) (hnc : n ≤ c) (hcm : c ≤ maxLen) (hB : BtsB w.heap.size w A l) (hS : 0 ≤ S ∧ S < 256) (hep : ep < 4294967296) (at_ : Int) (hat : 0 ≤ at_ ∧ at_ < 65536) (by_ : Int) (hby : 0 ≤ by_ ∧ by_ < 256) :
    Calls Try.prog 4 #[.agg (verV S ep A n c), .int .u16 at_, .int .u8 by_] w fun e w' => e = .returned (.bool true) ∧ Keeps [] w w' := by
  have hC := Lib.hid (VerAt.start (S := S) (ep := ep) (n := n) (c := c) hB)
  replace hcm := Lib.hid hcm
  clear hB
  have cc := hC.out.cc
  go_enter Try.func4, Try.ntmps4
  go_wp2_with fail
  clear cc
  generalize w.alloc (.cells (verV S ep A n c) 37) = wx at *
  refine (fresh_any wx S ep A n c hS hep).mono ?_
  rintro e w1 (⟨hno, rfl, k⟩ | ⟨hok, bd, bs, rfl, hD, hbd, hbs, k⟩)
  · replace hC := Lib.hid (hC.out.keep_ k)
    clear k
    go_wp2_with fail
    refine (awake_any w1).mono ?_
    rintro e w2 ⟨rfl, k⟩
    replace hC := Lib.hid (hC.out.keep_ k)
    clear k
    go_wp2_with fail
    refine (awake_any w2).mono ?_
    rintro e w3 ⟨rfl, k⟩
    replace hC := Lib.hid (hC.out.keep_ k)
    clear k
    go_wp2_with fail
    go_ret
    exact ⟨rfl, hC.out.keep⟩
  · obtain ⟨m, rfl⟩ : ∃ m : Nat, S = m := ⟨S.toNat, by omega⟩
    obtain ⟨h7, h60, hcap, h600, h1⟩ := hok
    rw [Int.toNat_natCast] at hD
    have hnew : Hid (w.heap.size < bd ∧ w.heap.size < bs) := Lib.hid (by have := hC.out.keep.size; omega)
    replace hC := Lib.hid (hC.out.keep_ k)
    replace hD := Lib.hid hD
    clear k hbd hbs
    obtain ⟨t, hq, hh, htw⟩ := first_write (m := m) (ep := ep) (l := l) (by omega) (by omega) h1 hep (by rw [hl]; exact hcap)
    replace hq := Lib.hid hq
    replace hh := Lib.hid hh
    replace htw := Lib.hid htw
    replace hcap := Lib.hid hcap
    have HA := Lib.hid (fun w' => awake_any w')
    by_cases hn0 : n = 0
    · have hl0 : l = [] := List.eq_nil_of_length_eq_zero (hl.trans hn0)
      subst hn0
      have cc := hC.out.cc
      go_wp2_with fail
      refine (HA.out w1).mono ?_
      rintro e w2 ⟨rfl, k⟩
      replace hC := Lib.hid (hC.out.keep_ k)
      clear k cc
      have cc := hC.out.cc
      go_wp2_with fail
      refine (HA.out w2).mono ?_
      rintro e w3 ⟨rfl, k⟩
      replace hC := Lib.hid (hC.out.keep_ k)
      clear k
      go_wp2_with fail
      go_ret
      exact ⟨rfl, hC.out.keep⟩
    have hnb : ((n : Int) == 0) = false := by simp; omega
    by_cases hb0 : by_ = 0
    · subst hb0
      have cc := hC.out.cc
      go_wp2_with fail
      refine (HA.out w1).mono ?_
      rintro e w2 ⟨rfl, k⟩
      replace hC := Lib.hid (hC.out.keep_ k)
      clear k cc
      have cc := hC.out.cc
      go_wp2_with fail
      refine (HA.out w2).mono ?_
      rintro e w3 ⟨rfl, k⟩
      replace hC := Lib.hid (hC.out.keep_ k)
      clear k
      go_wp2_with fail
      go_ret
      exact ⟨rfl, hC.out.keep⟩
    have hbb : (by_ == 0) = false := by simp; omega
    obtain ⟨a, rfl⟩ : ∃ a : Nat, at_ = a := ⟨at_.toNat, by omega⟩
    obtain ⟨b, rfl⟩ : ∃ b : UInt8, by_ = (b.toNat : Int) := ⟨UInt8.ofNat by_.toNat, by rw [UInt8.toNat_ofNat']; omega⟩
    obtain ⟨i, hi⟩ : ∃ i, i = a % n := ⟨_, rfl⟩
    have hin : i < n := hi ▸ Nat.mod_lt _ (by omega)
    have hbz : b ≠ 0 := fun h => hb0 (by rw [h]; rfl)
    obtain ⟨hkm, htn, hck, c0, u, hg, hwr, hrd⟩ := damage_law hq.out hh.out (by omega) (by omega) h1 hep (by rw [hl]; exact hcap.out) (by rw [hl]; exact hin) hbz
    obtain ⟨ar, har⟩ : ∃ ar, ar = area m := ⟨_, rfl⟩
    have harm : 3 + 2 * ar ≤ m := by rw [har]; unfold area; omega
    have HDv : Hid (∀ w' : World, Calls Try.prog 10 #[.int .i64 m] w' fun e w'' => e = .returned (.tuple #[.agg #[.int .i64 0, .int .i64 1, .int .i64 2, .int .i64 3, .int .i64 (3 + (ar : Nat)), .int .i64 (ar : Nat), .int .i64 (3 + 2 * (ar : Nat)), .int .i64 ((m : Int) - (3 + 2 * (ar : Nat)))], .int .i64 0]) ∧ Keeps [] w' w'') := Lib.hid (by
      intro w'
      have := divide_ok w' m (by omega) (by omega)
      unfold layV at this
      rw [← har] at this
      exact this)
    rw [← har] at hkm hck hg hwr
    replace hg := Lib.hid hg
    replace hwr := Lib.hid hwr
    replace hrd := Lib.hid hrd
    replace hck := Lib.hid hck
    replace hbz := Lib.hid hbz
    have hi2 : ((a : Int)).tmod (n : Int) = (i : Int) := by rw [Int.tmod_eq_emod_of_nonneg (by omega), hi, Int.natCast_emod]
    replace hi := Lib.hid hi
    replace har := Lib.hid har
    have cc := hC.out.cc
    go_wp2_with fail
    refine (HA.out w1).mono ?_
    rintro e v2 ⟨rfl, k⟩
    replace hC := Lib.hid (hC.out.keep_ k)
    replace hD := Lib.hid (hD.out.keep k (by simp) (by simp))
    clear k cc
    have cc := hC.out.cc
    go_wp2_with fail
    refine (HDv.out v2).mono ?_
    rintro e v3 ⟨rfl, k⟩
    have hBl := Lib.hid (Blk.new v3 24 #[.int .i64 0, .int .i64 1, .int .i64 2, .int .i64 3, .int .i64 (3 + (ar : Nat)), .int .i64 (ar : Nat), .int .i64 (3 + 2 * (ar : Nat)), .int .i64 ((m : Int) - (3 + 2 * (ar : Nat)))])
    have ka := k.alloc (.cells #[.int .i64 0, .int .i64 1, .int .i64 2, .int .i64 3, .int .i64 (3 + (ar : Nat)), .int .i64 (ar : Nat), .int .i64 (3 + 2 * (ar : Nat)), .int .i64 ((m : Int) - (3 + 2 * (ar : Nat)))] 24)
    replace hC := Lib.hid (hC.out.keep_ ka)
    replace hD := Lib.hid (hD.out.keep ka (by simp) (by simp))
    clear k ka cc HDv
    go_wp2_with fail
    generalize hw3 : v3.alloc (.cells #[.int .i64 0, .int .i64 1, .int .i64 2, .int .i64 3, .int .i64 (3 + (ar : Nat)), .int .i64 (ar : Nat), .int .i64 (3 + 2 * (ar : Nat)), .int .i64 ((m : Int) - (3 + 2 * (ar : Nat)))] 24) = w2 at *
    clear hw3
    generalize v3.heap.size = gl at *
    have hgl : Hid (gl ∉ [bd, bs]) := Lib.hid (by simp; exact ⟨hBl.out.ne_ hD.out.d (by decide), hBl.out.ne_ hD.out.m (by decide)⟩)
    replace hBl := Lib.hid hBl.out.drew
    have hC3 : Hid (VerAt w w2.drew m ep A n c l) := Lib.hid ⟨hC.out.blk.drew, ⟨hC.out.data.bts.drew_, hC.out.data.low⟩, hC.out.keep.drew⟩
    have hD3 : Hid (DRep w2.drew bd bs (st0 m)) := Lib.hid (hD.out.keep ((Keeps.refl [] w2).drew) (by simp) (by simp))
    have HCp : Hid (Calls Try.prog 17 #[.slice A n c] w2.drew (CpPost w2.drew n l)) := Lib.hid (cp_any w2.drew A l n c hC3.out.data.bts hl h600)
    have HW : Hid (∀ (w1 : World) (A : Option Addr) (c : Nat), w1.ownsRow w2.drew.heap.size 5 1 (.slice A n c) n (l.map bv) → Keeps [] w2.drew w1 → Calls Try.prog 16 #[.pointer (some ⟨bd, 0, none⟩), .int .u32 ep, .slice A n c] w1 fun e w' => e = .returned (.int .i64 0) ∧ DRep w' bd bs t ∧ Keeps [bd, bs] w2.drew w') :=
      Lib.hid (fun w1 A c ho hk => swrite_own w2.drew bd bs (st0 m) t 0 ep l n hq.out hep (Int.le_refl 0) (show (0 : Int) ≤ 900000 by decide) w1 A c ho hk hD3.out)
    have h0 := And.intro hC3.out.c1 hC3.out.c2
    clear hC hD
    refine wp_region_I (S := (fun w' : World => w'.cell? ⟨w.heap.size, 1, none⟩ = some (.int .u32 (ep : Int)) ∧ w'.cell? ⟨w.heap.size, 2, none⟩ = some (.slice A n c))) (n := 8) (by kernel_rfl) ?_
    generalize w2.drew = w3 at *
    have HS := h0
    clear h0
    refine wpAnyI_takeN (i := 0) (v := ?_) (by kernel_rfl) rfl (by kernel_rfl) (by kernel_rfl) (by kernel_rfl) (fun _ _ _ h => h) HS (Or.inl ⟨by rfl, ?_⟩) ?_
    rotate_left
    · (intro w hSw; obtain ⟨z1, z2⟩ := hSw; go_simp; try with_reducible rfl)
    try simp only [Act.put, List.getElem_toArray, List.getElem_cons_succ, List.getElem_cons_zero, List.setIfInBounds_toArray, List.set_cons_zero, List.set_cons_succ]
    refine wpAnyI_takeN (i := 1) (v := ?_) (by kernel_rfl) rfl (by kernel_rfl) (by kernel_rfl) (by kernel_rfl) (fun _ _ _ h => h) HS (Or.inl ⟨by rfl, ?_⟩) ?_
    rotate_left
    · (intro w hSw; obtain ⟨z1, z2⟩ := hSw; go_simp; try with_reducible rfl)
    try simp only [Act.put, List.getElem_toArray, List.getElem_cons_succ, List.getElem_cons_zero, List.setIfInBounds_toArray, List.set_cons_zero, List.set_cons_succ]
    refine wpAnyI_takeN (i := 2) (v := ?_) (by kernel_rfl) rfl (by kernel_rfl) (by kernel_rfl) (by kernel_rfl) (fun _ _ _ h => h) HS (Or.inl ⟨by rfl, ?_⟩) ?_
    rotate_left
    · (intro w hSw; obtain ⟨z1, z2⟩ := hSw; go_simp; try with_reducible rfl)
    try simp only [Act.put, List.getElem_toArray, List.getElem_cons_succ, List.getElem_cons_zero, List.setIfInBounds_toArray, List.set_cons_zero, List.set_cons_succ]
    refine wpAnyI_takeN (i := 3) (v := ?_) (by kernel_rfl) rfl (by kernel_rfl) (by kernel_rfl) (by kernel_rfl) (fun _ _ _ h => h) HS (Or.inl ⟨by rfl, ?_⟩) ?_
    rotate_left
    · (intro w hSw; obtain ⟨z1, z2⟩ := hSw; go_simp; try with_reducible rfl)
    try simp only [Act.put, List.getElem_toArray, List.getElem_cons_succ, List.getElem_cons_zero, List.setIfInBounds_toArray, List.set_cons_zero, List.set_cons_succ]
    refine wpAnyI_takeN (i := 4) (v := ?_) (by kernel_rfl) rfl (by kernel_rfl) (by kernel_rfl) (by kernel_rfl) (fun _ _ _ h => h) HS (Or.inl ⟨by rfl, ?_⟩) ?_
    rotate_left
    · (intro w hSw; obtain ⟨z1, z2⟩ := hSw; go_simp; try with_reducible rfl)
    try simp only [Act.put, List.getElem_toArray, List.getElem_cons_succ, List.getElem_cons_zero, List.setIfInBounds_toArray, List.set_cons_zero, List.set_cons_succ]
    refine wpAnyI_one (i := 5) rfl (by kernel_rfl) (fun K hK => ?_)
    dsimp only [List.getElem_toArray, List.getElem_cons_succ, List.getElem_cons_zero]
    go_simp
    refine HCp.out.mono ?_
    rintro e w4 ⟨A1, c1, rfl, o1, k4⟩
    have HS : w4.cell? ⟨w.heap.size, 1, none⟩ = some (.int .u32 (ep : Int)) ∧ w4.cell? ⟨w.heap.size, 2, none⟩ = some (.slice A n c) := ⟨k4.cellEq HS.1 (by simp), k4.cellEq HS.2 (by simp)⟩
    have HW4 := Lib.hid (HW.out w4 A1 c1 o1 k4)
    refine hK _ _ (Or.inr HS) ?_
    clear hK K HW HCp o1 k4
    try simp only [Act.put, List.getElem_toArray, List.getElem_cons_succ, List.getElem_cons_zero, List.setIfInBounds_toArray, List.set_cons_zero, List.set_cons_succ]
    refine wpAnyI_one (i := 6) rfl (by kernel_rfl) (fun K hK => ?_)
    dsimp only [List.getElem_toArray, List.getElem_cons_succ, List.getElem_cons_zero]
    go_simp
    refine HW4.out.mono ?_
    rintro e w5 ⟨rfl, hD5, k5⟩
    replace hC := Lib.hid (hC3.out.keepX k5 (by have := hnew.out; simp; omega))
    have HS := And.intro hC.out.c1 hC.out.c2
    replace hD5 := Lib.hid hD5
    replace hBl := Lib.hid (hBl.out.keep k5 hgl.out)
    refine hK _ _ (Or.inr HS) ?_
    clear hK K HW4 k5 hD3 hC3
    try simp only [Act.put, List.getElem_toArray, List.getElem_cons_succ, List.getElem_cons_zero, List.setIfInBounds_toArray, List.set_cons_zero, List.set_cons_succ]
    refine wpAnyI_takeN (i := 7) (v := .bool false) (by kernel_rfl) rfl (by kernel_rfl) (by kernel_rfl) (by kernel_rfl) (fun _ _ _ h => h) HS (Or.inl ⟨by rfl, ?_⟩) ?_
    · (intro w hSw; obtain ⟨z1, z2⟩ := hSw; go_simp)
    try simp only [Act.put, List.getElem_toArray, List.getElem_cons_succ, List.getElem_cons_zero, List.setIfInBounds_toArray, List.set_cons_zero, List.set_cons_succ]
    refine wpAnyI_done (by kernel_rfl) ?_ _
    have hcl := hBl.out.cell
    have cc := hC.out.cc
    obtain ⟨K, hK⟩ : ∃ K : Nat, K = 3 + ar + i / 64 := ⟨_, rfl⟩
    rw [← hK] at hkm hck hg hwr
    have hKi : 3 + (ar : Int) + (i : Int) / 64 = (K : Int) := by omega
    replace hKi := Lib.hid hKi
    have HRd : Hid (Calls Try.prog 18 #[.pointer (some ⟨bd, 0, none⟩), .int .i64 (3 + (ar : Int) + (i : Int) / 64)] w5 fun e w' => e = .returned (.tuple #[.slice (some ⟨w5.heap.size, 0, none⟩) 64 64, .int .i64 0]) ∧ Blk w' w5.heap.size 75 ((sec t K).map bv).toArray ∧ Keeps [] w5 w') := Lib.hid (by
      rw [hKi.out]; exact read_ok w5 bd bs t K hD5.out hck.out (by omega))
    clear hK
    go_wp2_with fail
    refine HRd.out.mono ?_
    rintro e w6 ⟨rfl, hS6, k6⟩
    have hglt : Hid (bd < w5.heap.size ∧ bs < w5.heap.size ∧ w.heap.size < w5.heap.size) := Lib.hid ⟨hD5.out.d.lt, hD5.out.m.lt, hC.out.blk.lt⟩
    replace hC := Lib.hid (hC.out.keep_ k6)
    have hD6 := Lib.hid (hD5.out.keep k6 (by simp) (by simp))
    generalize w5.heap.size = g at *
    have hcell : w6.cell? ⟨g, i % 64, none⟩ = some (.int .u8 (c0.toNat : Int)) := by
      have := hS6.cell (i % 64)
      rw [List.getElem?_toArray, List.getElem?_map, hg.out] at this
      exact this
    have hfr := hS6.frozen
    have hxor : bits .xor .u8 (c0.toNat : Int) (b.toNat : Int) = ((c0 ^^^ b).toNat : Int) := by
      rw [u8_xor_nat _ _ (UInt8.toNat_lt c0) (UInt8.toNat_lt b), UInt8.toNat_xor]
    replace hS6 := Lib.hid hS6
    clear HRd k6 hcl hD5 cc
    go_wp2_with fail
    have k7 : Keeps [g] w6 (w6.setCell ⟨g, i % 64, none⟩ (.int .u8 ((c0.toNat ^^^ b.toNat : Nat) : Int))) := (Keeps.refl _ _).setCell (by simp) _
    have hS7 : Hid (Bts (w6.setCell ⟨g, i % 64, none⟩ (.int .u8 ((c0.toNat ^^^ b.toNat : Nat) : Int))) (some ⟨g, 0, none⟩) ((sec t K).set (i % 64) (c0 ^^^ b))) := Lib.hid (by
      have := hS6.out.set_ (i % 64) (.int .u8 ((c0.toNat ^^^ b.toNat : Nat) : Int))
      rw [show (.int .u8 ((c0.toNat ^^^ b.toNat : Nat) : Int) : Value) = bv (c0 ^^^ b) by unfold bv; rw [UInt8.toNat_xor]] at this ⊢
      rw [List.setIfInBounds_toArray, ← List.map_set] at this
      exact bts_new this)
    have hD7 := hD6.out.keep k7 (by simp; have := hglt.out; omega) (by simp; have := hglt.out; omega)
    replace hC := Lib.hid (hC.out.keepX k7 (by simp; have := hglt.out; omega))
    generalize w6.setCell ⟨g, i % 64, none⟩ (.int .u8 ((c0.toNat ^^^ b.toNat : Nat) : Int)) = w7 at *
    have hsl : (sec t K).length = 64 := by unfold sec; rw [List.length_take, List.length_drop, hh.out.len, hh.out.sz]; omega
    have HWr : Hid (Calls Try.prog 19 #[.pointer (some ⟨bd, 0, none⟩), .int .i64 (3 + (ar : Int) + (i : Int) / 64), .slice (some ⟨g, 0, none⟩) 64 64] w7 fun e w' => e = .returned (.int .i64 0) ∧ DRep w' bd bs u ∧ Keeps [bd, bs] w7 w') := Lib.hid (by
      rw [hKi.out]
      have := write_any w7 bd bs t K (some ⟨g, 0, none⟩) ((sec t K).set (i % 64) (c0 ^^^ b)) 64 64 (by rw [List.length_set]; exact hsl) hD7 hS7.out (fun _ a ha => by cases ha; have := hglt.out; show g ≠ bd; omega) (Nat.le_refl _) (by rw [htw.out]; omega) (by rw [htw.out]; subst hl; omega)
      rw [hwr.out] at this
      exact this)
    clear hsl hD7 hS7 k7 hS6 hD6 hcell hfr hxor
    refine HWr.out.mono ?_
    rintro e w8 ⟨rfl, hD8, k8⟩
    replace hC := Lib.hid (hC.out.keepX k8 (by have := hnew.out; simp; omega))
    have HR := Lib.hid (sread_to w8 bd bs u [] 0 0 17 hrd.out rfl hD8)
    clear HWr k8 hD8
    go_wp2_with fail
    refine HR.out.mono ?_
    rintro e w9 ⟨A3, c3, rfl, hb3, k9⟩
    replace hC := Lib.hid (hC.out.keep_ k9)
    clear HR k9 hb3
    go_wp2_with fail
    go_ret
    exact ⟨rfl, hC.out.keep⟩
end Go.Proofs.Ytoefbjeclghfhaa
