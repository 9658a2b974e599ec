/- The law's function do: an operation on the disk and on the reference. -/
import Derived.Test.YtoefbjeclghfhaaRef4
namespace Go.Proofs.Ytoefbjeclghfhaa
open Go.RowKit
set_option linter.unusedSimpArgs false
set_option linter.unusedVariables false

/-- An Act. -/
def actV (K : Int) (ep : Nat) (A : Option Addr) (n c : Nat) (N By : Int) : Array Value := #[.int .u8 K, .int .u32 ep, .slice A n c, .int .i64 N, .int .i64 By]

/-- The disk and the reference in one state, above block B. -/
structure Pair (w : World) (B bd bs bm bS : Nat) (s : St) : Prop where
  D : DRep w bd bs s
  M : MRep [] w bm bS s
  ld : B ≤ bd
  ls : B ≤ bs
  lm : B ≤ bm
  lS : B ≤ bS
theorem Pair.keep {w w' : World} {B bd bs bm bS : Nat} {s : St} (h : Pair w B bd bs bm bS s) (hk : Keeps [] w w') : Pair w' B bd bs bm bS s :=
  ⟨h.D.keep hk (by simp) (by simp), h.M.keep hk (by simp) (by simp) (by simp), h.ld, h.ls, h.lm, h.lS⟩
theorem Pair.lts {w : World} {B bd bs bm bS : Nat} {s : St} (h : Pair w B bd bs bm bS s) : bd < w.heap.size ∧ bs < w.heap.size ∧ bm < w.heap.size ∧ bS < w.heap.size := by
  obtain ⟨cap, cells, a1, a2, _⟩ := h.M.ex
  exact ⟨h.D.d.lt, h.D.m.lt, a1.lt, a2.lt⟩
theorem Pair.two {w : World} {B bd bs bm bS : Nat} {s : St} (h : Pair w B bd bs bm bS s) : ∀ x ∈ [bd, bs], B ≤ x ∧ x < w.heap.size := by
  intro x hx
  have := h.lts
  have := h.ld
  have := h.ls
  simp at hx
  rcases hx with rfl | rfl <;> omega

def DoPost (w : World) (B bd bs bm bS : Nat) (s : St) (e : Ending) (w' : World) : Prop := e = .returned (.bool true) ∧ Pair w' B bd bs bm bS s ∧ Keeps [bd, bs, bm, bS] w w'
theorem keeps4 {w w1 w2 : World} {bd bs bm bS : Nat} (h : Keeps [bd, bs] w w1) (k : Keeps [bm, bS] w1 w2) : Keeps [bd, bs, bm, bS] w w2 :=
  (h.mono (fun x hx => .inl (by simp at hx ⊢; omega))).trans (k.mono (fun x hx => .inl (by simp at hx ⊢; omega)))

/-- The Act that came in, through do: its block at the size of w0. -/
structure ActAt (w0 : World) (B : Nat) (w : World) (K : Int) (ep : Nat) (A : Option Addr) (n c : Nat) (N By : Int) (l : List UInt8) : Prop where
  blk : Blk w w0.heap.size 54 (actV K ep A n c N By)
  data : BtsB B w A l
  keep : Keeps [] w0 w
theorem ActAt.start {w : World} {B : Nat} {K : Int} {ep : Nat} {A : Option Addr} {n c : Nat} {N By : Int} {l : List UInt8} (h : BtsB B w A l) : ActAt w B (w.alloc (.cells (actV K ep A n c N By) 54)) K ep A n c N By l :=
  ⟨Blk.new _ _ _, h.keep ((Keeps.refl [] w).alloc _) (by simp), (Keeps.refl _ _).alloc _⟩
theorem ActAt.keep_ {w0 w w' : World} {B : Nat} {K : Int} {ep : Nat} {A : Option Addr} {n c : Nat} {N By : Int} {l : List UInt8} (h : ActAt w0 B w K ep A n c N By l) (k : Keeps [] w w') : ActAt w0 B w' K ep A n c N By l :=
  ⟨h.blk.keep k (by simp), h.data.keep k (by simp), h.keep.trans k⟩
theorem ActAt.cc {w0 w : World} {B : Nat} {K : Int} {ep : Nat} {A : Option Addr} {n c : Nat} {N By : Int} {l : List UInt8} (h : ActAt w0 B w K ep A n c N By l) : ∀ i, w.cell? ⟨w0.heap.size, i, none⟩ = (#[.int .u8 K, .int .u32 ep, .slice A n c, .int .i64 N, .int .i64 By] : Array Value)[i]? := h.blk.cell
theorem ActAt.c1 {w0 w : World} {B : Nat} {K : Int} {ep : Nat} {A : Option Addr} {n c : Nat} {N By : Int} {l : List UInt8} (h : ActAt w0 B w K ep A n c N By l) : w.cell? ⟨w0.heap.size, 1, none⟩ = some (.int .u32 (ep : Int)) := h.blk.cell 1
theorem ActAt.c2 {w0 w : World} {B : Nat} {K : Int} {ep : Nat} {A : Option Addr} {n c : Nat} {N By : Int} {l : List UInt8} (h : ActAt w0 B w K ep A n c N By l) : w.cell? ⟨w0.heap.size, 2, none⟩ = some (.slice A n c) := h.blk.cell 2
theorem ActAt.c3 {w0 w : World} {B : Nat} {K : Int} {ep : Nat} {A : Option Addr} {n c : Nat} {N By : Int} {l : List UInt8} (h : ActAt w0 B w K ep A n c N By l) : w.cell? ⟨w0.heap.size, 3, none⟩ = some (.int .i64 N) := h.blk.cell 3
/-- Behind a call that turned two blocks of the disk. -/
theorem act_cells {w0 w w' : World} {B : Nat} {K : Int} {ep : Nat} {A : Option Addr} {n c : Nat} {N By : Int} {l : List UInt8} {X : List Nat} (h : ActAt w0 B w K ep A n c N By l) (k : Keeps X w w') (hX : w0.heap.size ∉ X) : ∀ i, w'.cell? ⟨w0.heap.size, i, none⟩ = (#[.int .u8 K, .int .u32 ep, .slice A n c, .int .i64 N, .int .i64 By] : Array Value)[i]? := (h.blk.keep k hX).cell

set_option maxHeartbeats 1600000 in
set_option maxRecDepth 100000 in
theorem do_write (w : World) (B bd bs bm bS : Nat) (s : St) (ep : Nat) (A : Option Addr) (n c : Nat) (N By : Int) (l : List UInt8) (hP : Pair w B bd bs bm bS s) (hB : BtsB B w A l) (hl : l.length = n) (hn : n ≤ 600) (hnc : n ≤ c) (hcm : c ≤ maxLen) (hep : ep < 4294967296)
    (hN : -9223372036854775808 ≤ N ∧ N ≤ 9223372036854775807) (hw0 : 0 ≤ s.writes) (hw : s.writes ≤ 800000) :
    Calls Try.prog 26 #[.pointer (some ⟨bd, 0, none⟩), .pointer (some ⟨bm, 0, none⟩), .agg (actV 0 ep A n c N By)] w (DoPost w B bd bs bm bS ((swrite s ep l).1)) := by
  have hA := Lib.hid (ActAt.start (K := 0) (ep := ep) (n := n) (c := c) (N := N) (By := By) hB)
  have cc := hA.out.cc
  have hP1 := Lib.hid (hP.keep hA.out.keep)
  have hbl := Lib.hid (show w.heap.size ∉ [bd, bs, bm, bS] by have := hP.lts; simp; omega)
  replace hcm := Lib.hid hcm
  clear hB hP
  go_enter Try.func26, Try.ntmps26
  go_wp2_with fail
  generalize w.alloc (.cells (actV 0 ep A n c N By) 54) = wA at *
  have hAd : Hid (ActAt w B wA.drew 0 ep A n c N By l) := Lib.hid (hA.out.keep_ ((Keeps.refl [] wA).drew))
  have hPd : Hid (Pair wA.drew B bd bs bm bS s) := Lib.hid (hP1.out.keep ((Keeps.refl [] wA).drew))
  obtain ⟨u, x, hq0⟩ : ∃ u x, swrite s ep l = (u, x) := ⟨_, _, rfl⟩
  have hq := Lib.hid hq0
  have HCp : Hid (Calls Try.prog 17 #[.slice A n c] wA.drew (CpPost wA.drew n l)) := Lib.hid (cp_any wA.drew A l n c hAd.out.data.bts hl hn)
  have HW : Hid (∀ (w1 : World) (A : Option Addr) (c : Nat), w1.ownsRow wA.drew.heap.size 5 1 (.slice A n c) n (l.map bv) → Keeps [] wA.drew w1 → Calls Try.prog 16 #[.pointer (some ⟨bd, 0, none⟩), .int .u32 ep, .slice A n c] w1 fun e w' => e = .returned (.int .i64 x) ∧ DRep w' bd bs u ∧ Keeps [bd, bs] wA.drew w') :=
    Lib.hid (fun w1 A c ho hk => swrite_own wA.drew bd bs s u x ep l n hq.out hep hw0 (by omega) w1 A c ho hk hPd.out.D)
  have HAB : Hid (l ≠ [] → ∀ a, A = some a → a.block ≠ bm ∧ a.block ≠ bS) := Lib.hid (fun h0 a ha => by have h1 := hA.out.data.low h0 a ha; have h2 := hP1.out.lm; have h3 := hP1.out.lS; omega)
  have h0 := And.intro hAd.out.c1 hAd.out.c2
  clear cc hP1 hq0
  refine wp_region_I (S := (fun w' : World => w'.cell? ⟨w.heap.size, 1, none⟩ = some (.int .u32 (ep : Int)) ∧ w'.cell? ⟨w.heap.size, 2, none⟩ = some (.slice A n c))) (n := 15) (by kernel_rfl) ?_
  generalize wA.drew = wB at *
  have HS := h0
  clear h0
  refine wpAnyI_takeN (i := 0) (v := ?_) (by kernel_rfl) rfl (by kernel_rfl) (by kernel_rfl) (by kernel_rfl) (fun _ _ _ h => h) HS (Or.inl ⟨by rfl, ?_⟩) ?_
  rotate_left
  · (intro w hSw; obtain ⟨z1, z2⟩ := hSw; go_simp; try with_reducible rfl)
  try simp only [Act.put, List.getElem_toArray, List.getElem_cons_succ, List.getElem_cons_zero, List.setIfInBounds_toArray, List.set_cons_zero, List.set_cons_succ]
  refine wpAnyI_takeN (i := 1) (v := ?_) (by kernel_rfl) rfl (by kernel_rfl) (by kernel_rfl) (by kernel_rfl) (fun _ _ _ h => h) HS (Or.inl ⟨by rfl, ?_⟩) ?_
  rotate_left
  · (intro w hSw; obtain ⟨z1, z2⟩ := hSw; go_simp; try with_reducible rfl)
  try simp only [Act.put, List.getElem_toArray, List.getElem_cons_succ, List.getElem_cons_zero, List.setIfInBounds_toArray, List.set_cons_zero, List.set_cons_succ]
  refine wpAnyI_takeN (i := 2) (v := ?_) (by kernel_rfl) rfl (by kernel_rfl) (by kernel_rfl) (by kernel_rfl) (fun _ _ _ h => h) HS (Or.inl ⟨by rfl, ?_⟩) ?_
  rotate_left
  · (intro w hSw; obtain ⟨z1, z2⟩ := hSw; go_simp; try with_reducible rfl)
  try simp only [Act.put, List.getElem_toArray, List.getElem_cons_succ, List.getElem_cons_zero, List.setIfInBounds_toArray, List.set_cons_zero, List.set_cons_succ]
  refine wpAnyI_takeN (i := 3) (v := ?_) (by kernel_rfl) rfl (by kernel_rfl) (by kernel_rfl) (by kernel_rfl) (fun _ _ _ h => h) HS (Or.inl ⟨by rfl, ?_⟩) ?_
  rotate_left
  · (intro w hSw; obtain ⟨z1, z2⟩ := hSw; go_simp; try with_reducible rfl)
  try simp only [Act.put, List.getElem_toArray, List.getElem_cons_succ, List.getElem_cons_zero, List.setIfInBounds_toArray, List.set_cons_zero, List.set_cons_succ]
  refine wpAnyI_takeN (i := 4) (v := ?_) (by kernel_rfl) rfl (by kernel_rfl) (by kernel_rfl) (by kernel_rfl) (fun _ _ _ h => h) HS (Or.inl ⟨by rfl, ?_⟩) ?_
  rotate_left
  · (intro w hSw; obtain ⟨z1, z2⟩ := hSw; go_simp; try with_reducible rfl)
  try simp only [Act.put, List.getElem_toArray, List.getElem_cons_succ, List.getElem_cons_zero, List.setIfInBounds_toArray, List.set_cons_zero, List.set_cons_succ]
  refine wpAnyI_takeN (i := 7) (v := ?_) (by kernel_rfl) rfl (by kernel_rfl) (by kernel_rfl) (by kernel_rfl) (fun _ _ _ h => h) HS (Or.inl ⟨by rfl, ?_⟩) ?_
  rotate_left
  · (intro w hSw; obtain ⟨z1, z2⟩ := hSw; go_simp; try with_reducible rfl)
  try simp only [Act.put, List.getElem_toArray, List.getElem_cons_succ, List.getElem_cons_zero, List.setIfInBounds_toArray, List.set_cons_zero, List.set_cons_succ]
  refine wpAnyI_takeN (i := 8) (v := ?_) (by kernel_rfl) rfl (by kernel_rfl) (by kernel_rfl) (by kernel_rfl) (fun _ _ _ h => h) HS (Or.inl ⟨by rfl, ?_⟩) ?_
  rotate_left
  · (intro w hSw; obtain ⟨z1, z2⟩ := hSw; go_simp; try with_reducible rfl)
  try simp only [Act.put, List.getElem_toArray, List.getElem_cons_succ, List.getElem_cons_zero, List.setIfInBounds_toArray, List.set_cons_zero, List.set_cons_succ]
  refine wpAnyI_takeN (i := 9) (v := ?_) (by kernel_rfl) rfl (by kernel_rfl) (by kernel_rfl) (by kernel_rfl) (fun _ _ _ h => h) HS (Or.inl ⟨by rfl, ?_⟩) ?_
  rotate_left
  · (intro w hSw; obtain ⟨z1, z2⟩ := hSw; go_simp; try with_reducible rfl)
  try simp only [Act.put, List.getElem_toArray, List.getElem_cons_succ, List.getElem_cons_zero, List.setIfInBounds_toArray, List.set_cons_zero, List.set_cons_succ]
  refine wpAnyI_takeN (i := 10) (v := ?_) (by kernel_rfl) rfl (by kernel_rfl) (by kernel_rfl) (by kernel_rfl) (fun _ _ _ h => h) HS (Or.inl ⟨by rfl, ?_⟩) ?_
  rotate_left
  · (intro w hSw; obtain ⟨z1, z2⟩ := hSw; go_simp; try with_reducible rfl)
  try simp only [Act.put, List.getElem_toArray, List.getElem_cons_succ, List.getElem_cons_zero, List.setIfInBounds_toArray, List.set_cons_zero, List.set_cons_succ]
  refine wpAnyI_takeN (i := 11) (v := ?_) (by kernel_rfl) rfl (by kernel_rfl) (by kernel_rfl) (by kernel_rfl) (fun _ _ _ h => h) HS (Or.inl ⟨by rfl, ?_⟩) ?_
  rotate_left
  · (intro w hSw; obtain ⟨z1, z2⟩ := hSw; go_simp; try with_reducible rfl)
  try simp only [Act.put, List.getElem_toArray, List.getElem_cons_succ, List.getElem_cons_zero, List.setIfInBounds_toArray, List.set_cons_zero, List.set_cons_succ]
  refine wpAnyI_one (i := 5) rfl (by kernel_rfl) (fun K hK => ?_)
  dsimp only [List.getElem_toArray, List.getElem_cons_succ, List.getElem_cons_zero]
  go_simp
  refine HCp.out.mono ?_
  rintro e w4 ⟨A1, c1, rfl, o1, k4⟩
  have HS : w4.cell? ⟨w.heap.size, 1, none⟩ = some (.int .u32 (ep : Int)) ∧ w4.cell? ⟨w.heap.size, 2, none⟩ = some (.slice A n c) := ⟨k4.cellEq HS.1 (by simp), k4.cellEq HS.2 (by simp)⟩
  have HW4 := Lib.hid (HW.out w4 A1 c1 o1 k4)
  refine hK _ _ (Or.inr HS) ?_
  clear hK K HW HCp o1 k4
  try simp only [Act.put, List.getElem_toArray, List.getElem_cons_succ, List.getElem_cons_zero, List.setIfInBounds_toArray, List.set_cons_zero, List.set_cons_succ]
  refine wpAnyI_one (i := 6) rfl (by kernel_rfl) (fun K hK => ?_)
  dsimp only [List.getElem_toArray, List.getElem_cons_succ, List.getElem_cons_zero]
  go_simp
  refine HW4.out.mono ?_
  rintro e w5 ⟨rfl, hD5, k5⟩
  have hM5 := Lib.hid (hPd.out.M.keepD hPd.out.D k5)
  have HS : w5.cell? ⟨w.heap.size, 1, none⟩ = some (.int .u32 (ep : Int)) ∧ w5.cell? ⟨w.heap.size, 2, none⟩ = some (.slice A n c) := ⟨k5.cellEq hAd.out.c1 (by have := hbl.out; simp at this ⊢; omega), k5.cellEq hAd.out.c2 (by have := hbl.out; simp at this ⊢; omega)⟩
  have hB5 := Lib.hid (hAd.out.data.keep k5 (by have := hPd.out; intro x hx; simp at hx; rcases hx with rfl | rfl; exact this.ld; exact this.ls))
  have HR5 := Lib.hid (rswrite_any w5 bm bS s ep A l n c hM5.out hB5.out.bts hl hnc hcm.out hep HAB.out hw0 (by omega))
  rw [hq.out] at HR5
  replace hD5 := Lib.hid hD5
  refine hK _ _ (Or.inr HS) ?_
  clear hK K HW4 hB5
  try simp only [Act.put, List.getElem_toArray, List.getElem_cons_succ, List.getElem_cons_zero, List.setIfInBounds_toArray, List.set_cons_zero, List.set_cons_succ]
  refine wpAnyI_one (i := 12) rfl (by kernel_rfl) (fun K hK => ?_)
  dsimp only [List.getElem_toArray, List.getElem_cons_succ, List.getElem_cons_zero]
  go_simp
  refine HR5.out.mono ?_
  rintro e w6 ⟨rfl, hM6, k6⟩
  have hD6 := Lib.hid (hD5.out.keepM hM5.out k6)
  have HS : w6.cell? ⟨w.heap.size, 1, none⟩ = some (.int .u32 (ep : Int)) ∧ w6.cell? ⟨w.heap.size, 2, none⟩ = some (.slice A n c) := ⟨k6.cellEq HS.1 (by have := hbl.out; simp at this ⊢; omega), k6.cellEq HS.2 (by have := hbl.out; simp at this ⊢; omega)⟩
  have KK6 := Lib.hid (keeps4 k5 k6)
  replace hM6 := Lib.hid hM6
  refine hK _ _ (Or.inr HS) ?_
  clear hK K HR5 hM5 hD5 k5 k6
  try simp only [Act.put, List.getElem_toArray, List.getElem_cons_succ, List.getElem_cons_zero, List.setIfInBounds_toArray, List.set_cons_zero, List.set_cons_succ]
  refine wpAnyI_takeN (i := 13) (v := .bool true) (by kernel_rfl) rfl (by kernel_rfl) (by kernel_rfl) (by kernel_rfl) (fun _ _ _ h => h) HS (Or.inl ⟨by rfl, ?_⟩) ?_
  · (intro w hSw; obtain ⟨z1, z2⟩ := hSw; go_simp)
  try simp only [Act.put, List.getElem_toArray, List.getElem_cons_succ, List.getElem_cons_zero, List.setIfInBounds_toArray, List.set_cons_zero, List.set_cons_succ]
  refine wpAnyI_takeN (i := 14) (v := ?_) (by kernel_rfl) rfl (by kernel_rfl) (by kernel_rfl) (by kernel_rfl) (fun _ _ _ h => h) HS (Or.inl ⟨by rfl, ?_⟩) ?_
  rotate_left
  · (intro w hSw; obtain ⟨z1, z2⟩ := hSw; go_simp; try with_reducible rfl)
  try simp only [Act.put, List.getElem_toArray, List.getElem_cons_succ, List.getElem_cons_zero, List.setIfInBounds_toArray, List.set_cons_zero, List.set_cons_succ]
  refine wpAnyI_done (by kernel_rfl) ?_ _

  go_wp2_with fail
  go_ret
  exact ⟨rfl, by rw [hq.out]; exact ⟨hD6.out, hM6.out, hPd.out.ld, hPd.out.ls, hPd.out.lm, hPd.out.lS⟩, hAd.out.keep.nil.trans KK6.out⟩

set_option maxHeartbeats 1600000 in
set_option maxRecDepth 100000 in
theorem do_arm (w : World) (B bd bs bm bS : Nat) (s : St) (ep : Nat) (A : Option Addr) (n c : Nat) (N By : Int) (l : List UInt8) (hP : Pair w B bd bs bm bS s) (hB : BtsB B w A l) (hl : l.length = n) (hn : n ≤ 600) (hnc : n ≤ c) (hcm : c ≤ maxLen) (hep : ep < 4294967296)
    (hN : -9223372036854775808 ≤ N ∧ N ≤ 9223372036854775807) (hw0 : 0 ≤ s.writes) (hw : s.writes ≤ 800000) :
    Calls Try.prog 26 #[.pointer (some ⟨bd, 0, none⟩), .pointer (some ⟨bm, 0, none⟩), .agg (actV 1 ep A n c N By)] w (DoPost w B bd bs bm bS (arm s N By)) := by
  have hA := Lib.hid (ActAt.start (K := 1) (ep := ep) (n := n) (c := c) (N := N) (By := By) hB)
  have cc := hA.out.cc
  have hP1 := Lib.hid (hP.keep hA.out.keep)
  have hbl := Lib.hid (show w.heap.size ∉ [bd, bs, bm, bS] by have := hP.lts; simp; omega)
  replace hcm := Lib.hid hcm
  clear hB hP
  go_enter Try.func26, Try.ntmps26
  go_wp2_with fail
  generalize w.alloc (.cells (actV 1 ep A n c N By) 54) = wA at *
  have HArm := Lib.hid (arm_any wA bd bs s N By hP1.out.D hN.2)
  refine HArm.out.mono ?_
  rintro e w1 ⟨rfl, hD1, k1⟩
  have k1' : Keeps [bd, bs] wA w1 := k1.mono (fun x hx => .inl (by simp at hx; simp [hx]))
  have hM1 := hP1.out.M.keepD hP1.out.D k1'
  have HR := Lib.hid (rarm_any w1 bm bS s N By hM1 hN.2)
  replace cc := act_cells hA.out k1' (by have := hbl.out; simp at this ⊢; omega)
  have hM1h := Lib.hid hM1
  replace hD1 := Lib.hid hD1
  replace k1' := Lib.hid k1'
  clear HArm k1 hM1
  go_wp2_with fail
  refine HR.out.mono ?_
  rintro e w2 ⟨rfl, hM2, k2⟩
  have k2' : Keeps [bm, bS] w1 w2 := k2.mono (fun x hx => .inl (by simp at hx; simp [hx]))
  have hD2 := Lib.hid (hD1.out.keepM hM1h.out k2')
  have K2 := Lib.hid (keeps4 k1'.out k2')
  replace hM2 := Lib.hid hM2
  clear HR k2 k2' cc
  go_wp2_with fail
  go_ret
  exact ⟨rfl, ⟨hD2.out, hM2.out, hP1.out.ld, hP1.out.ls, hP1.out.lm, hP1.out.lS⟩, hA.out.keep.nil.trans K2.out⟩

set_option maxHeartbeats 1600000 in
set_option maxRecDepth 100000 in
theorem do_fail (w : World) (B bd bs bm bS : Nat) (s : St) (ep : Nat) (A : Option Addr) (n c : Nat) (N By : Int) (l : List UInt8) (hP : Pair w B bd bs bm bS s) (hB : BtsB B w A l) (hl : l.length = n) (hn : n ≤ 600) (hnc : n ≤ c) (hcm : c ≤ maxLen) (hep : ep < 4294967296)
    (hN : -9223372036854775808 ≤ N ∧ N ≤ 9223372036854775807) (hw0 : 0 ≤ s.writes) (hw : s.writes ≤ 800000) :
    Calls Try.prog 26 #[.pointer (some ⟨bd, 0, none⟩), .pointer (some ⟨bm, 0, none⟩), .agg (actV 2 ep A n c N By)] w (DoPost w B bd bs bm bS (fail s)) := by
  have hA := Lib.hid (ActAt.start (K := 2) (ep := ep) (n := n) (c := c) (N := N) (By := By) hB)
  have cc := hA.out.cc
  have hP1 := Lib.hid (hP.keep hA.out.keep)
  have hbl := Lib.hid (show w.heap.size ∉ [bd, bs, bm, bS] by have := hP.lts; simp; omega)
  replace hcm := Lib.hid hcm
  clear hB hP
  go_enter Try.func26, Try.ntmps26
  go_wp2_with fail
  generalize w.alloc (.cells (actV 2 ep A n c N By) 54) = wA at *
  have HArm := Lib.hid (fail_any wA bd bs s hP1.out.D)
  refine HArm.out.mono ?_
  rintro e w1 ⟨rfl, hD1, k1⟩
  have k1' : Keeps [bd, bs] wA w1 := k1.mono (fun x hx => .inl (by simp at hx; simp [hx]))
  have hM1 := hP1.out.M.keepD hP1.out.D k1'
  have HR := Lib.hid (rfail_any w1 bm bS s hM1)
  replace cc := act_cells hA.out k1' (by have := hbl.out; simp at this ⊢; omega)
  have hM1h := Lib.hid hM1
  replace hD1 := Lib.hid hD1
  replace k1' := Lib.hid k1'
  clear HArm k1 hM1
  go_wp2_with fail
  refine HR.out.mono ?_
  rintro e w2 ⟨rfl, hM2, k2⟩
  have k2' : Keeps [bm, bS] w1 w2 := k2.mono (fun x hx => .inl (by simp at hx; simp [hx]))
  have hD2 := Lib.hid (hD1.out.keepM hM1h.out k2')
  have K2 := Lib.hid (keeps4 k1'.out k2')
  replace hM2 := Lib.hid hM2
  clear HR k2 k2' cc
  go_wp2_with fail
  go_ret
  exact ⟨rfl, ⟨hD2.out, hM2.out, hP1.out.ld, hP1.out.ls, hP1.out.lm, hP1.out.lS⟩, hA.out.keep.nil.trans K2.out⟩

set_option maxHeartbeats 1600000 in
set_option maxRecDepth 100000 in
theorem do_restart (w : World) (B bd bs bm bS : Nat) (s : St) (ep : Nat) (A : Option Addr) (n c : Nat) (N By : Int) (l : List UInt8) (hP : Pair w B bd bs bm bS s) (hB : BtsB B w A l) (hl : l.length = n) (hn : n ≤ 600) (hnc : n ≤ c) (hcm : c ≤ maxLen) (hep : ep < 4294967296)
    (hN : -9223372036854775808 ≤ N ∧ N ≤ 9223372036854775807) (hw0 : 0 ≤ s.writes) (hw : s.writes ≤ 800000) :
    Calls Try.prog 26 #[.pointer (some ⟨bd, 0, none⟩), .pointer (some ⟨bm, 0, none⟩), .agg (actV 3 ep A n c N By)] w (DoPost w B bd bs bm bS (restart s)) := by
  have hA := Lib.hid (ActAt.start (K := 3) (ep := ep) (n := n) (c := c) (N := N) (By := By) hB)
  have cc := hA.out.cc
  have hP1 := Lib.hid (hP.keep hA.out.keep)
  have hbl := Lib.hid (show w.heap.size ∉ [bd, bs, bm, bS] by have := hP.lts; simp; omega)
  replace hcm := Lib.hid hcm
  clear hB hP
  go_enter Try.func26, Try.ntmps26
  go_wp2_with fail
  generalize w.alloc (.cells (actV 3 ep A n c N By) 54) = wA at *
  have HArm := Lib.hid (restart_any wA bd bs s hP1.out.D)
  refine HArm.out.mono ?_
  rintro e w1 ⟨rfl, hD1, k1⟩
  have k1' : Keeps [bd, bs] wA w1 := k1.mono (fun x hx => .inl (by simp at hx; simp [hx]))
  have hM1 := hP1.out.M.keepD hP1.out.D k1'
  have HR := Lib.hid (rrestart_any w1 bm bS s hM1)
  replace cc := act_cells hA.out k1' (by have := hbl.out; simp at this ⊢; omega)
  have hM1h := Lib.hid hM1
  replace hD1 := Lib.hid hD1
  replace k1' := Lib.hid k1'
  clear HArm k1 hM1
  go_wp2_with fail
  refine HR.out.mono ?_
  rintro e w2 ⟨rfl, hM2, k2⟩
  have k2' : Keeps [bm, bS] w1 w2 := k2.mono (fun x hx => .inl (by simp at hx; simp [hx]))
  have hD2 := Lib.hid (hD1.out.keepM hM1h.out k2')
  have K2 := Lib.hid (keeps4 k1'.out k2')
  replace hM2 := Lib.hid hM2
  clear HR k2 k2' cc
  go_wp2_with fail
  go_ret
  exact ⟨rfl, ⟨hD2.out, hM2.out, hP1.out.ld, hP1.out.ls, hP1.out.lm, hP1.out.lS⟩, hA.out.keep.nil.trans K2.out⟩

set_option maxHeartbeats 1600000 in
set_option maxRecDepth 100000 in
theorem do_sector (w : World) (B bd bs bm bS : Nat) (s : St) (ep : Nat) (A : Option Addr) (n c : Nat) (N By : Int) (l : List UInt8) (hP : Pair w B bd bs bm bS s) (hB : BtsB B w A l) (hl : l.length = n) (hn : n ≤ 600) (hnc : n ≤ c) (hcm : c ≤ maxLen) (hep : ep < 4294967296)
    (hN : -9223372036854775808 ≤ N ∧ N ≤ 9223372036854775807) (hw0 : 0 ≤ s.writes) (hw : s.writes ≤ 800000) :
    Calls Try.prog 26 #[.pointer (some ⟨bd, 0, none⟩), .pointer (some ⟨bm, 0, none⟩), .agg (actV 4 ep A n c N By)] w (DoPost w B bd bs bm bS ((wr s N (pad (l.take 64))).1)) := by
  have hA := Lib.hid (ActAt.start (K := 4) (ep := ep) (n := n) (c := c) (N := N) (By := By) hB)
  have cc := hA.out.cc
  replace hP := hP
  have hP1 := Lib.hid (hP.keep hA.out.keep)
  have hbl := Lib.hid (show w.heap.size ∉ [bd, bs, bm, bS] by have := hP.lts; simp; omega)
  replace hcm := Lib.hid hcm
  clear hB
  have hi5 := Lib.hid info5
  have hzm : Hid (madeCells (Value.cells (.int .u8 0)) (64 * 1) = ((List.replicate 64 (0 : UInt8)).map bv).toArray) := Lib.hid (by
    rw [show (Value.int IntKind.u8 0).cells = Array.replicate 1 (bv 0) from rfl, madeCells_same 1 64 (bv 0) (by decide), ← List.map_replicate])
  have hbA := Lib.hid hA.out.data.bts
  have hsz : Hid ((w.alloc (.cells (actV 4 ep A n c N By) 54)).heap.size = w.heap.size + 1) := Lib.hid (by simp)
  go_enter Try.func26, Try.ntmps26
  go_wp2_with (first
    | (refine wpList_make rfl 35 (.const (.int .i64 64)) (.const (.int .i64 64)) rfl 5 (.int .u8 0) 1 1 Try.underlying35 hi5.out .i64 .i64 64 64 rfl rfl ?_ ?_ ?_ ?_; omega; omega; omega; intro x1 m1 y1 z1; have cc := (hA.out.keep_ y1).cc; have m2 : Hid (Blk x1 (w.heap.size + 1) 5 ((List.replicate 64 (0 : UInt8)).map bv).toArray) := Lib.hid (by have h := m1.out; rw [hzm.out, hsz.out] at h; exact h); have hb2 := Lib.hid (hA.out.keep_ y1); have hP2 := Lib.hid (hP1.out.keep y1); clear m1 z1; replace y1 := Lib.hid y1)
    | (refine wpList_copy_bts rfl (.tmp 61) (.tmp 63) 35 35 rfl 5 Try.underlying35 (by kernel_rfl) (w.heap.size + 1) 0 64 64 A l n c rfl rfl hl hb2.out.data.bts (List.replicate 64 0) 5 m2.out (by simp) ?_; intro wC m3 y3; replace m3 := Lib.hid m3.out; replace y3 := Lib.hid y3))
  obtain ⟨gb, hgb0⟩ : ∃ g, g = w.heap.size + 1 := ⟨_, rfl⟩
  rw [← hgb0] at m3 y3
  have hgb : Hid (gb ∉ [bd, bs, bm, bS] ∧ w.heap.size < gb) := Lib.hid (by
    have h1 := hP.lts
    rw [hgb0]
    simp
    omega)
  rw [← hgb0]
  have hpl : Hid ((pad (l.take 64)).length = 64) := Lib.hid (pad_len (by rw [List.length_take]; omega))
  have hsp : splice (List.replicate 64 (0 : UInt8)) 0 (l.take 64) = pad (l.take 64) := by
    unfold splice pad
    rw [List.take_zero, List.nil_append, Nat.zero_add, List.drop_replicate]
  rw [hsp] at m3
  have K3 : Hid (Keeps [] w wC) := Lib.hid ((hb2.out.keep.nil.trans y3.out).mono (fun x hx => .inr (by have := hgb.out; simp at hx; omega)))
  have hPd : Hid (Pair wC.drew B bd bs bm bS s) := Lib.hid ((hP.keep K3.out).keep ((Keeps.refl [] wC).drew))
  have hbd : Hid (Bts wC.drew (some ⟨gb, 0, none⟩) (pad (l.take 64))) := Lib.hid (bts_new m3.out)
  have h0 : wC.drew.cell? ⟨w.heap.size, 3, none⟩ = some (.int .i64 N) := y3.out.cellEq hb2.out.c3 (by have := hgb.out; simp; omega)
  obtain ⟨u, x, hq0⟩ : ∃ u x, wr s N (pad (l.take 64)) = (u, x) := ⟨_, _, rfl⟩
  have hq := Lib.hid hq0
  have HW := write_any wC.drew bd bs s N (some ⟨gb, 0, none⟩) (pad (l.take 64)) 64 64 hpl.out hPd.out.D hbd.out (fun _ a ha => by cases ha; have := hgb.out; simp at this ⊢; omega) (Nat.le_refl _) hw0 (by omega)
  rw [hq0] at HW
  replace HW := Lib.hid HW
  have K4 := Lib.hid (K3.out.drew)
  clear hq0 hsp m3 y3 hb2 hP2 m2 cc hgb0 hP1
  refine wp_region_I (S := (fun w' : World => w'.cell? ⟨w.heap.size, 3, none⟩ = some (.int .i64 N))) (n := 12) (by kernel_rfl) ?_
  generalize wC.drew = wD at *
  have HS := h0
  clear h0
  refine wpAnyI_takeN (i := 0) (v := ?_) (by kernel_rfl) rfl (by kernel_rfl) (by kernel_rfl) (by kernel_rfl) (fun _ _ _ h => h) HS (Or.inl ⟨by rfl, ?_⟩) ?_
  rotate_left
  · (intro w hSw; obtain z1 := hSw; go_simp; try with_reducible rfl)
  try simp only [Act.put, List.getElem_toArray, List.getElem_cons_succ, List.getElem_cons_zero, List.setIfInBounds_toArray, List.set_cons_zero, List.set_cons_succ]
  refine wpAnyI_takeN (i := 1) (v := ?_) (by kernel_rfl) rfl (by kernel_rfl) (by kernel_rfl) (by kernel_rfl) (fun _ _ _ h => h) HS (Or.inl ⟨by rfl, ?_⟩) ?_
  rotate_left
  · (intro w hSw; obtain z1 := hSw; go_simp; try with_reducible rfl)
  try simp only [Act.put, List.getElem_toArray, List.getElem_cons_succ, List.getElem_cons_zero, List.setIfInBounds_toArray, List.set_cons_zero, List.set_cons_succ]
  refine wpAnyI_takeN (i := 2) (v := ?_) (by kernel_rfl) rfl (by kernel_rfl) (by kernel_rfl) (by kernel_rfl) (fun _ _ _ h => h) HS (Or.inl ⟨by rfl, ?_⟩) ?_
  rotate_left
  · (intro w hSw; obtain z1 := hSw; go_simp; try with_reducible rfl)
  try simp only [Act.put, List.getElem_toArray, List.getElem_cons_succ, List.getElem_cons_zero, List.setIfInBounds_toArray, List.set_cons_zero, List.set_cons_succ]
  refine wpAnyI_takeN (i := 3) (v := ?_) (by kernel_rfl) rfl (by kernel_rfl) (by kernel_rfl) (by kernel_rfl) (fun _ _ _ h => h) HS (Or.inl ⟨by rfl, ?_⟩) ?_
  rotate_left
  · (intro w hSw; obtain z1 := hSw; go_simp; try with_reducible rfl)
  try simp only [Act.put, List.getElem_toArray, List.getElem_cons_succ, List.getElem_cons_zero, List.setIfInBounds_toArray, List.set_cons_zero, List.set_cons_succ]
  refine wpAnyI_takeN (i := 5) (v := ?_) (by kernel_rfl) rfl (by kernel_rfl) (by kernel_rfl) (by kernel_rfl) (fun _ _ _ h => h) HS (Or.inl ⟨by rfl, ?_⟩) ?_
  rotate_left
  · (intro w hSw; obtain z1 := hSw; go_simp; try with_reducible rfl)
  try simp only [Act.put, List.getElem_toArray, List.getElem_cons_succ, List.getElem_cons_zero, List.setIfInBounds_toArray, List.set_cons_zero, List.set_cons_succ]
  refine wpAnyI_takeN (i := 6) (v := ?_) (by kernel_rfl) rfl (by kernel_rfl) (by kernel_rfl) (by kernel_rfl) (fun _ _ _ h => h) HS (Or.inl ⟨by rfl, ?_⟩) ?_
  rotate_left
  · (intro w hSw; obtain z1 := hSw; go_simp; try with_reducible rfl)
  try simp only [Act.put, List.getElem_toArray, List.getElem_cons_succ, List.getElem_cons_zero, List.setIfInBounds_toArray, List.set_cons_zero, List.set_cons_succ]
  refine wpAnyI_takeN (i := 7) (v := ?_) (by kernel_rfl) rfl (by kernel_rfl) (by kernel_rfl) (by kernel_rfl) (fun _ _ _ h => h) HS (Or.inl ⟨by rfl, ?_⟩) ?_
  rotate_left
  · (intro w hSw; obtain z1 := hSw; go_simp; try with_reducible rfl)
  try simp only [Act.put, List.getElem_toArray, List.getElem_cons_succ, List.getElem_cons_zero, List.setIfInBounds_toArray, List.set_cons_zero, List.set_cons_succ]
  refine wpAnyI_takeN (i := 8) (v := ?_) (by kernel_rfl) rfl (by kernel_rfl) (by kernel_rfl) (by kernel_rfl) (fun _ _ _ h => h) HS (Or.inl ⟨by rfl, ?_⟩) ?_
  rotate_left
  · (intro w hSw; obtain z1 := hSw; go_simp; try with_reducible rfl)
  try simp only [Act.put, List.getElem_toArray, List.getElem_cons_succ, List.getElem_cons_zero, List.setIfInBounds_toArray, List.set_cons_zero, List.set_cons_succ]
  refine wpAnyI_one (i := 4) rfl (by kernel_rfl) (fun K hK => ?_)
  dsimp only [List.getElem_toArray, List.getElem_cons_succ, List.getElem_cons_zero]
  go_simp
  refine HW.out.mono ?_
  rintro e w5 ⟨rfl, hD5, k5⟩
  have hM5 := Lib.hid (hPd.out.M.keepD hPd.out.D k5)
  have HS : w5.cell? ⟨w.heap.size, 3, none⟩ = some (.int .i64 N) := k5.cellEq HS (by have := hbl.out; simp at this ⊢; omega)
  have hb5 : Hid (Bts w5 (some ⟨gb, 0, none⟩) (pad (l.take 64))) := Lib.hid (hbd.out.keep k5 (by intro a ha; cases ha; have := hgb.out; simp at this ⊢; omega))
  have HR5 := Lib.hid (rwrite_any w5 bm bS s N (some ⟨gb, 0, none⟩) (pad (l.take 64)) 64 64 hpl.out hM5.out hb5.out (fun _ a ha => by cases ha; have := hgb.out; simp at this ⊢; omega) (Nat.le_refl _) hw0 (by omega) (by simp))
  rw [hq.out] at HR5
  replace hD5 := Lib.hid hD5
  refine hK _ _ (Or.inr HS) ?_
  clear hK K HW hb5
  try simp only [Act.put, List.getElem_toArray, List.getElem_cons_succ, List.getElem_cons_zero, List.setIfInBounds_toArray, List.set_cons_zero, List.set_cons_succ]
  refine wpAnyI_one (i := 9) rfl (by kernel_rfl) (fun K hK => ?_)
  dsimp only [List.getElem_toArray, List.getElem_cons_succ, List.getElem_cons_zero]
  go_simp
  refine HR5.out.mono ?_
  rintro e w6 ⟨rfl, hM6, k6⟩
  have hD6 := Lib.hid (hD5.out.keepM hM5.out k6)
  have HS : w6.cell? ⟨w.heap.size, 3, none⟩ = some (.int .i64 N) := k6.cellEq HS (by have := hbl.out; simp at this ⊢; omega)
  have KK6 := Lib.hid (keeps4 k5 k6)
  replace hM6 := Lib.hid hM6
  refine hK _ _ (Or.inr HS) ?_
  clear hK K HR5 hM5 hD5 k5 k6
  try simp only [Act.put, List.getElem_toArray, List.getElem_cons_succ, List.getElem_cons_zero, List.setIfInBounds_toArray, List.set_cons_zero, List.set_cons_succ]
  refine wpAnyI_takeN (i := 10) (v := .bool true) (by kernel_rfl) rfl (by kernel_rfl) (by kernel_rfl) (by kernel_rfl) (fun _ _ _ h => h) HS (Or.inl ⟨by rfl, ?_⟩) ?_
  · (intro w hSw; obtain z1 := hSw; go_simp)
  try simp only [Act.put, List.getElem_toArray, List.getElem_cons_succ, List.getElem_cons_zero, List.setIfInBounds_toArray, List.set_cons_zero, List.set_cons_succ]
  refine wpAnyI_takeN (i := 11) (v := ?_) (by kernel_rfl) rfl (by kernel_rfl) (by kernel_rfl) (by kernel_rfl) (fun _ _ _ h => h) HS (Or.inl ⟨by rfl, ?_⟩) ?_
  rotate_left
  · (intro w hSw; obtain z1 := hSw; go_simp; try with_reducible rfl)
  try simp only [Act.put, List.getElem_toArray, List.getElem_cons_succ, List.getElem_cons_zero, List.setIfInBounds_toArray, List.set_cons_zero, List.set_cons_succ]
  refine wpAnyI_done (by kernel_rfl) ?_ _

  go_wp2_with fail
  go_ret
  exact ⟨rfl, by rw [hq.out]; exact ⟨hD6.out, hM6.out, hPd.out.ld, hPd.out.ls, hPd.out.lm, hPd.out.lS⟩, K4.out.nil.trans KK6.out⟩

set_option maxHeartbeats 1600000 in
set_option maxRecDepth 100000 in
theorem do_read (w : World) (B bd bs bm bS : Nat) (s : St) (K : Int) (ep : Nat) (A : Option Addr) (n c : Nat) (N By : Int) (l : List UInt8) (hP : Pair w B bd bs bm bS s) (hB : BtsB B w A l) (hl : l.length = n) (hn : n ≤ 600) (hnc : n ≤ c) (hcm : c ≤ maxLen) (hep : ep < 4294967296)
    (hN : -9223372036854775808 ≤ N ∧ N ≤ 9223372036854775807) (hw0 : 0 ≤ s.writes) (hw : s.writes ≤ 800000) (hK : 0 ≤ K ∧ K < 256) (k0 : (K == 0) = false) (k1 : (K == 1) = false) (k2 : (K == 2) = false) (k3 : (K == 3) = false) (k4 : (K == 4) = false) :
    Calls Try.prog 26 #[.pointer (some ⟨bd, 0, none⟩), .pointer (some ⟨bm, 0, none⟩), .agg (actV K ep A n c N By)] w (DoPost w B bd bs bm bS (s)) := by
  have hA := Lib.hid (ActAt.start (K := K) (ep := ep) (n := n) (c := c) (N := N) (By := By) hB)
  have cc := hA.out.cc
  have hP1 := Lib.hid (hP.keep hA.out.keep)
  have hbl := Lib.hid (show w.heap.size ∉ [bd, bs, bm, bS] by have := hP.lts; simp; omega)
  replace hcm := Lib.hid hcm
  clear hB hP
  go_enter Try.func26, Try.ntmps26
  go_wp2_with fail
  generalize w.alloc (.cells (actV K ep A n c N By) 54) = wA at *
  have HR := Lib.hid (sread_any wA bd bs s hP1.out.D)
  refine HR.out.mono ?_
  rintro e w1 ⟨A1, c1, rfl, o1, k1⟩
  have hP2 := Lib.hid (hP1.out.keep k1)
  have HR2 := Lib.hid (rsread_any w1 bm bS s hP2.out.M)
  have hb1 := Lib.hid (own_bts o1).1
  have K1 := Lib.hid (hA.out.keep.trans k1)
  obtain ⟨q, hqq⟩ : ∃ q, sread s = q := ⟨_, rfl⟩
  rw [hqq] at HR2 hb1 ⊢
  obtain ⟨rb, re, rx⟩ := q
  dsimp only at HR2 hb1 ⊢
  obtain ⟨rn, hrn⟩ : ∃ rn, rb.length = rn := ⟨_, rfl⟩
  rw [hrn]
  replace hrn := Lib.hid hrn
  clear HR o1 k1 hqq
  go_wp2_with fail
  refine HR2.out.mono ?_
  rintro e w2 ⟨A2, c2, rfl, o2, k2⟩
  dsimp only at o2 ⊢
  rw [hrn.out]
  have hP3 := Lib.hid (hP2.out.keep k2)
  have cv := run_convert_bts (P := Try.prog) (w := w2) 35 9 5 Try.underlying35 Try.underlying5 Try.underlying9 A1 rb rn c1 hrn.out (hb1.out.keep k2 (by simp))
  have cw := run_convert_bts (P := Try.prog) (w := w2) 35 9 5 Try.underlying35 Try.underlying5 Try.underlying9 A2 rb rn c2 hrn.out (own_bts o2).1
  have K2 := Lib.hid (K1.out.trans k2)
  clear HR2 o2 k2 cc
  go_wp2_with fail
  go_ret
  exact ⟨rfl, hP3.out, K2.out.nil⟩
end Go.Proofs.Ytoefbjeclghfhaa
