/- One operation on the disk and on the reference: the law's function do. -/
import Derived.Test.YtpjmkjcgpbpfdaaDisk8
namespace Go.Proofs.Ytpjmkjcgpbpfdaa
open Go.RowKit
set_option linter.unusedSimpArgs false

def step (s : St) (o : OpD) : St :=
  if o.kind = 0 then (wr s o.sector (pad o.data)).1 else if o.kind = 1 then s else if o.kind = 2 then arm s o.sector o.n else if o.kind = 3 then fail s else if o.kind = 4 then restart s
  else (wr s o.sector o.data).1

theorem MRep.keepD {w w' : World} {bd bs bm bS : Nat} {s t : St} (h : MRep w bm bS s) (hD : DRep w bd bs t) (hk : Keeps [bd, bs] w w') : MRep w' bm bS s := by
  obtain ⟨cap, cells, a1, a2, _⟩ := h.ex
  exact h.keep hk (by have := a1.ne_ hD.d (by decide); have := a1.ne_ hD.m (by decide); simp; omega) (by have := a2.ne_ hD.d (by decide); have := a2.ne_ hD.m (by decide); simp; omega)
    (fun g cur hg => by have := hg.ne_ hD.d (by decide); have := hg.ne_ hD.m (by decide); simp; omega)

theorem DRep.keepM {w w' : World} {bd bs bm bS : Nat} {s t : St} (hD : DRep w bd bs t) (h : MRep w bm bS s) (hk : Keeps [bm, bS] w w') : DRep w' bd bs t := by
  obtain ⟨cap, cells, a1, a2, _⟩ := h.ex
  exact hD.keep hk (by have := a1.ne_ hD.d (by decide); have := a2.ne_ hD.d (by decide); simp; omega) (by have := a1.ne_ hD.m (by decide); have := a2.ne_ hD.m (by decide); simp; omega)

/-- The disk and the reference, in one state, above block B. -/
structure Both (w : World) (B bd bs bm bS : Nat) (s : St) : Prop where
  D : DRep w bd bs s
  M : MRep w bm bS s
  ld : B ≤ bd
  ls : B ≤ bs
  lm : B ≤ bm
  lS : B ≤ bS

theorem Both.keep {w w' : World} {B bd bs bm bS : Nat} {s : St} (h : Both w B bd bs bm bS s) (hk : Keeps [] w w') : Both w' B bd bs bm bS s :=
  ⟨h.D.keep hk (by simp) (by simp), h.M.keep hk (by simp) (by simp) (by simp), h.ld, h.ls, h.lm, h.lS⟩

/-- What do leaves. -/
def Done (w : World) (B bd bs bm bS : Nat) (s : St) (e : Ending) (w' : World) : Prop :=
  e = .returned (.bool true) ∧ Both w' B bd bs bm bS s ∧ Keeps [bd, bs, bm, bS] w w'

set_option maxHeartbeats 1600000 in
theorem do_write (w : World) (B bd bs bm bS : Nat) (s : St) (sector n : Int) (A : Option Addr) (data : List UInt8) (len c : Nat) (hlen : data.length = len) (hB : Bts w A data) (hA : data ≠ [] → ∀ a, A = some a → a.block < B)
    (h : Both w B bd bs bm bS s) (hw0 : 0 ≤ s.writes) (hw : s.writes ≤ 1000000) :
    Calls Try.prog 29 #[.pointer (some ⟨bd, 0, none⟩), .pointer (some ⟨bm, 0, none⟩), .agg #[.int .i64 0, .int .i64 sector, .int .i64 n, .slice A len c]] w (Done w B bd bs bm bS (wr s sector (pad data)).1) := by
  have hne : w.heap.size ∉ [bd, bs, bm, bS] := by
    obtain ⟨cap, cells, a1, a2, _⟩ := h.M.ex
    have := h.D.d.lt
    have := h.D.m.lt
    have := a1.lt
    have := a2.lt
    simp; omega
  have Hne := Lib.hid hne
  have HA := Lib.hid hA
  have Hh := Lib.hid h
  have Hlen := Lib.hid hlen
  have HB0 := Lib.hid hB
  clear h hne hB hA hlen
  go_enter Try.func29, Try.ntmps29
  go_wp2_with fail
  obtain ⟨w0, hw0'⟩ : ∃ w0, w0 = w.alloc (.cells #[.int .i64 0, .int .i64 sector, .int .i64 n, .slice A len c] 46) := ⟨_, rfl⟩
  rw [← hw0']
  have hk0 : Keeps [] w w0.drew := by rw [hw0']; exact ((Keeps.refl _ _).alloc _).drew
  have Hk1 : Hid (Keeps [bd, bs, bm, bS] w w0) := Lib.hid (by rw [hw0']; exact (Keeps.refl _ _).alloc _)
  have hb0 : Blk w0.drew w.heap.size 46 #[.int .i64 0, .int .i64 sector, .int .i64 n, .slice A len c] := by rw [hw0']; exact (Blk.new _ _ _).drew
  have h0 := Hh.out.keep hk0
  have c1 : w0.cell? ⟨w.heap.size, 1, none⟩ = some (.int .i64 sector) := by have := hb0.cell 1; simpa using this
  have c3 : w0.cell? ⟨w.heap.size, 3, none⟩ = some (.slice A len c) := by have := hb0.cell 3; simpa using this
  have HD := Lib.hid h0.D
  have HM := Lib.hid h0.M
  have HB := Lib.hid (HB0.out.keep hk0 (by simp))
  have HK : Hid (Keeps [bd, bs, bm, bS] w0 w0.drew) := Lib.hid (Keeps.refl _ _).drew
  have Hk0 := Lib.hid hk0
  clear hw0' hk0 hb0 h0
  go_region_held3 (fun w' => w'.cell? ⟨w.heap.size, 1, none⟩ = some (.int .i64 sector) ∧ w'.cell? ⟨w.heap.size, 3, none⟩ = some (.slice A len c))
    ((refine (fun (kk : Keeps [bd, bs, bm, bS] w0 _) => ⟨kk.cellEq c1 Hne.out, kk.cellEq c3 Hne.out⟩) ?_; exact HK.out))
    (first
      | (go_at_call 14; refine (sector_any _ A data len c Hlen.out HB.out).mono ?_; rintro e w' ⟨g, rfl, hg, hgl, hk⟩; replace HD := Lib.hid (HD.out.keep hk (by simp) (by simp)); replace HM := Lib.hid (HM.out.keep hk (by simp) (by simp) (by simp)); replace HB := Lib.hid (HB.out.keep hk (by simp)); replace HK := Lib.hid (HK.out.trans hk.nil); replace hg := Lib.hid hg; clear hk)
      | (go_at_call 15; refine (write_any _ bd bs s sector (some ⟨g, 0, none⟩) (pad data) 64 64 (pad_len _) HD.out (blk_bts hg.out) (by intro _ a ha; cases ha; exact hg.out.ne_ HD.out.d (by decide)) (by omega) hw0 hw).mono ?_; rintro e w' ⟨rfl, hd, hk⟩; replace HM := Lib.hid (HM.out.keepD HD.out hk); replace HD := Lib.hid hd; replace HB := Lib.hid (HB.out.keep_of hk (by intro h0 a ha; have := HA.out h0 a ha; have := Hh.out.ld; have := Hh.out.ls; simp; omega)); replace HK := Lib.hid (HK.out.trans (hk.mono (by simp))); clear hk hd hg)
      | (go_at_call 31; refine (rwrite_any _ bm bS s sector (some ⟨g, 0, none⟩) (pad data) 64 64 (pad_len _) HM.out (blk_bts hg.out) (by intro _ a ha; cases ha; obtain ⟨_, _, a1, _⟩ := HM.out.ex; exact hg.out.ne_ a1 (by decide)) (by omega) hw0 hw).mono ?_; rintro e w' ⟨rfl, hd, hk⟩; replace HD := Lib.hid (HD.out.keepM HM.out hk); replace HM := Lib.hid hd; replace HK := Lib.hid (HK.out.trans (hk.mono (by simp))); clear hk hd hg))
  go_wp2
  go_ret
  have hh := Hh.out
  exact ⟨by simp, ⟨HD.out, HM.out, hh.ld, hh.ls, hh.lm, hh.lS⟩, Hk1.out.trans HK.out⟩

set_option maxHeartbeats 1600000 in
theorem do_raw (w : World) (B bd bs bm bS : Nat) (s : St) (kind : Int) (sector n : Int) (A : Option Addr) (data : List UInt8) (len c : Nat) (hlen : data.length = len) (hcap : len ≤ c) (hB : Bts w A data) (hA : data ≠ [] → ∀ a, A = some a → a.block < B)
    (h : Both w B bd bs bm bS s) (hw0 : 0 ≤ s.writes) (hw : s.writes ≤ 1000000) (hk : kind ≠ 0 ∧ kind ≠ 1 ∧ kind ≠ 2 ∧ kind ≠ 3 ∧ kind ≠ 4) :
    Calls Try.prog 29 #[.pointer (some ⟨bd, 0, none⟩), .pointer (some ⟨bm, 0, none⟩), .agg #[.int .i64 kind, .int .i64 sector, .int .i64 n, .slice A len c]] w (Done w B bd bs bm bS (wr s sector data).1) := by
  have hne : w.heap.size ∉ [bd, bs, bm, bS] := by
    obtain ⟨cap, cells, a1, a2, _⟩ := h.M.ex
    have := h.D.d.lt
    have := h.D.m.lt
    have := a1.lt
    have := a2.lt
    simp; omega
  have Hne := Lib.hid hne
  have HA := Lib.hid hA
  have Hh := Lib.hid h
  have Hlen := Lib.hid hlen
  have HB0 := Lib.hid hB
  have e0 : (kind == 0) = false := by simpa using hk.1
  have e1 : (kind == 1) = false := by simpa using hk.2.1
  have e2 : (kind == 2) = false := by simpa using hk.2.2.1
  have e3 : (kind == 3) = false := by simpa using hk.2.2.2.1
  have e4 : (kind == 4) = false := by simpa using hk.2.2.2.2
  clear hk
  clear h hne hB hA hlen
  go_enter Try.func29, Try.ntmps29
  go_wp2_with fail
  obtain ⟨w0, hw0'⟩ : ∃ w0, w0 = w.alloc (.cells #[.int .i64 kind, .int .i64 sector, .int .i64 n, .slice A len c] 46) := ⟨_, rfl⟩
  rw [← hw0']
  have hk0 : Keeps [] w w0.drew := by rw [hw0']; exact ((Keeps.refl _ _).alloc _).drew
  have Hk1 : Hid (Keeps [bd, bs, bm, bS] w w0) := Lib.hid (by rw [hw0']; exact (Keeps.refl _ _).alloc _)
  have hb0 : Blk w0.drew w.heap.size 46 #[.int .i64 kind, .int .i64 sector, .int .i64 n, .slice A len c] := by rw [hw0']; exact (Blk.new _ _ _).drew
  have h0 := Hh.out.keep hk0
  have c1 : w0.cell? ⟨w.heap.size, 1, none⟩ = some (.int .i64 sector) := by have := hb0.cell 1; simpa using this
  have c3 : w0.cell? ⟨w.heap.size, 3, none⟩ = some (.slice A len c) := by have := hb0.cell 3; simpa using this
  have HD := Lib.hid h0.D
  have HM := Lib.hid h0.M
  have HB := Lib.hid (HB0.out.keep hk0 (by simp))
  have HK : Hid (Keeps [bd, bs, bm, bS] w0 w0.drew) := Lib.hid (Keeps.refl _ _).drew
  have Hk0 := Lib.hid hk0
  clear hw0' hk0 hb0 h0
  go_region_held3 (fun w' => w'.cell? ⟨w.heap.size, 1, none⟩ = some (.int .i64 sector) ∧ w'.cell? ⟨w.heap.size, 3, none⟩ = some (.slice A len c))
    ((refine (fun (kk : Keeps [bd, bs, bm, bS] w0 _) => ⟨kk.cellEq c1 Hne.out, kk.cellEq c3 Hne.out⟩) ?_; exact HK.out))
    (first
      | (go_at_call 15; refine (write_any _ bd bs s sector A data len c Hlen.out HD.out HB.out (by intro h0 a ha; have := HA.out h0 a ha; have := Hh.out.ld; omega) hcap hw0 hw).mono ?_; rintro e w' ⟨rfl, hd, hk⟩; replace HM := Lib.hid (HM.out.keepD HD.out hk); replace HD := Lib.hid hd; replace HB := Lib.hid (HB.out.keep_of hk (by intro h0 a ha; have := HA.out h0 a ha; have := Hh.out.ld; have := Hh.out.ls; simp; omega)); replace HK := Lib.hid (HK.out.trans (hk.mono (by simp))); clear hk hd)
      | (go_at_call 31; refine (rwrite_any _ bm bS s sector A data len c Hlen.out HM.out HB.out (by intro h0 a ha; have := HA.out h0 a ha; have := Hh.out.lm; omega) hcap hw0 hw).mono ?_; rintro e w' ⟨rfl, hd, hk⟩; replace HD := Lib.hid (HD.out.keepM HM.out hk); replace HM := Lib.hid hd; replace HK := Lib.hid (HK.out.trans (hk.mono (by simp))); clear hk hd))
  go_wp2
  go_ret
  have hh := Hh.out
  exact ⟨by simp, ⟨HD.out, HM.out, hh.ld, hh.ls, hh.lm, hh.lS⟩, Hk1.out.trans HK.out⟩

set_option maxHeartbeats 800000 in
theorem do_arm (w : World) (B bd bs bm bS : Nat) (s : St) (sector n : Int) (A : Option Addr) (len c : Nat) (h : Both w B bd bs bm bS s) (hs : sector ≤ 9223372036854775807) :
    Calls Try.prog 29 #[.pointer (some ⟨bd, 0, none⟩), .pointer (some ⟨bm, 0, none⟩), .agg #[.int .i64 2, .int .i64 sector, .int .i64 n, .slice A len c]] w (Done w B bd bs bm bS (arm s sector n)) := by
  have Hh := Lib.hid h
  have hk0 : Keeps [] w (w.alloc (.cells #[.int .i64 2, .int .i64 sector, .int .i64 n, .slice A len c] 46)) := (Keeps.refl _ _).alloc _
  have h0 := h.keep hk0
  have HD := Lib.hid h0.D
  have HM := Lib.hid h0.M
  have HK := Lib.hid (hk0.nil (X := [bd, bs, bm, bS]))
  have hne : w.heap.size ∉ [bd, bs, bm, bS] := by
    obtain ⟨cap, cells, a1, a2, _⟩ := h.M.ex
    have := h.D.d.lt
    have := h.D.m.lt
    have := a1.lt
    have := a2.lt
    simp; omega
  have Hne := Lib.hid hne
  have HX := Lib.hid (Blk.new w 46 #[.int .i64 2, .int .i64 sector, .int .i64 n, .slice A len c])
  clear h hk0 h0 hne
  go_enter Try.func29, Try.ntmps29
  go_wp2_with (first
    | (go_at_call 13; refine (arm_any _ bd bs s sector n HD.out hs).mono ?_; rintro e w' ⟨rfl, hd, hk⟩; replace HX := Lib.hid (HX.out.keep (hk.mono (Y := [bd, bs, bm, bS]) (by simp)) Hne.out); have hcx := HX.out.cell; replace HM := Lib.hid (HM.out.keepD HD.out (hk.mono (by simp))); replace HD := Lib.hid hd; replace HK := Lib.hid (HK.out.trans (hk.mono (by simp))); clear hk hd)
    | (go_at_call 33; refine (rarm_any _ bm bS s sector n HM.out hs).mono ?_; rintro e w' ⟨rfl, hd, hk⟩; replace HD := Lib.hid (HD.out.keepM HM.out (hk.mono (by simp))); replace HM := Lib.hid hd; replace HK := Lib.hid (HK.out.trans (hk.mono (by simp))); clear hk hd))
  go_ret
  have hh := Hh.out
  exact ⟨by simp, ⟨HD.out, HM.out, hh.ld, hh.ls, hh.lm, hh.lS⟩, HK.out⟩

set_option maxHeartbeats 800000 in
theorem do_fail (w : World) (B bd bs bm bS : Nat) (s : St) (sector n : Int) (A : Option Addr) (len c : Nat) (h : Both w B bd bs bm bS s) :
    Calls Try.prog 29 #[.pointer (some ⟨bd, 0, none⟩), .pointer (some ⟨bm, 0, none⟩), .agg #[.int .i64 3, .int .i64 sector, .int .i64 n, .slice A len c]] w (Done w B bd bs bm bS (fail s)) := by
  have Hh := Lib.hid h
  have hk0 : Keeps [] w (w.alloc (.cells #[.int .i64 3, .int .i64 sector, .int .i64 n, .slice A len c] 46)) := (Keeps.refl _ _).alloc _
  have h0 := h.keep hk0
  have HD := Lib.hid h0.D
  have HM := Lib.hid h0.M
  have HK := Lib.hid (hk0.nil (X := [bd, bs, bm, bS]))
  have hne : w.heap.size ∉ [bd, bs, bm, bS] := by
    obtain ⟨cap, cells, a1, a2, _⟩ := h.M.ex
    have := h.D.d.lt
    have := h.D.m.lt
    have := a1.lt
    have := a2.lt
    simp; omega
  have Hne := Lib.hid hne
  have HX := Lib.hid (Blk.new w 46 #[.int .i64 3, .int .i64 sector, .int .i64 n, .slice A len c])
  clear h hk0 h0 hne
  go_enter Try.func29, Try.ntmps29
  go_wp2_with (first
    | (go_at_call 21; refine (fail_any _ bd bs s HD.out).mono ?_; rintro e w' ⟨rfl, hd, hk⟩; replace HX := Lib.hid (HX.out.keep (hk.mono (Y := [bd, bs, bm, bS]) (by simp)) Hne.out); have hcx := HX.out.cell; replace HM := Lib.hid (HM.out.keepD HD.out (hk.mono (by simp))); replace HD := Lib.hid hd; replace HK := Lib.hid (HK.out.trans (hk.mono (by simp))); clear hk hd)
    | (go_at_call 26; refine (rfail_any _ bm bS s HM.out).mono ?_; rintro e w' ⟨rfl, hd, hk⟩; replace HD := Lib.hid (HD.out.keepM HM.out (hk.mono (by simp))); replace HM := Lib.hid hd; replace HK := Lib.hid (HK.out.trans (hk.mono (by simp))); clear hk hd))
  go_ret
  have hh := Hh.out
  exact ⟨by simp, ⟨HD.out, HM.out, hh.ld, hh.ls, hh.lm, hh.lS⟩, HK.out⟩

set_option maxHeartbeats 800000 in
theorem do_restart (w : World) (B bd bs bm bS : Nat) (s : St) (sector n : Int) (A : Option Addr) (len c : Nat) (h : Both w B bd bs bm bS s) :
    Calls Try.prog 29 #[.pointer (some ⟨bd, 0, none⟩), .pointer (some ⟨bm, 0, none⟩), .agg #[.int .i64 4, .int .i64 sector, .int .i64 n, .slice A len c]] w (Done w B bd bs bm bS (restart s)) := by
  have Hh := Lib.hid h
  have hk0 : Keeps [] w (w.alloc (.cells #[.int .i64 4, .int .i64 sector, .int .i64 n, .slice A len c] 46)) := (Keeps.refl _ _).alloc _
  have h0 := h.keep hk0
  have HD := Lib.hid h0.D
  have HM := Lib.hid h0.M
  have HK := Lib.hid (hk0.nil (X := [bd, bs, bm, bS]))
  have hne : w.heap.size ∉ [bd, bs, bm, bS] := by
    obtain ⟨cap, cells, a1, a2, _⟩ := h.M.ex
    have := h.D.d.lt
    have := h.D.m.lt
    have := a1.lt
    have := a2.lt
    simp; omega
  have Hne := Lib.hid hne
  have HX := Lib.hid (Blk.new w 46 #[.int .i64 4, .int .i64 sector, .int .i64 n, .slice A len c])
  clear h hk0 h0 hne
  go_enter Try.func29, Try.ntmps29
  go_wp2_with (first
    | (go_at_call 12; refine (restart_any _ bd bs s HD.out).mono ?_; rintro e w' ⟨rfl, hd, hk⟩; replace HX := Lib.hid (HX.out.keep (hk.mono (Y := [bd, bs, bm, bS]) (by simp)) Hne.out); have hcx := HX.out.cell; replace HM := Lib.hid (HM.out.keepD HD.out (hk.mono (by simp))); replace HD := Lib.hid hd; replace HK := Lib.hid (HK.out.trans (hk.mono (by simp))); clear hk hd)
    | (go_at_call 18; refine (rrestart_any _ bm bS s HM.out).mono ?_; rintro e w' ⟨rfl, hd, hk⟩; replace HD := Lib.hid (HD.out.keepM HM.out (hk.mono (by simp))); replace HM := Lib.hid hd; replace HK := Lib.hid (HK.out.trans (hk.mono (by simp))); clear hk hd))
  go_ret
  have hh := Hh.out
  exact ⟨by simp, ⟨HD.out, HM.out, hh.ld, hh.ls, hh.lm, hh.lS⟩, HK.out⟩

set_option maxHeartbeats 800000 in
theorem do_read (w : World) (B bd bs bm bS : Nat) (s : St) (sector n : Int) (A : Option Addr) (len c : Nat) (h : Both w B bd bs bm bS s) :
    Calls Try.prog 29 #[.pointer (some ⟨bd, 0, none⟩), .pointer (some ⟨bm, 0, none⟩), .agg #[.int .i64 1, .int .i64 sector, .int .i64 n, .slice A len c]] w (Done w B bd bs bm bS s) := by
  have Hh := Lib.hid h
  have hk0 : Keeps [] w (w.alloc (.cells #[.int .i64 1, .int .i64 sector, .int .i64 n, .slice A len c] 46)) := (Keeps.refl _ _).alloc _
  have h0 := Lib.hid (h.keep hk0)
  have HK := Lib.hid hk0
  have HX := Lib.hid (Blk.new w 46 #[.int .i64 1, .int .i64 sector, .int .i64 n, .slice A len c])
  clear h hk0
  go_enter Try.func29, Try.ntmps29
  go_wp2_with (first
    | (go_at_call 16; refine (read_any _ bd bs s sector h0.out.D).mono ?_; rintro e w' ⟨A1, c1, rfl, hb1, hc1, hA1, hk⟩; replace h0 := Lib.hid (h0.out.keep hk); replace HK := Lib.hid (HK.out.trans hk); replace HX := Lib.hid (HX.out.keep hk (by simp)); have hcx := HX.out.cell; replace hb1 := Lib.hid hb1; clear hk hc1 hA1)
    | (go_at_call 32; refine (rread_any _ bm bS s sector h0.out.M).mono ?_; rintro e w' ⟨A2, c2, rfl, hb2, hc2, hA2, hk⟩; replace h0 := Lib.hid (h0.out.keep hk); replace HK := Lib.hid (HK.out.trans hk); replace hb1 := Lib.hid (hb1.out.keep hk (by simp)); replace hb2 := Lib.hid hb2; clear hk hc2 hA2)
    | (go_at_call 17; refine (same_any _ A1 A2 (rd s sector).1 (rd s sector).1 _ _ _ _ rfl rfl hb1.out hb2.out).mono ?_; rintro e w' ⟨rfl, rfl⟩))
  go_ret
  exact ⟨by simp, h0.out, HK.out.nil⟩

theorem do_any (w : World) (B bd bs bm bS : Nat) (s : St) (o : OpD) (v : Value) (hf : o.fits) (hv : ArgB w B v o.data) (h : Both w B bd bs bm bS s) (hw0 : 0 ≤ s.writes) (hw : s.writes ≤ 1000000) :
    Calls Try.prog 29 #[.pointer (some ⟨bd, 0, none⟩), .pointer (some ⟨bm, 0, none⟩), .agg #[.int .i64 o.kind, .int .i64 o.sector, .int .i64 o.n, v]] w (Done w B bd bs bm bS (step s o)) := by
  obtain ⟨kind, sector, n, data⟩ := o
  obtain ⟨A, c, rfl, h1, h2, h3, h4⟩ := hv
  obtain ⟨_, ⟨_, f2⟩, _⟩ := hf
  simp only at f2 h3 h1 ⊢
  unfold step
  simp only
  by_cases k0 : kind = 0
  · subst k0; simp only [if_true]
    exact do_write w B bd bs bm bS s sector n A data _ c rfl h3 h4 h hw0 hw
  by_cases k1 : kind = 1
  · subst k1; exact do_read w B bd bs bm bS s sector n A _ c h
  by_cases k2 : kind = 2
  · subst k2; exact do_arm w B bd bs bm bS s sector n A _ c h f2
  by_cases k3 : kind = 3
  · subst k3; exact do_fail w B bd bs bm bS s sector n A _ c h
  by_cases k4 : kind = 4
  · subst k4; exact do_restart w B bd bs bm bS s sector n A _ c h
  · rw [if_neg k0, if_neg k1, if_neg k2, if_neg k3, if_neg k4]
    exact do_raw w B bd bs bm bS s kind sector n A data _ c rfl h1 h3 h4 h hw0 hw ⟨k0, k1, k2, k3, k4⟩
end Go.Proofs.Ytpjmkjcgpbpfdaa
