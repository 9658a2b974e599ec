/- The law's function same; what the laws need of a state through an operation. -/
import Derived.Test.YtoefbjeclghfhaaRef3
import Derived.Test.YtoefbjeclghfhaaSnapV
namespace Go.Proofs.Ytoefbjeclghfhaa
open Go.RowKit
set_option linter.unusedSimpArgs false
set_option linter.unusedVariables false

theorem MRep.keepD {w w' : World} {bd bs bm bS : Nat} {s t : St} (h : MRep [] w bm bS s) (hD : DRep w bd bs t) (hk : Keeps [bd, bs] w w') : MRep [] w' bm bS s := by
  obtain ⟨cap, cells, a1, a2, _⟩ := h.ex
  exact h.keep hk (by have := a1.ne_ hD.d (by decide); have := a1.ne_ hD.m (by decide); simp; omega) (by have := a2.ne_ hD.d (by decide); have := a2.ne_ hD.m (by decide); simp; omega)
    (fun g cur hg _ => by have := hg.ne_ hD.d (by decide); have := hg.ne_ hD.m (by decide); simp; omega)
theorem DRep.keepM {w w' : World} {bd bs bm bS : Nat} {s t : St} (hD : DRep w bd bs t) (h : MRep [] w bm bS s) (hk : Keeps [bm, bS] w w') : DRep w' bd bs t := by
  obtain ⟨cap, cells, a1, a2, _⟩ := h.ex
  exact hD.keep hk (by have := a1.ne_ hD.d (by decide); have := a2.ne_ hD.d (by decide); simp; omega) (by have := a1.ne_ hD.m (by decide); have := a2.ne_ hD.m (by decide); simp; omega)

/-- A failed disk fails at no number. -/
def Calm (s : St) : Prop := s.down = true → s.left = 0
theorem calm_wr {s : St} {i : Int} {b : List UInt8} (h : Calm s) : Calm (wr s i b).1 := by
  unfold wr
  by_cases hx : chk s i = 0
  · have hd := (chk_zero hx).1
    by_cases hb : b.length = 64
    · by_cases hl : s.left = 1
      · simp [hx, hb, hl, Calm, fail]
      · simp only [hx, hb, hl, ne_eq, not_true_eq_false, if_false, Calm]
        intro h2
        rw [hd] at h2
        cases h2
    · simp [hx, hb]; exact h
  · simp [hx]; exact h
theorem calm_sws : ∀ (f : Nat) (s : St) (i : Nat) (d : List UInt8), Calm s → Calm (sws s i f d).1
  | 0, s, i, d, h => h
  | f + 1, s, i, d, h => by
    by_cases hd : d = []
    · rw [hd, sws_nil]; exact h
    · by_cases h0 : (wr s i (pad (d.take 64))).2 = 0
      · rw [sws_ok hd h0]; exact calm_sws f _ _ _ (calm_wr h)
      · rw [sws_bad hd h0]; exact calm_wr h
theorem calm_swrite {s : St} {ep : Nat} {b : List UInt8} (h : Calm s) : Calm (swrite s ep b).1 := by
  have h1 := calm_sws b.length s (area0 s.n (1 - root s)) b h
  unfold swrite
  repeat first | (split; first | exact h | exact h1 | exact calm_wr h1) | exact calm_wr (calm_wr h1)
theorem writes_swrite {s : St} {ep : Nat} {b : List UInt8} (h0 : 0 ≤ s.writes) (hb : b.length ≤ 600) : 0 ≤ (swrite s ep b).1.writes ∧ (swrite s ep b).1.writes ≤ s.writes + 12 := by
  have h1 := sws_writes b.length s (area0 s.n (1 - root s)) b h0
  have h2 := wr_writes (sws s (area0 s.n (1 - root s)) b.length b).1 ((1 + (1 - root s) : Nat) : Int) (pad (hdr ep b)) h1.1
  have h3 := wr_writes (wr (sws s (area0 s.n (1 - root s)) b.length b).1 ((1 + (1 - root s) : Nat) : Int) (pad (hdr ep b))).1 0 (pad [UInt8.ofNat (1 - root s)]) h2.1
  have h4 : ((b.length + 63) / 64 : Int) ≤ 10 := by omega
  unfold swrite
  repeat first | (split; first | exact ⟨h0, by show s.writes ≤ _; omega⟩ | exact ⟨h1.1, by omega⟩ | exact ⟨h2.1, by omega⟩) | exact ⟨h3.1, by omega⟩
theorem fail_restart {s : St} (hd : s.down = true) (h : Calm s) : fail (restart s) = s := by
  have := h hd
  obtain ⟨n, mem, down, left, bytes, writes⟩ := s
  simp only at hd this
  subst hd this
  rfl
theorem restart_up {s : St} (hd : s.down = false) : restart s = s := by
  obtain ⟨n, mem, down, left, bytes, writes⟩ := s
  simp only at hd
  subst hd
  rfl

set_option maxHeartbeats 3200000 in
theorem same_any (w : World) (bd bs bm bS : Nat) (s : St) (hD : DRep w bd bs s) (hM : MRep [] w bm bS s) (hc : Calm s) :
    Calls Try.prog 27 #[.pointer (some ⟨bd, 0, none⟩), .pointer (some ⟨bm, 0, none⟩)] w fun e w' => e = .returned (.bool true) ∧ DRep w' bd bs s ∧ MRep [] w' bm bS s ∧ Keeps [bd, bs] w w' := by
  have hn := hD.n
  have hmem := hD.len
  obtain ⟨cap, cells, a1, a2, _⟩ := hM.ex
  have p1 := a1.cell 1
  have p0 := a1.cell 0
  simp only [List.getElem?_toArray, List.getElem?_cons_succ, List.getElem?_cons_zero] at p0 p1
  have hbd := Lib.hid (And.intro (a1.ne_ hD.d (by decide)) (a2.ne_ hD.d (by decide)))
  have HF := Lib.hid (failed_any w bd bs s hD)
  have HR := Lib.hid (restart_any w bd bs s hD)
  have hdd : (s.down != s.down) = false := by simp
  replace hc := Lib.hid hc
  replace hmem := Lib.hid hmem
  have hD0 := Lib.hid hD
  have hM0 := Lib.hid hM
  clear a1 a2 hD hM
  go_enter Try.func27, Try.ntmps27
  go_wp2_with fail
  refine HF.out.mono ?_
  rintro e w1 ⟨rfl, rfl⟩
  clear HF
  go_wp2_with fail
  refine HR.out.mono ?_
  rintro e w1 ⟨rfl, hD1, k1⟩
  have k1' : Keeps [bd, bs] w w1 := k1.mono (fun x hx => .inl (by simp at hx; simp [hx]))
  have hM1 := Lib.hid (hM0.out.keepD hD0.out k1')
  replace hD1 := Lib.hid hD1
  replace p0 := k1.cellEq p0 (by simp; exact hbd.out.1)
  have K1 := Lib.hid k1'
  clear HR k1 k1' p1
  go_wp2_with fail
  go_loopw [25] (fun i wr => ∃ k : Nat, k ≤ s.n ∧ i = .int .i64 k ∧ Hid (Keeps [] w1 wr)) (fun i _ => s.n - (intOf i).toNat)
  case atStart => exact ⟨0, Nat.zero_le _, rfl, Lib.hid (Keeps.refl _ _)⟩
  case round =>
    obtain ⟨k, hk, rfl, hkw⟩ := hrel
    have hDr := Lib.hid (hD1.out.keep hkw.out (by simp) (by simp))
    have hMr := Lib.hid (hM1.out.keep hkw.out (by simp) (by simp) (by simp))
    by_cases hlt : k < s.n
    · obtain ⟨g, c, x1, hc64, _, hbt, hgl⟩ := slot_cells hMr.out hlt
      have hki : (k : Int) < (s.n : Int) := by omega
      have hsl : (sec s k).length = 64 := sec_len0 hmem.out hlt
      have HRd := Lib.hid (read_ok wr bd bs (restart s) k hDr.out (by unfold chk restart; simp; omega) hlt)
      have hsr : sec (restart s) k = sec s k := rfl
      rw [hsr] at HRd
      generalize sec s k = L at *
      replace hbt := Lib.hid hbt
      replace hsl := Lib.hid hsl
      clear hsr
      go_wp2_with fail
      refine HRd.out.mono ?_
      rintro e w2 ⟨rfl, hB2, k2⟩
      have cv := run_convert_bts (P := Try.prog) (w := w2) 35 9 5 Try.underlying35 Try.underlying5 Try.underlying9 (some ⟨wr.heap.size, 0, none⟩) L 64 64 hsl.out (bts_new hB2)
      have cw := run_convert_bts (P := Try.prog) (w := w2) 35 9 5 Try.underlying35 Try.underlying5 Try.underlying9 (some ⟨g, 0, none⟩) L 64 c hsl.out (hbt.out.keep k2 (by simp))
      have hk2 := Lib.hid (hkw.out.trans k2)
      clear HRd hB2 k2 x1
      go_wp2_with fail
      go_roundw
      case rel => exact ⟨k + 1, by omega, by go_num, hk2⟩
      case measure => simp [intOf]; omega
    · obtain rfl : k = s.n := by omega
      cases hd : s.down
      · have hs := restart_up hd
        rw [hs] at hDr
        clear p0
        go_wp2_with fail
        go_ret
        exact ⟨rfl, hDr.out, hMr.out, K1.out.trans hkw.out.nil⟩
      · have HFl := fail_any wr bd bs (restart s) hDr.out
        rw [fail_restart hd hc.out] at HFl
        replace HFl := Lib.hid HFl
        clear p0
        go_wp2_with fail
        refine HFl.out.mono ?_
        rintro e w3 ⟨rfl, hD3, k3⟩
        have k3' : Keeps [bd, bs] wr w3 := k3.mono (fun x hx => .inl (by simp at hx; simp [hx]))
        have hM3 := Lib.hid (hMr.out.keepD hDr.out k3')
        have K3 := Lib.hid (K1.out.trans (hkw.out.nil.trans k3'))
        replace hD3 := Lib.hid hD3
        clear HFl k3 k3'
        go_wp2_with fail
        go_ret
        exact ⟨rfl, hD3.out, hM3.out, K3.out⟩
end Go.Proofs.Ytoefbjeclghfhaa
