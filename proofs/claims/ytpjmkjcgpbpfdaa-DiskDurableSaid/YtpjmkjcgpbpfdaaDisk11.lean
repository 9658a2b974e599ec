/- The law's function same: the disk and the reference are in one state. -/
import Derived.Test.YtpjmkjcgpbpfdaaDisk10
namespace Go.Proofs.Ytpjmkjcgpbpfdaa
open Go.RowKit
set_option linter.unusedSimpArgs false

theorem chk_up {s : St} {i : Int} (hd : s.down = false) (h0 : 0 ≤ i) (h1 : i < s.n) : chk s i = 0 := by
  unfold chk; rw [hd]; simp; omega

set_option maxHeartbeats 1600000 in
theorem agree_any (w : World) (B bd bs bm bS : Nat) (s : St) (h : Both w B bd bs bm bS s) :
    Calls Try.prog 23 #[.pointer (some ⟨bd, 0, none⟩), .pointer (some ⟨bm, 0, none⟩)] w (Done w B bd bs bm bS (restart s)) := by
  obtain ⟨cap, cells, a1, a2, a3, a4, a5⟩ := h.M.ex
  have hc := a1.cell
  have hn := h.D.n
  have Hh := Lib.hid h
  have HQ := fun k : Nat => Lib.hid (h.D.keep ((Keeps.refl [] w).drewN k) (by simp) (by simp))
  clear h a5 a1 a2
  go_enter Try.func23, Try.ntmps23
  go_wp2_with fail
  go_quiet (first
    | (go_at_call 19; exact quiet_left (failed_any _ bd bs s (HQ _).out))
    | (go_at_call 25; exact quiet_left (writes_any _ bd bs s (HQ _).out))
    | (go_at_call 24; exact quiet_left (sectors_any _ bd bs s (HQ _).out)))
  have hkq : Keeps [] w (w.drewN nq) := (Keeps.refl _ _).drewN _
  have h1 := Hh.out.keep hkq
  have HD := Lib.hid h1.D
  have HM := Lib.hid h1.M
  have HK := Lib.hid (hkq.nil (X := [bd, bs, bm, bS]))
  obtain ⟨w1, hw1⟩ : ∃ w1, w1 = w.drewN nq := ⟨_, rfl⟩
  rw [← hw1] at HD HM HK ⊢
  clear hw1 h1 hkq HQ hc
  go_wp2_with (first
    | (go_at_call 12; refine (restart_any _ bd bs s HD.out).mono ?_; rintro e w2 ⟨rfl, hd, hk⟩; replace HM := Lib.hid (HM.out.keepD HD.out (hk.mono (by simp))); obtain ⟨cap1, cells1, a1, a2, a3', a4', a5⟩ := HM.out.ex; have hcm := a1.cell; replace a1 := Lib.hid a1; replace a2 := Lib.hid a2; replace a5 := Lib.hid a5; replace HD := Lib.hid hd; replace HK := Lib.hid (HK.out.trans (hk.mono (by simp))); clear hk hd)
    | (go_at_call 18; refine (rrestart_any _ bm bS s HM.out).mono ?_; rintro e w3 ⟨rfl, hd, hk⟩; replace HD := Lib.hid (HD.out.keepM HM.out (hk.mono (by simp))); replace HM := Lib.hid hd; clear hcm a1 a2 a5 a3' a4'; obtain ⟨cap2, cells2, b1, b2, b3, b4, b5⟩ := HM.out.ex; have hcm := b1.cell; replace b1 := Lib.hid b1; replace b2 := Lib.hid b2; replace b5 := Lib.hid b5; replace HK := Lib.hid (HK.out.trans (hk.mono (by simp))); clear hk hd))
  have H3 : Hid (Both w3 B bd bs bm bS (restart s)) := Lib.hid ⟨HD.out, HM.out, Hh.out.ld, Hh.out.ls, Hh.out.lm, Hh.out.lS⟩
  clear hcm
  go_loopw [43] (fun i wr => ∃ k : Nat, k ≤ s.n ∧ i = .int .i64 k ∧ Both wr B bd bs bm bS (restart s) ∧ Keeps [bd, bs, bm, bS] w wr) (fun i _ => s.n - (intOf i).toNat)
  case atStart => exact ⟨0, Nat.zero_le _, rfl, H3.out, HK.out⟩
  case round =>
    obtain ⟨k, hk, rfl, hb, hkw⟩ := hrel
    replace hkw := Lib.hid hkw
    clear b1 b2 b3 b4 b5 HD HM H3 HK
    by_cases hlt : k < s.n
    · have hrd : rd (restart s) k = (sec (restart s) k, 0) := by
        have : chk (restart s) k = 0 := chk_up rfl (by omega) (by show (k : Int) < (s.n : Int); omega)
        simp [rd, this]
      have hsl : (sec (restart s) k).length = 64 := sec_len hb.D.len hlt
      replace hb := Lib.hid hb
      replace hrd := Lib.hid hrd
      replace hsl := Lib.hid hsl
      go_wp2_with (first
        | (go_at_call 16; refine (read_any _ bd bs (restart s) k hb.out.D).mono ?_; rintro e w4 ⟨A1, c1, rfl, hb1, hc1, hA1, hk4⟩; rw [hrd.out] at hb1 ⊢; rw [hsl.out]; have hB4 := hb.out.keep hk4; obtain ⟨cap2, cells2, b1, b2, b3, b4, b5⟩ := hB4.M.ex; obtain ⟨v, hv, hs⟩ := b5 k hlt; obtain ⟨g, cg, rfl, hcg1, hcg2, hBg, hlen, hg, curg, hgb⟩ := hs.bts; have hcm := b1.cell; have hcS : w4.cell? ⟨bS, k, none⟩ = some (.slice (some ⟨g, 0, none⟩) 64 cg) := (by rw [b2.cell, hv]); replace hB4 := Lib.hid hB4; replace hb1 := Lib.hid hb1; replace hk4 := Lib.hid hk4; replace hBg := Lib.hid hBg; clear b1 b2 b4 b5 hs hc1 hA1 hv hgb hlen)
        | (go_at_call 17; refine (same_any _ A1 (some ⟨g, 0, none⟩) (sec (restart s) k) (sec (restart s) k) _ _ _ _ hsl.out hsl.out hb1.out hBg.out).mono ?_; rintro e w5 ⟨rfl, rfl⟩))
      go_roundw
      case rel => exact ⟨k + 1, by omega, by go_num, hB4.out, hkw.out.trans hk4.out.nil⟩
      case measure => simp [intOf]; omega
    · obtain rfl : k = s.n := by omega
      replace hb := Lib.hid hb
      go_wp2
      go_ret
      exact ⟨rfl, hb.out, hkw.out⟩
end Go.Proofs.Ytpjmkjcgpbpfdaa
