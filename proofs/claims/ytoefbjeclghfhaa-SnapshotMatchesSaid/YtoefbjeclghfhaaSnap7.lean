/- The contract of Read. -/
import Derived.Test.YtoefbjeclghfhaaSnap6
namespace Go.Proofs.Ytoefbjeclghfhaa
open Go.RowKit
set_option linter.unusedSimpArgs false
set_option linter.unusedVariables false

theorem bad_zero {s : St} (h : bad s = 0) : s.down = false ∧ 7 ≤ s.n ∧ root s ≤ 1 := by
  unfold bad at h
  by_cases hd : s.down = true
  · rw [if_pos hd] at h; cases h
  · rw [if_neg hd] at h
    by_cases hn : s.n < 7 ∨ 65536 < s.n
    · rw [if_pos hn] at h; cases h
    · rw [if_neg hn] at h
      by_cases hr : 1 < root s
      · rw [if_pos hr] at h; cases h
      · exact ⟨by simpa using hd, by omega, by omega⟩

theorem open_ok (w : World) (bd bs : Nat) (s : St) (hD : DRep w bd bs s) (hb : bad s = 0) :
    Calls Try.prog 29 #[.pointer (some ⟨bd, 0, none⟩)] w fun e w' => e = .returned (.tuple #[.agg (layV s.n), .int .i64 (root s : Nat), .agg (headV (sec s (1 + root s))), .int .i64 0]) ∧ Keeps [] w w' := by
  obtain ⟨h1, h2, h3⟩ := bad_zero hb
  rcases Nat.le_one_iff_eq_zero_or_eq_one.1 h3 with h | h
  · rw [h]; exact open_ok0 w bd bs s hD h1 h2 h
  · rw [h]; exact open_ok1 w bd bs s hD h1 h2 h

theorem hEp_lt {h : List UInt8} (hl : h.length = 64) : hEp h < 4294967296 := val_lt 4 _ (by rw [List.length_take, hl]; rfl)
theorem hLen_lt {h : List UInt8} (hl : h.length = 64) : hLen h < 4294967296 := val_lt 4 _ (by rw [List.length_take, List.length_drop, hl]; rfl)
theorem hSum_lt {h : List UInt8} (hl : h.length = 64) : hSum h < 18446744073709551616 := val_lt 8 _ (by rw [List.length_take, List.length_drop, hl]; rfl)

theorem cat_succ (s : St) : ∀ (k a : Nat), cat s a (k + 1) = cat s a k ++ sec s (a + k)
  | 0, a => by show sec s a ++ [] = [] ++ sec s (a + 0); simp
  | k + 1, a => by
    show sec s a ++ cat s (a + 1) (k + 1) = sec s a ++ cat s (a + 1) k ++ sec s (a + (k + 1))
    rw [cat_succ s k (a + 1), List.append_assoc, show a + 1 + k = a + (k + 1) by omega]
theorem cat_len {s : St} (h : s.mem.length = 64 * s.n) : ∀ (k a : Nat), a + k ≤ s.n → (cat s a k).length = 64 * k
  | 0, a, _ => rfl
  | k + 1, a, hk => by
    rw [cat_succ, List.length_append, cat_len h k a (by omega), sec_len0 h (by omega)]
    omega
theorem cat_take {s : St} (h : s.mem.length = 64 * s.n) {a k m len : Nat} (hkm : k ≤ m) (hm : a + m ≤ s.n) (hl : len ≤ 64 * k) : (cat s a k).take len = (cat s a m).take len := by
  obtain ⟨d, rfl⟩ : ∃ d, m = k + d := ⟨m - k, by omega⟩
  induction d with
  | zero => rfl
  | succ d ih =>
    rw [ih (by omega) (by omega), show k + (d + 1) = (k + d) + 1 by omega, cat_succ, List.take_append_of_le_length (by rw [cat_len h _ _ (by omega)]; omega)]

theorem own_prefix {w : World} {base n : Nat} {A : Option Addr} {c : Nat} {l : List UInt8} (h : w.ownsRow base 5 1 (.slice A n c) n (l.map bv)) {k : Nat} (hk : k ≤ n) : w.ownsRow base 5 1 (.slice A k c) k ((l.take k).map bv) := by
  have hl : l.length = n := by have := h.1; simpa using this
  refine ⟨by simp [hl]; omega, ?_⟩
  rcases h.2 with ⟨h1, h2⟩ | ⟨g, cap, cur, hv, hb, hg, hc, hm, hs, ht⟩
  · injection h1 with h1 h3 h4
    subst h1 h2 h4
    obtain rfl : k = 0 := by omega
    exact .inl ⟨rfl, rfl⟩
  · injection hv with hA _ hcap
    subst hA hcap
    refine .inr ⟨g, c, cur, rfl, hb, hg, by omega, hm, hs, ?_⟩
    rw [List.map_take, ← ht, List.take_take]
    congr 1
    omega

def RPost (w : World) (q : List UInt8 × Nat × Int) (e : Ending) (w' : World) : Prop :=
  ∃ A c, e = .returned (.tuple #[.slice A q.1.length c, .int .u32 (q.2.1 : Nat), .int .i64 q.2.2]) ∧ w'.ownsRow w.heap.size 5 1 (.slice A q.1.length c) q.1.length (q.1.map bv) ∧ Keeps [] w w'

theorem RPost.err {w w' : World} {x : Int} (k : Keeps [] w w') : RPost w ([], 0, x) (.returned (.tuple #[.slice none 0 0, .int .u32 0, .int .i64 x])) w' :=
  ⟨none, 0, rfl, World.ownsRow_nil _ _ _ _, k⟩

set_option maxHeartbeats 1600000 in
set_option maxRecDepth 100000 in
theorem sread_any (w : World) (bd bs : Nat) (s : St) (hD : DRep w bd bs s) :
    Calls Try.prog 20 #[.pointer (some ⟨bd, 0, none⟩)] w (RPost w (sread s)) := by
  by_cases hb : bad s = 0
  · have HO := Lib.hid (open_ok w bd bs s hD hb)
    obtain ⟨hd, h7, hr1⟩ := bad_zero hb
    have hn := hD.n
    have hmem := hD.len
    have har := area_le s.n
    have hHl := sec_len0 hmem (i := 1 + root s) (by omega)
    have hq : sread s = if hEp (sec s (1 + root s)) = 0 then ([], 0, 4) else
        if 64 * area s.n < hLen (sec s (1 + root s)) then ([], 0, 17) else
        if crc ((cat s (area0 s.n (root s)) (area s.n)).take (hLen (sec s (1 + root s)))) ≠ hSum (sec s (1 + root s)) then ([], 0, 17) else
        ((cat s (area0 s.n (root s)) (area s.n)).take (hLen (sec s (1 + root s))), hEp (sec s (1 + root s)), 0) := by
      unfold sread; rw [if_neg (by simp [hb])]
    have ha0 : area0 s.n (root s) + area s.n ≤ s.n := by unfold area0; split <;> omega
    have hE := hEp_lt hHl
    have hL := hLen_lt hHl
    have hS := hSum_lt hHl
    have hq5 : (layV s.n)[3 + root s]? = some (.int .i64 (area0 s.n (root s) : Nat)) := by
      rcases Nat.le_one_iff_eq_zero_or_eq_one.1 hr1 with h | h
      · rw [h]; rfl
      · rw [h]; rfl
    unfold headV layV at HO
    generalize hH : sec s (1 + root s) = H at *
    replace hD := Lib.hid hD
    replace hH := Lib.hid hH
    replace hHl := Lib.hid hHl
    replace hq := Lib.hid hq
    replace hmem := Lib.hid hmem
    clear hb
    obtain ⟨r, hr⟩ : ∃ r, root s = r := ⟨_, rfl⟩
    rw [hr] at HO hr1 hq ha0 hq5
    obtain ⟨n, hnn⟩ : ∃ n, s.n = n := ⟨_, rfl⟩
    rw [hnn] at HO h7 hn har hq ha0 hq5
    replace hr := Lib.hid hr
    replace hnn := Lib.hid hnn
    obtain ⟨E, hEE⟩ : ∃ E, hEp H = E := ⟨_, rfl⟩
    obtain ⟨L, hLL⟩ : ∃ L, hLen H = L := ⟨_, rfl⟩
    obtain ⟨SS, hSS⟩ : ∃ SS, hSum H = SS := ⟨_, rfl⟩
    rw [hEE, hLL, hSS] at HO hq
    rw [hEE] at hE
    rw [hLL] at hL
    rw [hSS] at hS
    obtain ⟨ar, har0⟩ : ∃ ar, area n = ar := ⟨_, rfl⟩
    rw [har0] at HO har hq ha0
    obtain ⟨a0, ha00⟩ : ∃ a0, area0 n r = a0 := ⟨_, rfl⟩
    rw [ha00] at hq ha0 hq5
    have hlv : layV n = #[.int .i64 0, .int .i64 1, .int .i64 2, .int .i64 3, .int .i64 (3 + (ar : Int)), .int .i64 (ar : Int), .int .i64 (3 + 2 * (ar : Int)), .int .i64 ((n : Int) - (3 + 2 * (ar : Int)))] := by unfold layV; rw [har0]
    rw [hlv] at hq5
    replace hq5 := Lib.hid hq5
    clear hlv hEE hLL hSS har0 ha00
    obtain ⟨qq, hqq⟩ : ∃ qq, sread s = qq := ⟨_, rfl⟩
    rw [hqq] at hq ⊢
    clear hqq
    go_enter Try.func20, Try.ntmps20
    go_wp2_with fail
    refine HO.out.mono ?_
    rintro e w1 ⟨rfl, k1⟩
    have hD1 := hD.out.keep k1 (by simp) (by simp)
    have e1 : IntKind.i64.wrap ((ar : Int) * 64) = (ar : Int) * 64 := IntWalk.i64_in _ (by omega)
    have e2 : IntKind.u64.wrap ((ar : Int) * 64) = (ar : Int) * 64 := IntWalk.u64_in _ (by omega)
    replace k1 := Lib.hid k1
    replace hD1 := Lib.hid hD1
    clear HO
    by_cases hE0 : E = 0
    · have hq2 := hq.out
      rw [if_pos hE0] at hq2
      subst hq2
      subst hE0
      clear hq
      go_wp2_with fail
      refine bodyPost_ret (v := .tuple #[.slice none 0 0, .int .u32 0, .int .i64 4]) (by simp [results, Try.results20, go_sem]) rfl ?_
      exact RPost.err ((k1.out.alloc _).alloc _)
    · have hEb : ((E : Int) == 0) = false := by simp; omega
      by_cases hLa : (ar : Int) * 64 < (L : Int)
      · have hq2 := hq.out
        rw [if_neg hE0, if_pos (by omega)] at hq2
        subst hq2
        clear hq
        go_wp2_with fail
        refine bodyPost_ret (v := .tuple #[.slice none 0 0, .int .u32 0, .int .i64 17]) (by simp [results, Try.results20, go_sem]) rfl ?_
        exact RPost.err ((k1.out.alloc _).alloc _)
      · have hq2 := hq.out
        rw [if_neg hE0, if_neg (by omega)] at hq2
        replace hq := Lib.hid hq2
        clear hq2
        have e3 : IntKind.i64.wrap (L : Int) = L := IntWalk.i64_in _ (by omega)
        go_wp2_with fail
        obtain ⟨w2, hw2⟩ : ∃ w2, w2 = (w1.alloc (.cells #[.int .i64 0, .int .i64 1, .int .i64 2, .int .i64 3, .int .i64 (3 + (ar : Int)), .int .i64 (ar : Int), .int .i64 (3 + 2 * (ar : Int)), .int .i64 ((n : Int) - (3 + 2 * (ar : Int)))] 24)).alloc (.cells #[.int .u64 (E : Int), .int .u64 (L : Int), .int .u64 (SS : Int)] 68) := ⟨_, rfl⟩
        rw [← hw2]
        have B5 : Hid (Blk w2 w1.heap.size 24 #[.int .i64 0, .int .i64 1, .int .i64 2, .int .i64 3, .int .i64 (3 + (ar : Int)), .int .i64 (ar : Int), .int .i64 (3 + 2 * (ar : Int)), .int .i64 ((n : Int) - (3 + 2 * (ar : Int)))]) := Lib.hid (by rw [hw2]; exact (Blk.new w1 24 _).alloc _)
        have B7 : Hid (Blk w2 (w1.heap.size + 1) 68 #[.int .u64 (E : Int), .int .u64 (L : Int), .int .u64 (SS : Int)]) := Lib.hid (by
          rw [hw2]
          have := Blk.new (w1.alloc (.cells #[.int .i64 0, .int .i64 1, .int .i64 2, .int .i64 3, .int .i64 (3 + (ar : Int)), .int .i64 (ar : Int), .int .i64 (3 + 2 * (ar : Int)), .int .i64 ((n : Int) - (3 + 2 * (ar : Int)))] 24)) 68 #[.int .u64 (E : Int), .int .u64 (L : Int), .int .u64 (SS : Int)]
          simpa using this)
        have D2 : Hid (DRep w2 bd bs s) := Lib.hid (by rw [hw2]; exact hD1.out.keep (((Keeps.refl [] w1).alloc _).alloc _) (by simp) (by simp))
        have K2 : Hid (Keeps [] w w2) := Lib.hid (by rw [hw2]; exact (k1.out.alloc _).alloc _)
        have hi5 := Lib.hid info5
        clear hw2 hD1 k1 hD
        generalize w1.heap.size = g5 at *
        have hLar : L ≤ 64 * ar := by omega
        go_loopw [9, 10] (fun ov iv wr => ∃ i : Nat, iv = .int .i64 i ∧ 64 * i < L + 64 ∧ Hid (wr.ownsRow w2.heap.size 5 1 ov (64 * i) ((cat s a0 i).map bv)) ∧ Hid (Keeps [] w2 wr)) (fun ov _ _ => L + 64 - lenOf ov)
        case atStart => exact ⟨0, rfl, by omega, Lib.hid (World.ownsRow_nil _ _ _ _), Lib.hid (Keeps.refl _ _)⟩
        case round =>
          obtain ⟨i, rfl, hi, ho, hkw⟩ := hrel
          obtain ⟨A, c, rfl, hc, hcm⟩ := own_slice5 ho.out
          have q7 : ∀ j, wr.cell? ⟨g5 + 1, j, none⟩ = (#[.int .u64 (E : Int), .int .u64 (L : Int), .int .u64 (SS : Int)] : Array Value)[j]? := (B7.out.keep hkw.out (by simp)).cell
          by_cases hlt : 64 * i < L
          · have hli : ((64 * i : Nat) : Int) < (L : Int) := by omega
            have hck : chk s ((a0 + i : Nat) : Int) = 0 := by unfold chk; rw [hd]; simp; have := hnn.out; omega
            have HR := read_ok wr bd bs s (a0 + i) (D2.out.keep hkw.out (by simp) (by simp)) hck (by have := hnn.out; omega)
            rw [show ((a0 + i : Nat) : Int) = (a0 : Int) + (i : Int) by omega] at HR
            have hsl := sec_len0 hmem.out (i := a0 + i) (by have := hnn.out; omega)
            have hcs := cat_succ s i a0
            have hcl := cat_len hmem.out i a0 (by have := hnn.out; omega)
            generalize hb0 : sec s (a0 + i) = b0 at *
            replace hb0 := Lib.hid hb0
            replace HR := Lib.hid HR
            replace hcs := Lib.hid hcs
            replace hcl := Lib.hid hcl
            replace hsl := Lib.hid hsl
            have qA : wr.cell? ⟨g5, 3 + r, none⟩ = some (.int .i64 (a0 : Int)) := ((B5.out.keep hkw.out (by simp)).cell (3 + r)).trans hq5.out
            have ew : IntKind.i64.wrap ((a0 : Int) + (i : Int)) = (a0 : Int) + (i : Int) := IntWalk.i64_in _ (by omega)
            have hr2 : (r : Int) < 2 := by omega
            have hr0 : (0 : Int) ≤ (r : Int) := by omega
            clear hck
            go_wp2_with fail
            refine HR.out.mono ?_
            rintro e w3 ⟨rfl, hB, k3⟩
            have hbt := Lib.hid (bts_new hB)
            have ho3 := Lib.hid (own_keep ho.out k3 (by simp))
            have hk3 := Lib.hid (hkw.out.trans k3)
            have hle : w2.heap.size ≤ w3.heap.size := hk3.out.size
            have h64 : Hid (64 * i + 64 = 64 * (i + 1)) := Lib.hid (by omega)
            clear HR hB k3 q7 qA
            go_wp2_with (at_builtin; refine wpList_append_bts rfl (.tmp 58) (.tmp 59) 35 rfl w2.heap.size 5 Try.underlying35 hi5.out (.slice A (64 * i) c) (cat s a0 i) b0 rfl ?_ _ 64 64 rfl hsl.out hbt.out ?_ ?_ ?_; (rw [hcl.out]; exact ho3.out); (rw [hcl.out, hsl.out]; omega); (exact hle); (rw [hcl.out, ← hcs.out]); intro A' c' w4 G1 G2 G3; have hk4 := Lib.hid (hk3.out.over (Nat.le_refl _) (below_grown ho3.out hle G2.out)); clear G2 G3)
            go_roundw
            case rel => exact ⟨i + 1, by go_num, by omega, G1, hk4⟩
            case measure => simp [lenOf]; omega
          · have hli : ¬ ((64 * i : Nat) : Int) < (L : Int) := by omega
            have hLi : L ≤ 64 * i := by omega
            have hct := cat_take hmem.out (a := a0) (k := i) (m := ar) (len := L) (by omega) (by have := hnn.out; omega) hLi
            have hop := own_le (own_prefix ho.out hLi) K2.out.size
            rw [hct] at hop
            generalize hOO : (cat s a0 ar).take L = OO at *
            obtain ⟨hBO, hOl, _, _, _⟩ := own_bts hop
            have hLc : L ≤ c := by omega
            have hLci : (L : Int) ≤ (c : Int) := by omega
            have HS := Lib.hid (fun m => sum_any (wr.drewN m) A OO L c (hBO.keep ((Keeps.refl [] wr).drewN m) (by simp)) hOl (by omega))
            have hL0 : (0 : Int) ≤ (L : Int) := by omega
            replace hop := Lib.hid hop
            replace hOl := Lib.hid hOl
            have e4 : IntKind.u32.wrap (E : Int) = E := IntWalk.u32_in _ (by omega)
            have e5 : (E : Int) % 4294967296 = E := by omega
            have KF := Lib.hid (K2.out.trans hkw.out)
            clear ho hct hBO hOO
            generalize hcc : crc OO = CC at *
            by_cases hcrc : CC = SS
            · have hq2 := hq.out
              rw [if_neg (by simp [hcrc])] at hq2
              have hcb : ((CC : Int) != (SS : Int)) = false := by simp [hcrc]
              subst hq2
              clear hq
              replace hcrc := Lib.hid hcrc
              go_wp2_with fail
              go_quiet ((go_at_call 32; exact quiet_left (HS.out _)))
              go_wp2_with fail
              go_quiet (fail)
              go_wp2_with fail
              refine bodyPost_ret (v := .tuple #[.slice A L c, .int .u32 (E : Int), .int .i64 0]) (by simp [results, Try.results20, go_sem]) rfl ?_
              unfold RPost
              rw [hOl.out]
              exact ⟨A, c, rfl, own_keep hop.out (((Keeps.refl [] wr).drewN _).drewN _) (by simp), (KF.out.drewN _).drewN _⟩
            · have hq2 := hq.out
              rw [if_pos hcrc] at hq2
              have hcb : ((CC : Int) != (SS : Int)) = true := by simp; omega
              subst hq2
              clear hq
              go_wp2_with fail
              go_quiet ((go_at_call 32; exact quiet_left (HS.out _)))
              go_wp2_with fail
              refine bodyPost_ret (v := .tuple #[.slice none 0 0, .int .u32 0, .int .i64 17]) (by simp [results, Try.results20, go_sem]) rfl ?_
              exact RPost.err (KF.out.drewN _)
  · have HO := Lib.hid (open_bad w bd bs s hD hb)
    have hq : sread s = ([], 0, bad s) := by unfold sread; rw [if_pos hb]
    rw [hq]
    have hbb : (bad s != 0) = true := by simp [hb]
    generalize bad s = x at *
    unfold lay0 head0 at HO
    clear hD hq
    go_enter Try.func20, Try.ntmps20
    go_wp2_with fail
    refine HO.out.mono ?_
    rintro e w1 ⟨rfl, k1⟩
    clear HO
    go_wp2_with fail
    refine bodyPost_ret (v := .tuple #[.slice none 0 0, .int .u32 0, .int .i64 x]) (by simp [results, Try.results20, go_sem]) rfl ?_
    exact RPost.err ((k1.alloc _).alloc _)
end Go.Proofs.Ytoefbjeclghfhaa
