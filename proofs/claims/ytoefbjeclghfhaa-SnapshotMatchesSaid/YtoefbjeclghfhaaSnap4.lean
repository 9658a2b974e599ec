/- The contracts of put, sector, number, value, fill, Header. -/
import Derived.Test.YtoefbjeclghfhaaSnap3
namespace Go.Proofs.Ytoefbjeclghfhaa
open Go.RowKit
set_option linter.unusedSimpArgs false
set_option linter.unusedVariables false

theorem Keeps.over {X : List Nat} {w0 w w' : World} {base : Nat} (h : Keeps X w0 w) (hb : w0.heap.size ≤ base) (k : Below base w w') : Keeps X w0 w' :=
  ⟨k.os.trans h.os, k.tape.trans h.tape, k.output.trans h.output, Nat.le_trans h.size k.size, fun g hg hx => (k.block g (Nat.lt_of_lt_of_le hg hb)).trans (h.block g hg hx)⟩
theorem below_trans {base : Nat} {w w1 w2 : World} (h : Below base w w1) (k : Below base w1 w2) : Below base w w2 :=
  ⟨k.os.trans h.os, k.tape.trans h.tape, k.output.trans h.output, Nat.le_trans h.size k.size, fun g hg => (k.block g hg).trans (h.block g hg)⟩
theorem below_keeps {base : Nat} {w w1 : World} (h : Keeps [] w w1) (hb : base ≤ w.heap.size) : Below base w w1 :=
  ⟨h.os, h.tape, h.output, h.size, fun g hg => h.block g (by omega) (by simp)⟩
theorem below_grown {base : Nat} {e : TypeId} {size n : Nat} {v : Value} {xs : List Value} {w w' : World} (hown : w.ownsRow base e size v n xs) (hb : base ≤ w.heap.size) (hg : w.grownBy w' v.ownBlock) : Below base w w' :=
  ⟨hg.os, hg.tape, hg.output, hg.size, fun g h => hg.block g (by omega) (fun e => by have := (own_blk hown e.symm).1; omega)⟩

theorem own_le {w : World} {base base' : Nat} {e : TypeId} {size n : Nat} {v : Value} {xs : List Value} (h : w.ownsRow base' e size v n xs) (hb : base ≤ base') : w.ownsRow base e size v n xs := by
  refine ⟨h.1, ?_⟩
  rcases h.2 with h | ⟨g, cap, cur, hv, h1, hr⟩
  · exact .inl h
  · exact .inr ⟨g, cap, cur, hv, Nat.le_trans hb h1, hr⟩
theorem own_of_blk {w : World} {base g : Nat} {l : List UInt8} (h : Blk w g 5 (l.map bv).toArray) (hb : base ≤ g) (hl : l.length ≤ maxLen) : w.ownsRow base 5 1 (.slice (some ⟨g, 0, none⟩) l.length l.length) l.length (l.map bv) :=
  ⟨by simp, .inr ⟨g, l.length, _, rfl, hb, h, Nat.le_refl _, hl, by simp, by simp [List.take_of_length_le]⟩⟩

theorem be_get : ∀ (k x j : Nat), j < k → (be k x)[j]? = some (UInt8.ofNat (x / 256 ^ (k - 1 - j)))
  | 0, x, j, h => absurd h (Nat.not_lt_zero _)
  | k + 1, x, j, h => by
    show (be k (x / 256) ++ [UInt8.ofNat x])[j]? = _
    by_cases hj : j < k
    · rw [List.getElem?_append_left (by rw [be_len]; exact hj), be_get k (x / 256) j hj, Nat.div_div_eq_div_mul, ← Nat.pow_succ', show k + 1 - 1 - j = k - 1 - j + 1 by omega]
    · obtain rfl : j = k := by omega
      rw [List.getElem?_append_right (by rw [be_len]; exact Nat.le_refl _), be_len, Nat.sub_self, show j + 1 - 1 - j = 0 by omega]
      simp
theorem be_take {k x j : Nat} (h : j < k) : (be k x).take (j + 1) = (be k x).take j ++ [UInt8.ofNat (x / 256 ^ (k - 1 - j))] := by
  have h1 := be_get k x j h
  have hl : j < (be k x).length := by rw [be_len]; exact h
  rw [List.take_succ_eq_append_getElem hl]
  rw [List.getElem?_eq_getElem hl] at h1
  rw [Option.some.inj h1]

theorem byte_shr (x i : Nat) : (x : Int) / 2 ^ (8 * i) % 256 = ((UInt8.ofNat (x / 256 ^ i)).toNat : Int) := by
  have h : (2 : Int) ^ (8 * i) = ((256 ^ i : Nat) : Int) := by
    rw [Int.pow_mul, Int.natCast_pow]; rfl
  rw [h, UInt8.toNat_ofNat', ← Int.natCast_ediv]
  omega
theorem info5 : (Try.prog.info? 5).map (fun i => (i.zero, i.size, i.bytes)) = some (some (.int .u8 0), 1, 1) := by kernel_rfl

def AddPost (base : Nat) (w : World) (l : List UInt8) (n : Nat) (e : Ending) (w' : World) : Prop :=
  ∃ A c, e = .returned (.slice A n c) ∧ w'.ownsRow base 5 1 (.slice A n c) n (l.map bv) ∧ Below base w w'

set_option maxHeartbeats 1600000 in
theorem put_any (w : World) (base : Nat) (v : Value) (l : List UInt8) (n x k : Nat) (hn : l.length = n) (hown : w.ownsRow base 5 1 v n (l.map bv)) (hb : base ≤ w.heap.size) (hk : k ≤ 8) (hx : x < 2 ^ 64) (hl : n ≤ 1000) :
    Calls Try.prog 31 #[v, .int .u64 x, .int .i64 k] w (AddPost base w (l ++ be k x) (n + k)) := by
  have hi5 := Lib.hid info5
  replace hn := Lib.hid hn
  replace hown := Lib.hid hown
  go_enter Try.func31, Try.ntmps31
  go_wp2_with fail
  go_loopw [0, 7] (fun bb iv wr => ∃ (j : Nat), j ≤ k ∧ iv = .int .i64 ((k : Int) - 1 - (j : Int)) ∧ Hid (wr.ownsRow base 5 1 bb (n + j) ((l ++ (be k x).take j).map bv)) ∧ Hid (Below base w wr)) (fun _ iv _ => (intOf iv + 1).toNat)
  case atStart => exact ⟨0, Nat.zero_le _, by simp, Lib.hid (by simpa using hown.out), Lib.hid (Below.refl _ _)⟩
  case round =>
    obtain ⟨j, hj, rfl, ho, hkw⟩ := hrel
    by_cases hlt : j < k
    · have h0 : (0 : Int) ≤ (k : Int) - 1 - (j : Int) := by omega
      have hbyte := be_take (x := x) hlt
      obtain ⟨i, hi⟩ : ∃ i : Nat, k - 1 - j = i := ⟨_, rfl⟩
      have hii : (k : Int) - 1 - (j : Int) = (i : Int) := by omega
      rw [hi] at hbyte
      have ew : IntKind.i64.wrap (8 * (i : Int)) = 8 * (i : Int) := IntWalk.i64_in _ (by omega)
      have ew2 : IntKind.i64.wrap ((i : Int) - 1) = (i : Int) - 1 := IntWalk.i64_in _ (by omega)
      rw [hii]
      replace hii := Lib.hid hii
      have hbv := byte_shr x i
      have hLl : Hid ((l ++ (be k x).take j).length = n + j) := Lib.hid (by rw [List.length_append, List.length_take, be_len, hn.out]; omega)
      have hLB : Hid (l ++ (be k x).take j ++ [UInt8.ofNat (x / 256 ^ i)] = l ++ (be k x).take (j + 1)) := Lib.hid (by rw [hbyte, List.append_assoc])
      have hnb : Hid (Bts (wr.alloc (.cells #[.int .u8 ((x : Int) / 2 ^ (8 * i) % 256)] 5)) (some ⟨wr.heap.size, 0, none⟩) [UInt8.ofNat (x / 256 ^ i)]) := Lib.hid (.inr ⟨_, 0, rfl, fun jj v hv => by
        rw [(Blk.new wr 5 _).cell]
        rcases jj with _ | jj
        · simp only [List.getElem?_cons_zero, Option.some.injEq] at hv
          subst hv
          simp only [Nat.zero_add]
          show some _ = some (bv _)
          unfold bv
          rw [← hbv]
          rfl
        · simp at hv⟩)
      have hoa := Lib.hid (ho.out.alloc (.cells #[.int .u8 ((x : Int) / 2 ^ (8 * i) % 256)] 5))
      have hka := Lib.hid (below_trans hkw.out (below_keeps ((Keeps.refl [] wr).alloc (.cells #[.int .u8 ((x : Int) / 2 ^ (8 * i) % 256)] 5)) (Nat.le_trans hb hkw.out.size)))
      have hbase : base ≤ wr.heap.size + 1 := by have := hkw.out.size; omega
      replace hbyte := Lib.hid hbyte
      replace hbv := Lib.hid hbv
      go_wp2_with (at_builtin; refine wpList_append_bts rfl (.tmp 14) (.tmp 20) 35 rfl base 5 Try.underlying35 hi5.out u0 (l ++ (be k x).take j) [UInt8.ofNat (x / 256 ^ i)] rfl ?_ _ 1 1 rfl rfl hnb.out ?_ ?_ ?_; (rw [hLl.out]; exact hoa.out); (rw [hLl.out, List.length_singleton]; omega); (simpa using hbase); (rw [hLl.out, hLB.out]); intro A' c' w1 G1 G2 G3; have hk1 := Lib.hid (below_trans hka.out (below_grown hoa.out (by simpa using hbase) G2.out)); clear G2 G3)
      go_roundw
      case rel => exact ⟨j + 1, by omega, congrArg (Value.int .i64) (by have := hii.out; omega), G1, hk1⟩
      case measure =>
        have := hii.out
        simp [intOf] <;> omega
    · obtain rfl : j = k := by omega
      have h0 : ¬ (0 : Int) ≤ (j : Int) - 1 - (j : Int) := by omega
      go_wp2_with fail
      go_ret
      have h1 := ho.out
      rw [List.take_of_length_le (by rw [be_len]; exact Nat.le_refl _)] at h1
      obtain ⟨A, c, hA⟩ : ∃ A c, u0 = .slice A (n + j) c := by
        rcases h1.2 with ⟨h2, h3⟩ | ⟨g, cap, cur, hv, _⟩
        · exact ⟨none, 0, by rw [h2, h3]⟩
        · exact ⟨_, _, hv⟩
      subst hA
      exact ⟨A, c, rfl, h1, hkw.out⟩

theorem own_slice5 {w : World} {base n : Nat} {v : Value} {l : List Value} (h : w.ownsRow base 5 1 v n l) : ∃ A c, v = .slice A n c ∧ n ≤ c ∧ c ≤ maxLen := by
  rcases h.2 with ⟨rfl, h0⟩ | ⟨g, cap, cur, hv, hb, hg, hc, hm, hs, ht⟩
  · exact ⟨none, 0, by rw [h0], by omega, by simp [maxLen]⟩
  · exact ⟨_, cap, hv, hc, hm⟩

set_option maxHeartbeats 1600000 in
theorem sector_any (w : World) (base : Nat) (v : Value) (l : List UInt8) (n : Nat) (hn : l.length = n) (hown : w.ownsRow base 5 1 v n (l.map bv)) (hb : base ≤ w.heap.size) (h64 : n ≤ 64) :
    Calls Try.prog 30 #[v] w (AddPost base w (pad l) 64) := by
  obtain ⟨A, c, rfl, _, _⟩ := own_slice5 hown
  obtain ⟨A', c', w', hr, h2, h3, h4⟩ := run_append_zeros (P := Try.prog) 35 3 35 base 5 Try.underlying35 Try.underlying3 info5 (.slice A n c) l (by rw [hn]; exact hown) (64 - n) (by omega) hb
  have e1 : IntKind.i64.wrap (64 - (n : Int)) = 64 - (n : Int) := IntWalk.i64_in _ (by omega)
  rw [show ((64 - n : Nat) : Int) = 64 - (n : Int) by omega] at hr
  have e2 : l.length + (64 - n) = 64 := by omega
  rw [e2] at hr h2 h4
  have hp : l ++ List.replicate (64 - n) 0 = pad l := by unfold pad; rw [hn]
  rw [hp] at h2
  have hk := Lib.hid (below_grown hown hb h3)
  replace hr := Lib.hid hr
  replace h2 := Lib.hid h2
  clear h3 h4 hp e2 hown
  go_enter Try.func30, Try.ntmps30
  go_wp2_with (at_builtin; refine Lib.wpList_append_run _ rfl (.tmp 3) (.tmp 6) 35 3 rfl (.slice A n c) (.int .i64 (64 - (n : Int))) rfl rfl _ _ hr.out ?_)
  go_ret
  exact ⟨A', c', rfl, h2.out, hk.out⟩

theorem be_cons : ∀ (k x : Nat), be (k + 1) x = UInt8.ofNat (x / 256 ^ k) :: be k x
  | 0, x => by show be 0 (x / 256) ++ [UInt8.ofNat x] = _; simp [be]
  | k + 1, x => by
    show be (k + 1) (x / 256) ++ [UInt8.ofNat x] = _
    rw [be_cons k (x / 256), Nat.div_div_eq_div_mul, ← Nat.pow_succ']
    rfl

set_option maxHeartbeats 1600000 in
theorem number_any (w : World) (x k : Nat) (hk : k ≤ 8) (hx : x < 2 ^ 64) :
    Calls Try.prog 49 #[.int .u64 x, .int .i64 k] w (AddPost w.heap.size w (be k x) k) := by
  have hi5 := Lib.hid info5
  go_enter Try.func49, Try.ntmps49
  go_wp2_with fail
  have ho0 : Hid ((w.alloc (.cells #[] 5)).ownsRow w.heap.size 5 1 (.slice (some ⟨w.heap.size, 0, none⟩) 0 0) 0 ((be 0 x).map bv)) := Lib.hid (World.ownsRow_made w #[] 0 (Nat.le_refl _) (by simp [maxLen]) (by simp))
  have hk0 := Lib.hid (below_keeps ((Keeps.refl [] w).alloc (.cells #[] 5)) (Nat.le_refl _))
  go_loopw [0, 5, 6] (fun xv ov iv wr => ∃ (j : Nat), j ≤ k ∧ iv = .int .i64 j ∧ xv = .int .u64 (x / 256 ^ j : Nat) ∧ Hid (wr.ownsRow w.heap.size 5 1 ov j ((be j x).map bv)) ∧ Hid (Below w.heap.size w wr)) (fun _ _ iv _ => k - (intOf iv).toNat)
  case atStart => exact ⟨0, Nat.zero_le _, rfl, by simp, ho0, hk0⟩
  case round =>
    clear ho0 hk0
    obtain ⟨j, hj, rfl, rfl, ho, hkw⟩ := hrel
    by_cases hlt : j < k
    · have hji : (j : Int) < (k : Int) := by omega
      have hcons := be_cons j x
      obtain ⟨y, hy⟩ : ∃ y, x / 256 ^ j = y := ⟨_, rfl⟩
      have hy2 : x / 256 ^ (j + 1) = y / 256 := by rw [Nat.pow_succ, ← Nat.div_div_eq_div_mul, hy]
      rw [hy] at hcons ⊢
      obtain ⟨A0, c0, rfl, _, _⟩ := own_slice5 ho.out
      obtain ⟨hb0, hl0, _, _, _⟩ := own_bts ho.out
      have hy64 : y < 2 ^ 64 := by rw [← hy]; exact Nat.lt_of_le_of_lt (Nat.div_le_self _ _) hx
      have ey : (y : Int) % 256 % 256 = (y : Int) % 256 := by omega
      have hyb : (y : Int) % 256 = ((UInt8.ofNat y).toNat : Int) := by rw [UInt8.toNat_ofNat']; omega
      have hnew : Hid ((wr.alloc (.cells #[.int .u8 ((y : Int) % 256)] 5)).ownsRow w.heap.size 5 1 (.slice (some ⟨wr.heap.size, 0, none⟩) 1 1) 1 ([UInt8.ofNat y].map bv)) := Lib.hid (by
        rw [hyb]
        exact own_of_blk (l := [UInt8.ofNat y]) (Blk.new wr 5 _) hkw.out.size (by simp [maxLen]))
      have hbb := Lib.hid (hb0.keep ((Keeps.refl [] wr).alloc (.cells #[.int .u8 ((y : Int) % 256)] 5)) (by simp))
      have hka := Lib.hid (below_trans hkw.out (below_keeps ((Keeps.refl [] wr).alloc (.cells #[.int .u8 ((y : Int) % 256)] 5)) hkw.out.size))
      have hlen : Hid ((be j x).length = j) := Lib.hid (be_len j x)
      have hco : Hid ([UInt8.ofNat y] ++ be j x = be (j + 1) x) := Lib.hid (by rw [hcons]; rfl)
      have hbase : w.heap.size ≤ wr.heap.size + 1 := by have := hkw.out.size; omega
      have h1j : Hid ([UInt8.ofNat y].length + j = j + 1) := Lib.hid (by simp; omega)
      replace hcons := Lib.hid hcons
      replace hyb := Lib.hid hyb
      replace hy := Lib.hid hy
      replace hy2 := Lib.hid hy2
      clear hb0 hl0
      go_wp2_with (at_builtin; refine wpList_append_bts rfl (.tmp 16) (.tmp 17) 35 rfl w.heap.size 5 Try.underlying35 hi5.out (.slice (some ⟨wr.heap.size, 0, none⟩) 1 1) [UInt8.ofNat y] (be j x) rfl ?_ _ _ _ rfl hlen.out hbb.out ?_ ?_ ?_; (exact hnew.out); (rw [hlen.out, List.length_singleton]; omega); (simpa using hbase); (rw [hco.out, h1j.out]); intro A' c' w1 G1 G2 G3; have hk1 := Lib.hid (below_trans hka.out (below_grown hnew.out (by simpa using hbase) G2.out)); clear G2 G3)
      go_roundw
      case rel => exact ⟨j + 1, by omega, by go_num, congrArg (Value.int .u64) (by rw [hy2.out]; omega), G1, hk1⟩
      case measure => simp [intOf]; omega
    · obtain rfl : j = k := by omega
      have hji : ¬ (j : Int) < (j : Int) := by omega
      obtain ⟨A0, c0, rfl, _, _⟩ := own_slice5 ho.out
      go_wp2_with fail
      go_ret
      exact ⟨A0, c0, rfl, ho.out, hkw.out⟩

set_option maxHeartbeats 1600000 in
theorem value_any (w : World) (A : Option Addr) (l : List UInt8) (n c : Nat) (hB : Bts w A l) (hl : l.length = n) (hn : n ≤ 8) :
    Calls Try.prog 45 #[.slice A n c] w fun e w' => e = .returned (.int .u64 (val l : Nat)) ∧ w = w' := by
  replace hB := Lib.hid hB
  replace hl := Lib.hid hl
  go_enter Try.func45, Try.ntmps45
  go_wp2_with fail
  go_loopw [3, 4] (fun rv iv wr => ∃ i : Nat, i ≤ n ∧ iv = .int .i64 i ∧ rv = .int .u64 (val (l.take i) : Nat) ∧ w = wr) (fun _ iv _ => n - (intOf iv).toNat)
  case atStart => exact ⟨0, Nat.zero_le _, rfl, rfl, rfl⟩
  case round =>
    obtain ⟨i, hi, rfl, rfl, rfl⟩ := hrel
    by_cases hlt : i < n
    · obtain ⟨v, hv⟩ : ∃ v, l[i]? = some v := ⟨l[i]'(by rw [hl.out]; exact hlt), List.getElem?_eq_getElem _⟩
      obtain ⟨g, o, rfl⟩ : ∃ g o, A = some ⟨g, o, none⟩ := by
        rcases hB.out with h | ⟨g, o, h, _⟩
        · rw [h] at hv; simp at hv
        · exact ⟨g, o, h⟩
      have hc := bts_cell hB.out hv
      have hstep := val_take hv
      have hr := val_lt i (l.take i) (by rw [List.length_take, hl.out]; omega)
      have hp := pow_256 (i := i) (by omega)
      have hv8 := v.toNat_lt
      obtain ⟨R, hR⟩ : ∃ R, val (l.take i) = R := ⟨_, rfl⟩
      rw [hR] at hstep hr ⊢
      obtain ⟨V, hV⟩ : ∃ V, v.toNat = V := ⟨_, rfl⟩
      rw [hV] at hc hv8 hstep
      have hR2 : R < 72057594037927936 := by omega
      have hii : (i : Int) < (n : Int) := by omega
      have hi0 : (0 : Int) ≤ (i : Int) := by omega
      have hw : IntKind.u64.wrap (V : Int) = V := IntWalk.u64_in _ (by omega)
      have hwm : (V : Int) % 18446744073709551616 = V := by omega
      replace hstep := Lib.hid hstep
      clear hv hR hV hp hr
      go_wp2_with fail
      go_roundw
      case rel => exact ⟨i + 1, by omega, by go_num, congrArg (Value.int .u64) (by rw [hstep.out]; omega), trivial⟩
      case measure => simp [intOf]; omega
    · obtain rfl : i = n := by omega
      have hii : ¬ (i : Int) < (i : Int) := by omega
      go_wp2_with fail
      go_ret
      refine ⟨?_, rfl⟩
      rw [List.take_of_length_le (by rw [hl.out]; omega)]
      rfl
end Go.Proofs.Ytoefbjeclghfhaa
