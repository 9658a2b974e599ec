/- The logs in memory; the small functions. -/
import Derived.Test.YtnoaahgjfknnlaaWal0
import Derived.IntWalk
namespace Go.Proofs.Ytnoaahgjfknnlaa
open Go.RowKit
set_option linter.unusedSimpArgs false
set_option linter.unusedVariables false

/-- A range and an epoch that are valid. -/
def okR (n : Nat) (fi co : Int) (ep : Nat) : Prop := 0 ≤ fi ∧ 1 ≤ co ∧ fi + co ≤ n ∧ 1 ≤ ep
instance (n : Nat) (fi co : Int) (ep : Nat) : Decidable (okR n fi co ep) := by unfold okR; infer_instance

/-- The program's log at block bl, over the disk at bd: the stream L, rc records. -/
structure LRep (Z : List Nat) (w : World) (bl bd : Nat) (fi co ep : Nat) (L : List UInt8) (rc : Nat) : Prop where
  ex : ∃ A c, Blk w bl 67 #[.pointer (some ⟨bd, 0, none⟩), .int .i64 fi, .int .i64 co, .int .u32 ep, .int .i64 L.length, .slice A (L.length % 59) c, .int .i64 rc] ∧ L.length % 59 ≤ c ∧ c ≤ maxLen ∧
    Bts w A (L.drop (59 * (L.length / 59))) ∧ ∀ a, A = some a → a.block ∉ Z ∧ ∃ cur, Blk w a.block 5 cur
  co1 : co ≤ 65536
  fi1 : fi ≤ 65536
  ep0 : 1 ≤ ep
  ep1 : ep < 4294967296
  len : L.length ≤ 59 * co
  rc1 : rc ≤ 1000000

theorem LRep.keep {Z X : List Nat} {w w' : World} {bl bd fi co ep rc : Nat} {L : List UInt8} (h : LRep Z w bl bd fi co ep L rc) (hk : Keeps X w w') (h1 : bl ∉ X) (hX : ∀ g cur, Blk w g 5 cur → g ∉ Z → g ∉ X) : LRep Z w' bl bd fi co ep L rc := by
  obtain ⟨⟨A, c, b1, b2, b3, b4, b5⟩, r1, r2, r3, r4, r5, r6⟩ := h
  refine ⟨⟨A, c, b1.keep hk h1, b2, b3, b4.keep hk ?_, ?_⟩, r1, r2, r3, r4, r5, r6⟩
  · intro a ha; obtain ⟨hz, cur, hB⟩ := b5 a ha; exact hX _ cur hB hz
  · intro a ha; obtain ⟨hz, cur, hB⟩ := b5 a ha; exact ⟨hz, cur, hB.keep hk (hX _ cur hB hz)⟩
theorem LRep.more {Z : List Nat} {w : World} {bl bd fi co ep rc : Nat} {L : List UInt8} (h : LRep Z w bl bd fi co ep L rc) {x : Nat} (hx : w.heap.size ≤ x) : LRep (x :: Z) w bl bd fi co ep L rc := by
  obtain ⟨⟨A, c, b1, b2, b3, b4, b5⟩, r1, r2, r3, r4, r5, r6⟩ := h
  refine ⟨⟨A, c, b1, b2, b3, b4, ?_⟩, r1, r2, r3, r4, r5, r6⟩
  intro a ha
  obtain ⟨hz, cur, hB⟩ := b5 a ha
  have := hB.lt
  exact ⟨by simp; exact ⟨by omega, hz⟩, cur, hB⟩
theorem LRep.less {Z Y : List Nat} {w : World} {bl bd fi co ep rc : Nat} {L : List UInt8} (h : LRep Z w bl bd fi co ep L rc) (hs : ∀ y ∈ Y, y ∈ Z) : LRep Y w bl bd fi co ep L rc := by
  obtain ⟨⟨A, c, b1, b2, b3, b4, b5⟩, r1, r2, r3, r4, r5, r6⟩ := h
  refine ⟨⟨A, c, b1, b2, b3, b4, ?_⟩, r1, r2, r3, r4, r5, r6⟩
  intro a ha
  obtain ⟨hz, cur, hB⟩ := b5 a ha
  exact ⟨fun hy => hz (hs _ hy), cur, hB⟩

/-- The reference's log at block bq, over the disk at bm: the stream L is a row of its own, at block x if it has one. -/
structure LMod (w : World) (bq bm : Nat) (fi co ep : Nat) (L : List UInt8) (rc : Nat) (x : Option Nat) : Prop where
  ex : ∃ sv, Blk w bq 56 #[.pointer (some ⟨bm, 0, none⟩), .int .i64 fi, .int .i64 co, .int .u32 ep, sv, .int .i64 rc] ∧ w.ownsRow 0 5 1 sv L.length (L.map bv) ∧ sv.ownBlock = x
  co1 : co ≤ 65536
  fi1 : fi ≤ 65536
  ep0 : 1 ≤ ep
  ep1 : ep < 4294967296
  len : L.length ≤ 59 * co
  rc1 : rc ≤ 1000000

theorem LMod.keep {X : List Nat} {w w' : World} {bq bm fi co ep rc : Nat} {L : List UInt8} {x : Option Nat} (h : LMod w bq bm fi co ep L rc x) (hk : Keeps X w w') (h1 : bq ∉ X) (h2 : ∀ g, x = some g → g ∉ X) : LMod w' bq bm fi co ep L rc x := by
  obtain ⟨⟨sv, b1, b2, b3⟩, r1, r2, r3, r4, r5, r6⟩ := h
  exact ⟨⟨sv, b1.keep hk h1, own_keep b2 hk (fun g hg => h2 g (b3 ▸ hg)), b3⟩, r1, r2, r3, r4, r5, r6⟩

/-- The greatest length of a record. -/
def freeOf (n : Int) : Int := max (-1) (min (n - 4) 16777216)

set_option maxHeartbeats 800000 in
theorem free_any (Z : List Nat) (w : World) (bl bd fi co ep rc : Nat) (L : List UInt8) (h : LRep Z w bl bd fi co ep L rc) :
    Calls Try.prog 16 #[.pointer (some ⟨bl, 0, none⟩)] w fun e w' => e = .returned (.int .i64 (freeOf (59 * co - L.length : Int))) ∧ ∃ m, w' = w.drewN m := by
  obtain ⟨A, c, hB, _⟩ := h.ex
  have hc := hB.cell
  have h1 := h.co1
  have h2 := h.len
  clear h hB
  generalize L.length = n at *
  have e1 : IntKind.i64.wrap (59 * (co : Int)) = 59 * (co : Int) := IntWalk.i64_in _ (by omega)
  have e2 : IntKind.i64.wrap (59 * (co : Int) - n) = 59 * (co : Int) - n := IntWalk.i64_in _ (by omega)
  have e3 : IntKind.i64.wrap (59 * (co : Int) - n - 4) = 59 * (co : Int) - n - 4 := IntWalk.i64_in _ (by omega)
  go_enter Try.func16, Try.ntmps16
  go_wp2_with fail
  go_quiet (fail)
  go_wp2_with fail
  all_goals
    go_ret
    exact ⟨congrArg (fun z => Ending.returned (Value.int .i64 z)) (by unfold freeOf; omega), _, rfl⟩

set_option maxHeartbeats 800000 in
theorem records_any (Z : List Nat) (w : World) (bl bd fi co ep rc : Nat) (L : List UInt8) (h : LRep Z w bl bd fi co ep L rc) :
    Calls Try.prog 18 #[.pointer (some ⟨bl, 0, none⟩)] w fun e w' => e = .returned (.int .i64 rc) ∧ w = w' := by
  obtain ⟨A, c, hB, _⟩ := h.ex
  have hc := hB.cell
  clear h hB
  go_enter Try.func18, Try.ntmps18
  go_wp2_with fail
  go_ret
  exact ⟨rfl, rfl⟩

set_option maxHeartbeats 800000 in
set_option maxRecDepth 10000 in
theorem rfree0_any (w : World) (n : Int) (h0 : -9000000000 ≤ n) (h1 : n ≤ 9000000000) :
    Calls Try.prog 38 #[.int .i64 n] w fun e w' => e = .returned (.int .i64 (freeOf n)) ∧ w = w' := by
  have e1 : IntKind.i64.wrap (n - 4) = n - 4 := IntWalk.i64_in _ (by omega)
  obtain ⟨r, hr⟩ : ∃ r, r = freeOf n := ⟨_, rfl⟩
  rw [← hr]
  unfold freeOf at hr
  rcases (by omega : n - 4 < 0 ∨ (¬ n - 4 < 0 ∧ 16777216 < n - 4) ∨ (¬ n - 4 < 0 ∧ ¬ 16777216 < n - 4)) with h | ⟨h, h'⟩ | ⟨h, h'⟩
  · have : r = -1 := by omega
    subst this
    go_enter Try.func38, Try.ntmps38
    go_wp2_with fail
    go_ret
    exact ⟨rfl, rfl⟩
  · have : r = 16777216 := by omega
    subst this
    have g1 : decide (n - 4 < 0) = false := decide_eq_false h
    have g2 : decide (16777216 < n - 4) = true := decide_eq_true h'
    clear h h' hr h0 h1
    go_enter Try.func38, Try.ntmps38
    go_wp2_with fail
    go_ret
    exact ⟨rfl, rfl⟩
  · have : r = n - 4 := by omega
    subst this
    have g1 : decide (n - 4 < 0) = false := decide_eq_false h
    have g2 : decide (16777216 < n - 4) = false := decide_eq_false h'
    clear h h' hr h0 h1
    go_enter Try.func38, Try.ntmps38
    go_wp2_with fail
    go_ret
    exact ⟨rfl, rfl⟩

set_option maxHeartbeats 800000 in
theorem rfree_any (w : World) (bq bm fi co ep rc : Nat) (L : List UInt8) (x : Option Nat) (h : LMod w bq bm fi co ep L rc x) :
    Calls Try.prog 32 #[.pointer (some ⟨bq, 0, none⟩)] w fun e w' => e = .returned (.int .i64 (freeOf (59 * co - L.length : Int))) ∧ ∃ m, w' = w.drewN m := by
  obtain ⟨sv, hB, h3, _⟩ := h.ex
  have hc := hB.cell
  have h1 := h.co1
  have h2 := h.len
  obtain ⟨A, c, rfl⟩ : ∃ A c, sv = .slice A L.length c := by
    rcases h3.2 with ⟨rfl, h0⟩ | ⟨g, cap, cur, hv, _⟩
    · exact ⟨none, 0, by rw [h0]⟩
    · exact ⟨_, _, hv⟩
  clear h hB h3
  generalize L.length = n at *
  have e1 : IntKind.i64.wrap ((co : Int) * 59) = 59 * (co : Int) := by rw [IntWalk.i64_in _ (by omega)]; omega
  have e2 : IntKind.i64.wrap (59 * (co : Int) - n) = 59 * (co : Int) - n := IntWalk.i64_in _ (by omega)
  have HF := fun k => rfree0_any (w.drewN k) (59 * (co : Int) - n) (by omega) (by omega)
  replace HF := Lib.hid HF
  go_enter Try.func32, Try.ntmps32
  go_wp2_with fail
  go_quiet ((go_at_call 38; exact quiet_left (HF.out _)))
  go_wp2_with fail
  go_ret
  exact ⟨rfl, _, rfl⟩

set_option maxHeartbeats 1600000 in
theorem cap_any (w : World) (n : Int) (hn : -9223372036854775808 ≤ n ∧ n ≤ 9223372036854775807) :
    Calls Try.prog 12 #[.int .i64 n] w fun e w' => e = .returned (.int .i64 (if n < 1 then -1 else freeOf (59 * min n 1048576))) ∧ w = w' := by
  by_cases h1 : n < 1
  · rw [if_pos h1]
    go_enter Try.func12, Try.ntmps12
    go_wp2_with fail
    go_ret
    exact ⟨rfl, rfl⟩
  · rw [if_neg h1]
    have e1 : IntKind.i64.wrap (59 * (min n 1048576)) = 59 * (min n 1048576) := IntWalk.i64_in _ (by omega)
    have e2 : IntKind.i64.wrap (59 * (min n 1048576) - 4) = 59 * (min n 1048576) - 4 := IntWalk.i64_in _ (by omega)
    go_enter Try.func12, Try.ntmps12
    go_wp2_with fail
    all_goals
      go_ret
      exact ⟨congrArg (fun z => Ending.returned (Value.int .i64 z)) (by unfold freeOf; omega), rfl⟩
theorem rcap_any (w : World) (n : Int) (hn : -9223372036854775808 ≤ n ∧ n ≤ 9223372036854775807) :
    Calls Try.prog 13 #[.int .i64 n] w fun e w' => e = .returned (.int .i64 (if n < 1 then -1 else freeOf (59 * min n 1048576))) ∧ w = w' := by
  by_cases h1 : n < 1
  · rw [if_pos h1]
    go_enter Try.func13, Try.ntmps13
    go_wp2_with fail
    go_ret
    exact ⟨rfl, rfl⟩
  · rw [if_neg h1]
    by_cases h2 : 1048576 < n
    · have hf : freeOf (59 * min n 1048576) = 16777216 := by
        unfold freeOf
        omega
      rw [hf]
      clear hf
      go_enter Try.func13, Try.ntmps13
      go_wp2_with fail
      go_ret
      exact ⟨rfl, rfl⟩
    · rw [show min n 1048576 = n by omega]
      have e1 : IntKind.i64.wrap (n * 59) = 59 * n := by rw [IntWalk.i64_in _ (by omega)]; omega
      go_enter Try.func13, Try.ntmps13
      go_wp2_with fail
      refine (rfree0_any w (59 * n) (by omega) (by omega)).mono ?_
      rintro e w1 ⟨rfl, rfl⟩
      go_wp2_with fail
      go_ret
      exact ⟨rfl, rfl⟩

set_option maxHeartbeats 1600000 in
theorem valid_any (w : World) (bd bs : Nat) (s : St) (fi co : Int) (ep : Nat) (hD : DRep w bd bs s) (hep : ep < 4294967296) (hf : fi ≤ 9223372036854775807) (hc : co ≤ 9223372036854775807) :
    Calls Try.prog 39 #[.pointer (some ⟨bd, 0, none⟩), .int .i64 fi, .int .i64 co, .int .u32 ep] w fun e w' => e = .returned (.bool (decide (okR s.n fi co ep))) ∧ w = w' := by
  have HS := Lib.hid (sectors_any w bd bs s hD)
  have hn := hD.n
  clear hD
  generalize s.n = n at *
  obtain ⟨r, hr⟩ : ∃ r, r = decide (okR n fi co ep) := ⟨_, rfl⟩
  rw [← hr]
  have hr' := Lib.hid hr
  clear hr
  by_cases h0 : 0 ≤ fi
  · by_cases h1 : 1 ≤ co
    · by_cases h2 : co ≤ n
      · have e1 : IntKind.i64.wrap ((n : Int) - co) = (n : Int) - co := IntWalk.i64_in _ (by omega)
        by_cases h3 : fi ≤ n - co
        · by_cases h4 : (1 : Int) ≤ ep
          · obtain rfl : r = true := by rw [hr'.out]; exact decide_eq_true (by unfold okR; omega)
            clear hr' hep hf hc hn
            go_enter Try.func39, Try.ntmps39
            go_wp2_with ((go_at_call 51; refine HS.out.mono ?_; rintro e w1 ⟨rfl, rfl⟩))
            go_ret
            exact ⟨rfl, rfl⟩
          · obtain rfl : r = false := by rw [hr'.out]; exact decide_eq_false (by unfold okR; omega)
            obtain rfl : ep = 0 := by omega
            clear hr' hep hf hc hn
            go_enter Try.func39, Try.ntmps39
            go_wp2_with ((go_at_call 51; refine HS.out.mono ?_; rintro e w1 ⟨rfl, rfl⟩))
            go_ret
            exact ⟨rfl, rfl⟩
        · obtain rfl : r = false := by rw [hr'.out]; exact decide_eq_false (by unfold okR; omega)
          clear hr' hep hf hc hn
          go_enter Try.func39, Try.ntmps39
          go_wp2_with ((go_at_call 51; refine HS.out.mono ?_; rintro e w1 ⟨rfl, rfl⟩))
          go_ret
          exact ⟨rfl, rfl⟩
      · obtain rfl : r = false := by rw [hr'.out]; exact decide_eq_false (by unfold okR; omega)
        clear hr' hep hf hc hn
        go_enter Try.func39, Try.ntmps39
        go_wp2_with ((go_at_call 51; refine HS.out.mono ?_; rintro e w1 ⟨rfl, rfl⟩))
        go_ret
        exact ⟨rfl, rfl⟩
    · obtain rfl : r = false := by rw [hr'.out]; exact decide_eq_false (by unfold okR; omega)
      clear hr' hep hf hc hn
      go_enter Try.func39, Try.ntmps39
      go_wp2_with ((go_at_call 51; refine HS.out.mono ?_; rintro e w1 ⟨rfl, rfl⟩))
      go_ret
      exact ⟨rfl, rfl⟩
  · obtain rfl : r = false := by rw [hr'.out]; exact decide_eq_false (by unfold okR; omega)
    clear hr' hep hf hc hn
    go_enter Try.func39, Try.ntmps39
    go_wp2_with ((go_at_call 51; refine HS.out.mono ?_; rintro e w1 ⟨rfl, rfl⟩))
    go_ret
    exact ⟨rfl, rfl⟩

set_option maxHeartbeats 1600000 in
theorem may_any (w : World) (n : Nat) (fi co : Int) (ep : Nat) (hn : n ≤ 65536) (hep : ep < 4294967296) (hf : fi ≤ 9223372036854775807) (hc : co ≤ 9223372036854775807) :
    Calls Try.prog 22 #[.int .i64 n, .int .i64 fi, .int .i64 co, .int .u32 ep] w fun e w' => e = .returned (.bool (decide (okR n fi co ep))) ∧ w = w' := by
  obtain ⟨r, hr⟩ : ∃ r, r = decide (okR n fi co ep) := ⟨_, rfl⟩
  rw [← hr]
  have hr' := Lib.hid hr
  clear hr
  by_cases h0 : 0 ≤ fi
  · by_cases h2 : fi ≤ n
    · by_cases h1 : 1 ≤ co
      · have e1 : IntKind.i64.wrap ((n : Int) - fi) = (n : Int) - fi := IntWalk.i64_in _ (by omega)
        by_cases h3 : co ≤ n - fi
        · by_cases h4 : (1 : Int) ≤ ep
          · obtain rfl : r = true := by rw [hr'.out]; exact decide_eq_true (by unfold okR; omega)
            clear hr' hep hf hc hn
            go_enter Try.func22, Try.ntmps22
            go_wp2_with fail
            go_ret
            exact ⟨rfl, rfl⟩
          · obtain rfl : r = false := by rw [hr'.out]; exact decide_eq_false (by unfold okR; omega)
            obtain rfl : ep = 0 := by omega
            clear hr' hep hf hc hn
            go_enter Try.func22, Try.ntmps22
            go_wp2_with fail
            go_ret
            exact ⟨rfl, rfl⟩
        · obtain rfl : r = false := by rw [hr'.out]; exact decide_eq_false (by unfold okR; omega)
          clear hr' hep hf hc hn
          go_enter Try.func22, Try.ntmps22
          go_wp2_with fail
          go_ret
          exact ⟨rfl, rfl⟩
      · obtain rfl : r = false := by rw [hr'.out]; exact decide_eq_false (by unfold okR; omega)
        clear hr' hep hf hc hn
        go_enter Try.func22, Try.ntmps22
        go_wp2_with fail
        go_ret
        exact ⟨rfl, rfl⟩
    · obtain rfl : r = false := by rw [hr'.out]; exact decide_eq_false (by unfold okR; omega)
      clear hr' hep hf hc hn
      go_enter Try.func22, Try.ntmps22
      go_wp2_with fail
      go_ret
      exact ⟨rfl, rfl⟩
  · obtain rfl : r = false := by rw [hr'.out]; exact decide_eq_false (by unfold okR; omega)
    clear hr' hep hf hc hn
    go_enter Try.func22, Try.ntmps22
    go_wp2_with fail
    go_ret
    exact ⟨rfl, rfl⟩

set_option maxHeartbeats 800000 in
theorem lnew_bad (w : World) (bd bs : Nat) (s : St) (fi co : Int) (ep : Nat) (hD : DRep w bd bs s) (hep : ep < 4294967296) (hf : fi ≤ 9223372036854775807) (hc : co ≤ 9223372036854775807) (hx : ¬ okR s.n fi co ep) :
    Calls Try.prog 15 #[.pointer (some ⟨bd, 0, none⟩), .int .i64 fi, .int .i64 co, .int .u32 ep] w fun e w' => e = .returned (.tuple #[.pointer none, .int .i64 1]) ∧ w = w' := by
  have HV := valid_any w bd bs s fi co ep hD hep hf hc
  rw [decide_eq_false hx] at HV
  replace HV := Lib.hid HV
  clear hD
  go_enter Try.func15, Try.ntmps15
  go_wp2_with fail
  refine HV.out.mono ?_
  rintro e w1 ⟨rfl, rfl⟩
  go_wp2_with fail
  go_ret2
  exact ⟨rfl, rfl⟩

set_option maxHeartbeats 800000 in
theorem lnew_ok (Z : List Nat) (w : World) (bd bs : Nat) (s : St) (fi co ep : Nat) (hD : DRep w bd bs s) (hep : ep < 4294967296) (hx : okR s.n fi co ep) :
    Calls Try.prog 15 #[.pointer (some ⟨bd, 0, none⟩), .int .i64 fi, .int .i64 co, .int .u32 ep] w fun e w' => e = .returned (.tuple #[.pointer (some ⟨w.heap.size, 0, none⟩), .int .i64 0]) ∧ LRep Z w' w.heap.size bd fi co ep [] 0 ∧ Keeps [] w w' := by
  have hn := hD.n
  have hx2 := hx
  unfold okR at hx2
  have HV := valid_any w bd bs s fi co ep hD hep (by omega) (by omega)
  rw [decide_eq_true hx] at HV
  replace HV := Lib.hid HV
  clear hD hx
  go_enter Try.func15, Try.ntmps15
  go_wp2_with fail
  refine HV.out.mono ?_
  rintro e w1 ⟨rfl, rfl⟩
  go_wp2_with fail
  go_ret2
  exact ⟨rfl, ⟨⟨none, 0, Blk.new _ _ _, by simp, by simp [maxLen], .inl rfl, fun a ha => by cases ha⟩, by omega, by omega, by omega, hep, by simp, by omega⟩, (Keeps.refl _ _).alloc _⟩

set_option maxHeartbeats 800000 in
theorem rlnew_any (w : World) (bm fi co ep : Nat) (h1 : fi ≤ 65536) (h2 : co ≤ 65536) (h3 : 1 ≤ ep) (h4 : ep < 4294967296) :
    Calls Try.prog 30 #[.pointer (some ⟨bm, 0, none⟩), .int .i64 fi, .int .i64 co, .int .u32 ep] w fun e w' => e = .returned (.pointer (some ⟨w.heap.size, 0, none⟩)) ∧ LMod w' w.heap.size bm fi co ep [] 0 none ∧ Keeps [] w w' := by
  go_enter Try.func30, Try.ntmps30
  go_wp2_with fail
  go_ret
  exact ⟨rfl, ⟨⟨_, Blk.new _ _ _, World.ownsRow_nil _ _ _ _, rfl⟩, h2, h1, h3, h4, by simp, by omega⟩, (Keeps.refl _ _).alloc _⟩
end Go.Proofs.Ytnoaahgjfknnlaa
