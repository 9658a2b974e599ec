/- Fresh, of the program and of the reference. -/
import Derived.Test.YtnoaahgjfknnlaaWal10
import Derived.Maps.OwnSet
import Derived.Maps.OwnOps
namespace Go.Proofs.Ytnoaahgjfknnlaa
open Go.RowKit
set_option linter.unusedSimpArgs false
set_option linter.unusedVariables false

/-- An epoch that a sector of the range ends with. -/
def Used (s : St) (fi co e : Nat) : Prop := ∃ j, j < co ∧ epo (sec s (fi + j)) = e

/-- The least number from ep on that is not used; 0: there is none. -/
def FreshIs (U : Nat → Prop) (ep m : Nat) : Prop :=
  (ep ≤ m ∧ m < 4294967296 ∧ ¬ U m ∧ ∀ e, ep ≤ e → e < m → U e) ∨ (m = 0 ∧ ∀ e, ep ≤ e → e < 4294967296 → U e)

theorem FreshIs.unique {U : Nat → Prop} {ep m m' : Nat} (h : FreshIs U ep m) (h' : FreshIs U ep m') : m = m' := by
  rcases h with ⟨a1, a2, a3, a4⟩ | ⟨a1, a2⟩ <;> rcases h' with ⟨b1, b2, b3, b4⟩ | ⟨b1, b2⟩
  · rcases Nat.lt_trichotomy m m' with h | h | h
    · exact absurd (b4 m a1 h) a3
    · exact h
    · exact absurd (a4 m' b1 h) b3
  · exact absurd (b2 m a1 a2) a3
  · exact absurd (a2 m' b1 b2) b3
  · omega

def FreshPost (s : St) (fi co ep : Nat) (w : World) (e : Ending) (w' : World) : Prop :=
  ∃ m : Nat, FreshIs (Used s fi co) ep m ∧ m < 4294967296 ∧ e = .returned (.int .u32 m) ∧ Keeps [] w w'

set_option maxHeartbeats 1600000 in
theorem rfresh_any {Z : List Nat} (w : World) (bm bS : Nat) (s : St) (fi co ep : Nat) (hM : MRep Z w bm bS s) (hx : fi + co ≤ s.n) (hep : ep < 4294967296) :
    Calls Try.prog 23 #[.pointer (some ⟨bm, 0, none⟩), .int .i64 fi, .int .i64 co, .int .u32 ep] w (FreshPost s fi co ep w) := by
  have hn := hM.n
  have hsn : Hid (fi + co ≤ s.n) := Lib.hid hx
  have hfc : fi + co ≤ 65536 := by omega
  clear hx hn
  replace hM := Lib.hid hM
  have e0 : IntKind.i64.wrap ((fi : Int) + (co : Int)) = (fi : Int) + (co : Int) := IntWalk.i64_in _ (by omega)
  go_enter Try.func23, Try.ntmps23
  go_wp2_with fail
  go_loopw [3] (fun ev wr => ∃ k : Nat, ep ≤ k ∧ k < 4294967296 ∧ ev = .int .u32 k ∧ Hid (∀ e, ep ≤ e → e < k → Used s fi co e) ∧ Hid (Keeps [] w wr)) (fun ev _ => 4294967296 - (intOf ev).toNat)
  case atStart => exact ⟨ep, Nat.le_refl _, hep, rfl, Lib.hid (fun e h1 h2 => absurd h1 (by omega)), Lib.hid (Keeps.refl _ _)⟩
  case round =>
    obtain ⟨k, hk0, hk, rfl, hall, hkw⟩ := hrel
    go_wp2_with fail
    go_loopw [9, 10] (fun uv iv wx => ∃ (j : Nat) (b : Bool), j ≤ co ∧ iv = .int .i64 ((fi : Int) + (j : Int)) ∧ uv = .bool b ∧ Hid (b = true ↔ ∃ i, i < j ∧ epo (sec s (fi + i)) = k) ∧ Hid (Keeps [] w wx)) (fun _ iv _ => fi + co - (intOf iv).toNat)
    case atStart => exact ⟨0, false, Nat.zero_le _, by simp, rfl, Lib.hid (by simp), hkw⟩
    case round =>
      obtain ⟨j, b, hj, rfl, rfl, hb, hkx⟩ := hrel
      by_cases hlt : j < co
      · have hjl : (fi : Int) + (j : Int) < (fi : Int) + (co : Int) := by omega
        have ew : IntKind.i64.wrap ((fi : Int) + (j : Int) + 1) = (fi : Int) + (j : Int) + 1 := IntWalk.i64_in _ (by omega)
        have hstep : Hid (∀ b2 : Bool, (b2 = true ↔ (b = true ∨ epo (sec s (fi + j)) = k)) → (b2 = true ↔ ∃ i, i < j + 1 ∧ epo (sec s (fi + i)) = k)) := Lib.hid (by
          intro b2 h2
          rw [h2, hb.out]
          constructor
          · rintro (⟨i, h1, h3⟩ | h)
            · exact ⟨i, by omega, h3⟩
            · exact ⟨j, by omega, h⟩
          · rintro ⟨i, h1, h4⟩
            rcases Nat.lt_or_ge i j with h3 | h3
            · exact .inl ⟨i, h3, h4⟩
            · exact .inr (by obtain rfl : i = j := by omega
                             exact h4))
        cases b
        · have HE := Lib.hid (ends_any wr bm bS s (fi + j) k (hM.out.keep hkx.out (by simp) (by simp) (by simp)) (by have := hsn.out; omega) hk)
          have hcast : ((fi + j : Nat) : Int) = (fi : Int) + (j : Int) := by omega
          rw [hcast] at HE
          replace hcast := Lib.hid hcast
          go_wp2_with fail
          refine HE.out.mono ?_
          rintro e wy ⟨rfl, ky⟩
          clear HE
          obtain ⟨b2, hb2⟩ : ∃ b2, decide (epo (sec s (fi + j)) = k) = b2 := ⟨_, rfl⟩
          rw [hb2]
          have hb3 := hstep.out b2 (by rw [← hb2]; simp)
          replace hb3 := Lib.hid hb3
          clear hb2 hstep
          go_wp2_with fail
          go_roundw
          case rel => exact ⟨j + 1, b2, by omega, congrArg (Value.int .i64) (by omega), rfl, hb3, Lib.hid (hkx.out.trans ky)⟩
          case measure => simp [intOf]; omega
        · have hb3 := hstep.out true (by simp)
          replace hb3 := Lib.hid hb3
          clear hstep
          go_wp2_with fail
          go_roundw
          case rel => exact ⟨j + 1, true, by omega, congrArg (Value.int .i64) (by omega), rfl, hb3, hkx⟩
          case measure => simp [intOf]; omega
      · obtain rfl : j = co := by omega
        have hjl : ¬ (fi : Int) + (j : Int) < (fi : Int) + (j : Int) := by omega
        cases b
        · go_wp2_with fail
          go_ret
          exact ⟨k, .inl ⟨hk0, hk, (fun hu => by have := hb.out.2 hu; cases this), hall.out⟩, hk, rfl, hkx.out⟩
        · have hu : Used s fi j k := hb.out.1 rfl
          have hall2 : Hid (∀ e, ep ≤ e → e < k + 1 → Used s fi j e) := Lib.hid (by
            intro e h1 h2
            rcases Nat.lt_or_ge e k with h3 | h3
            · exact hall.out e h1 h3
            · obtain rfl : e = k := by omega
              exact hu)
          clear hu hb
          by_cases hmax : k = 4294967295
          · subst hmax
            go_wp2_with fail
            go_ret
            exact ⟨0, .inr ⟨rfl, fun e h1 h2 => hall2.out e h1 (by omega)⟩, by omega, rfl, hkx.out⟩
          · have hm1 : ((k : Int) == 4294967295) = false := by simp; omega
            have ew : IntKind.u32.wrap ((k : Int) + 1) = (k : Int) + 1 := by rw [IntKind.wrap_u32']; omega
            have ew2 : ((k : Int) + 1) % 4294967296 = (k : Int) + 1 := by omega
            go_wp2_with fail
            go_roundw
            case rel => exact ⟨k + 1, by omega, by omega, congrArg (Value.int .u32) (by omega), hall2, hkx⟩
            case measure => simp [intOf]; omega

/-- The map of the epochs that were read: at block b, at most n keys; T says which. -/
def Taken (w : World) (b n : Nat) (T : Nat → Prop) : Prop :=
  ∃ D : DataW Unit, w.ownsMap Try.prog 31 (plainElem Try.prog 4) b n D ∧ ∀ e : Nat, e < 4294967296 → ∃ bb : Bool, D.atKey (.int .u32 (e : Int)) (.lit (.bool false)) = .lit (.bool bb) ∧ (bb = true ↔ T e)

theorem Taken.start (w : World) : Taken (w.alloc (.map #[] 0)) w.heap.size 0 (fun _ => False) :=
  ⟨_, World.ownsMap_made _ _ _ _, fun e _ => ⟨false, rfl, by simp⟩⟩
theorem Taken.keep {w w' : World} {X : List Nat} {b n : Nat} {T : Nat → Prop} (h : Taken w b n T) (hk : Keeps X w w') (hb : b ∉ X) : Taken w' b n T := by
  obtain ⟨D, ⟨es, clock, h1, h2⟩, h3⟩ := h
  exact ⟨D, ⟨es, clock, (hk.block b (Array.getElem?_eq_some_iff.1 h1).1 hb).trans h1, h2⟩, h3⟩
theorem Taken.congr_ {w : World} {b n : Nat} {T T' : Nat → Prop} (h : Taken w b n T) (ht : ∀ e, T e ↔ T' e) : Taken w b n T' := by
  obtain ⟨D, h1, h2⟩ := h
  exact ⟨D, h1, fun e he => by obtain ⟨bb, h3, h4⟩ := h2 e he; exact ⟨bb, h3, h4.trans (ht e)⟩⟩
theorem key31 {e : Nat} (he : e < 4294967296) : keyOf Try.prog 31 (.int .u32 (e : Int)) = some (.int .u32 (e : Int)) :=
  Maps.keyOf_int_mk Try.underlying31 (by simp [Lit.wf, IntKind.min, IntKind.max, IntKind.signed, IntKind.bits]; omega)
theorem keyed31 : Maps.Keyed Try.prog 31 := Maps.int_keyed Try.underlying31
theorem zero4 (w : World) : (zeroValue 4).run Try.prog w = .ok (.bool false) w := by kernel_rfl
theorem Taken.look {w : World} {b n : Nat} {T : Nat → Prop} (h : Taken w b n T) {e : Nat} (he : e < 4294967296) : ∃ bb : Bool, (Instr.lookup 72 (.map (some b)) (.int .u32 (e : Int)) false).run Try.prog w = .ok (.bool bb) w ∧ (bb = true ↔ T e) := by
  obtain ⟨D, h1, h2⟩ := h
  obtain ⟨v, ps, hrun, hv⟩ := h1.lookup keyed31 Try.underlying72 (zero4 w) (plainElem_bool Try.underlying4 false) (key31 he)
  obtain ⟨bb, hb1, hb2⟩ := h2 e he
  rw [hb1] at hv
  refine ⟨bb, ?_, hb2⟩
  rw [hrun]
  unfold plainElem at hv
  rw [Try.underlying4] at hv
  cases v <;> simp at hv
  rw [hv.1]
theorem wpList_taken {w : World} {ops : Array Oper} {rest : List Oper} {o : Oper} {a : Act} {Q : Exit → Act → World → Prop} (hg : o.guard = none) (m x v : Operand) (hop : o.op = Op.mapUpdate 72 m x v)
    (b n : Nat) (T : Nat → Prop) (hm : a.eval m = .map (some b)) (h : Taken w b n T) (hn : n < 1000) (e : Nat) (he : e < 4294967296) (hx : a.eval x = .int .u32 (e : Int)) (hv : a.eval v = .bool true)
    (hK : ∀ w', Hid (Taken w' b (n + 1) (fun k => k = e ∨ T k)) → Hid (Keeps [b] w w') → wpList Try.prog ops Q rest (a.put o.dst undef) w') : wpList Try.prog ops Q (o :: rest) a w := by
  obtain ⟨D, h1, h2⟩ := h
  refine wpList_mapUpdate_own _ hg m x v 72 hop 31 4 keyed31 Try.underlying72 (plainElem Try.prog 4) b n D hm h1 (by unfold maxLen; omega) _ _ (.int .u32 (e : Int)) hx hv (key31 he) (.lit (.bool true)) [] (plainElem_bool Try.underlying4 true) ?_
  intro w1 hown1 hgrow1
  refine hK w1 (Lib.hid ⟨_, hown1, fun k hk => ?_⟩) (Lib.hid (Keeps.grown hgrow1 (by intro k hk; cases hk; simp)))
  by_cases hke : k = e
  · subst hke
    exact ⟨true, Maps.atKey_put_same h1.isMap (by trivial) _ _, by simp⟩
  · obtain ⟨bb, hb1, hb2⟩ := h2 k hk
    refine ⟨bb, ?_, by rw [hb2]; simp [hke]⟩
    rw [Maps.atKey_put_other (by intro h; injection h with _ h; exact hke (by omega))]
    exact hb1

set_option maxHeartbeats 400000 in
theorem fresh_bad (w : World) (bd bs : Nat) (s : St) (fi co : Int) (ep : Nat) (hD : DRep w bd bs s) (hep : ep < 4294967296) (hf : fi ≤ 9223372036854775807) (hc : co ≤ 9223372036854775807) (hx : ¬ okR s.n fi co ep) :
    Calls Try.prog 21 #[.pointer (some ⟨bd, 0, none⟩), .int .i64 fi, .int .i64 co, .int .u32 ep] w fun e w' => e = .returned (.tuple #[.int .u32 0, .int .i64 1]) ∧ w = w' := by
  have HV := valid_any w bd bs s fi co ep hD hep hf hc
  rw [decide_eq_false hx] at HV
  replace HV := Lib.hid HV
  clear hD
  go_enter Try.func21, Try.ntmps21
  go_wp2_with fail
  refine HV.out.mono ?_
  rintro e w1 ⟨rfl, rfl⟩
  go_wp2_with fail
  go_ret2
  exact ⟨rfl, rfl⟩

def FreshPost2 (s : St) (fi co ep : Nat) (w : World) (e : Ending) (w' : World) : Prop :=
  ∃ m : Nat, FreshIs (Used s fi co) ep m ∧ m < 4294967296 ∧ e = .returned (.tuple #[.int .u32 m, .int .i64 (if m = 0 then 16 else 0)]) ∧ Keeps [] w w'

set_option maxHeartbeats 1600000 in
theorem fresh_ok (w : World) (bd bs : Nat) (s : St) (fi co ep : Nat) (hD : DRep w bd bs s) (hdown : s.down = false) (hx : okR s.n fi co ep) (hep : ep < 4294967296) (hco : co ≤ 100) :
    Calls Try.prog 21 #[.pointer (some ⟨bd, 0, none⟩), .int .i64 fi, .int .i64 co, .int .u32 ep] w (FreshPost2 s fi co ep w) := by
  have hn := hD.n
  have hx2 := hx
  unfold okR at hx2
  have HV := valid_any w bd bs s fi co ep hD hep (by omega) (by omega)
  rw [decide_eq_true hx] at HV
  have HF := failed_any w bd bs s hD
  rw [hdown] at HF
  replace HV := Lib.hid HV
  replace HF := Lib.hid HF
  replace hD := Lib.hid hD
  replace hx := Lib.hid hx
  have hmm := @run_makeMap Try.prog
  go_enter Try.func21, Try.ntmps21
  go_wp2_with fail
  refine HV.out.mono ?_
  rintro e w1 ⟨rfl, rfl⟩
  go_wp2_with fail
  refine HF.out.mono ?_
  rintro e w1 ⟨rfl, rfl⟩
  clear HV HF
  go_wp2_with fail
  have hM0 := Lib.hid (Taken.start w)
  have hk0 := Lib.hid ((Keeps.refl [] w).alloc (.map #[] 0))
  clear hmm
  go_loopw [24] (fun iv wr => ∃ j : Nat, j ≤ co ∧ iv = .int .i64 j ∧ Hid (Taken wr w.heap.size j (fun e => ∃ i, i < j ∧ epo (sec s (fi + i)) = e)) ∧ Hid (Keeps [] w wr)) (fun iv _ => co - (intOf iv).toNat)
  case atStart => exact ⟨0, Nat.zero_le _, rfl, Lib.hid (by simpa using hM0.out), hk0⟩
  case round =>
    obtain ⟨j, hj, rfl, hT, hkw⟩ := hrel
    by_cases hlt : j < co
    · have hi : fi + j < s.n := by omega
      have hck : chk s ((fi + j : Nat) : Int) = 0 := by unfold chk; rw [hdown]; simp; omega
      have HR := read_ok wr bd bs s (fi + j) (hD.out.keep hkw.out (by simp) (by simp)) hck hi
      rw [show ((fi + j : Nat) : Int) = (fi : Int) + (j : Int) by omega] at HR
      have hbl := sec_len hD.out hi
      generalize hb : sec s (fi + j) = b at *
      replace hb := Lib.hid hb
      replace HR := Lib.hid HR
      have hk0 : (j : Int) < (co : Int) := by omega
      clear hck
      go_wp2_with fail
      refine HR.out.mono ?_
      rintro e w1 ⟨rfl, hB, k1⟩
      replace hT := Lib.hid (hT.out.keep k1 (by simp))
      replace hkw := Lib.hid (hkw.out.trans k1)
      have hB60 : Bts w1 (some ⟨wr.heap.size, 60, none⟩) (b.drop 60) := .inr ⟨_, 60, rfl, fun j v hj => by
        rw [hB.cell]
        rw [List.getElem?_drop] at hj
        simp [hj]⟩
      have HG := Lib.hid (get_any w1 (some ⟨wr.heap.size, 60, none⟩) (b.drop 60) 4 4 hB60 (by rw [List.length_drop]; omega) (by omega))
      rw [show num (b.drop 60) = epo b from rfl] at HG
      have hEl : epo b < 4294967296 := num_lt _
      generalize hE : epo b = E at *
      replace hE := Lib.hid hE
      clear HR hB hB60 k1
      go_wp2_with fail
      refine HG.out.mono ?_
      rintro e w2 ⟨rfl, m, rfl⟩
      replace hT := Lib.hid (hT.out.keep ((Keeps.refl [] w1).drewN m) (by simp))
      replace hkw := Lib.hid (hkw.out.drewN m)
      generalize w1.drewN m = w2 at *
      clear HG
      go_wp2_with (refine wpList_taken rfl _ _ _ rfl w.heap.size j _ rfl hT.out ?_ E hEl rfl rfl ?_; omega; intro w3 hT3 k3)
      go_roundw
      case rel =>
        refine ⟨j + 1, by omega, by go_num, Lib.hid ?_, Lib.hid ((hkw.out.nil.trans k3.out).mono (fun x hx => .inr (by simp at hx; omega)))⟩
        have h1 := hT3.out
        refine h1.congr_ ?_
        intro e
        constructor
        · rintro (h | ⟨i, h2, h3⟩)
          · exact ⟨j, by omega, by rw [hb.out, hE.out, h]⟩
          · exact ⟨i, by omega, h3⟩
        · rintro ⟨i, h2, h3⟩
          rcases Nat.lt_or_ge i j with h4 | h4
          · exact .inr ⟨i, h4, h3⟩
          · obtain rfl : i = j := by omega
            rw [hb.out, hE.out] at h3
            exact .inl h3.symm
      case measure => simp [intOf]; omega
    · obtain rfl : j = co := by omega
      have hk0 : ¬ (j : Int) < (j : Int) := by omega
      have hkw0 := hkw
      clear hM0
      go_wp2_with fail
      go_loopw [3] (fun ev wr => ∃ k : Nat, ep ≤ k ∧ k < 4294967296 ∧ ev = .int .u32 k ∧ Hid (∀ e, ep ≤ e → e < k → Used s fi j e) ∧ Hid (Taken wr w.heap.size j (fun e => ∃ i, i < j ∧ epo (sec s (fi + i)) = e)) ∧ Hid (Keeps [] w wr)) (fun ev _ => 4294967296 - (intOf ev).toNat)
      case atStart => exact ⟨ep, Nat.le_refl _, hep, rfl, Lib.hid (fun e h1 h2 => absurd h1 (by omega)), hT, hkw⟩
      case round =>
        clear hT hkw hkw0
        obtain ⟨k, hk0, hk, rfl, hall, hT, hkw⟩ := hrel
        obtain ⟨bb, hrun, hbb⟩ := hT.out.look hk
        replace hbb := Lib.hid hbb
        cases bb
        · go_wp2_with fail
          go_ret2
          refine ⟨k, .inl ⟨hk0, hk, (fun hu => by have := hbb.out.2 hu; cases this), hall.out⟩, hk, ?_, hkw.out⟩
          rw [if_neg (by omega)]
          rfl
        · have hu : Used s fi j k := hbb.out.1 rfl
          have hall2 : Hid (∀ e, ep ≤ e → e < k + 1 → Used s fi j e) := Lib.hid (by
            intro e h1 h2
            rcases Nat.lt_or_ge e k with h3 | h3
            · exact hall.out e h1 h3
            · obtain rfl : e = k := by omega
              exact hu)
          clear hu hbb
          by_cases hmax : k = 4294967295
          · have ew : IntKind.u32.wrap ((k : Int) + 1) = 0 := by rw [IntKind.wrap_u32']; omega
            have ew2 : ((k : Int) + 1) % 4294967296 = 0 := by omega
            replace hmax := Lib.hid hmax
            go_wp2_with fail
            go_ret2
            have := hmax.out
            exact ⟨0, .inr ⟨rfl, fun e h1 h2 => hall2.out e h1 (by omega)⟩, by omega, rfl, hkw.out⟩
          · have ew : IntKind.u32.wrap ((k : Int) + 1) = (k : Int) + 1 := by rw [IntKind.wrap_u32']; omega
            have ew2 : ((k : Int) + 1) % 4294967296 = (k : Int) + 1 := by omega
            have hz1 : ((k : Int) + 1 == 0) = false := by simp; omega
            go_wp2_with fail
            go_roundw
            case rel => exact ⟨k + 1, by omega, by omega, congrArg (Value.int .u32) (by omega), hall2, hT, hkw⟩
            case measure => simp [intOf]; omega
end Go.Proofs.Ytnoaahgjfknnlaa
