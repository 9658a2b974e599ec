/- Calls of Union and Meet on rows that the call owns; what is known of a set. -/
import Derived.Test.YthmnolpamllabaaIv15
namespace Go.Proofs.Ythmnolpamllabaa
open Go.RowKit Go.Lib
set_option linter.unusedSimpArgs false
set_option linter.unusedVariables false

theorem union_own (w : World) (b1 b2 : Nat) (A1 A2 : Option Addr) (c1 c2 : Nat) (l1 l2 : List Iv) (o1 : w.ownsRow b1 39 2 (.slice A1 l1.length c1) l1.length (flat l1)) (o2 : w.ownsRow b2 39 2 (.slice A2 l2.length c2) l2.length (flat l2))
    (hn1 : l1.length ≤ 100000) (hn2 : l2.length ≤ 100000) (h1 : All64 l1) (h2 : All64 l2) : Calls Try.prog 29 #[.slice A1 l1.length c1, .slice A2 l2.length c2] w fun e w' => ∃ out, Hid (IsOf (l1 ++ l2) out) ∧ Got 39 out w w' e :=
  union_got w w.heap.size A1 A2 l1 l2 c1 c2 hn1 hn2 (IvAt.of_own o1 rfl) (IvAt.of_own o2 rfl) (Nat.le_refl _) h1 h2
theorem meet_own (w : World) (b1 b2 : Nat) (A1 A2 : Option Addr) (c1 c2 : Nat) (l1 l2 : List Iv) (o1 : w.ownsRow b1 39 2 (.slice A1 l1.length c1) l1.length (flat l1)) (o2 : w.ownsRow b2 39 2 (.slice A2 l2.length c2) l2.length (flat l2))
    (hn1 : l1.length ≤ 1000) (hn2 : l2.length ≤ 1000) : Calls Try.prog 30 #[.slice A1 l1.length c1, .slice A2 l2.length c2] w fun e w' => Got 39 (meetL l1 l2) w w' e :=
  (meet_any w w.heap.size A1 A2 l1 l2 _ _ c1 c2 rfl rfl hn1 hn2 (IvAt.of_own o1 rfl) (IvAt.of_own o2 rfl) (Nat.le_refl _)).mono fun _ _ h => h.got
theorem rmeet_own (w : World) (b1 b2 : Nat) (A1 A2 : Option Addr) (c1 c2 : Nat) (l1 l2 : List Iv) (o1 : w.ownsRow b1 38 2 (.slice A1 l1.length c1) l1.length (flat l1)) (o2 : w.ownsRow b2 38 2 (.slice A2 l2.length c2) l2.length (flat l2))
    (hn1 : l1.length ≤ 1000) (hn2 : l2.length ≤ 1000) (h1 : All64 l1) (h2 : All64 l2) : Calls Try.prog 31 #[.slice A1 l1.length c1, .slice A2 l2.length c2] w fun e w' => ∃ out, Hid (IsOf (cutL l1 l2) out) ∧ Got 38 out w w' e :=
  rmeet_any w w.heap.size A1 A2 l1 l2 _ _ c1 c2 rfl rfl hn1 hn2 (IvAt.of_own o1 rfl) (IvAt.of_own o2 rfl) (Nat.le_refl _) h1 h2
theorem to_own (w : World) (b : Nat) (A : Option Addr) (c : Nat) (l : List Iv) (o : w.ownsRow b 38 2 (.slice A l.length c) l.length (flat l)) (hn : l.length ≤ 1000000) : Calls Try.prog 14 #[.slice A l.length c] w fun e w' => Got 39 l w w' e :=
  to_got w w.heap.size A c l (Nat.le_refl _) (IvAt.of_own o rfl) hn
theorem rof_own (w : World) (b : Nat) (A : Option Addr) (c : Nat) (l : List Iv) (o : w.ownsRow b 38 2 (.slice A l.length c) l.length (flat l)) (h64 : All64 l) (hn : l.length ≤ 1000000) :
    Calls Try.prog 25 #[.slice A l.length c] w fun e w' => ∃ out, Hid (IsOf l out) ∧ Got 38 out w w' e :=
  rof_got w w.heap.size A c l (Nat.le_refl _) (IvAt.of_own o rfl) h64 hn

/-- What is known of a set. -/
structure SetIs (l : List Iv) (b : Nat) (P : Int → Prop) : Prop where
  can : Canon l
  all : All64 l
  len : l.length ≤ b
  mem : ∀ n, inn l n ↔ P n
theorem SetIs.eq {l m : List Iv} {b c : Nat} {P Q : Int → Prop} (h : SetIs l b P) (k : SetIs m c Q) (e : ∀ n, P n ↔ Q n) : l = m := canon_unique h.can k.can (fun n => by rw [h.mem, k.mem, e])
theorem all64_append {a b : List Iv} (ha : All64 a) (hb : All64 b) : All64 (a ++ b) := fun x hx => by
  rcases List.mem_append.1 hx with h | h
  · exact ha x h
  · exact hb x h
theorem SetIs.first {l out : List Iv} {b : Nat} (h : IsOf l out) (h64 : All64 l) (hb : l.length ≤ b) : SetIs out b (inn l) := ⟨h.can, h.all64 h64, Nat.le_trans h.few hb, h.same⟩
theorem SetIs.union {l m out : List Iv} {b c : Nat} {P Q : Int → Prop} (h : SetIs l b P) (k : SetIs m c Q) (ho : IsOf (l ++ m) out) : SetIs out (b + c) (fun n => P n ∨ Q n) :=
  ⟨ho.can, ho.all64 (all64_append h.all k.all), Nat.le_trans ho.few (by rw [List.length_append]; have := h.len; have := k.len; omega), fun n => by rw [ho.same, inn_append, h.mem, k.mem]⟩
theorem SetIs.meet {l m : List Iv} {b c : Nat} {P Q : Int → Prop} (h : SetIs l b P) (k : SetIs m c Q) : SetIs (meetL l m) (b * c) (fun n => P n ∧ Q n) :=
  ⟨meetL_canon h.can k.can, meetL_all64 h.all k.all, Nat.le_trans (meetL_len l m) (Nat.mul_le_mul h.len k.len), fun n => by rw [meetL_inn, h.mem, k.mem]⟩
theorem SetIs.cuts {l m out : List Iv} {b c : Nat} {P Q : Int → Prop} (h : SetIs l b P) (k : SetIs m c Q) (ho : IsOf (cutL l m) out) : SetIs out (b * c) (fun n => P n ∧ Q n) :=
  ⟨ho.can, ho.all64 (cutL_all64 h.all k.all), Nat.le_trans ho.few (by rw [cutL_len]; exact Nat.mul_le_mul h.len k.len), fun n => by rw [ho.same, cutL_inn, h.mem, k.mem]⟩
/-- An empty block is an owned row. -/
theorem own_void (w : World) (e : TypeId) : (w.alloc (.cells #[] e)).ownsRow w.heap.size e 2 (.slice (some ⟨w.heap.size, 0, none⟩) 0 0) 0 [] :=
  ⟨rfl, .inr ⟨w.heap.size, 0, #[], rfl, Nat.le_refl _, Blk.new w e #[], Nat.le_refl _, by simp [maxLen], rfl, rfl⟩⟩
end Go.Proofs.Ythmnolpamllabaa
