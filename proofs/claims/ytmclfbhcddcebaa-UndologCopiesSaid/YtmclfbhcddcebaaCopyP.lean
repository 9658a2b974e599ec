/- Rows that are written over: what stays. -/
import Derived.Test.YtmclfbhcddcebaaU19
namespace Go.Proofs.Ytmclfbhcddcebaa
open Go.RowKit Go.Shelf
set_option linter.unusedSimpArgs false
set_option linter.unusedVariables false

/-- Cells of a row of values that may be written. -/
def Pad (w : World) (A : Option Addr) (n : Nat) : Prop := n = 0 ∨ ∃ g off cs, A = some ⟨g, off, none⟩ ∧ Blk w g 41 cs ∧ off + n * 3 ≤ cs.size
/-- Only the values of A's block may have turned. -/
structure Wr (A : Option Addr) (w0 wr : World) : Prop where
  kp : Keeps (fb A) w0 wr
  sz : ∀ g ∈ fb A, ∀ cs, Blk w0 g 41 cs → ∃ cs', Blk wr g 41 cs' ∧ cs'.size = cs.size
theorem Wr.refl (A : Option Addr) (w : World) : Wr A w w := ⟨Keeps.refl _ _, fun g _ cs h => ⟨cs, h, rfl⟩⟩
theorem Wr.step {g off : Nat} {w0 wr w' : World} {cs cs' : Array Value} (h : Wr (some ⟨g, off, none⟩) w0 wr) (k : Keeps [g] wr w') (b : Blk wr g 41 cs) (b' : Blk w' g 41 cs') (hs : cs'.size = cs.size) : Wr (some ⟨g, off, none⟩) w0 w' :=
  ⟨h.kp.trans (by simpa [fb] using k), fun g' hg c hc => by
    obtain rfl : g' = g := by simpa [fb] using hg
    obtain ⟨c1, h1, h2⟩ := h.sz g' hg c hc
    have e : c1 = cs := by
      unfold Blk at h1 b
      rw [h1] at b
      injection b with b
      injection b
    exact ⟨cs', b', by rw [hs, ← e, h2]⟩⟩
theorem Wr.all {A : Option Addr} {w0 wr : World} (h : Wr A w0 wr) {g : Nat} {cs : Array Value} (b : Blk w0 g 41 cs) : ∃ cs', Blk wr g 41 cs' ∧ cs'.size = cs.size := by
  by_cases hg : g ∈ fb A
  · exact h.sz g hg cs b
  · exact ⟨cs, b.keep h.kp hg, rfl⟩
theorem Pad.wr {A B : Option Addr} {n : Nat} {w0 wr : World} (h : Pad w0 B n) (k : Wr A w0 wr) : Pad wr B n := by
  rcases h with h | ⟨g, off, cs, rfl, hb, hs⟩
  · exact .inl h
  · obtain ⟨cs', h1, h2⟩ := k.all hb
    exact .inr ⟨g, off, cs', rfl, h1, by omega⟩
theorem pad_own {w : World} {base n c : Nat} {A : Option Addr} {xs : List Value} (h : w.ownsRow base 41 3 (.slice A n c) n xs) : Pad w A n := by
  rcases h.2 with ⟨h1, h2⟩ | ⟨g, cap, cur, hv, hb, hg, hc, hm, hs, ht⟩
  · exact .inl h2
  · injection hv with hA _ hcap
    exact .inr ⟨g, 0, cur, hA, hg, by rw [hs]; omega⟩
theorem pad_cel {w : World} {X : List Nat} {A : Option Addr} {l : List Val} {n : Nat} (h : RowAt w X A l) (hc : Cel w A) (hn : l.length = n) : Pad w A n := by
  rcases Nat.eq_zero_or_pos n with h0 | h0
  · exact .inl h0
  · obtain ⟨v, hv⟩ : ∃ v, l[n - 1]? = some v := ⟨l[n - 1]'(by omega), List.getElem?_eq_getElem _⟩
    obtain ⟨g, off, rfl, _, _, _, h3⟩ := h _ v hv
    obtain ⟨cs, hb⟩ := hc _ rfl
    dsimp only at hb
    rw [hb.cell] at h3
    have := (Array.getElem?_eq_some_iff.1 h3).1
    exact .inr ⟨g, off, cs, rfl, hb, by omega⟩
/-- Rows that are new since wb may be written over. -/
structure Clob (wb wN wr : World) : Prop where
  kp : Keeps [] wb wr
  sz : ∀ g cs, Blk wN g 41 cs → ∃ cs', Blk wr g 41 cs' ∧ cs'.size = cs.size
  ot : ∀ g t cs, t ≠ 41 → Blk wN g t cs → Blk wr g t cs
theorem Clob.refl {wb w : World} (k : Keeps [] wb w) : Clob wb w w := ⟨k, fun g cs h => ⟨cs, h, rfl⟩, fun g t cs _ h => h⟩
theorem Clob.keep {wb wN wr w' : World} (h : Clob wb wN wr) (k : Keeps [] wr w') : Clob wb wN w' :=
  ⟨h.kp.trans k, fun g cs hb => by obtain ⟨c', h1, h2⟩ := h.sz g cs hb; exact ⟨c', h1.keep k (by simp), h2⟩, fun g t cs ht hb => (h.ot g t cs ht hb).keep k (by simp)⟩
theorem Clob.wr {wb wN w1 w' : World} {A : Option Addr} (h : Clob wb wN w1) (k : Wr A w1 w') (hf : Fresh wb.heap.size A) (hc : Cel wN A) : Clob wb wN w' := by
  refine ⟨(h.kp.nil.trans k.kp).mono (fun g hg => .inr ?_), fun g cs hb => ?_, fun g t cs ht hb => ?_⟩
  · cases A with
    | none => simp [fb] at hg
    | some a => obtain rfl : g = a.block := by simpa [fb] using hg
                exact hf a rfl
  · obtain ⟨c1, h1, h2⟩ := h.sz g cs hb
    obtain ⟨c2, h3, h4⟩ := k.all h1
    exact ⟨c2, h3, by omega⟩
  · refine (h.ot g t cs ht hb).keep k.kp (fun hg => ?_)
    cases A with
    | none => simp [fb] at hg
    | some a => obtain rfl : g = a.block := by simpa [fb] using hg
                obtain ⟨c1, h1⟩ := hc a rfl
                exact (Blk.ne_ hb h1 ht) rfl
theorem Clob.pad {wb wN wr : World} {A : Option Addr} {n : Nat} (h : Clob wb wN wr) (p : Pad wN A n) : Pad wr A n := by
  rcases p with p | ⟨g, off, cs, rfl, hb, hs⟩
  · exact .inl p
  · obtain ⟨cs', h1, h2⟩ := h.sz g cs hb
    exact .inr ⟨g, off, cs', rfl, h1, by omega⟩
theorem Clob.cel {wb wN wr : World} {A : Option Addr} (h : Clob wb wN wr) (c : Cel wN A) : Cel wr A := fun a ha => by
  obtain ⟨cs, hb⟩ := c a ha
  obtain ⟨cs', h1, _⟩ := h.sz _ cs hb
  exact ⟨cs', h1⟩
theorem Clob.own {wb wN wr : World} {b : Nat} {v : Value} {n : Nat} {xs : List Value} (h : Clob wb wN wr) (o : wN.ownsRow b 35 4 v n xs) : wr.ownsRow b 35 4 v n xs := by
  refine ⟨o.1, ?_⟩
  rcases o.2 with hn | ⟨g, cap, cur, rfl, hb, hgg, rest⟩
  · exact .inl hn
  · exact .inr ⟨g, cap, cur, rfl, hb, h.ot g 35 cur (by decide) hgg, rest⟩
theorem fb_block {w : World} {A : Option Addr} (hc : Cel w A) {g t : Nat} {cs : Array Value} (hb : Blk w g t cs) (ht : t ≠ 41) : g ∉ fb A := fun hg => by
  cases A with
  | none => simp [fb] at hg
  | some a => obtain rfl : g = a.block := by simpa [fb] using hg
              obtain ⟨c1, h1⟩ := hc a rfl
              exact (Blk.ne_ hb h1 ht) rfl
/-- Behind the append of the law's copy of a row. -/
theorem copy_mid {wq wB W2 w1 : World} {go gc : Nat} {co37 : Array Value} {t id : Int} {Ao An : Option Addr} {no co nn cn : Nat} {v v6 : Value} {l : List Val}
    (hwB : wB = W2) (hgo : go = wq.heap.size) (hgc : gc = wq.heap.size + 1) (hsz : wB.heap.size = gc + 1) (BO : Blk wB go 37 co37) (BC : Blk wB gc 35 #[.int .i64 t, .int .i64 id, .slice Ao no co, .slice An nn cn])
    (hv : (W2.alloc (.cells #[] 41)).ownsRow W2.heap.size 41 3 v 0 []) (q1 : w1.ownsRow W2.heap.size 41 3 v6 (0 + nn) ([] ++ flatV l)) (q2 : (W2.alloc (.cells #[] 41)).grownBy w1 v.ownBlock) (kq : Keeps [] wq wB) :
    ∃ A6 c6 w5, v6 = .slice A6 nn c6 ∧ Hid (w5 = w1.setCell ⟨wq.heap.size + 1, 3, none⟩ (.slice A6 nn c6)) ∧ w1.cell? ⟨wq.heap.size + 1, 3, none⟩ = some (.slice An nn cn) ∧ w1.frozen? ⟨wq.heap.size + 1, 3, none⟩ = false ∧
      w1.cell? ⟨wq.heap.size + 1, 0, none⟩ = some (.int .i64 t) ∧ w1.cell? ⟨wq.heap.size + 1, 1, none⟩ = some (.int .i64 id) ∧ w1.cell? ⟨wq.heap.size + 1, 2, none⟩ = some (.slice Ao no co) ∧
      Hid (Blk w5 go 37 co37) ∧ Hid (Blk w5 gc 35 #[.int .i64 t, .int .i64 id, .slice Ao no co, .slice A6 nn c6]) ∧ Hid (w5.ownsRow wB.heap.size 41 3 (.slice A6 nn c6) nn (flatV l)) ∧ Hid (Keeps [] wq w5) := by
  subst hwB
  rw [List.nil_append, Nat.zero_add] at q1
  have k6 : Keeps [] wB w1 := keeps_append ((Keeps.refl [] wB).alloc _) (Keeps.refl [] _) hv q2
  obtain ⟨A6, c6, rfl, _⟩ := own_slice q1
  have b := BC.keep k6 (by simp)
  have b37 := BO.keep k6 (by simp)
  have kc : Keeps [gc] w1 (w1.setCell ⟨gc, 3, none⟩ (.slice A6 nn c6)) := (Keeps.refl [gc] w1).setCell (p := ⟨gc, 3, none⟩) (.inl (by simp)) _
  rw [← hgc]
  refine ⟨A6, c6, w1.setCell ⟨gc, 3, none⟩ (.slice A6 nn c6), rfl, Lib.hid rfl, b.cell 3, b.frozen 3, b.cell 0, b.cell 1, b.cell 2, Lib.hid (b37.keep kc (by simp; omega)), Lib.hid (b.set_ 3 _), Lib.hid (own_keep q1 kc (fun g hg hm => ?_)), Lib.hid ?_⟩
  · have := (own_blk q1 hg).1
    rw [List.mem_singleton.1 hm] at this
    omega
  · exact ((kq.trans k6).nil.trans kc).mono (fun y hy => .inr (by rw [List.mem_singleton.1 hy]; omega))
theorem pad_lt {w : World} {A : Option Addr} {n j : Nat} (h : Pad w A n) (hj : j < n) : ∃ g off cl, A = some ⟨g, off, none⟩ ∧ Blk w g 41 (List.toArray cl) ∧ off + n * 3 ≤ cl.length := by
  rcases h with h | ⟨g, off, cs, h1, h2, h3⟩
  · omega
  · exact ⟨g, off, cs.toList, h1, by rw [Array.toArray_toList]; exact h2, by simpa using h3⟩
theorem splice_len {α : Type} {L new : List α} {off : Nat} (h : off + new.length ≤ L.length) : (splice L off new).length = L.length := by
  unfold splice
  rw [List.length_append, List.length_append, List.length_take, List.length_drop]
  omega
end Go.Proofs.Ytmclfbhcddcebaa
