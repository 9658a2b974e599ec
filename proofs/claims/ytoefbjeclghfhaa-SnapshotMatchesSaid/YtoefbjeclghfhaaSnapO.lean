/- The snapshot in plain Lean: what Read hands back behind a Write that may have been torn. -/
import Derived.Test.YtoefbjeclghfhaaSnapN
namespace Go.Proofs.Ytoefbjeclghfhaa
open Go.RowKit
set_option linter.unusedSimpArgs false
set_option linter.unusedVariables false

theorem cat_congr {s t : St} : ∀ (k a : Nat), (∀ j, j < k → sec t (a + j) = sec s (a + j)) → cat t a k = cat s a k
  | 0, _, _ => rfl
  | k + 1, a, h => by
    show sec t a ++ cat t (a + 1) k = sec s a ++ cat s (a + 1) k
    have e0 : sec t a = sec s a := h 0 (by omega)
    have e1 := cat_congr (s := s) (t := t) k (a + 1) (fun j hj => by
      rw [show a + 1 + j = a + (j + 1) by omega]; exact h (j + 1) (by omega))
    rw [e0, e1]

theorem sread_same {s t : St} (hs : bad s = 0) (ht : bad t = 0) (hn : t.n = s.n) (hr : root t = root s) (hh : sec t (1 + root s) = sec s (1 + root s))
    (ha : ∀ j, j < area s.n → sec t (area0 s.n (root s) + j) = sec s (area0 s.n (root s) + j)) : sread t = sread s := by
  have hc := cat_congr (s := s) (t := t) (area s.n) (area0 s.n (root s)) ha
  unfold sread
  rw [if_neg (by rw [ht]; simp), hr, hn, hh, hc]
  conv => rhs; rw [if_neg (by rw [hs]; simp)]

theorem sread_done {s : St} {ep : Nat} {b : List UInt8} {q : St × Int} (h : bad s = 0) (hq : VDone s ep b q) (h1 : 0 < ep) (h2 : ep < 4294967296) (h3 : b.length < 4294967296) : bad q.1 = 0 ∧ sread q.1 = (b, ep, 0) := by
  obtain ⟨hd, h7, h65, hr⟩ := vbad_zero h
  have hb : bad q.1 = 0 := bad_of hq.down (by rw [hq.n]; exact h7) (by rw [hq.n]; exact h65) (by rw [hq.root_]; omega)
  exact ⟨hb, sread_slot hb (by rw [hq.root_]; exact hq.slot) h1 h2 h3⟩

theorem sread_torn {s : St} {ep : Nat} {b : List UInt8} {q : St × Int} (h : bad s = 0) (hq : VTorn s ep b q) (h1 : 0 < ep) (h2 : ep < 4294967296) (h3 : b.length < 4294967296) :
    bad (restart q.1) = 0 ∧ (sread (restart q.1) = sread s ∨ sread (restart q.1) = (b, ep, 0)) := by
  obtain ⟨hd, h7, h65, hr⟩ := vbad_zero h
  have hb : bad (restart q.1) = 0 := bad_of rfl (by show 7 ≤ q.1.n; rw [hq.n]; exact h7) (by show q.1.n ≤ 65536; rw [hq.n]; exact h65) (by
    show root q.1 ≤ 1
    rcases hq.or_ with ⟨h, _⟩ | ⟨h, _⟩ <;> omega)
  refine ⟨hb, ?_⟩
  rcases hq.or_ with ⟨h4, h5, h6⟩ | ⟨h4, h5⟩
  · exact .inl (sread_same h hb hq.n h4 h5 h6)
  · right
    refine sread_slot hb ?_ h1 h2 h3
    show VSlot (restart q.1) (root q.1) ep b
    rw [h4]
    exact ⟨h5.head, h5.body, h5.fit⟩
end Go.Proofs.Ytoefbjeclghfhaa
