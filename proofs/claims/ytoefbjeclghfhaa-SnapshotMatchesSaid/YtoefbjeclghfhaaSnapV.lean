/- A Version that came in, through a law. -/
import Derived.Test.YtoefbjeclghfhaaSnap10
import Derived.Test.YtoefbjeclghfhaaSnapR
namespace Go.Proofs.Ytoefbjeclghfhaa
open Go.RowKit
set_option linter.unusedSimpArgs false
set_option linter.unusedVariables false

/-- Bytes that lie below B. -/
structure BtsB (B : Nat) (w : World) (A : Option Addr) (l : List UInt8) : Prop where
  bts : Bts w A l
  low : l ≠ [] → ∀ a, A = some a → a.block < B
theorem BtsB.keep {B : Nat} {w w' : World} {X : List Nat} {A : Option Addr} {l : List UInt8} (h : BtsB B w A l) (hk : Keeps X w w') (hX : ∀ x ∈ X, B ≤ x) : BtsB B w' A l := by
  refine ⟨?_, h.low⟩
  by_cases h0 : l = []
  · subst h0; exact .inl rfl
  · exact h.bts.keep hk (fun a ha hx => by have := h.low h0 a ha; have := hX _ hx; omega)

/-- The law's own world: the Version's block, its bytes, and nothing else turned. -/
structure VerAt (w0 w : World) (S : Int) (ep : Nat) (A : Option Addr) (n c : Nat) (l : List UInt8) : Prop where
  blk : Blk w w0.heap.size 37 (verV S ep A n c)
  data : BtsB w0.heap.size w A l
  keep : Keeps [] w0 w

theorem VerAt.keep_ {w0 w w' : World} {S : Int} {ep : Nat} {A : Option Addr} {n c : Nat} {l : List UInt8} (h : VerAt w0 w S ep A n c l) (k : Keeps [] w w') : VerAt w0 w' S ep A n c l :=
  ⟨h.blk.keep k (by simp), h.data.keep k (by simp), h.keep.trans k⟩
theorem VerAt.keepX {w0 w w' : World} {X : List Nat} {S : Int} {ep : Nat} {A : Option Addr} {n c : Nat} {l : List UInt8} (h : VerAt w0 w S ep A n c l) (k : Keeps X w w') (hX : ∀ x ∈ X, w0.heap.size < x) : VerAt w0 w' S ep A n c l :=
  ⟨h.blk.keep k (fun hx => by have := hX _ hx; omega), h.data.keep k (fun x hx => by have := hX _ hx; omega), (h.keep.nil.trans k).mono (fun x hx => .inr (by have := hX _ hx; omega))⟩
theorem VerAt.start {w : World} {S : Int} {ep : Nat} {A : Option Addr} {n c : Nat} {l : List UInt8} (h : BtsB w.heap.size w A l) : VerAt w (w.alloc (.cells (verV S ep A n c) 37)) S ep A n c l :=
  ⟨Blk.new _ _ _, h.keep ((Keeps.refl [] w).alloc _) (by simp), (Keeps.refl _ _).alloc _⟩

theorem VerAt.cc {w0 w : World} {S : Int} {ep : Nat} {A : Option Addr} {n c : Nat} {l : List UInt8} (h : VerAt w0 w S ep A n c l) : ∀ i, w.cell? ⟨w0.heap.size, i, none⟩ = (#[.int .u8 S, .int .u32 ep, .slice A n c] : Array Value)[i]? := h.blk.cell
theorem VerAt.c1 {w0 w : World} {S : Int} {ep : Nat} {A : Option Addr} {n c : Nat} {l : List UInt8} (h : VerAt w0 w S ep A n c l) : w.cell? ⟨w0.heap.size, 1, none⟩ = some (.int .u32 (ep : Int)) := h.blk.cell 1
theorem VerAt.c2 {w0 w : World} {S : Int} {ep : Nat} {A : Option Addr} {n c : Nat} {l : List UInt8} (h : VerAt w0 w S ep A n c l) : w.cell? ⟨w0.heap.size, 2, none⟩ = some (.slice A n c) := h.blk.cell 2

/-- What cp hands back may be written to a disk that lay there before. -/
theorem own_apart {w w' : World} {A : Option Addr} {n c bd bs : Nat} {l : List UInt8} (h : w'.ownsRow w.heap.size 5 1 (.slice A n c) n (l.map bv)) (h1 : bd < w.heap.size) (h2 : bs < w.heap.size) : ∀ a, A = some a → a.block ≠ bd ∧ a.block ≠ bs := by
  intro a ha
  subst ha
  have := (own_blk h (g := a.block) rfl).1
  omega

set_option maxHeartbeats 400000 in
theorem writes_any (w : World) (bd bs : Nat) (s : St) (hD : DRep w bd bs s) :
    Calls Try.prog 23 #[.pointer (some ⟨bd, 0, none⟩)] w fun e w' => e = .returned (.int .i64 s.writes) ∧ w = w' := by
  have hc := hD.d.cell
  go_enter Try.func23, Try.ntmps23
  go_wp2
  go_ret
  exact ⟨rfl, rfl⟩

/-- Write, where the plain answer is known. -/
theorem swrite_to (w : World) (bd bs : Nat) (s t : St) (x : Int) (ep : Nat) (A : Option Addr) (b : List UInt8) (n c : Nat) (hq : swrite s ep b = (t, x)) (hD : DRep w bd bs s) (hB : Bts w A b) (hn : b.length = n) (hnc : n ≤ c) (hcm : c ≤ maxLen) (hep : ep < 4294967296)
    (hA : ∀ a, A = some a → a.block ≠ bd ∧ a.block ≠ bs) (hw0 : 0 ≤ s.writes) (hw : s.writes ≤ 900000) :
    Calls Try.prog 16 #[.pointer (some ⟨bd, 0, none⟩), .int .u32 ep, .slice A n c] w fun e w' => e = .returned (.int .i64 x) ∧ DRep w' bd bs t ∧ Keeps [bd, bs] w w' := by
  have := swrite_any w bd bs s ep A b n c hD hB hn hnc hcm hep hA hw0 hw
  rw [hq] at this
  exact this
/-- Write with what cp handed back. -/
theorem swrite_own (w : World) (bd bs : Nat) (s t : St) (x : Int) (ep : Nat) (b : List UInt8) (n : Nat) (hq : swrite s ep b = (t, x)) (hep : ep < 4294967296) (hw0 : 0 ≤ s.writes) (hw : s.writes ≤ 900000)
    (w1 : World) (A : Option Addr) (c : Nat) (ho : w1.ownsRow w.heap.size 5 1 (.slice A n c) n (b.map bv)) (hk : Keeps [] w w1) (hD : DRep w bd bs s) :
    Calls Try.prog 16 #[.pointer (some ⟨bd, 0, none⟩), .int .u32 ep, .slice A n c] w1 fun e w' => e = .returned (.int .i64 x) ∧ DRep w' bd bs t ∧ Keeps [bd, bs] w w' := by
  obtain ⟨h1, h2, h3, h4, _⟩ := own_bts ho
  refine (swrite_to w1 bd bs s t x ep A b n c hq (hD.keep hk (by simp) (by simp)) h1 h2 h3 h4 hep (own_apart ho hD.d.lt hD.m.lt) hw0 hw).mono ?_
  rintro e w' ⟨he, hD', k'⟩
  exact ⟨he, hD', hk.nil.trans k'⟩
/-- Write of nothing, whatever the epoch. -/
theorem swrite_none (w : World) (bd bs : Nat) (s : St) (x : Int) (hq : ∀ ep, swrite s ep [] = (s, x)) (hD : DRep w bd bs s) (hw0 : 0 ≤ s.writes) (hw : s.writes ≤ 900000) (ep : Int) (h0 : 0 ≤ ep) (h1 : ep < 4294967296) :
    Calls Try.prog 16 #[.pointer (some ⟨bd, 0, none⟩), .int .u32 ep, .slice none 0 0] w fun e w' => e = .returned (.int .i64 x) ∧ DRep w' bd bs s ∧ Keeps [bd, bs] w w' := by
  obtain ⟨m, rfl⟩ : ∃ m : Nat, ep = m := ⟨ep.toNat, by omega⟩
  exact swrite_to w bd bs s s x m none [] 0 0 (hq m) hD (.inl rfl) rfl (Nat.le_refl _) (by simp [maxLen]) (by omega) (fun a ha => by cases ha) hw0 hw
theorem bts_zeros {w : World} {g n : Nat} (h : Blk w g 5 (madeCells (Value.int .u8 0).cells (n * 1))) : Bts w (some ⟨g, 0, none⟩) (List.replicate n 0) := by
  rw [Nat.mul_one, show (Value.int IntKind.u8 0).cells = Array.replicate 1 (bv 0) from rfl, madeCells_same 1 n (bv 0) (by decide), ← List.map_replicate] at h
  refine .inr ⟨g, 0, rfl, fun j v hj => ?_⟩
  rw [Nat.zero_add, h.cell j]
  simp only [List.getElem?_toArray, List.getElem?_map, hj, Option.map_some]
/-- Read, where the plain answer is known. -/
theorem sread_to (w : World) (bd bs : Nat) (s : St) (b : List UInt8) (ep n : Nat) (x : Int) (hq : sread s = (b, ep, x)) (hn : b.length = n) (hD : DRep w bd bs s) :
    Calls Try.prog 20 #[.pointer (some ⟨bd, 0, none⟩)] w fun e w' => ∃ A c, e = .returned (.tuple #[.slice A n c, .int .u32 ep, .int .i64 x]) ∧ Bts w' A b ∧ Keeps [] w w' := by
  have := sread_any w bd bs s hD
  rw [hq] at this
  refine this.mono ?_
  rintro e w' ⟨A, c, he, ho, k⟩
  subst hn
  exact ⟨A, c, he, (own_bts ho).1, k⟩

/-- The first version on a new disk. -/
theorem first_write {m ep : Nat} {l : List UInt8} (h7 : 7 ≤ m) (h60 : m ≤ 60) (h1 : 0 < ep) (h2 : ep < 4294967296) (h3 : l.length ≤ capOf m) :
    ∃ t, swrite (st0 m) ep l = (t, 0) ∧ Held m t ep l ∧ t.writes = ((l.length + 63) / 64 + 2 : Nat) := by
  have hc : capOf (m : Int) = 64 * area m := by unfold capOf; rw [if_neg (by omega)]; simp
  rw [hc] at h3
  have h4 : l.length < 4294967296 := by unfold area at h3; omega
  obtain ⟨hv, hh⟩ := stands_write (stands_st0 h7 (by omega)) h1 h2 h3 h4
  refine ⟨(swrite (st0 m) ep l).1, ?_, hh, ?_⟩
  · rw [← hv.ok]
  · rw [hv.writes]; show (0 : Int) + _ = _; rw [Int.zero_add]
end Go.Proofs.Ytoefbjeclghfhaa
