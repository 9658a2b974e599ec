/- Scan that is refused; the case's argument. -/
import Derived.Test.YtnoaahgjfknnlaaWal6
namespace Go.Proofs.Ytnoaahgjfknnlaa
open Go.RowKit
set_option linter.unusedSimpArgs false
set_option linter.unusedVariables false

theorem LstAt.mono {w : World} {B B' : Nat} {A : Option Addr} {rs : List (List UInt8)} (h : LstAt w B A rs) (hb : B ≤ B') : LstAt w B' A rs := by
  intro i r hi
  obtain ⟨g, o, Ar, c, e, hg, hc, h1, h2, h3, h4⟩ := h i r hi
  exact ⟨g, o, Ar, c, e, by omega, hc, h1, h2, h3, fun hr a ha => by have := h4 hr a ha; omega⟩

set_option maxHeartbeats 400000 in
theorem scan_bad (w : World) (bd bs : Nat) (s : St) (fi co : Int) (ep : Nat) (hD : DRep w bd bs s) (hep : ep < 4294967296) (hf : fi ≤ 9223372036854775807) (hc : co ≤ 9223372036854775807) (hx : ¬ okR s.n fi co ep) :
    Calls Try.prog 24 #[.pointer (some ⟨bd, 0, none⟩), .int .i64 fi, .int .i64 co, .int .u32 ep] w fun e w' => e = .returned (.tuple #[.slice none 0 0, .int .i64 1]) ∧ w = w' := by
  have HV := valid_any w bd bs s fi co ep hD hep hf hc
  rw [decide_eq_false hx] at HV
  replace HV := Lib.hid HV
  clear hD
  go_enter Try.func24, Try.ntmps24
  go_wp2_with fail
  refine HV.out.mono ?_
  rintro e w1 ⟨rfl, rfl⟩
  go_wp2_with fail
  go_ret2
  exact ⟨rfl, rfl⟩
set_option maxHeartbeats 400000 in
theorem scan_down (w : World) (bd bs : Nat) (s : St) (fi co : Int) (ep : Nat) (hD : DRep w bd bs s) (hep : ep < 4294967296) (hf : fi ≤ 9223372036854775807) (hc : co ≤ 9223372036854775807) (hx : okR s.n fi co ep) (hdown : s.down = true) :
    Calls Try.prog 24 #[.pointer (some ⟨bd, 0, none⟩), .int .i64 fi, .int .i64 co, .int .u32 ep] w fun e w' => e = .returned (.tuple #[.slice none 0 0, .int .i64 15]) ∧ w = w' := by
  have HV := valid_any w bd bs s fi co ep hD hep hf hc
  rw [decide_eq_true hx] at HV
  have HF := failed_any w bd bs s hD
  rw [hdown] at HF
  replace HV := Lib.hid HV
  replace HF := Lib.hid HF
  clear hD
  go_enter Try.func24, Try.ntmps24
  go_wp2_with fail
  refine HV.out.mono ?_
  rintro e w1 ⟨rfl, rfl⟩
  go_wp2_with fail
  refine HF.out.mono ?_
  rintro e w1 ⟨rfl, rfl⟩
  go_wp2_with fail
  go_ret2
  exact ⟨rfl, rfl⟩

theorem wrs_down {s : St} {i ep f : Nat} {d : List UInt8} (h : s.down = true) (hd : d ≠ []) : wrs s i ep (f + 1) d = (s, 15) := by
  have hc : chk s (i : Int) = 15 := by unfold chk; rw [h]; rfl
  have hw : wr s i (pack (d.take 59) ep) = (s, 15) := by unfold wr; rw [hc]; rfl
  rw [wrs_bad hd (by rw [hw]; show (15 : Int) ≠ 0; decide), hw]

/-- What is known of a case that came in. -/
structure CaseAt (w0 w : World) (S : Int) (AO : Option Addr) (nO cO : Nat) (F Co : Int) (ep : Nat) (AR : Option Addr) (nR cR : Nat) (old rs : List (List UInt8)) : Prop where
  blk : Blk w w0.heap.size 38 (caseV S AO nO cO F Co ep AR nR cR)
  old : LstAt w w0.heap.size AO old
  recs : LstAt w w0.heap.size AR rs
  keep : Keeps [] w0 w

theorem CaseAt.keep_ {w0 w w' : World} {S : Int} {AO : Option Addr} {nO cO : Nat} {F Co : Int} {ep : Nat} {AR : Option Addr} {nR cR : Nat} {old rs : List (List UInt8)} (h : CaseAt w0 w S AO nO cO F Co ep AR nR cR old rs) (k : Keeps [] w w') : CaseAt w0 w' S AO nO cO F Co ep AR nR cR old rs :=
  ⟨h.blk.keep k (by simp), h.old.keep k (by simp), h.recs.keep k (by simp), h.keep.trans k⟩
theorem CaseAt.keepX {w0 w w' : World} {X : List Nat} {S : Int} {AO : Option Addr} {nO cO : Nat} {F Co : Int} {ep : Nat} {AR : Option Addr} {nR cR : Nat} {old rs : List (List UInt8)} (h : CaseAt w0 w S AO nO cO F Co ep AR nR cR old rs) (k : Keeps X w w') (hX : ∀ x ∈ X, w0.heap.size < x) : CaseAt w0 w' S AO nO cO F Co ep AR nR cR old rs :=
  ⟨h.blk.keep k (fun hx => by have := hX _ hx; omega), h.old.keep k (fun x hx => by have := hX _ hx; omega), h.recs.keep k (fun x hx => by have := hX _ hx; omega), (h.keep.nil.trans k).mono (fun x hx => .inr (by have := hX _ hx; omega))⟩
theorem CaseAt.start {w : World} {S : Int} {AO : Option Addr} {nO cO : Nat} {F Co : Int} {ep : Nat} {AR : Option Addr} {nR cR : Nat} {old rs : List (List UInt8)} (h1 : LstAt w w.heap.size AO old) (h2 : LstAt w w.heap.size AR rs) : CaseAt w (w.alloc (.cells (caseV S AO nO cO F Co ep AR nR cR) 38)) S AO nO cO F Co ep AR nR cR old rs :=
  ⟨Blk.new _ _ _, h1.keep ((Keeps.refl [] w).alloc _) (by simp), h2.keep ((Keeps.refl [] w).alloc _) (by simp), (Keeps.refl _ _).alloc _⟩
end Go.Proofs.Ytnoaahgjfknnlaa
