/- Savepoints: find, Release, Undo. -/
import Derived.Test.YtmclfbhcddcebaaU9
import Derived.Test.YtmclfbhcddcebaaShelf
namespace Go.Proofs.Ytmclfbhcddcebaa
open Go.RowKit Go.Shelf
set_option linter.unusedSimpArgs false
set_option linter.unusedVariables false

/-- A savepoint: its name, and how many changes precede it. -/
abbrev Pnt := ByteArray × Nat
def flatP : List Pnt → List Value
  | [] => []
  | p :: r => .string p.1 :: .int .i64 (p.2 : Int) :: flatP r
theorem flatP_len : ∀ l, (flatP l).length = l.length * 2
  | [] => rfl
  | v :: r => by
    show (flatP r).length + 1 + 1 = (r.length + 1) * 2
    rw [flatP_len]
    omega
theorem flatP_append : ∀ a b, flatP (a ++ b) = flatP a ++ flatP b
  | [], _ => rfl
  | r :: a, b => by
    show _ :: _ :: flatP (a ++ b) = _ :: _ :: (flatP a ++ flatP b)
    rw [flatP_append]
theorem flatP_get : ∀ (l : List Pnt) (i : Nat) (p : Pnt), l[i]? = some p → (flatP l)[i * 2]? = some (.string p.1) ∧ (flatP l)[i * 2 + 1]? = some (.int .i64 (p.2 : Int))
  | [], i, v, h => by cases h
  | x :: r, 0, v, h => by
    obtain rfl : x = v := by simpa using h
    exact ⟨rfl, rfl⟩
  | x :: r, i + 1, v, h => by
    have ih := flatP_get r i v (by simpa using h)
    rw [show (i + 1) * 2 = i * 2 + 1 + 1 by omega]
    exact ih
def encP (p : Pnt) : List Value := [.string p.1, .int .i64 (p.2 : Int)]
instance : Inhabited Pnt := ⟨(⟨#[]⟩, 0)⟩
def findI (P : List Pnt) (nm : ByteArray) : Int := Lib.idxBy (fun _ y => decide (y.1 = nm)) P default
theorem findFrom_bd (nm : ByteArray) (x : Pnt) : ∀ (P : List Pnt) (i : Nat), Lib.idxByFrom (fun _ y => decide (y.1 = nm)) x P i = -1 ∨ ((i : Int) ≤ Lib.idxByFrom (fun _ y => decide (y.1 = nm)) x P i ∧ Lib.idxByFrom (fun _ y => decide (y.1 = nm)) x P i < (i : Int) + (P.length : Int))
  | [], i => .inl rfl
  | y :: r, i => by
    unfold Lib.idxByFrom
    split
    · right
      simp
      omega
    · have := findFrom_bd nm x r (i + 1)
      rcases this with h | h
      · exact .inl h
      · right
        simp at h ⊢
        omega
theorem findI_bd (P : List Pnt) (nm : ByteArray) : findI P nm = -1 ∨ (0 ≤ findI P nm ∧ findI P nm < (P.length : Int)) := by
  have := findFrom_bd nm default P 0
  unfold findI Lib.idxBy
  simpa using this

theorem enter56 : ∀ args w, (callFunc 56 args).run Try.prog w = .ok (.enter 56 args) w := enters_of Try.func56 (by kernel_rfl) rfl
set_option maxHeartbeats 800000 in
theorem closure56 (W : World) (gb : Nat) (nm s : ByteArray) (at_ : Int) (hz : W.cell? ⟨gb, 0, none⟩ = some (.string nm)) :
    Calls Try.prog 56 #[.agg #[.string s, .int .i64 at_], .pointer (some ⟨gb, 0, none⟩)] W fun e w' => e = .returned (.bool (decide (s = nm))) ∧ Keeps [] W w' := by
  have ka : Keeps [] W (W.alloc (.cells #[.string s, .int .i64 at_] 82)) := (Keeps.refl [] W).alloc _
  have hz' := ka.cellEq hz (by simp)
  replace ka := Lib.hid ka
  by_cases h : s = nm
  · have d := decide_eq_true h
    subst h
    rw [d]
    go_enter Try.func56, Try.ntmps56
    go_wp2_with fail
    go_ret
    exact ⟨by first | rfl | simp, ka.out⟩
  · have d := decide_eq_false h
    have hb := bytes_ne h
    have hl : ¬ s.toList = nm.toList := fun e => bytes_list h (by simpa [ByteArray.toList_eq] using e)
    have hl2 : (s.toList == nm.toList) = false := by simpa using hl
    rw [d]
    go_enter Try.func56, Try.ntmps56
    go_wp2_with fail
    go_ret
    exact ⟨by first | rfl | simp [hb, hl2], ka.out⟩
set_option maxHeartbeats 800000 in
theorem idx55_nil (w : World) (A : Option Addr) (c : Nat) (f : Value) : Calls Try.prog 55 #[.slice A 0 c, f] w fun e w' => e = .returned (.int .i64 (-1)) ∧ w = w' := by
  go_enter Try.func55, Try.ntmps55
  go_wp2_with fail
  go_loopw [8] (fun i wr => i = .int .i64 0 ∧ w = wr) (fun _ _ => 0)
  case atStart => exact ⟨rfl, rfl⟩
  case round =>
    obtain ⟨rfl, rfl⟩ := hrel
    go_wp2_with fail
    go_ret
    exact ⟨rfl, rfl⟩
theorem idx55_any (w : World) (base gb n c : Nat) (A : Option Addr) (nm : ByteArray) (P : List Pnt) (hl : P.length = n) (hb : w.cell? ⟨gb, 0, none⟩ = some (.string nm)) (hO : w.ownsRow base 82 2 (.slice A n c) n (flatP P)) (hn : n ≤ 1000000) :
    Calls Try.prog 55 #[.slice A n c, .func (.func 56) #[] #[.pointer (some ⟨gb, 0, none⟩)]] w fun e w' => e = .returned (.int .i64 (findI P nm)) ∧ Keeps [] w w' := by
  rcases Nat.eq_zero_or_pos n with h0 | h0
  · subst h0
    obtain rfl : P = [] := List.eq_nil_of_length_eq_zero hl
    refine (idx55_nil w A c _).mono ?_
    rintro e w' ⟨rfl, rfl⟩
    exact ⟨rfl, Keeps.refl _ _⟩
  · obtain ⟨g, c', hv, _, _, _, hg, hcell, _⟩ := own_row3 hO h0
    injection hv with hA _ hc
    subst hA hc
    have hp : PredBelow Try.prog 56 #[.pointer (some ⟨gb, 0, none⟩)] (fun x : Pnt => .agg (encP x).toArray) (fun x => decide (x.1 = nm)) w := by
      intro W x hW
      have hz : W.cell? ⟨gb, 0, none⟩ = some (.string nm) := (Keeps.of_below (X := []) hW (fun y h1 h2 => absurd h2 (by omega))).cellEq hb (by simp)
      refine (closure56 W gb nm x.1 (x.2 : Int) hz).mono ?_
      rintro e w' ⟨he, k⟩
      exact ⟨he, ((Keeps.of_below (X := []) hW (fun y h1 h2 => absurd h2 (by omega))).trans k).below⟩
    have := Try.slices_IndexFunc_f55 (α := Pnt) 2 Try.isAgg82 Try.sizeOf82 encP (fun _ => rfl) (fun x => decide (x.1 = nm)) 56 #[.pointer (some ⟨gb, 0, none⟩)] enter56 g 0 n c P w hp (by omega) (by omega) hg (fun j hj i v hv => by
      obtain ⟨x, hx⟩ : ∃ x, P[j]? = some x := ⟨P[j], List.getElem?_eq_getElem hj⟩
      obtain ⟨h1, h2⟩ := flatP_get P j x hx
      rw [getElem!_pos P j hj, show P[j] = x by rw [List.getElem?_eq_getElem hj] at hx; exact Option.some.inj hx] at hv
      rw [Nat.zero_add]
      match i, hv with
      | 0, hv => simp [encP] at hv; rw [← hv]; exact hcell _ _ h1
      | 1, hv => simp [encP] at hv; rw [← hv]; exact hcell _ _ h2)
    rw [List.take_of_length_le (by omega)] at this
    refine this.mono ?_
    rintro e w' ⟨he, b⟩
    exact ⟨he, Keeps.of_below (X := []) b (fun z h1 h2 => absurd h2 (by omega))⟩
set_option maxHeartbeats 800000 in
theorem find_any (w : World) (base gl n c : Nat) (ch : Value) (A : Option Addr) (nm : ByteArray) (P : List Pnt) (hB : Blk w gl 64 #[ch, .slice A n c]) (hl : P.length = n) (hO : w.ownsRow base 82 2 (.slice A n c) n (flatP P)) (hn : n ≤ 1000000) :
    Calls Try.prog 43 #[.pointer (some ⟨gl, 0, none⟩), .string nm] w fun e w' => e = .returned (.int .i64 (findI P nm)) ∧ Keeps [] w w' := by
  have ka : Keeps [] w (w.alloc (.cells #[.string nm] 9)) := (Keeps.refl [] w).alloc _
  have HC := Lib.hid (idx55_any (w.alloc (.cells #[.string nm] 9)) base w.heap.size n c A nm P hl ((Blk.new w 9 #[.string nm]).cell 0) (own_keep0 hO ka) hn)
  have z := (hB.keep ka (by simp)).cell
  replace ka := Lib.hid ka
  clear hO hB hl
  go_enter Try.func43, Try.ntmps43
  go_wp2_with fail
  refine HC.out.mono ?_
  rintro e w2 ⟨rfl, k2⟩
  have kk := Lib.hid (ka.out.trans k2)
  clear HC k2 ka
  go_wp2_with fail
  go_ret
  exact ⟨rfl, kk.out⟩
end Go.Proofs.Ytmclfbhcddcebaa
