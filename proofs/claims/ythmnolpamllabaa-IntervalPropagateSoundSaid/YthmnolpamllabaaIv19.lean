/- The reference's Value and Holds. -/
import Derived.Test.YthmnolpamllabaaIvS
import Derived.Test.YthmnolpamllabaaIv18
namespace Go.Proofs.Ythmnolpamllabaa
open Go.RowKit Go.Lib Go.ChangeShapes Go.WideShapes Go.Deep
set_option linter.unusedSimpArgs false
set_option linter.unusedVariables false

/-- Integers behind an address, below block B. -/
def IntAt (w : World) (B : Nat) (A : Option Addr) (l : List Int) : Prop :=
  ∀ i v, l[i]? = some v → ∃ g off, A = some ⟨g, off, none⟩ ∧ g < B ∧ w.cell? ⟨g, off + i, none⟩ = some (.int .i64 v)
theorem IntAt.keep {w w' : World} {B : Nat} {A : Option Addr} {l : List Int} {X : List Nat} (h : IntAt w B A l) (hk : Keeps X w w') (hX : ∀ x ∈ X, B ≤ x) : IntAt w' B A l := by
  intro i x hi
  obtain ⟨g, off, rfl, hg, h1⟩ := h i x hi
  have hn : g ∉ X := fun hx => by have := hX g hx; omega
  exact ⟨g, off, rfl, hg, hk.cellEq h1 hn⟩
section
variable {H : Type} {enc : TypeId × Value → H} {w : World} {base : Nat} {spare : Nat → Bool} {held : Bool}
set_option maxRecDepth 100000
/-- Integers that came in. -/
theorem open_ints {fuel : Nat} {v : Value} {x : DataW H × List MemPlace} (h : DataW.trod enc Try.prog w base spare held fuel 36 [v] = some x) :
    ∃ A c l, v = .slice A (List.length l) c ∧ List.length l ≤ c ∧ c ≤ maxLen ∧ IntAt w w.heap.size A l := by
  rcases open_slice Try.underlying36 h with ⟨hcs, _⟩ | ⟨a, len, cap, m, n, D, Pl, hcs, _, hl, hm, hmm, _, hi⟩
  · injection hcs with hcs _
    subst hcs
    exact ⟨none, 0, [], rfl, Nat.le_refl _, by simp [maxLen], fun i v hv => by simp at hv⟩
  · injection hcs with hcs _
    subst hcs
    have hlm : len ≤ m := by rw [hmm]; split <;> omega
    have key : ∀ i, i < len → ∃ p : Int, w.cell? (a.add (i * 1)) = some (.int .i64 p) := by
      intro i hil
      obtain ⟨cs', hc, ht⟩ := hi i (by omega)
      rw [cells2] at hc
      obtain ⟨hlen, _, hat⟩ := World.cells?_some hc
      match cs', hlen with
      | [c0], _ =>
        obtain ⟨k0, q0, _, w0⟩ := DataW.trod_int Try.underlying2 ht
        injection q0 with q0 _
        subst q0
        refine ⟨k0, ?_⟩
        have := hat 0 (by omega)
        simpa [Addr.add] using this
    obtain ⟨f, hf⟩ := choose_lt key
    have he : ∀ i p, ((List.range len).map f)[i]? = some p → i < len ∧ p = f i := fun i p hp => by
      have hil : i < len := by
        have := (List.getElem?_eq_some_iff.1 hp).1
        simpa using this
      rw [List.getElem?_map, List.getElem?_range hil] at hp
      exact ⟨hil, by simpa using hp.symm⟩
    refine ⟨some a, cap, (List.range len).map f, by simp, by simpa using hl, hm, fun i p hp => ?_⟩
    obtain ⟨hil, rfl⟩ := he i p hp
    have h0 := hf i hil
    have hsp : a.spot = none := by
      have h00 := hf 0 (by omega)
      have := World.cell?_spot h00
      simpa [Addr.add] using this
    obtain ⟨g, off, sp⟩ := a
    subst hsp
    simp only [add_plain, Nat.mul_one] at h0
    exact ⟨g, off, rfl, block_lt_of_cell h0, h0⟩
end

theorem sumT_snoc (x : List Int) (a : List Iv) (t : Iv) : sumT x (a ++ [t]) = sumT x a + t.2 * x.getD t.1.toNat 0 := by
  rw [sumT_append]
  unfold sumT
  unfold sumT
  omega
def Small (x : List Int) : Prop := ∀ v ∈ x, -4294967296 ≤ v ∧ v ≤ 4294967296
theorem small_getD {x : List Int} (h : Small x) (n : Nat) : -4294967296 ≤ x.getD n 0 ∧ x.getD n 0 ≤ 4294967296 := by
  rw [List.getD_eq_getElem?_getD]
  rcases Nat.lt_or_ge n x.length with hn | hn
  · rw [List.getElem?_eq_getElem hn]
    exact h _ (List.getElem_mem hn)
  · rw [List.getElem?_eq_none hn]
    exact ⟨by show (-4294967296 : Int) ≤ 0; omega, by show (0 : Int) ≤ 4294967296; omega⟩
theorem sumT_bd {D co : List Iv} {c : Int} {x : List Int} (h : GoodL D co c) (hx : Small x) : ∀ k, k ≤ co.length → -(4503599627370496 * (k : Int)) ≤ sumT x (co.take k) ∧ sumT x (co.take k) ≤ 4503599627370496 * (k : Int)
  | 0, _ => by
    rw [List.take_zero]
    show -(4503599627370496 * ((0 : Nat) : Int)) ≤ 0 ∧ (0 : Int) ≤ _
    omega
  | k + 1, hk => by
    have ih := sumT_bd h hx k (by omega)
    rw [List.take_add_one, List.getElem?_eq_getElem (by omega)]
    show _ ≤ sumT x (co.take k ++ [co[k]]) ∧ sumT x (co.take k ++ [co[k]]) ≤ _
    rw [sumT_snoc]
    have := mul_bd (h.fac _ (List.getElem_mem (show k < co.length by omega))) (small_getD hx (co[k]).1.toNat)
    omega

set_option maxHeartbeats 3200000 in
set_option maxRecDepth 100000 in
theorem value_any (w : World) (B : Nat) (Ac Ax : Option Addr) (D co : List Iv) (x : List Int) (c : Int) (n cc m cx : Nat) (hn : co.length = n) (hm : x.length = m) (hDm : D.length = m) (hC : IvAt w B Ac co) (hX : IntAt w B Ax x) (hG : GoodL D co c) (hx : Small x) :
    Calls Try.prog 40 #[.agg #[.int .i64 c, .slice Ac n cc], .slice Ax m cx] w fun e w' => e = .returned (.int .i64 (c + sumT x co)) ∧ Hid (Keeps [] w w') := by
  have hn64 : n ≤ 64 := by have := hG.few; omega
  have ka : Keeps [] w (w.alloc (.cells #[.int .i64 c, .slice Ac n cc] 44)) := (Keeps.refl [] w).alloc _
  have B2 := Lib.hid (Blk.new w 44 #[.int .i64 c, .slice Ac n cc])
  have hcon := hG.con
  replace ka := Lib.hid ka
  replace hn := Lib.hid hn
  replace hm := Lib.hid hm
  replace hG := Lib.hid hG
  replace hC := Lib.hid hC
  replace hX := Lib.hid hX
  replace hx := Lib.hid hx
  replace hDm := Lib.hid hDm
  go_enter Try.func40, Try.ntmps40
  go_wp2_with fail
  generalize w.alloc (.cells #[.int .i64 c, .slice Ac n cc] 44) = wa at *
  generalize w.heap.size = g2 at *
  go_loopw [6, 5] (fun i sm wr => ∃ k : Nat, k ≤ n ∧ i = .int .i64 k ∧ sm = .int .i64 (c + sumT x (co.take k)) ∧ Hid (Blk wr g2 44 #[.int .i64 c, .slice Ac n cc]) ∧ Hid (Keeps [] w wr)) (fun i _ _ => n - (intOf i).toNat)
  case atStart => exact ⟨0, Nat.zero_le _, rfl, by rw [List.take_zero]; show _ = Value.int .i64 (c + 0); rw [Int.add_zero], B2, ka⟩
  case round =>
    obtain ⟨k, hk, rfl, rfl, B2', hkw⟩ := hrel
    clear B2 ka
    obtain ⟨wi, hwX⟩ : ∃ x, x = wr := ⟨_, rfl⟩
    subst hwX
    have z2 := B2'.out.cell
    by_cases hlt : k < n
    · obtain ⟨⟨V, N⟩, ht⟩ : ∃ x, co[k]? = some x := ⟨co[k]'(by rw [hn.out]; exact hlt), List.getElem?_eq_getElem _⟩
      have htm := List.mem_of_getElem? ht
      obtain ⟨g, off, rfl, _, c0, c1⟩ := (hC.out.keep hkw.out (by simp)) k _ ht
      have hvr := hG.out.var _ htm
      have hfc := hG.out.fac _ htm
      dsimp only at c0 c1 hvr hfc
      obtain ⟨Vn, rfl⟩ : ∃ v : Nat, V = v := ⟨V.toNat, by omega⟩
      have hVm : Vn < m := by rw [hDm.out] at hvr; omega
      obtain ⟨xv, hxv⟩ : ∃ v, x[Vn]? = some v := ⟨x[Vn]'(by rw [hm.out]; exact hVm), List.getElem?_eq_getElem _⟩
      obtain ⟨gx, ox, rfl, _, d0⟩ := (hX.out.keep hkw.out (by simp)) Vn _ hxv
      have hxs := hx.out _ (List.mem_of_getElem? hxv)
      have hmul := mul_bd hfc hxs
      have hbd := sumT_bd hG.out hx.out k (by rw [hn.out]; omega)
      have hstep : sumT x (co.take (k + 1)) = sumT x (co.take k) + N * xv := by
        rw [List.take_add_one, ht]
        show sumT x (co.take k ++ [((Vn : Int), N)]) = _
        rw [sumT_snoc]
        dsimp only
        rw [Int.toNat_natCast, List.getD_eq_getElem?_getD, hxv]
        rfl
      have hki : (k : Int) < (n : Int) := by omega
      have hVi : (Vn : Int) < (m : Int) := by omega
      have hV0 : ¬ ((Vn : Int) < 0) := by omega
      obtain ⟨p, hp⟩ : ∃ p, N * xv = p := ⟨_, rfl⟩
      rw [hp] at hmul hstep
      generalize sumT x (co.take k) = s at *
      have hw1 : IntKind.i64.wrap (N * xv) = p := by rw [hp]; exact IntWalk.i64_in _ (by omega)
      have hw2 : IntKind.i64.wrap (c + s + p) = c + s + p := IntWalk.i64_in _ (by omega)
      have hval : Hid (c + s + p = c + sumT x (co.take (k + 1))) := Lib.hid (by rw [hstep]; omega)
      have z20 : wi.cell? ⟨g2, 1, none⟩ = some (.slice (some ⟨g, off, none⟩) n cc) := B2'.out.cell 1
      replace ht := Lib.hid ht
      replace htm := Lib.hid htm
      replace hxv := Lib.hid hxv
      replace hp := Lib.hid hp
      clear hstep hbd hmul
      go_wp2_with fail
      go_quiet (fail)
      go_wp2_with fail
      go_roundw
      case rel => exact ⟨k + 1, by omega, by go_num, by rw [← hval.out], B2', Lib.hid (hkw.out.drewN _)⟩
      case measure => simp [intOf]; omega
    · obtain rfl : k = n := by omega
      have hkf : ¬ (k : Int) < (k : Int) := by omega
      rw [List.take_of_length_le (by rw [hn.out]; exact Nat.le_refl _)]
      go_wp2_with fail
      go_ret
      exact ⟨rfl, hkw⟩

def HoldsPost (w : World) (x : List Int) (l : List Con) (e : Ending) (w' : World) : Prop := ∃ b, e = .returned (.bool b) ∧ Hid (b = true → ∀ f ∈ l, conH x f) ∧ Hid (Keeps [] w w')
set_option maxHeartbeats 3200000 in
set_option maxRecDepth 100000 in
theorem holds_any (w : World) (B : Nat) (Al Ax : Option Addr) (D : List Iv) (l : List Con) (x : List Int) (n cl m cx : Nat) (hn : l.length = n) (hm : x.length = m) (hDm : D.length = m) (hL : ConsAt w B Al l) (hX : IntAt w B Ax x) (hA : GoodA D l) (hx : Small x) (hn6 : n ≤ 1000000) :
    Calls Try.prog 18 #[.slice Al n cl, .slice Ax m cx] w (HoldsPost w x l) := by
  have hlin := Lib.hid hA.lin
  replace hn := Lib.hid hn
  replace hm := Lib.hid hm
  replace hL := Lib.hid hL
  replace hX := Lib.hid hX
  replace hx := Lib.hid hx
  replace hDm := Lib.hid hDm
  clear hA
  go_enter Try.func18, Try.ntmps18
  go_wp2_with fail
  go_loopw [5] (fun i wr => ∃ k : Nat, k ≤ n ∧ i = .int .i64 k ∧ Hid (∀ f ∈ l.take k, conH x f) ∧ Hid (Keeps [] w wr)) (fun i _ => n - (intOf i).toNat)
  case atStart => exact ⟨0, Nat.zero_le _, rfl, Lib.hid (by simp), Lib.hid (Keeps.refl [] w)⟩
  case round =>
    obtain ⟨k, hk, rfl, hok, hkw⟩ := hrel
    obtain ⟨wi, hwX⟩ : ∃ x, x = wr := ⟨_, rfl⟩
    subst hwX
    by_cases hlt : k < n
    · obtain ⟨⟨fc, co, feq⟩, hf⟩ : ∃ f, l[k]? = some f := ⟨l[k]'(by rw [hn.out]; exact hlt), List.getElem?_eq_getElem _⟩
      obtain ⟨g0, off0, Ac, cc, rfl, _, f0, f1, f2, hco⟩ := (hL.out.keep hkw.out (by simp)) k _ hf
      dsimp only at f0 f1 f2 hco
      have hGL := hlin.out _ (List.mem_of_getElem? hf)
      dsimp only at hGL
      have HV := Lib.hid (value_any wi B Ac Ax D co x fc co.length cc m cx rfl hm.out hDm.out hco (hX.out.keep hkw.out (by simp)) hGL hx.out)
      have hstep : Hid (conH x ⟨fc, co, feq⟩ → ∀ f ∈ l.take (k + 1), conH x f) := Lib.hid (fun h => mem_take_succ hf hok.out h)
      have hconv : Hid (fc + sumT x co ≤ 0 → (feq = true → fc + sumT x co = 0) → conH x ⟨fc, co, feq⟩) := Lib.hid (fun h1 h2 => ⟨h1, h2⟩)
      have hki : (k : Int) < (n : Int) := by omega
      generalize fc + sumT x co = v at *
      replace hf := Lib.hid hf
      clear hGL hco
      go_wp2_with fail
      refine HV.out.mono ?_
      rintro e w2 ⟨rfl, k2⟩
      have f2' := k2.out.cellEq f2 (by simp)
      have K2 := Lib.hid (hkw.out.trans k2.out)
      clear HV k2 f0 f1 f2
      by_cases hv : v > 0
      · go_wp2_with fail
        go_ret
        exact ⟨false, rfl, Lib.hid (fun h => by cases h), K2⟩
      · cases feq
        · have hnew := Lib.hid (hstep.out (hconv.out (by omega) (fun h => by cases h)))
          clear hstep hconv
          go_wp2_with fail
          go_roundw
          case rel => exact ⟨k + 1, by omega, by go_num, hnew, K2⟩
          case measure => simp [intOf]; omega
        · by_cases hz : v = 0
          · have hnew := Lib.hid (hstep.out (hconv.out (by omega) (fun _ => hz)))
            subst hz
            clear hstep hconv
            go_wp2_with fail
            go_roundw
            case rel => exact ⟨k + 1, by omega, by go_num, hnew, K2⟩
            case measure => simp [intOf]; omega
          · have hzb : (v != 0) = true := by simpa using hz
            clear hstep hconv
            go_wp2_with fail
            go_ret
            exact ⟨false, rfl, Lib.hid (fun h => by cases h), K2⟩
    · obtain rfl : k = n := by omega
      have hkf : ¬ (k : Int) < (k : Int) := by omega
      rw [List.take_of_length_le (by rw [hn.out]; exact Nat.le_refl _)] at hok
      go_wp2_with fail
      go_ret
      exact ⟨true, rfl, Lib.hid (fun _ => hok.out), hkw⟩
end Go.Proofs.Ythmnolpamllabaa
