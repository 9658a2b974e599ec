/- The contracts of Good and the law's good: what 'true' says. -/
import Derived.Test.YthmnolpamllabaaIv15
namespace Go.Proofs.Ythmnolpamllabaa
open Go.RowKit Go.Lib
set_option linter.unusedSimpArgs false
set_option linter.unusedVariables false

def DmOk (d : Iv) : Prop := (-4294967296 ≤ d.1 ∧ d.1 ≤ 4294967296) ∧ (-4294967296 ≤ d.2 ∧ d.2 ≤ 4294967296)
/-- Terms: their variables ascend. -/
def AscV (co : List Iv) : Prop := ∀ i x y, co[i]? = some x → co[i + 1]? = some y → x.1 < y.1
theorem ascV_lt {co : List Iv} (h : AscV co) {i j : Nat} {x y : Iv} (hx : co[i]? = some x) (hy : co[j]? = some y) (hij : i < j) : x.1 < y.1 := by
  induction j generalizing y with
  | zero => omega
  | succ j ih =>
    have hjl : j + 1 < co.length := (List.getElem?_eq_some_iff.1 hy).1
    obtain ⟨z, hz⟩ : ∃ z, co[j]? = some z := ⟨co[j]'(by omega), List.getElem?_eq_getElem _⟩
    have h1 := h j z y hz hy
    rcases Nat.lt_or_ge i j with hlt | hge
    · have := ih hz hlt; omega
    · obtain rfl : i = j := by omega
      rw [hx] at hz
      cases hz
      exact h1
def TermOk (m : Nat) (x : Iv) : Prop := (0 ≤ x.1 ∧ x.1 < (m : Int)) ∧ (-1048576 ≤ x.2 ∧ x.2 ≤ 1048576)
theorem ascV_few {co : List Iv} {m : Nat} (h : AscV co) (hb : ∀ x ∈ co, TermOk m x) : co.length ≤ m := by
  have key : ∀ (i : Nat) (x : Iv), co[i]? = some x → (i : Int) ≤ x.1 := by
    intro i
    induction i with
    | zero =>
      intro x hx
      have := (hb x (List.mem_of_getElem? hx)).1.1
      omega
    | succ i ih =>
      intro x hx
      have hjl : i + 1 < co.length := (List.getElem?_eq_some_iff.1 hx).1
      obtain ⟨z, hz⟩ : ∃ z, co[i]? = some z := ⟨co[i]'(by omega), List.getElem?_eq_getElem _⟩
      have := ih z hz
      have := h i z x hz hx
      omega
  rcases Nat.eq_zero_or_pos co.length with h0 | h0
  · omega
  · obtain ⟨x, hx⟩ : ∃ x, co[co.length - 1]? = some x := ⟨co[co.length - 1]'(by omega), List.getElem?_eq_getElem _⟩
    have := key _ x hx
    have := (hb x (List.mem_of_getElem? hx)).1.2
    omega
structure ConOk (m : Nat) (f : Con) : Prop where
  con : -1099511627776 ≤ f.c ∧ f.c ≤ 1099511627776
  asc : AscV f.co
  term : ∀ x ∈ f.co, TermOk m x
/-- What Good says. -/
structure GoodA (D : List Iv) (l : List Con) : Prop where
  few : D.length ≤ 64
  dm : ∀ d ∈ D, DmOk d
  con : ∀ f ∈ l, ConOk D.length f
theorem GoodA.lin {D : List Iv} {l : List Con} (h : GoodA D l) : ∀ f ∈ l, GoodL D f.co f.c := fun f hf => by
  have k := h.con f hf
  exact ⟨h.dm, fun x hx => (k.term x hx).1, fun x hx => (k.term x hx).2, k.con, Nat.le_trans (ascV_few k.asc k.term) h.few⟩

theorem mem_take_succ {α : Type} {l : List α} {k : Nat} {x : α} (hx : l[k]? = some x) {P : α → Prop} (h : ∀ y ∈ l.take k, P y) (hp : P x) : ∀ y ∈ l.take (k + 1), P y := by
  intro y hy
  rw [List.take_add_one, hx] at hy
  rcases List.mem_append.1 hy with hy | hy
  · exact h y hy
  · obtain rfl : y = x := by simpa using hy
    exact hp
/-- The first j terms are as they should be. -/
structure Terms (m : Nat) (co : List Iv) (j : Nat) : Prop where
  asc : ∀ i x y, i + 1 < j → co[i]? = some x → co[i + 1]? = some y → x.1 < y.1
  term : ∀ x ∈ co.take j, TermOk m x
theorem Terms.zero (m : Nat) (co : List Iv) : Terms m co 0 := ⟨fun i x y h => by omega, fun x h => by rw [List.take_zero] at h; cases h⟩
theorem Terms.first {m : Nat} {co : List Iv} {x : Iv} (hx : co[0]? = some x) (hp : TermOk m x) : Terms m co (0 + 1) := ⟨fun i x y h => by omega, mem_take_succ hx (by simp) hp⟩
theorem Terms.next {m : Nat} {co : List Iv} {j : Nat} {x y : Iv} (h : Terms m co (j + 1)) (hy : co[j]? = some y) (hx : co[j + 1]? = some x) (hlt : y.1 < x.1) (hp : TermOk m x) : Terms m co (j + 1 + 1) :=
  ⟨fun i u v hi hu hv => by
    rcases Nat.lt_or_ge (i + 1) (j + 1) with h1 | h1
    · exact h.asc i u v h1 hu hv
    · obtain rfl : i = j := by omega
      rw [hy] at hu
      rw [hx] at hv
      cases hu
      cases hv
      exact hlt, mem_take_succ hx h.term hp⟩
theorem Terms.all {m : Nat} {co : List Iv} (h : Terms m co co.length) : AscV co ∧ ∀ x ∈ co, TermOk m x := by
  refine ⟨fun i x y hx hy => h.asc i x y (List.getElem?_eq_some_iff.1 hy).1 hx hy, ?_⟩
  have := h.term
  rwa [List.take_length] at this
def ConsShort (l : List Con) : Prop := ∀ f ∈ l, f.co.length ≤ 9223372036854775807

def GoodPost (D : List Iv) (l : List Con) (w : World) (e : Ending) (w' : World) : Prop := ∃ b, e = .returned (.bool b) ∧ Hid (b = true → GoodA D l) ∧ Hid (Keeps [] w w')
theorem GoodPost.no {D : List Iv} {l : List Con} {w w' : World} (h : Keeps [] w w') : GoodPost D l w (.returned (.bool false)) w' := ⟨false, rfl, Lib.hid (fun h => by cases h), Lib.hid h⟩

set_option maxHeartbeats 6400000 in
set_option maxRecDepth 100000 in
theorem good32_any (w : World) (B : Nat) (Al Ad : Option Addr) (l : List Con) (D : List Iv) (n cl m cd : Nat) (hn : l.length = n) (hm : D.length = m) (hL : ConsAt w B Al l) (hD : IvAt w B Ad D) (hB : B ≤ w.heap.size) (hn6 : n ≤ 1000000) (hs : ConsShort l) :
    Calls Try.prog 32 #[.slice Al n cl, .slice Ad m cd] w (GoodPost D l w) := by
  replace hL := Lib.hid hL
  replace hD := Lib.hid hD
  replace hs := Lib.hid hs
  replace hn := Lib.hid hn
  replace hm := Lib.hid hm
  by_cases hm6 : m ≤ 64
  · go_enter Try.func32, Try.ntmps32
    go_wp2_with fail
    go_loopw [5] (fun i wr => ∃ k : Nat, k ≤ m ∧ i = .int .i64 k ∧ Hid (∀ d ∈ D.take k, DmOk d) ∧ Hid (Keeps [] w wr)) (fun i _ => m - (intOf i).toNat)
    case atStart => exact ⟨0, Nat.zero_le _, rfl, Lib.hid (by simp), Lib.hid (Keeps.refl [] w)⟩
    case round =>
      obtain ⟨k, hk, rfl, hok, hkw⟩ := hrel
      obtain ⟨wo, hwX⟩ : ∃ x, x = wr := ⟨_, rfl⟩
      subst hwX
      by_cases hlt : k < m
      · obtain ⟨⟨d1, d2⟩, hx⟩ : ∃ x, D[k]? = some x := ⟨D[k]'(by rw [hm.out]; exact hlt), List.getElem?_eq_getElem _⟩
        obtain ⟨ga, oa, rfl, _, c0, c1⟩ := (hD.out.keep hkw.out (by simp)) k _ hx
        dsimp only at c0 c1
        have hki : (k : Int) < (m : Int) := by omega
        replace hx := Lib.hid hx
        by_cases p1 : d1 < -4294967296
        · go_wp2_with fail
          go_ret
          exact GoodPost.no (hkw.out.alloc _)
        by_cases p2 : d1 > 4294967296
        · go_wp2_with fail
          go_ret
          exact GoodPost.no (hkw.out.alloc _)
        by_cases p3 : d2 < -4294967296
        · go_wp2_with fail
          go_ret
          exact GoodPost.no (hkw.out.alloc _)
        by_cases p4 : d2 > 4294967296
        · go_wp2_with fail
          go_ret
          exact GoodPost.no (hkw.out.alloc _)
        have hdm : Hid (DmOk (d1, d2)) := Lib.hid (by unfold DmOk; dsimp only; omega)
        have hnew := Lib.hid (mem_take_succ hx.out hok.out hdm.out)
        go_wp2_with fail
        go_roundw
        case rel => exact ⟨k + 1, by omega, by go_num, hnew, Lib.hid (hkw.out.alloc _)⟩
        case measure => simp [intOf]; omega
      · obtain rfl : k = m := by omega
        have hkf : ¬ (k : Int) < (k : Int) := by omega
        rw [List.take_of_length_le (by rw [hm.out]; exact Nat.le_refl _)] at hok
        go_wp2_with fail
        go_loopw [7] (fun i wr => ∃ j : Nat, j ≤ n ∧ i = .int .i64 j ∧ Hid (∀ f ∈ l.take j, ConOk k f) ∧ Hid (Keeps [] w wr)) (fun i _ => n - (intOf i).toNat)
        case atStart => exact ⟨0, Nat.zero_le _, rfl, Lib.hid (by simp), hkw⟩
        case round =>
          obtain ⟨j, hj, rfl, hcs, hkr⟩ := hrel
          obtain ⟨wi, hwX⟩ : ∃ x, x = wr := ⟨_, rfl⟩
          subst hwX
          clear hkw
          by_cases hjl : j < n
          · obtain ⟨f, hf⟩ : ∃ x, l[j]? = some x := ⟨l[j]'(by rw [hn.out]; exact hjl), List.getElem?_eq_getElem _⟩
            obtain ⟨gl, ol, Ac, cc, rfl, hgl, c0, c1, _, hC⟩ := (hL.out.keep hkr.out (by simp)) j _ hf
            have hsf := hs.out f (List.mem_of_getElem? hf)
            obtain ⟨fc, co, fe⟩ := f
            dsimp only at c0 c1 hC hsf
            have hji : (j : Int) < (n : Int) := by omega
            have hstep : Hid (ConOk k ⟨fc, co, fe⟩ → ∀ f ∈ l.take (j + 1), ConOk k f) := Lib.hid (fun h => mem_take_succ hf hcs.out h)
            replace hf := Lib.hid hf
            replace hC := Lib.hid hC
            obtain ⟨q, hq⟩ : ∃ q, co.length = q := ⟨_, rfl⟩
            rw [hq] at c1 hsf
            replace hq := Lib.hid hq
            by_cases p1 : fc < -1099511627776
            · go_wp2_with fail
              go_ret
              exact GoodPost.no (hkr.out.alloc _)
            by_cases p2 : fc > 1099511627776
            · go_wp2_with fail
              go_ret
              exact GoodPost.no (hkr.out.alloc _)
            have hcon : Hid (-1099511627776 ≤ fc ∧ fc ≤ 1099511627776) := Lib.hid (by omega)
            have B8 := Lib.hid (Blk.new wi 44 #[.int .i64 fc, .slice Ac q cc])
            have K8 := Lib.hid (hkr.out.alloc (.cells #[.int .i64 fc, .slice Ac q cc] 44))
            have C8 := Lib.hid (hC.out.keep ((Keeps.refl [] wi).alloc (.cells #[.int .i64 fc, .slice Ac q cc] 44)) (by simp))
            have hgB := Lib.hid (show B ≤ wi.heap.size from Nat.le_trans hB hkr.out.size)
            go_wp2_with fail
            clear c0 c1 hC hkr
            generalize wi.alloc (.cells #[.int .i64 fc, .slice Ac q cc] 44) = w8 at *
            generalize wi.heap.size = g8 at *
            replace p1 := Lib.hid p1
            replace p2 := Lib.hid p2
            go_loopw [9] (fun i wr => ∃ s : Nat, s ≤ q ∧ i = .int .i64 s ∧ Hid (Terms k co s) ∧ Hid (Blk wr g8 44 #[.int .i64 fc, .slice Ac q cc]) ∧ Hid (IvAt wr B Ac co) ∧ Hid (Keeps [] w wr)) (fun i _ => q - (intOf i).toNat)
            case atStart => exact ⟨0, Nat.zero_le _, rfl, Lib.hid (Terms.zero _ _), B8, C8, K8⟩
            case round =>
              obtain ⟨s, hs', rfl, hterm, B9, C9, K9⟩ := hrel
              obtain ⟨wq, hwX⟩ : ∃ x, x = wr := ⟨_, rfl⟩
              subst hwX
              clear B8 C8 K8
              by_cases hsl : s < q
              · obtain ⟨⟨V, N⟩, hx⟩ : ∃ x, co[s]? = some x := ⟨co[s]'(by rw [hq.out]; exact hsl), List.getElem?_eq_getElem _⟩
                obtain ⟨gc, oc, rfl, _, d0, d1⟩ := C9.out s _ hx
                dsimp only at d0 d1
                have hsi : (s : Int) < (q : Int) := by omega
                have ka : Keeps [] wq (wq.alloc (.cells #[.int .i64 V, .int .i64 N] 50)) := (Keeps.refl [] wq).alloc _
                have z := B9.out.cell
                have B10 := Lib.hid (B9.out.keep ka (by simp))
                have C10 := Lib.hid (C9.out.keep ka (by simp))
                have K10 := Lib.hid (K9.out.trans ka)
                have t0 : (wq.alloc (.cells #[.int .i64 V, .int .i64 N] 50)).cell? ⟨wq.heap.size, 0, none⟩ = some (.int .i64 V) := (Blk.new wq 50 #[.int .i64 V, .int .i64 N]).cell 0
                have t1 : (wq.alloc (.cells #[.int .i64 V, .int .i64 N] 50)).cell? ⟨wq.heap.size, 1, none⟩ = some (.int .i64 N) := (Blk.new wq 50 #[.int .i64 V, .int .i64 N]).cell 1
                have z1 : (wq.alloc (.cells #[.int .i64 V, .int .i64 N] 50)).cell? ⟨g8, 1, none⟩ = some (.slice (some ⟨gc, oc, none⟩) q cc) := B10.out.cell 1
                clear ka
                go_wp2_with fail
                clear z d0 d1
                generalize wq.alloc (.cells #[.int .i64 V, .int .i64 N] 50) = wt at *
                generalize wq.heap.size = gt at *
                by_cases p3 : V < 0
                · go_quiet (fail)
                  go_wp2_with fail
                  go_ret
                  exact GoodPost.no (K10.out.drewN _)
                by_cases p4 : V ≥ (k : Int)
                · go_quiet (fail)
                  go_wp2_with fail
                  go_ret
                  exact GoodPost.no (K10.out.drewN _)
                rcases s with _ | s
                · replace hx := Lib.hid hx
                  by_cases p6 : N < -1048576
                  · go_quiet (fail)
                    go_wp2_with fail
                    go_ret
                    exact GoodPost.no (K10.out.drewN _)
                  by_cases p7 : N > 1048576
                  · go_quiet (fail)
                    go_wp2_with fail
                    go_ret
                    exact GoodPost.no (K10.out.drewN _)
                  have hnew : Hid (Terms k co (0 + 1)) := Lib.hid (Terms.first hx.out ⟨by dsimp only; omega, by dsimp only; omega⟩)
                  go_quiet (fail)
                  go_wp2_with fail
                  go_roundw
                  case rel => exact ⟨0 + 1, by omega, by go_num, hnew, B10, C10, Lib.hid (K10.out.drewN _)⟩
                  case measure => simp [intOf]; omega
                · replace hx := Lib.hid hx
                  obtain ⟨⟨V0, N0⟩, hy⟩ : ∃ x, co[s]? = some x := ⟨co[s]'(by rw [hq.out]; omega), List.getElem?_eq_getElem _⟩
                  obtain ⟨gc', oc', he, _, y0, _⟩ := C10.out s _ hy
                  simp only [Option.some.injEq, Addr.mk.injEq] at he
                  obtain ⟨rfl, rfl, _⟩ := he
                  dsimp only at y0
                  replace hy := Lib.hid hy
                  have hw : wrap64 (((s + 1 : Nat) : Int) - 1) = (s : Int) := by unfold wrap64; omega
                  have hpos : ((s + 1 : Nat) : Int) > 0 := by omega
                  have hsq : (s : Int) < (q : Int) := by omega
                  have hs0 : ¬ ((s : Int) < 0) := by omega
                  by_cases p5 : V ≤ V0
                  · go_quiet (fail)
                    go_wp2_with fail
                    go_ret
                    exact GoodPost.no (K10.out.drewN _)
                  by_cases p6 : N < -1048576
                  · go_quiet (fail)
                    go_wp2_with fail
                    go_ret
                    exact GoodPost.no (K10.out.drewN _)
                  by_cases p7 : N > 1048576
                  · go_quiet (fail)
                    go_wp2_with fail
                    go_ret
                    exact GoodPost.no (K10.out.drewN _)
                  have hnew : Hid (Terms k co (s + 1 + 1)) := Lib.hid (Terms.next hterm.out hy.out hx.out (by dsimp only; omega) ⟨by dsimp only; omega, by dsimp only; omega⟩)
                  go_quiet (fail)
                  go_wp2_with fail
                  go_roundw
                  case rel => exact ⟨s + 1 + 1, by omega, by go_num, hnew, B10, C10, Lib.hid (K10.out.drewN _)⟩
                  case measure => simp [intOf]; omega
              · obtain rfl : s = q := by omega
                have hkf : ¬ (s : Int) < (s : Int) := by omega
                have z := B9.out.cell
                have hterm' := hterm.out
                rw [← hq.out] at hterm'
                have hnew := Lib.hid (hstep.out ⟨hcon.out, hterm'.all.1, hterm'.all.2⟩)
                clear hterm'
                go_wp2_with fail
                go_roundw
                case rel => exact ⟨j + 1, by omega, by go_num, hnew, K9⟩
                case measure => simp [intOf]; omega
          · obtain rfl : j = n := by omega
            have hjf : ¬ (j : Int) < (j : Int) := by omega
            rw [List.take_of_length_le (by rw [hn.out]; exact Nat.le_refl _)] at hcs
            go_wp2_with fail
            go_ret
            exact ⟨true, rfl, Lib.hid (fun _ => ⟨by rw [hm.out]; exact hm6, hok.out, fun f hf => by rw [hm.out]; exact hcs.out f hf⟩), hkr⟩
  · have hm7 : (m : Int) > 64 := by omega
    go_enter Try.func32, Try.ntmps32
    go_wp2_with fail
    go_ret
    exact GoodPost.no (Keeps.refl [] w)

def Good12Post (D : List Iv) (l : List Con) (n : Nat) (w : World) (e : Ending) (w' : World) : Prop := ∃ b, e = .returned (.bool b) ∧ Hid (b = true → n ≤ 20 ∧ GoodA D l) ∧ Hid (Keeps [] w w')
set_option maxHeartbeats 1600000 in
theorem good12_any (w : World) (B : Nat) (Al Ad : Option Addr) (l : List Con) (D : List Iv) (n cl m cd : Nat) (hn : l.length = n) (hm : D.length = m) (hL : ConsAt w B Al l) (hD : IvAt w B Ad D) (hB : B ≤ w.heap.size) (hs : ConsShort l) :
    Calls Try.prog 12 #[.agg #[.slice Al n cl, .slice Ad m cd]] w (Good12Post D l n w) := by
  have ka : Keeps [] w (w.alloc (.cells #[.slice Al n cl, .slice Ad m cd] 25)) := (Keeps.refl [] w).alloc _
  by_cases h20 : n ≤ 20
  · have h20' : (n : Int) ≤ 20 := by omega
    have HG := Lib.hid (good32_any (w.alloc (.cells #[.slice Al n cl, .slice Ad m cd] 25)) B Al Ad l D n cl m cd hn hm (hL.keep ka (by simp)) (hD.keep ka (by simp)) (Nat.le_trans hB ka.size) (by omega) hs)
    replace ka := Lib.hid ka
    clear hL hD hs hn hm
    go_enter Try.func12, Try.ntmps12
    go_wp2_with fail
    refine HG.out.mono ?_
    rintro e w1 ⟨b, rfl, hb, kb⟩
    have K := Lib.hid (ka.out.trans kb.out)
    clear HG kb ka
    go_wp2_with fail
    go_ret
    exact ⟨b, by first | rfl | simp, Lib.hid (fun h => ⟨h20, hb.out h⟩), K⟩
  · have h20' : ¬ ((n : Int) ≤ 20) := by omega
    replace ka := Lib.hid ka
    clear hL hD hs hn hm
    go_enter Try.func12, Try.ntmps12
    go_wp2_with fail
    go_ret
    exact ⟨false, by first | rfl | simp, Lib.hid (fun h => by cases h), ka⟩
end Go.Proofs.Ythmnolpamllabaa
