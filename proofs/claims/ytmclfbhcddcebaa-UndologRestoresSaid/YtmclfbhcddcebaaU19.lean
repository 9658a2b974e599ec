/- The log as a whole: Add, Len, Net. -/
import Derived.Test.YtmclfbhcddcebaaU18
namespace Go.Proofs.Ytmclfbhcddcebaa
open Go.RowKit Go.Shelf
set_option linter.unusedSimpArgs false
set_option linter.unusedVariables false

def fb (A : Option Addr) : List Nat := (A.map (·.block)).toList
theorem fb_own (A : Option Addr) (n c : Nat) : (Value.slice A n c).ownBlock.toList = fb A := by cases A <;> rfl
theorem own_fb {A : Option Addr} {n c g : Nat} (h : (Value.slice A n c).ownBlock = some g) : g ∈ fb A := by rw [← fb_own A n c, h]; simp
/-- A log of the program: its changes L, its savepoints S. Its own blocks are F; no row lies in a block of X. -/
structure GLog (tl ts : TypeId) (b : Nat) (w : World) (X F : List Nat) (gl : Nat) (L : List Chg) (S : List Pnt) : Prop where
  ex : ∃ A c Ap cp R, Blk w gl tl #[.slice A L.length c, .slice Ap S.length cp] ∧ w.ownsRow b 35 4 (.slice A L.length c) L.length (flatC R) ∧ w.ownsRow b ts 2 (.slice Ap S.length cp) S.length (flatP S) ∧ RawsIs w X R L ∧ F = gl :: (fb A ++ fb Ap)
  sub : ∀ x ∈ F, x ∈ X
  lo : b ≤ gl
  hi : ∀ x ∈ X, x < w.heap.size
  sm : ∀ c ∈ L, Small c ∧ wfC c
abbrev PLog := GLog 64 82
abbrev RLog := GLog 31 99
/-- What an operation may do to the blocks. -/
structure Turn (F F' : List Nat) (w w' : World) : Prop where
  kp : Keeps F w w'
  nw : ∀ g ∈ F', g ∈ F ∨ w.heap.size ≤ g
theorem Turn.refl (F : List Nat) (w : World) : Turn F F w w := ⟨Keeps.refl _ _, fun g h => .inl h⟩
theorem Turn.of_nil {F : List Nat} {w w' : World} (h : Keeps [] w w') : Turn F F w w' := ⟨h.nil, fun g h => .inl h⟩
theorem own_lo {w : World} {b e size n : Nat} {A : Option Addr} {c : Nat} {xs : List Value} (h : w.ownsRow b e size (.slice A n c) n xs) {g : Nat} (hg : g ∈ fb A) : b ≤ g ∧ g < w.heap.size ∧ ∃ cur, Blk w g e cur := by
  have : (Value.slice A n c).ownBlock = some g := by rw [← Option.mem_toList, fb_own]; exact hg
  obtain ⟨h1, cur, h2⟩ := own_blk h this
  exact ⟨h1, h2.lt, cur, h2⟩
theorem GLog.lob {tl ts : TypeId} {b : Nat} {w : World} {X F : List Nat} {gl : Nat} {L : List Chg} {S : List Pnt} (h : GLog tl ts b w X F gl L S) : ∀ g ∈ F, b ≤ g ∧ g < w.heap.size := by
  obtain ⟨A, c, Ap, cp, R, hB, hO, hP, _, rfl⟩ := h.ex
  intro g hg
  rcases List.mem_cons.1 hg with rfl | hg
  · exact ⟨h.lo, hB.lt⟩
  · rcases List.mem_append.1 hg with hg | hg
    · have := own_lo hO hg; exact ⟨this.1, this.2.1⟩
    · have := own_lo hP hg; exact ⟨this.1, this.2.1⟩
theorem GLog.bs {tl ts : TypeId} {b : Nat} {w : World} {X F : List Nat} {gl : Nat} {L : List Chg} {S : List Pnt} (h : GLog tl ts b w X F gl L S) : b ≤ w.heap.size := by
  obtain ⟨A, c, Ap, cp, R, hB, _⟩ := h.ex
  have := hB.lt
  have := h.lo
  omega
/-- Others' turns leave the log alone. -/
theorem GLog.step {tl ts : TypeId} {b : Nat} {w w' : World} {X X' F Y : List Nat} {gl : Nat} {L : List Chg} {S : List Pnt} (h : GLog tl ts b w X F gl L S) (hk : Keeps Y w w') (hYF : ∀ y ∈ Y, y ∉ F) (hYX : ∀ y ∈ Y, y ∈ X ∨ w.heap.size ≤ y) (hX : ∀ x ∈ X', x ∈ X ∨ (w.heap.size ≤ x ∧ x < w'.heap.size)) (hF : ∀ x ∈ F, x ∈ X') : GLog tl ts b w' X' F gl L S := by
  obtain ⟨A, c, Ap, cp, R, hB, hO, hP, hR, rfl⟩ := h.ex
  have hn : ∀ y ∈ Y, y ∉ gl :: (fb A ++ fb Ap) := hYF
  refine ⟨⟨A, c, Ap, cp, R, hB.keep hk (fun hm => hn _ hm (by simp)), own_keep hO hk (fun g hg hm => hn g hm (by simp [own_fb hg])), own_keep hP hk (fun g hg hm => hn g hm (by simp [own_fb hg])), ?_, rfl⟩, hF, h.lo, ?_, h.sm⟩
  · exact ((hR.other (Y := X ++ X') (fun y hy => by
      rcases List.mem_append.1 hy with hy | hy
      · exact .inl hy
      · rcases hX y hy with h1 | h1
        · exact .inl h1
        · exact .inr h1.1)).keep hk (fun y hy => by
          rcases hYX y hy with h1 | h1
          · exact .inl (List.mem_append_left _ h1)
          · exact .inr h1)).other (fun y hy => .inl (List.mem_append_right _ hy))
  · intro x hx
    rcases hX x hx with h1 | h1
    · exact Nat.lt_of_lt_of_le (h.hi x h1) hk.size
    · exact h1.2
theorem GLog.keep {tl ts : TypeId} {b : Nat} {w w' : World} {X F : List Nat} {gl : Nat} {L : List Chg} {S : List Pnt} (h : GLog tl ts b w X F gl L S) (hk : Keeps [] w w') : GLog tl ts b w' X F gl L S :=
  h.step hk (by simp) (by simp) (fun x hx => .inl hx) h.sub
theorem GLog.wide {tl ts : TypeId} {b : Nat} {w : World} {X X' F : List Nat} {gl : Nat} {L : List Chg} {S : List Pnt} (h : GLog tl ts b w X F gl L S) (hX : ∀ x ∈ X', x ∈ X) (hF : ∀ x ∈ F, x ∈ X') : GLog tl ts b w X' F gl L S :=
  h.step (Keeps.refl [] w) (by simp) (by simp) (fun x hx => .inl (hX x hx)) hF

/-- New. -/
theorem GLog.new_ (tl ts : TypeId) (b : Nat) (w : World) (hb : b ≤ w.heap.size) (X : List Nat) (hX : ∀ x ∈ X, x < w.heap.size) : GLog tl ts b (w.alloc (.cells #[.slice none 0 0, .slice none 0 0] tl)) (w.heap.size :: X) [w.heap.size] w.heap.size [] [] :=
  ⟨⟨none, 0, none, 0, [], Blk.new w tl _, ⟨rfl, .inl ⟨rfl, rfl⟩⟩, ⟨rfl, .inl ⟨rfl, rfl⟩⟩, ⟨rfl, fun i r c h => by simp at h⟩, rfl⟩, by simp, hb, fun x hx => by
    rcases List.mem_cons.1 hx with rfl | hx
    · simp
    · have := hX x hx; simp; omega, fun c h => by simp at h⟩

/-- What Add leaves. -/
def AddL (b : Nat) (w : World) (X F : List Nat) (gl : Nat) (L : List Chg) (S : List Pnt) (c : Chg) (e : Ending) (w' : World) : Prop :=
  ∃ F', e = .returned (.int .i64 (if addOk L c then 0 else 1)) ∧ Hid (PLog b w' (F' ++ X) F' gl (if addOk L c then L ++ [c] else L) S) ∧ Hid (Turn F F' w w')
/-- (The rows of the change may lie in blocks of X, if they are not the log's own.) -/
theorem add_log2 (b : Nat) (w : World) (X F : List Nat) (gl : Nat) (L : List Chg) (S : List Pnt) (r : Raw) (c : Chg) (h : PLog b w X F gl L S) (hc : RawIs w F r c) (hs : Small c) (hw : wfC c) (hL : L.length ≤ 1000000) (hb : b ≤ w.heap.size) :
    Calls Try.prog 13 #[.pointer (some ⟨gl, 0, none⟩), .agg r.cells.toArray] w (AddL b w X F gl L S c) := by
  obtain ⟨A, cc, Ap, cp, R, hB, hO, hP, hR, rfl⟩ := h.ex
  refine (add_any w b gl A L.length cc _ R L r c (gl :: (fb A ++ fb Ap)) hB hO hR.1 (hR.other (fun y hy => .inl (h.sub y hy))) hc hs (fun b hb => (h.sm b hb).1) hL hb).mono ?_
  rintro e w' (⟨hok, rfl, hk⟩ | ⟨hok, rfl, A', cc', r', hB', hO', hr', hfr, hnw, hk⟩)
  · refine ⟨_, by rw [hok]; rfl, Lib.hid ?_, Lib.hid (Turn.of_nil hk)⟩
    rw [hok]
    exact h.step hk (by simp) (by simp) (fun x hx => .inl ((List.mem_append.1 hx).elim (h.sub x) id)) (fun x hx => List.mem_append_left _ hx)
  · rw [fb_own] at hk hr'
    have hkF : Keeps (gl :: (fb A ++ fb Ap)) w w' := hk.mono (fun x hx => .inl (by
      rcases List.mem_cons.1 hx with rfl | hx
      · simp
      · simp [hx]))
    have hF' : ∀ g ∈ gl :: (fb A' ++ fb Ap), g ∈ gl :: (fb A ++ fb Ap) ∨ w.heap.size ≤ g := fun g hg => by
      rcases List.mem_cons.1 hg with rfl | hg
      · exact .inl (by simp)
      · rcases List.mem_append.1 hg with hg | hg
        · rcases hnw g (by rw [← Option.mem_toList, fb_own]; exact hg) with h1 | h1
          · exact .inl (by simp [own_fb h1])
          · exact .inr h1
        · exact .inl (by simp [hg])
    refine ⟨gl :: (fb A' ++ fb Ap), by rw [hok]; rfl, Lib.hid ?_, Lib.hid ⟨hkF, hF'⟩⟩
    rw [hok]
    simp only [if_true]
    have hPn : ∀ g, (Value.slice Ap S.length cp).ownBlock = some g → g ∉ gl :: fb A := fun g hg hm => by
      obtain ⟨_, cur, hb82⟩ := own_blk hP hg
      rcases List.mem_cons.1 hm with rfl | hm
      · exact hb82.ne_ hB (by decide) rfl
      · obtain ⟨_, _, cur', hb35⟩ := own_lo hO hm
        exact hb82.ne_ hb35 (by decide) rfl
    have hXhi : ∀ x ∈ X, x < w.heap.size := h.hi
    have hnX : ∀ {A : Option Addr} {l : List Val}, RowAt w' (fb A') A l → Fresh w.heap.size A → RowAt w' ((gl :: (fb A' ++ fb Ap)) ++ X) A l := fun {A l} ha hf => by
      refine (ha.both (ha.fresh (Y := gl :: (fb Ap ++ X)) hf (fun y hy => ?_))).other (fun y hy => .inl ?_)
      · rcases List.mem_cons.1 hy with rfl | hy
        · exact hB.lt
        · rcases List.mem_append.1 hy with hy | hy
          · exact (own_lo hP hy).2.1
          · exact hXhi y hy
      · rcases List.mem_append.1 hy with hy | hy
        · rcases List.mem_cons.1 hy with rfl | hy
          · simp
          · rcases List.mem_append.1 hy with hy | hy <;> simp [hy]
        · simp [hy]
    refine ⟨⟨A', cc', Ap, cp, R ++ [r'], by simpa using hB', by simpa using hO', own_keep hP hk hPn, ⟨by simp [hR.1], ?_⟩, rfl⟩, fun x hx => List.mem_append_left _ hx, h.lo, ?_, ?_⟩
    · intro i r0 c0 h1 h2
      rcases Nat.lt_or_ge i R.length with hlt | hge
      · rw [List.getElem?_append_left hlt] at h1
        rw [List.getElem?_append_left (by rw [← hR.1]; exact hlt)] at h2
        have := hR.2 i r0 c0 h1 h2
        exact RawIs.keep (this.other (Y := (gl :: (fb A' ++ fb Ap)) ++ X) (fun y hy => by
          rcases List.mem_append.1 hy with hy | hy
          · rcases hF' y hy with h3 | h3
            · exact .inl (h.sub y h3)
            · exact .inr h3
          · exact .inl hy)) hk (fun y hy => .inl (List.mem_append_right _ (h.sub y (by
            rcases List.mem_cons.1 hy with rfl | hy
            · simp
            · simp [hy]))))
      · rw [List.getElem?_append_right hge] at h1
        rw [List.getElem?_append_right (by rw [← hR.1]; exact hge)] at h2
        have e1 : i - R.length = 0 := by
          have := (List.getElem?_eq_some_iff.1 h1).1
          simp at this
          omega
        rw [e1] at h1
        rw [← hR.1, e1] at h2
        cases h1
        cases h2
        exact ⟨hr'.t, hr'.id, hr'.no, hr'.nn, hnX hr'.old hfr.1, hnX hr'.new hfr.2⟩
    · intro x hx
      rcases List.mem_append.1 hx with hx | hx
      · rcases List.mem_cons.1 hx with rfl | hx
        · exact hB'.lt
        · rcases List.mem_append.1 hx with hx | hx
          · exact (own_lo hO' hx).2.1
          · exact Nat.lt_of_lt_of_le (own_lo hP hx).2.1 hk.size
      · exact Nat.lt_of_lt_of_le (h.hi x hx) hk.size
    · intro c0 hc0
      rcases List.mem_append.1 hc0 with hc0 | hc0
      · exact h.sm c0 hc0
      · rw [List.mem_singleton.1 hc0]; exact ⟨hs, hw⟩

theorem add_log (b : Nat) (w : World) (X F : List Nat) (gl : Nat) (L : List Chg) (S : List Pnt) (r : Raw) (c : Chg) (h : PLog b w X F gl L S) (hc : RawIs w X r c) (hs : Small c) (hw : wfC c) (hL : L.length ≤ 1000000) (hb : b ≤ w.heap.size) :
    Calls Try.prog 13 #[.pointer (some ⟨gl, 0, none⟩), .agg r.cells.toArray] w (AddL b w X F gl L S c) :=
  add_log2 b w X F gl L S r c h (hc.other (fun y hy => .inl (h.sub y hy))) hs hw hL hb

theorem len_log (b : Nat) (w : World) (X F : List Nat) (gl : Nat) (L : List Chg) (S : List Pnt) (h : PLog b w X F gl L S) : Calls Try.prog 20 #[.pointer (some ⟨gl, 0, none⟩)] w fun e w' => e = .returned (.int .i64 L.length) ∧ w = w' := by
  obtain ⟨A, cc, Ap, cp, R, hB, hO, hP, hR, rfl⟩ := h.ex
  exact len_any w gl A L.length cc (hB.cell 0)
theorem net_log (b : Nat) (w : World) (X F : List Nat) (gl : Nat) (L : List Chg) (S : List Pnt) (h : PLog b w X F gl L S) (hL : L.length ≤ 1000000) : Calls Try.prog 15 #[.pointer (some ⟨gl, 0, none⟩)] w (NetPost w L) := by
  obtain ⟨A, cc, Ap, cp, R, hB, hO, hP, hR, rfl⟩ := h.ex
  exact net_any w b gl A L.length cc _ R L X hB hO hR.1 hR (fun b hb => (h.sm b hb).1) (fun b hb => (h.sm b hb).2) hL
end Go.Proofs.Ytmclfbhcddcebaa
