/- The log as a whole: Save. -/
import Derived.Test.YtmclfbhcddcebaaU28
namespace Go.Proofs.Ytmclfbhcddcebaa
open Go.RowKit Go.Shelf
set_option linter.unusedSimpArgs false
set_option linter.unusedVariables false

theorem Keeps.then_ {X Y : List Nat} {w w1 w2 : World} (h : Keeps X w w1) (k : Keeps Y w1 w2) (hY : ∀ y ∈ Y, y ∈ X ∨ w.heap.size ≤ y) : Keeps X w w2 :=
  ⟨k.os.trans h.os, k.tape.trans h.tape, k.output.trans h.output, Nat.le_trans h.size k.size, fun g hg hx => (k.block g (Nat.lt_of_lt_of_le hg h.size) (fun hy => by
    rcases hY g hy with h1 | h1
    · exact hx h1
    · omega)).trans (h.block g hg hx)⟩
/-- The savepoints are others now. -/
theorem GLog.saves {tl ts : TypeId} {b : Nat} {w w' : World} {X F : List Nat} {gl : Nat} {L : List Chg} {S S' : List Pnt} {A Ap : Option Addr} {c cp : Nat} {R : List Raw} (h : GLog tl ts b w X F gl L S) (hB : Blk w' gl tl #[.slice A L.length c, .slice Ap S'.length cp])
    (hO : w'.ownsRow b 35 4 (.slice A L.length c) L.length (flatC R)) (hP : w'.ownsRow b ts 2 (.slice Ap S'.length cp) S'.length (flatP S')) (hR : RawsIs w X R L) (hk : Keeps F w w') (hA : ∀ g ∈ fb A, g ∈ F) (hgl : gl ∈ F) (hn : ∀ g ∈ fb Ap, g ∈ F ∨ w.heap.size ≤ g) :
    GLog tl ts b w' ((gl :: (fb A ++ fb Ap)) ++ X) (gl :: (fb A ++ fb Ap)) gl L S' ∧ Turn F (gl :: (fb A ++ fb Ap)) w w' := by
  have hF' : ∀ g ∈ gl :: (fb A ++ fb Ap), g ∈ F ∨ w.heap.size ≤ g := fun g hg => by
    rcases List.mem_cons.1 hg with rfl | hg
    · exact .inl hgl
    · rcases List.mem_append.1 hg with hg | hg
      · exact .inl (hA g hg)
      · exact hn g hg
  refine ⟨⟨⟨A, c, Ap, cp, R, hB, hO, hP, ?_, rfl⟩, fun x hx => List.mem_append_left _ hx, h.lo, ?_, h.sm⟩, ⟨hk, hF'⟩⟩
  · have := hR.other (Y := X ++ ((gl :: (fb A ++ fb Ap)) ++ X)) (fun y hy => by
      rcases List.mem_append.1 hy with hy | hy
      · exact .inl hy
      · rcases List.mem_append.1 hy with hy | hy
        · rcases hF' y hy with h3 | h3
          · exact .inl (h.sub y h3)
          · exact .inr h3
        · exact .inl hy)
    exact (this.keep hk (fun y hy => .inl (List.mem_append_left _ (h.sub y hy)))).other (fun y hy => .inl (List.mem_append_right _ hy))
  · intro x hx
    rcases List.mem_append.1 hx with hx | hx
    · rcases List.mem_cons.1 hx with rfl | hx
      · exact hB.lt
      · rcases List.mem_append.1 hx with hx | hx
        · exact (own_lo hO hx).2.1
        · exact (own_lo hP hx).2.1
    · exact Nat.lt_of_lt_of_le (h.hi x hx) hk.size
/-- The savepoints behind Save. -/
def saveS (S : List Pnt) (nm : ByteArray) (n : Nat) : List Pnt := (if findI S nm < 0 then S else S.eraseIdx (findI S nm).toNat) ++ [(nm, n)]
def SaveL (tl ts : TypeId) (b : Nat) (w : World) (X F : List Nat) (gl : Nat) (L : List Chg) (S : List Pnt) (nm : ByteArray) (e : Ending) (w' : World) : Prop :=
  ∃ F', e = .returned (.int .i64 (if nm = ⟨#[]⟩ then 1 else 0)) ∧ Hid (GLog tl ts b w' (F' ++ X) F' gl L (if nm = ⟨#[]⟩ then S else saveS S nm L.length)) ∧ Hid (Turn F F' w w')
theorem GLog.void {tl ts : TypeId} {b : Nat} {w : World} {X F : List Nat} {gl : Nat} {L : List Chg} {S : List Pnt} (h : GLog tl ts b w X F gl L S) : GLog tl ts b w (F ++ X) F gl L S :=
  h.wide (fun x hx => (List.mem_append.1 hx).elim (h.sub x) id) (fun x hx => List.mem_append_left _ hx)
/-- What stands in the log ahead of the last append of Save. -/
structure SaveM (tl ts : TypeId) (b : Nat) (w : World) (X F : List Nat) (gl : Nat) (L : List Chg) (S' : List Pnt) (A : Option Addr) (cc : Nat) (Ap : Option Addr) (cp : Nat) (R : List Raw) (w3 : World) : Prop where
  B : Blk w3 gl tl #[.slice A L.length cc, .slice Ap S'.length cp]
  O : w3.ownsRow b 35 4 (.slice A L.length cc) L.length (flatC R)
  P : w3.ownsRow b ts 2 (.slice Ap S'.length cp) S'.length (flatP S')
  k : Keeps F w w3
  n : ∀ g ∈ fb Ap, g ∈ F ∨ w.heap.size ≤ g
theorem src_pnt {w : World} {g : Nat} {ts : TypeId} {p : Pnt} (h : Blk w g ts #[.string p.1, .int .i64 (p.2 : Int)]) : SrcAt w (some ⟨g, 0, none⟩) 1 (flatP [p]) := .inr ⟨g, 0, rfl, fun j u hj => by rw [Nat.zero_add, h.cell]; simpa [flatP] using hj⟩
/-- Behind the last append, its slice stored. -/
theorem SaveM.fin {tl ts : TypeId} {b : Nat} {w : World} {X F : List Nat} {gl : Nat} {L : List Chg} {S S' : List Pnt} {A : Option Addr} {cc : Nat} {Ap : Option Addr} {cp : Nat} {R : List Raw} {w3 w4 w5 : World} {p : Pnt} {v : Value} (h : GLog tl ts b w X F gl L S) (m : SaveM tl ts b w X F gl L S' A cc Ap cp R w3) (hR : RawsIs w X R L) (hA : ∀ g ∈ fb A, g ∈ F) (hgl : gl ∈ F)
    (k4 : Keeps [] w3 w4) (ho : w5.ownsRow b ts 2 v (S'.length + 1) (flatP S' ++ flatP [p])) (hg : w4.grownBy w5 (Value.slice Ap S'.length cp).ownBlock) (hv : v.ownBlock = (Value.slice Ap S'.length cp).ownBlock ∨ v.ownBlock = some w4.heap.size) (ht1 : tl ≠ ts) (ht2 : (35 : TypeId) ≠ ts) (ht3 : tl ≠ 35) :
    (w5.cell? ⟨gl, 0, none⟩ = some (.slice A L.length cc) ∧ w5.cell? ⟨gl, 1, none⟩ = some (.slice Ap S'.length cp) ∧ w5.frozen? ⟨gl, 1, none⟩ = false) ∧ ∃ F', GLog tl ts b (w5.setCell ⟨gl, 1, none⟩ v) (F' ++ X) F' gl L (S' ++ [p]) ∧ Turn F F' w (w5.setCell ⟨gl, 1, none⟩ v) := by
  obtain ⟨Av, cv, rfl, _⟩ := own_slice ho
  have hglA : gl ∉ fb Ap := fun hm => by
    obtain ⟨_, _, cur, hb⟩ := own_lo m.P hm
    exact (m.B.ne_ hb ht1) rfl
  have kg : Keeps (fb Ap) w4 w5 := Keeps.grown hg (by intro g h; exact own_fb h)
  have k35 : Keeps (fb Ap) w3 w5 := k4.nil.trans kg
  have hB5 := m.B.keep k35 hglA
  have ks : Keeps [gl] w5 (w5.setCell ⟨gl, 1, none⟩ (.slice Av (S'.length + 1) cv)) := (Keeps.refl [gl] w5).setCell (p := ⟨gl, 1, none⟩) (.inl (by simp)) _
  have hBs : Blk (w5.setCell ⟨gl, 1, none⟩ (.slice Av (S'.length + 1) cv)) gl tl #[.slice A L.length cc, .slice Av (S' ++ [p]).length cv] := by
    have := hB5.set_ 1 (.slice Av (S'.length + 1) cv)
    simpa using this
  have hOA : ∀ g, (Value.slice A L.length cc).ownBlock = some g → g ∉ fb Ap := fun g hg hm => by
    obtain ⟨_, cur, hb⟩ := own_blk m.O hg
    obtain ⟨_, _, cur', hb'⟩ := own_lo m.P hm
    exact hb.ne_ hb' ht2 rfl
  have hO5 := own_keep m.O k35 hOA
  have hOs := own_keep hO5 ks (fun g hg hm => by
    obtain ⟨_, cur, hb⟩ := own_blk hO5 hg
    rw [List.mem_singleton.1 hm] at hb
    exact hB5.ne_ hb ht3 rfl)
  have hPs := own_keep ho ks (fun g hg hm => by
    obtain ⟨_, cur, hb⟩ := own_blk ho hg
    rw [List.mem_singleton.1 hm] at hb
    exact hB5.ne_ hb ht1 rfl)
  rw [show flatP S' ++ flatP [p] = flatP (S' ++ [p]) from (flatP_append _ _).symm] at hPs
  have hkF : Keeps F w w5 := m.k.then_ k35 m.n
  exact ⟨⟨hB5.cell 0, hB5.cell 1, hB5.frozen 1⟩, _, h.saves hBs hOs (by simpa using hPs) hR (hkF.trans (ks.mono (fun y hy => .inl (by rw [List.mem_singleton.1 hy]; exact hgl)))) hA hgl (fun g hg => by
    rcases hv with e | e
    · rw [← fb_own Av (S'.length + 1) cv, e, fb_own] at hg
      exact m.n g hg
    · rw [← fb_own Av (S'.length + 1) cv, e] at hg
      right
      have := m.k.size
      have := k4.size
      simp at hg
      omega)⟩
theorem save_tail (b : Nat) (w : World) (X F : List Nat) (gl : Nat) (L : List Chg) (S S' : List Pnt) (nm : ByteArray) (A : Option Addr) (cc : Nat) (Ap : Option Addr) (cp : Nat) (R : List Raw) (h : PLog b w X F gl L S) (hR : RawsIs w X R L) (hA : ∀ g ∈ fb A, g ∈ F) (hgl : gl ∈ F) (w3 : World) (m : SaveM 64 82 b w X F gl L S' A cc Ap cp R w3) :
    ∀ w4 w5 v, Keeps [] w3 w4 → Hid (w5.ownsRow b 82 2 v (S'.length + 1) (flatP S' ++ flatP [(nm, L.length)])) → Hid (w4.grownBy w5 (Value.slice Ap S'.length cp).ownBlock) → Hid (v.ownBlock = (Value.slice Ap S'.length cp).ownBlock ∨ v.ownBlock = some w4.heap.size) →
      (w5.cell? ⟨gl, 0, none⟩ = some (.slice A L.length cc) ∧ w5.cell? ⟨gl, 1, none⟩ = some (.slice Ap S'.length cp) ∧ w5.frozen? ⟨gl, 1, none⟩ = false) ∧ Hid (∃ F', GLog 64 82 b (w5.setCell ⟨gl, 1, none⟩ v) (F' ++ X) F' gl L (S' ++ [(nm, L.length)]) ∧ Turn F F' w (w5.setCell ⟨gl, 1, none⟩ v)) := fun w4 w5 v k4 ho hg hv => by
  have := m.fin h hR hA hgl k4 ho.out hg.out hv.out (by decide) (by decide) (by decide)
  exact ⟨this.1, Lib.hid this.2⟩
theorem saveM_del {tl ts : TypeId} {b : Nat} {w : World} {X F : List Nat} {gl : Nat} {L : List Chg} {S S' : List Pnt} {A : Option Addr} {cc gp cp : Nat} {R : List Raw} (hB : Blk w gl tl #[.slice A L.length cc, .slice (some ⟨gp, 0, none⟩) S.length cp]) (hO : w.ownsRow b 35 4 (.slice A L.length cc) L.length (flatC R))
    (hP : w.ownsRow b ts 2 (.slice (some ⟨gp, 0, none⟩) S.length cp) S.length (flatP S)) (hgp : gp ∈ F) (hgl : gl ∈ F) (ht1 : tl ≠ ts) (ht2 : (35 : TypeId) ≠ ts) (ht3 : tl ≠ 35) (w2 w3 : World) (q : Nat) (k2 : Keeps [] w w2) (hq : S'.length = q)
    (ho : w3.ownsRow b ts 2 (.slice (some ⟨gp, 0, none⟩) q cp) q (flatP S')) (k3 : Keeps [gp] w2 w3) :
    (w3.cell? ⟨gl, 0, none⟩ = some (.slice A L.length cc) ∧ w3.cell? ⟨gl, 1, none⟩ = some (.slice (some ⟨gp, 0, none⟩) S.length cp) ∧ w3.frozen? ⟨gl, 1, none⟩ = false) ∧ Hid (SaveM tl ts b w X F gl L S' A cc (some ⟨gp, 0, none⟩) cp R (w3.setCell ⟨gl, 1, none⟩ (.slice (some ⟨gp, 0, none⟩) q cp))) := by
  subst hq
  obtain ⟨_, cur, hb⟩ := own_blk hP (g := gp) rfl
  have hne : gl ≠ gp := hB.ne_ hb ht1
  have hB3 := (hB.keep k2 (by simp)).keep k3 (by simpa using hne)
  have hO3 := own_keep (own_keep0 hO k2) k3 (fun g hg hm => by
    obtain ⟨_, cur', hb'⟩ := own_blk hO hg
    rw [List.mem_singleton.1 hm] at hb'
    exact hb'.ne_ hb ht2 rfl)
  have ks : Keeps [gl] w3 (w3.setCell ⟨gl, 1, none⟩ (.slice (some ⟨gp, 0, none⟩) S'.length cp)) := (Keeps.refl [gl] w3).setCell (p := ⟨gl, 1, none⟩) (.inl (by simp)) _
  refine ⟨⟨hB3.cell 0, hB3.cell 1, hB3.frozen 1⟩, Lib.hid ⟨?_, ?_, ?_, ?_, ?_⟩⟩
  · have := hB3.set_ 1 (.slice (some ⟨gp, 0, none⟩) S'.length cp)
    simpa using this
  · exact own_keep hO3 ks (fun g hg hm => by
      obtain ⟨_, cur', hb'⟩ := own_blk hO3 hg
      rw [List.mem_singleton.1 hm] at hb'
      exact hB3.ne_ hb' ht3 rfl)
  · exact own_keep ho ks (fun g hg hm => by
      obtain ⟨_, cur', hb'⟩ := own_blk ho hg
      rw [List.mem_singleton.1 hm] at hb'
      exact hB3.ne_ hb' ht1 rfl)
  · exact (k2.nil.trans (k3.mono (fun y hy => .inl (by rw [List.mem_singleton.1 hy]; exact hgp)))).trans (ks.mono (fun y hy => .inl (by rw [List.mem_singleton.1 hy]; exact hgl)))
  · intro g hg
    left
    simp [fb] at hg
    rw [hg]
    exact hgp
theorem bs_of {tl ts : TypeId} {b : Nat} {w w' : World} {X F : List Nat} {gl : Nat} {L : List Chg} {S : List Pnt} (h : GLog tl ts b w X F gl L S) {Y : List Nat} (k : Keeps Y w w') : b ≤ w'.heap.size := Nat.le_trans h.bs k.size

set_option maxRecDepth 100000 in
set_option maxHeartbeats 3200000 in
theorem save_log (b : Nat) (w : World) (X F : List Nat) (gl : Nat) (L : List Chg) (S : List Pnt) (nm : ByteArray) (h : PLog b w X F gl L S) (hS : S.length ≤ 1000000) :
    Calls Try.prog 22 #[.pointer (some ⟨gl, 0, none⟩), .string nm] w (SaveL 64 82 b w X F gl L S nm) := by
  by_cases hnm : nm = ⟨#[]⟩
  · have hfin := Lib.hid (show SaveL 64 82 b w X F gl L S nm (.returned (.int .i64 1)) w from ⟨F, by rw [if_pos hnm], Lib.hid (by rw [if_pos hnm]; exact h.void), Lib.hid (Turn.refl _ _)⟩)
    subst hnm
    clear h
    go_enter Try.func22, Try.ntmps22
    go_wp2_with fail
    go_ret
    exact hfin.out
  · obtain ⟨A, cc, Ap, cp, R, hB, hO, hP, hR, hF⟩ := h.ex
    have hA : ∀ g ∈ fb A, g ∈ F := fun g hg => by rw [hF]; simp [hg]
    have hgl : gl ∈ F := by rw [hF]; simp
    have hAp : ∀ g ∈ fb Ap, g ∈ F := fun g hg => by rw [hF]; simp [hg]
    have hb := bytes_ne hnm
    have hl : ¬ nm.toList = [] := fun e => bytes_list hnm (by simpa [ByteArray.toList_eq] using e)
    have hl2 : (nm.toList == ([] : List UInt8)) = false := by simpa using hl
    obtain ⟨i0, hi0, hz0, hz1, hz2⟩ := info_parts info82
    have HT : Hid (∀ (S' : List Pnt) (Ap' : Option Addr) (lp : Nat) (w3 : World), Hid (S'.length = lp) → Hid (SaveM 64 82 b w X F gl L S' A cc Ap' cp R w3) → Hid (S' ++ [(nm, L.length)] = saveS S nm L.length) →
        (w3.cell? ⟨gl, 0, none⟩ = some (.slice A L.length cc) ∧ w3.cell? ⟨gl, 1, none⟩ = some (.slice Ap' lp cp) ∧ Hid (w3.ownsRow b 82 2 (.slice Ap' lp cp) lp (flatP S')) ∧ Hid (b ≤ w3.heap.size)) ∧
        (∀ w4 w5 v, Hid (Keeps [] w3 w4) → Hid (w5.ownsRow b 82 2 v (lp + 1) (flatP S' ++ flatP [(nm, L.length)])) → Hid (w4.grownBy w5 (Value.slice Ap' lp cp).ownBlock) → Hid (v.ownBlock = (Value.slice Ap' lp cp).ownBlock ∨ v.ownBlock = some w4.heap.size) →
        (w5.cell? ⟨gl, 0, none⟩ = some (.slice A L.length cc) ∧ w5.cell? ⟨gl, 1, none⟩ = some (.slice Ap' lp cp) ∧ w5.frozen? ⟨gl, 1, none⟩ = false) ∧ Hid (SaveL 64 82 b w X F gl L S nm (.returned (.int .i64 0)) (w5.setCell ⟨gl, 1, none⟩ v)))) := Lib.hid (fun S' Ap' lp w3 hlp m he => by
      obtain rfl := hlp.out
      refine ⟨⟨m.out.B.cell 0, m.out.B.cell 1, Lib.hid m.out.P, Lib.hid (bs_of h m.out.k)⟩, fun w4 w5 v k4 ho hg hv => ?_⟩
      obtain ⟨q1, q2⟩ := save_tail b w X F gl L S S' nm A cc Ap' cp R h hR hA hgl w3 m.out w4 w5 v k4.out ho hg hv
      refine ⟨q1, Lib.hid ?_⟩
      obtain ⟨F', g1, g2⟩ := q2.out
      exact ⟨F', by rw [if_neg hnm], Lib.hid (by rw [if_neg hnm, ← he.out]; exact g1), Lib.hid g2⟩)
    have HFI := Lib.hid (find_any w b gl S.length cp _ Ap nm S hB rfl hP hS)
    have hM0 := Lib.hid (fun (w2 : World) (k : Keeps [] w w2) => (⟨hB.keep k (by simp), own_keep0 hO k, own_keep0 hP k, k.nil, fun g hg => .inl (hAp g hg)⟩ : SaveM 64 82 b w X F gl L S A cc Ap cp R w2))
    replace hi0 := Lib.hid hi0
    replace hz0 := Lib.hid hz0
    replace hz1 := Lib.hid hz1
    replace hz2 := Lib.hid hz2
    rcases findI_bd S nm with hi | ⟨hi1, hi2⟩
    · rw [hi] at HFI
      have he : Hid (S ++ [(nm, L.length)] = saveS S nm L.length) := Lib.hid (by unfold saveS; rw [hi]; rfl)
      obtain ⟨lp, hlp⟩ : ∃ x, x = S.length := ⟨_, rfl⟩
      have hlp2 : Hid (lp ≤ 1000000) := Lib.hid (by omega)
      have hl1 : Hid (S.length = lp) := Lib.hid hlp.symm
      replace hS := Lib.hid hS
      clear hB hO hP hR hF h hA hgl hAp hi hlp
      go_enter Try.func22, Try.ntmps22
      go_wp2_with fail
      refine HFI.out.mono ?_
      rintro e wm ⟨rfl, k2⟩
      have hM := Lib.hid (hM0.out wm k2)
      clear HFI k2 hM0
      obtain ⟨⟨z0, z1, hP2, hb2⟩, hT⟩ := HT.out S Ap lp wm hl1 hM he
      replace hT := Lib.hid hT
      clear HT
      go_wp2_with fail
      refine wp_region_J (S := (fun w' : World => w'.cell? ⟨gl, 0, none⟩ = some (.slice A L.length cc) ∧ w'.cell? ⟨gl, 1, none⟩ = some (.slice Ap lp cp))) (n := 16) (by kernel_rfl) ?_
      have HS : wm.drew.cell? ⟨gl, 0, none⟩ = some (.slice A L.length cc) ∧ wm.drew.cell? ⟨gl, 1, none⟩ = some (.slice Ap lp cp) := ⟨z0, z1⟩
      have hP3 : Hid (wm.drew.ownsRow b 82 2 (.slice Ap lp cp) lp (flatP S)) := Lib.hid hP2.out
      have hb3 : Hid (b ≤ wm.drew.heap.size) := Lib.hid hb2.out
      have hkd : Hid (Keeps [] wm wm.drew) := Lib.hid (Keeps.refl [] wm).drew
      generalize wm.drew = wd at *
      refine wpAnyJ_take (i := 0) (v := ?_) (by kernel_rfl) rfl (by kernel_rfl) (by kernel_rfl) (by kernel_rfl) (fun _ _ _ h => h) HS (Or.inl ⟨by rfl, ?_⟩) ?_
      rotate_left
      · (intro w hSw; obtain ⟨y1, y2⟩ := hSw; go_simp; try with_reducible rfl)
      try simp only [Act.put, List.getElem_toArray, List.getElem_cons_succ, List.getElem_cons_zero, List.setIfInBounds_toArray, List.set_cons_zero, List.set_cons_succ]
      refine wpAnyJ_take (i := 1) (v := ?_) (by kernel_rfl) rfl (by kernel_rfl) (by kernel_rfl) (by kernel_rfl) (fun _ _ _ h => h) HS (Or.inl ⟨by rfl, ?_⟩) ?_
      rotate_left
      · (intro w hSw; obtain ⟨y1, y2⟩ := hSw; go_simp; try with_reducible rfl)
      try simp only [Act.put, List.getElem_toArray, List.getElem_cons_succ, List.getElem_cons_zero, List.setIfInBounds_toArray, List.set_cons_zero, List.set_cons_succ]
      refine wpAnyJ_take (i := 2) (v := ?_) (by kernel_rfl) rfl (by kernel_rfl) (by kernel_rfl) (by kernel_rfl) (fun _ _ _ h => h) HS (Or.inl ⟨by rfl, ?_⟩) ?_
      rotate_left
      · (intro w hSw; obtain ⟨y1, y2⟩ := hSw; go_simp; try with_reducible rfl)
      try simp only [Act.put, List.getElem_toArray, List.getElem_cons_succ, List.getElem_cons_zero, List.setIfInBounds_toArray, List.set_cons_zero, List.set_cons_succ]
      refine wpAnyJ_take (i := 3) (v := ?_) (by kernel_rfl) rfl (by kernel_rfl) (by kernel_rfl) (by kernel_rfl) (fun _ _ _ h => h) HS (Or.inl ⟨by rfl, ?_⟩) ?_
      rotate_left
      · (intro w hSw; obtain ⟨y1, y2⟩ := hSw; go_simp; try with_reducible rfl)
      try simp only [Act.put, List.getElem_toArray, List.getElem_cons_succ, List.getElem_cons_zero, List.setIfInBounds_toArray, List.set_cons_zero, List.set_cons_succ]
      refine wpAnyJ_take (i := 4) (v := ?_) (by kernel_rfl) rfl (by kernel_rfl) (by kernel_rfl) (by kernel_rfl) (fun _ _ _ h => h) HS (Or.inl ⟨by rfl, ?_⟩) ?_
      rotate_left
      · (intro w hSw; obtain ⟨y1, y2⟩ := hSw; go_simp; try with_reducible rfl)
      try simp only [Act.put, List.getElem_toArray, List.getElem_cons_succ, List.getElem_cons_zero, List.setIfInBounds_toArray, List.set_cons_zero, List.set_cons_succ]
      refine wpAnyJ_take (i := 5) (v := ?_) (by kernel_rfl) rfl (by kernel_rfl) (by kernel_rfl) (by kernel_rfl) (fun _ _ _ h => h) HS (Or.inl ⟨by rfl, ?_⟩) ?_
      rotate_left
      · (intro w hSw; obtain ⟨y1, y2⟩ := hSw; go_simp; try with_reducible rfl)
      try simp only [Act.put, List.getElem_toArray, List.getElem_cons_succ, List.getElem_cons_zero, List.setIfInBounds_toArray, List.set_cons_zero, List.set_cons_succ]
      refine wpAnyJ_take (i := 6) (v := ?_) (by kernel_rfl) rfl (by kernel_rfl) (by kernel_rfl) (by kernel_rfl) (fun _ _ _ h => h) HS (Or.inl ⟨by rfl, ?_⟩) ?_
      rotate_left
      · (intro w hSw; obtain ⟨y1, y2⟩ := hSw; go_simp; try with_reducible rfl)
      try simp only [Act.put, List.getElem_toArray, List.getElem_cons_succ, List.getElem_cons_zero, List.setIfInBounds_toArray, List.set_cons_zero, List.set_cons_succ]
      refine wpAnyJ_take (i := 7) (v := ?_) (by kernel_rfl) rfl (by kernel_rfl) (by kernel_rfl) (by kernel_rfl) (fun _ _ _ h => h) HS (Or.inl ⟨by rfl, ?_⟩) ?_
      rotate_left
      · (intro w hSw; obtain ⟨y1, y2⟩ := hSw; go_simp; try with_reducible rfl)
      try simp only [Act.put, List.getElem_toArray, List.getElem_cons_succ, List.getElem_cons_zero, List.setIfInBounds_toArray, List.set_cons_zero, List.set_cons_succ]
      refine wpAnyJ_take (i := 8) (v := ?_) (by kernel_rfl) rfl (by kernel_rfl) (by kernel_rfl) (by kernel_rfl) (fun _ _ _ h => h) HS (Or.inl ⟨by rfl, ?_⟩) ?_
      rotate_left
      · (intro w hSw; obtain ⟨y1, y2⟩ := hSw; go_simp; try with_reducible rfl)
      try simp only [Act.put, List.getElem_toArray, List.getElem_cons_succ, List.getElem_cons_zero, List.setIfInBounds_toArray, List.set_cons_zero, List.set_cons_succ]
      refine wpAnyJ_take (i := 9) (v := ?_) (by kernel_rfl) rfl (by kernel_rfl) (by kernel_rfl) (by kernel_rfl) (fun _ _ _ h => h) HS (Or.inl ⟨by rfl, ?_⟩) ?_
      rotate_left
      · (intro w hSw; obtain ⟨y1, y2⟩ := hSw; go_simp; try with_reducible rfl)
      try simp only [Act.put, List.getElem_toArray, List.getElem_cons_succ, List.getElem_cons_zero, List.setIfInBounds_toArray, List.set_cons_zero, List.set_cons_succ]
      refine wpAnyJ_take (i := 10) (v := ?_) (by kernel_rfl) rfl (by kernel_rfl) (by kernel_rfl) (by kernel_rfl) (fun _ _ _ h => h) HS (Or.inl ⟨by rfl, ?_⟩) ?_
      rotate_left
      · (intro w hSw; obtain ⟨y1, y2⟩ := hSw; go_simp; try with_reducible rfl)
      try simp only [Act.put, List.getElem_toArray, List.getElem_cons_succ, List.getElem_cons_zero, List.setIfInBounds_toArray, List.set_cons_zero, List.set_cons_succ]
      refine wpAnyJ_take (i := 11) (v := ?_) (by kernel_rfl) rfl (by kernel_rfl) (by kernel_rfl) (by kernel_rfl) (fun _ _ _ h => h) HS (Or.inl ⟨by rfl, ?_⟩) ?_
      rotate_left
      · (intro w hSw; obtain ⟨y1, y2⟩ := hSw; go_simp; try with_reducible rfl)
      try simp only [Act.put, List.getElem_toArray, List.getElem_cons_succ, List.getElem_cons_zero, List.setIfInBounds_toArray, List.set_cons_zero, List.set_cons_succ]
      refine wpAnyJ_one (i := 12) rfl (by kernel_rfl) (fun K hK => ?_)
      dsimp only [List.getElem_toArray, List.getElem_cons_succ, List.getElem_cons_zero]
      go_simp
      have ka : Keeps [] wd (wd.alloc (.cells #[.string nm, .int .i64 L.length] 82)) := (Keeps.refl [] wd).alloc _
      have Bn := Lib.hid (Blk.new wd 82 #[.string nm, .int .i64 L.length])
      have HS : _ ∧ _ := ⟨ka.cellEq HS.1 (by simp), ka.cellEq HS.2 (by simp)⟩
      have ow := Lib.hid (own_keep0 hP3.out ka)
      have hb7 := Lib.hid (Nat.le_trans hb3.out ka.size)
      have k47 : Hid (Keeps [] wm (wd.alloc (.cells #[.string nm, .int .i64 L.length] 82))) := Lib.hid (hkd.out.trans ka)
      refine hK _ _ (Or.inr HS) ?_
      clear hK K ka
      obtain ⟨g7, hg7⟩ : ∃ g, g = wd.heap.size := ⟨_, rfl⟩
      rw [← hg7] at Bn ⊢
      clear hg7
      generalize wd.alloc (.cells #[.string nm, .int .i64 L.length] 82) = w7 at *
      try simp only [Act.put, List.getElem_toArray, List.getElem_cons_succ, List.getElem_cons_zero, List.setIfInBounds_toArray, List.set_cons_zero, List.set_cons_succ]
      refine wpAnyJ_one (i := 13) rfl (by kernel_rfl) (fun K hK => ?_)
      dsimp only [List.getElem_toArray, List.getElem_cons_succ, List.getElem_cons_zero]
      rw [if_pos (by rfl)]
      refine wp_append_row (.tmp 28) (.tmp 36) 62 (by rfl) b 82 i0 (.agg #[.string ⟨#[]⟩, .int .i64 0]) 2 24 Try.underlying62 hi0.out hz0.out hz1.out hz2.out rfl (by decide) (.slice Ap lp cp) lp (flatP S) (by rfl) ow.out (some ⟨g7, 0, none⟩) 1 1 (flatP [(nm, L.length)]) (by rfl) rfl (src_pnt Bn.out) (flatP_one _) (by have := hlp2.out; unfold maxLen; omega) (by have := hlp2.out; omega) hb7.out ?_
      intro v8 w8 q1 q2 q3 q4
      obtain ⟨A8, c8, rfl, _⟩ := own_slice q1.out
      obtain ⟨⟨y0, y1, fz⟩, hfin⟩ := hT.out w7 w8 _ k47 q1 q2 q4
      have HS : _ ∧ _ := ⟨y0, y1⟩
      refine hK _ _ (Or.inr HS) ?_
      clear hK K q1 q2 q3 q4 ow k47
      try simp only [Act.put, List.getElem_toArray, List.getElem_cons_succ, List.getElem_cons_zero, List.setIfInBounds_toArray, List.set_cons_zero, List.set_cons_succ]
      refine wpAnyJ_one (i := 14) rfl (by kernel_rfl) (fun K hK => ?_)
      dsimp only [List.getElem_toArray, List.getElem_cons_succ, List.getElem_cons_zero]
      go_simp
      refine hK _ _ (Or.inr HS) ?_
      clear hK K
      try simp only [Act.put, List.getElem_toArray, List.getElem_cons_succ, List.getElem_cons_zero, List.setIfInBounds_toArray, List.set_cons_zero, List.set_cons_succ]
      refine wpAnyJ_one (i := 15) rfl (by kernel_rfl) (fun K hK => ?_)
      dsimp only [List.getElem_toArray, List.getElem_cons_succ, List.getElem_cons_zero]
      go_simp
      refine hK _ _ (Or.inr HS) ?_
      clear hK K
      try simp only [Act.put, List.getElem_toArray, List.getElem_cons_succ, List.getElem_cons_zero, List.setIfInBounds_toArray, List.set_cons_zero, List.set_cons_succ]
      refine wpAnyJ_one (i := 16) rfl (by kernel_rfl) (fun K hK => ?_)
      dsimp only [List.getElem_toArray, List.getElem_cons_succ, List.getElem_cons_zero]
      go_simp
      refine hK _ _ (Or.inl (by omega)) ?_
      clear hK K
      try simp only [Act.put, List.getElem_toArray, List.getElem_cons_succ, List.getElem_cons_zero, List.setIfInBounds_toArray, List.set_cons_zero, List.set_cons_succ]
      refine wpAnyJ_done (by kernel_rfl) ?_ _
      go_wp2_with fail
      go_ret
      exact hfin.out
    · obtain ⟨i, hi⟩ : ∃ i : Nat, findI S nm = (i : Int) := ⟨(findI S nm).toNat, by omega⟩
      rw [hi] at HFI hi1 hi2
      obtain ⟨n, hn⟩ : ∃ x, x = S.length := ⟨_, rfl⟩
      obtain ⟨m, hm⟩ : ∃ m, n = i + 1 + m := ⟨n - (i + 1), by omega⟩
      obtain ⟨lp, hlp⟩ : ∃ x, x = i + m := ⟨_, rfl⟩
      obtain ⟨j, hj⟩ : ∃ j, j = i + 1 := ⟨_, rfl⟩
      have hlp2 : Hid (lp ≤ 1000000) := Lib.hid (by omega)
      have hl1 : Hid ((S.eraseIdx i).length = lp) := Lib.hid (by rw [List.length_eraseIdx_of_lt (by omega)]; omega)
      have he : Hid (S.eraseIdx i ++ [(nm, L.length)] = saveS S nm L.length) := Lib.hid (by unfold saveS; rw [hi, if_neg (by omega)]; rfl)
      obtain ⟨gp, rfl⟩ : ∃ gp, Ap = some ⟨gp, 0, none⟩ := by
        obtain ⟨g, c', hv, _⟩ := own_row3 hP (by omega)
        injection hv with hA _ _
        exact ⟨g, hA⟩
      have hgp : gp ∈ F := hAp gp (by simp [fb])
      have HD := Lib.hid (fun (w2 : World) (k2 : Keeps [] w w2) => delete_any w2 b gp i j m n lp cp S hn.symm hj hm hlp (by rw [hn]; exact own_keep0 hP k2) (by omega))
      have hMd := Lib.hid (saveM_del (X := X) (S' := S.eraseIdx i) hB hO hP hgp hgl (by decide) (by decide) (by decide))
      have hzz := Lib.hid (fun (w2 : World) (k2 : Keeps [] w w2) => (⟨(hB.keep k2 (by simp)).cell 0, by rw [hn]; exact (hB.keep k2 (by simp)).cell 1⟩ : w2.cell? ⟨gl, 0, none⟩ = some (.slice A L.length cc) ∧ w2.cell? ⟨gl, 1, none⟩ = some (.slice (some ⟨gp, 0, none⟩) n cp)))
      have hi0' : (0 : Int) ≤ (i : Int) := by omega
      have hi0n : ¬ ((i : Int) < 0) := by omega
      have hw1 : IntKind.i64.wrap ((i : Int) + 1) = (j : Int) := by rw [IntWalk.i64_in _ (by omega)]; omega
      replace hn := Lib.hid hn
      replace hS := Lib.hid hS
      clear hB hO hP hR hF h hA hgl hAp hi hlp hM0 hgp hm hj
      go_enter Try.func22, Try.ntmps22
      go_wp2_with fail
      refine HFI.out.mono ?_
      rintro e w2 ⟨rfl, k2⟩
      obtain ⟨z0, z1⟩ := hzz.out w2 k2
      have HD2 := Lib.hid (HD.out w2 k2)
      replace k2 := Lib.hid k2
      clear HFI HD hzz
      go_wp2_with fail
      refine HD2.out.mono ?_
      rintro e w3 ⟨rfl, ho3, k3⟩
      obtain ⟨⟨y0, y1, yf⟩, hM⟩ := hMd.out w2 w3 lp k2.out hl1.out ho3 k3
      clear HD2 ho3 k3 hMd z0 z1
      go_wp2_with fail
      generalize w3.setCell ⟨gl, 1, none⟩ (.slice (some ⟨gp, 0, none⟩) lp cp) = wm at *
      clear y0 y1 yf k2
      obtain ⟨⟨z0, z1, hP2, hb2⟩, hT⟩ := HT.out (S.eraseIdx i) (some ⟨gp, 0, none⟩) lp wm hl1 hM he
      replace hT := Lib.hid hT
      clear HT
      go_wp2_with fail
      refine wp_region_J (S := (fun w' : World => w'.cell? ⟨gl, 0, none⟩ = some (.slice A L.length cc) ∧ w'.cell? ⟨gl, 1, none⟩ = some (.slice (some ⟨gp, 0, none⟩) lp cp))) (n := 16) (by kernel_rfl) ?_
      have HS : wm.drew.cell? ⟨gl, 0, none⟩ = some (.slice A L.length cc) ∧ wm.drew.cell? ⟨gl, 1, none⟩ = some (.slice (some ⟨gp, 0, none⟩) lp cp) := ⟨z0, z1⟩
      have hP3 : Hid (wm.drew.ownsRow b 82 2 (.slice (some ⟨gp, 0, none⟩) lp cp) lp (flatP (S.eraseIdx i))) := Lib.hid hP2.out
      have hb3 : Hid (b ≤ wm.drew.heap.size) := Lib.hid hb2.out
      have hkd : Hid (Keeps [] wm wm.drew) := Lib.hid (Keeps.refl [] wm).drew
      generalize wm.drew = wd at *
      refine wpAnyJ_take (i := 0) (v := ?_) (by kernel_rfl) rfl (by kernel_rfl) (by kernel_rfl) (by kernel_rfl) (fun _ _ _ h => h) HS (Or.inl ⟨by rfl, ?_⟩) ?_
      rotate_left
      · (intro w hSw; obtain ⟨y1, y2⟩ := hSw; go_simp; try with_reducible rfl)
      try simp only [Act.put, List.getElem_toArray, List.getElem_cons_succ, List.getElem_cons_zero, List.setIfInBounds_toArray, List.set_cons_zero, List.set_cons_succ]
      refine wpAnyJ_take (i := 1) (v := ?_) (by kernel_rfl) rfl (by kernel_rfl) (by kernel_rfl) (by kernel_rfl) (fun _ _ _ h => h) HS (Or.inl ⟨by rfl, ?_⟩) ?_
      rotate_left
      · (intro w hSw; obtain ⟨y1, y2⟩ := hSw; go_simp; try with_reducible rfl)
      try simp only [Act.put, List.getElem_toArray, List.getElem_cons_succ, List.getElem_cons_zero, List.setIfInBounds_toArray, List.set_cons_zero, List.set_cons_succ]
      refine wpAnyJ_take (i := 2) (v := ?_) (by kernel_rfl) rfl (by kernel_rfl) (by kernel_rfl) (by kernel_rfl) (fun _ _ _ h => h) HS (Or.inl ⟨by rfl, ?_⟩) ?_
      rotate_left
      · (intro w hSw; obtain ⟨y1, y2⟩ := hSw; go_simp; try with_reducible rfl)
      try simp only [Act.put, List.getElem_toArray, List.getElem_cons_succ, List.getElem_cons_zero, List.setIfInBounds_toArray, List.set_cons_zero, List.set_cons_succ]
      refine wpAnyJ_take (i := 3) (v := ?_) (by kernel_rfl) rfl (by kernel_rfl) (by kernel_rfl) (by kernel_rfl) (fun _ _ _ h => h) HS (Or.inl ⟨by rfl, ?_⟩) ?_
      rotate_left
      · (intro w hSw; obtain ⟨y1, y2⟩ := hSw; go_simp; try with_reducible rfl)
      try simp only [Act.put, List.getElem_toArray, List.getElem_cons_succ, List.getElem_cons_zero, List.setIfInBounds_toArray, List.set_cons_zero, List.set_cons_succ]
      refine wpAnyJ_take (i := 4) (v := ?_) (by kernel_rfl) rfl (by kernel_rfl) (by kernel_rfl) (by kernel_rfl) (fun _ _ _ h => h) HS (Or.inl ⟨by rfl, ?_⟩) ?_
      rotate_left
      · (intro w hSw; obtain ⟨y1, y2⟩ := hSw; go_simp; try with_reducible rfl)
      try simp only [Act.put, List.getElem_toArray, List.getElem_cons_succ, List.getElem_cons_zero, List.setIfInBounds_toArray, List.set_cons_zero, List.set_cons_succ]
      refine wpAnyJ_take (i := 5) (v := ?_) (by kernel_rfl) rfl (by kernel_rfl) (by kernel_rfl) (by kernel_rfl) (fun _ _ _ h => h) HS (Or.inl ⟨by rfl, ?_⟩) ?_
      rotate_left
      · (intro w hSw; obtain ⟨y1, y2⟩ := hSw; go_simp; try with_reducible rfl)
      try simp only [Act.put, List.getElem_toArray, List.getElem_cons_succ, List.getElem_cons_zero, List.setIfInBounds_toArray, List.set_cons_zero, List.set_cons_succ]
      refine wpAnyJ_take (i := 6) (v := ?_) (by kernel_rfl) rfl (by kernel_rfl) (by kernel_rfl) (by kernel_rfl) (fun _ _ _ h => h) HS (Or.inl ⟨by rfl, ?_⟩) ?_
      rotate_left
      · (intro w hSw; obtain ⟨y1, y2⟩ := hSw; go_simp; try with_reducible rfl)
      try simp only [Act.put, List.getElem_toArray, List.getElem_cons_succ, List.getElem_cons_zero, List.setIfInBounds_toArray, List.set_cons_zero, List.set_cons_succ]
      refine wpAnyJ_take (i := 7) (v := ?_) (by kernel_rfl) rfl (by kernel_rfl) (by kernel_rfl) (by kernel_rfl) (fun _ _ _ h => h) HS (Or.inl ⟨by rfl, ?_⟩) ?_
      rotate_left
      · (intro w hSw; obtain ⟨y1, y2⟩ := hSw; go_simp; try with_reducible rfl)
      try simp only [Act.put, List.getElem_toArray, List.getElem_cons_succ, List.getElem_cons_zero, List.setIfInBounds_toArray, List.set_cons_zero, List.set_cons_succ]
      refine wpAnyJ_take (i := 8) (v := ?_) (by kernel_rfl) rfl (by kernel_rfl) (by kernel_rfl) (by kernel_rfl) (fun _ _ _ h => h) HS (Or.inl ⟨by rfl, ?_⟩) ?_
      rotate_left
      · (intro w hSw; obtain ⟨y1, y2⟩ := hSw; go_simp; try with_reducible rfl)
      try simp only [Act.put, List.getElem_toArray, List.getElem_cons_succ, List.getElem_cons_zero, List.setIfInBounds_toArray, List.set_cons_zero, List.set_cons_succ]
      refine wpAnyJ_take (i := 9) (v := ?_) (by kernel_rfl) rfl (by kernel_rfl) (by kernel_rfl) (by kernel_rfl) (fun _ _ _ h => h) HS (Or.inl ⟨by rfl, ?_⟩) ?_
      rotate_left
      · (intro w hSw; obtain ⟨y1, y2⟩ := hSw; go_simp; try with_reducible rfl)
      try simp only [Act.put, List.getElem_toArray, List.getElem_cons_succ, List.getElem_cons_zero, List.setIfInBounds_toArray, List.set_cons_zero, List.set_cons_succ]
      refine wpAnyJ_take (i := 10) (v := ?_) (by kernel_rfl) rfl (by kernel_rfl) (by kernel_rfl) (by kernel_rfl) (fun _ _ _ h => h) HS (Or.inl ⟨by rfl, ?_⟩) ?_
      rotate_left
      · (intro w hSw; obtain ⟨y1, y2⟩ := hSw; go_simp; try with_reducible rfl)
      try simp only [Act.put, List.getElem_toArray, List.getElem_cons_succ, List.getElem_cons_zero, List.setIfInBounds_toArray, List.set_cons_zero, List.set_cons_succ]
      refine wpAnyJ_take (i := 11) (v := ?_) (by kernel_rfl) rfl (by kernel_rfl) (by kernel_rfl) (by kernel_rfl) (fun _ _ _ h => h) HS (Or.inl ⟨by rfl, ?_⟩) ?_
      rotate_left
      · (intro w hSw; obtain ⟨y1, y2⟩ := hSw; go_simp; try with_reducible rfl)
      try simp only [Act.put, List.getElem_toArray, List.getElem_cons_succ, List.getElem_cons_zero, List.setIfInBounds_toArray, List.set_cons_zero, List.set_cons_succ]
      refine wpAnyJ_one (i := 12) rfl (by kernel_rfl) (fun K hK => ?_)
      dsimp only [List.getElem_toArray, List.getElem_cons_succ, List.getElem_cons_zero]
      go_simp
      have ka : Keeps [] wd (wd.alloc (.cells #[.string nm, .int .i64 L.length] 82)) := (Keeps.refl [] wd).alloc _
      have Bn := Lib.hid (Blk.new wd 82 #[.string nm, .int .i64 L.length])
      have HS : _ ∧ _ := ⟨ka.cellEq HS.1 (by simp), ka.cellEq HS.2 (by simp)⟩
      have ow := Lib.hid (own_keep0 hP3.out ka)
      have hb7 := Lib.hid (Nat.le_trans hb3.out ka.size)
      have k47 : Hid (Keeps [] wm (wd.alloc (.cells #[.string nm, .int .i64 L.length] 82))) := Lib.hid (hkd.out.trans ka)
      refine hK _ _ (Or.inr HS) ?_
      clear hK K ka
      obtain ⟨g7, hg7⟩ : ∃ g, g = wd.heap.size := ⟨_, rfl⟩
      rw [← hg7] at Bn ⊢
      clear hg7
      generalize wd.alloc (.cells #[.string nm, .int .i64 L.length] 82) = w7 at *
      try simp only [Act.put, List.getElem_toArray, List.getElem_cons_succ, List.getElem_cons_zero, List.setIfInBounds_toArray, List.set_cons_zero, List.set_cons_succ]
      refine wpAnyJ_one (i := 13) rfl (by kernel_rfl) (fun K hK => ?_)
      dsimp only [List.getElem_toArray, List.getElem_cons_succ, List.getElem_cons_zero]
      rw [if_pos (by rfl)]
      refine wp_append_row (.tmp 28) (.tmp 36) 62 (by rfl) b 82 i0 (.agg #[.string ⟨#[]⟩, .int .i64 0]) 2 24 Try.underlying62 hi0.out hz0.out hz1.out hz2.out rfl (by decide) (.slice (some ⟨gp, 0, none⟩) lp cp) lp (flatP (S.eraseIdx i)) (by rfl) ow.out (some ⟨g7, 0, none⟩) 1 1 (flatP [(nm, L.length)]) (by rfl) rfl (src_pnt Bn.out) (flatP_one _) (by have := hlp2.out; unfold maxLen; omega) (by have := hlp2.out; omega) hb7.out ?_
      intro v8 w8 q1 q2 q3 q4
      obtain ⟨A8, c8, rfl, _⟩ := own_slice q1.out
      obtain ⟨⟨y0, y1, fz⟩, hfin⟩ := hT.out w7 w8 _ k47 q1 q2 q4
      have HS : _ ∧ _ := ⟨y0, y1⟩
      refine hK _ _ (Or.inr HS) ?_
      clear hK K q1 q2 q3 q4 ow k47
      try simp only [Act.put, List.getElem_toArray, List.getElem_cons_succ, List.getElem_cons_zero, List.setIfInBounds_toArray, List.set_cons_zero, List.set_cons_succ]
      refine wpAnyJ_one (i := 14) rfl (by kernel_rfl) (fun K hK => ?_)
      dsimp only [List.getElem_toArray, List.getElem_cons_succ, List.getElem_cons_zero]
      go_simp
      refine hK _ _ (Or.inr HS) ?_
      clear hK K
      try simp only [Act.put, List.getElem_toArray, List.getElem_cons_succ, List.getElem_cons_zero, List.setIfInBounds_toArray, List.set_cons_zero, List.set_cons_succ]
      refine wpAnyJ_one (i := 15) rfl (by kernel_rfl) (fun K hK => ?_)
      dsimp only [List.getElem_toArray, List.getElem_cons_succ, List.getElem_cons_zero]
      go_simp
      refine hK _ _ (Or.inr HS) ?_
      clear hK K
      try simp only [Act.put, List.getElem_toArray, List.getElem_cons_succ, List.getElem_cons_zero, List.setIfInBounds_toArray, List.set_cons_zero, List.set_cons_succ]
      refine wpAnyJ_one (i := 16) rfl (by kernel_rfl) (fun K hK => ?_)
      dsimp only [List.getElem_toArray, List.getElem_cons_succ, List.getElem_cons_zero]
      go_simp
      refine hK _ _ (Or.inl (by omega)) ?_
      clear hK K
      try simp only [Act.put, List.getElem_toArray, List.getElem_cons_succ, List.getElem_cons_zero, List.setIfInBounds_toArray, List.set_cons_zero, List.set_cons_succ]
      refine wpAnyJ_done (by kernel_rfl) ?_ _
      go_wp2_with fail
      go_ret
      exact hfin.out
end Go.Proofs.Ytmclfbhcddcebaa
