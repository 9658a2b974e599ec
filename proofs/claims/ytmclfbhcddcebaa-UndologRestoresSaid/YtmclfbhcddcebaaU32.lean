/- The reference's log: cut. -/
import Derived.Test.YtmclfbhcddcebaaU31
namespace Go.Proofs.Ytmclfbhcddcebaa
open Go.RowKit Go.Shelf
set_option linter.unusedSimpArgs false
set_option linter.unusedVariables false

/-- The changes are cut. -/
theorem GLog.cutC {tl ts : TypeId} {b : Nat} {w w' : World} {X F : List Nat} {gl kp : Nat} {L : List Chg} {S : List Pnt} {A Ap : Option Addr} {c cp : Nat} {R : List Raw} (h : GLog tl ts b w X F gl L S) (hkp : kp ≤ L.length) (hB : Blk w gl tl #[.slice A L.length c, .slice Ap S.length cp])
    (hO : w.ownsRow b 35 4 (.slice A L.length c) L.length (flatC R)) (hP : w.ownsRow b ts 2 (.slice Ap S.length cp) S.length (flatP S)) (hR : RawsIs w X R L) (hF : F = gl :: (fb A ++ fb Ap)) (ht1 : (35 : TypeId) ≠ tl) (ht2 : ts ≠ tl) (hk : Keeps [] w w') :
    GLog tl ts b (w'.setCell ⟨gl, 0, none⟩ (.slice A kp c)) X F gl (L.take kp) S ∧ Keeps F w (w'.setCell ⟨gl, 0, none⟩ (.slice A kp c)) ∧ (∀ j, w'.cell? ⟨gl, j, none⟩ = (#[.slice A L.length c, .slice Ap S.length cp] : Array Value)[j]?) ∧ ∀ j, w'.frozen? ⟨gl, j, none⟩ = false := by
  have hB2 := hB.keep hk (by simp)
  have ks : Keeps [gl] w' (w'.setCell ⟨gl, 0, none⟩ (.slice A kp c)) := (Keeps.refl [gl] w').setCell (p := ⟨gl, 0, none⟩) (.inl (by simp)) _
  have kall : Keeps [gl] w (w'.setCell ⟨gl, 0, none⟩ (.slice A kp c)) := hk.nil.trans ks
  have hne : ∀ {e : TypeId} {A : Option Addr} {n c s : Nat} {xs : List Value}, w.ownsRow b e s (.slice A n c) n xs → e ≠ tl → ∀ g, (Value.slice A n c).ownBlock = some g → g ∉ [gl] := fun ho hee g hg hm => by
    obtain ⟨_, cur, hb⟩ := own_blk ho hg
    rw [List.mem_singleton.1 hm] at hb
    exact hb.ne_ hB hee rfl
  have hO1 : w.ownsRow b 35 4 (.slice A kp c) kp (flatC (R.take kp)) := by
    have := own_take hO (k := kp) hkp (own_none hO)
    rw [flatC_take] at this
    exact this
  have hl : (L.take kp).length = kp := by rw [List.length_take]; omega
  refine ⟨⟨⟨A, c, Ap, cp, R.take kp, ?_, ?_, own_keep hP kall (hne hP ht2), (hR.keep kall (fun y hy => .inl (h.sub y (by rw [List.mem_singleton.1 hy, hF]; simp)))).take kp, hF⟩, h.sub, h.lo, fun x hx => Nat.lt_of_lt_of_le (h.hi x hx) kall.size, fun c hc => h.sm c (List.mem_of_mem_take hc)⟩, kall.mono (fun x hx => .inl (by rw [List.mem_singleton.1 hx, hF]; simp)), hB2.cell, hB2.frozen⟩
  · have := hB2.set_ 0 (.slice A kp c)
    rw [hl]
    simpa using this
  · rw [hl]
    exact own_keep hO1 kall (hne hO1 ht1)
/-- What the reference's cut returns and leaves. -/
def RCutP (b : Nat) (w : World) (X F : List Nat) (gl : Nat) (L : List Chg) (S : List Pnt) (kp m : Nat) (e : Ending) (w' : World) : Prop :=
  ∃ A c, e = .returned (.slice A m c) ∧ Hid (ChsAt w' X A ((L.drop kp).reverse.map inv)) ∧ Hid (RLog b w' X F gl (L.take kp) S) ∧ Hid (Keeps F w w')
theorem drop_back {L : List Chg} {q : Nat} {c : Chg} (h : L[q]? = some c) : (L.drop q).reverse.map inv = (L.drop (q + 1)).reverse.map inv ++ [inv c] := by
  have hq := (List.getElem?_eq_some_iff.1 h).1
  have : L.drop q = c :: L.drop (q + 1) := by
    rw [List.drop_eq_getElem_cons hq]
    congr 1
    rw [List.getElem?_eq_getElem hq] at h
    exact Option.some.inj h
  rw [this]
  simp

set_option maxRecDepth 100000 in
set_option maxHeartbeats 3200000 in
theorem rcut_log (b : Nat) (w : World) (X F : List Nat) (gl : Nat) (L : List Chg) (S : List Pnt) (kp m : Nat) (h : RLog b w X F gl L S) (hkm : kp + m = L.length) (hL : L.length ≤ 1000000) :
    Calls Try.prog 58 #[.pointer (some ⟨gl, 0, none⟩), .int .i64 kp] w (RCutP b w X F gl L S kp m) := by
  obtain ⟨A, cc, Ap, cp, R, hB, hO, hP, hR, hF⟩ := h.ex
  obtain ⟨n, hn⟩ : ∃ n, n = L.length := ⟨_, rfl⟩
  have hfin := Lib.hid (fun (w2 : World) (k2 : Keeps [] w w2) => h.cutC (kp := kp) (by omega) hB hO hP hR hF (by decide) (by decide) k2)
  have hXw := Lib.hid h.hi
  have hAc : n ≤ cc := by
    obtain ⟨A', c', hv, h1, _⟩ := own_slice hO
    injection hv with _ _ hc
    omega
  have hz : Hid (∀ wr, Keeps [] w wr → wr.cell? ⟨gl, 0, none⟩ = some (.slice A n cc)) := Lib.hid (fun wr k => k.cellEq (by rw [hn]; exact hB.cell 0) (by simp))
  have hel : Hid (∀ wr, Keeps [] w wr → ∀ q ch, L[q]? = some ch → ∃ g r, A = some ⟨g, 0, none⟩ ∧ wr.cell? ⟨g, q * 4, none⟩ = some (.int .i64 r.t) ∧ wr.cell? ⟨g, q * 4 + 1, none⟩ = some (.int .i64 r.id) ∧ wr.cell? ⟨g, q * 4 + 2, none⟩ = some (.slice r.Ao r.no r.co) ∧ wr.cell? ⟨g, q * 4 + 3, none⟩ = some (.slice r.An r.nn r.cn) ∧ Hid (RawIs w X r ch)) := Lib.hid (fun wr kw q ch hq => by
    have hlt := (List.getElem?_eq_some_iff.1 hq).1
    obtain ⟨r, hr⟩ : ∃ r, R[q]? = some r := ⟨R[q]'(by rw [hR.1]; exact hlt), List.getElem?_eq_getElem _⟩
    obtain ⟨g, h1, _, _, h2⟩ := raws_of_own hO hR.1 (by omega)
    obtain ⟨c0, c1, c2, c3⟩ := h2 q r hr
    rw [Nat.zero_add] at c0 c1 c2 c3
    exact ⟨g, r, h1, kw.cellEq c0 (by simp), kw.cellEq c1 (by simp), kw.cellEq c2 (by simp), kw.cellEq c3 (by simp), Lib.hid (hR.2 q r ch hr hq)⟩)
  have hAA : (A = none ∧ n = 0 ∧ cc = 0) ∨ ∃ g, A = some ⟨g, 0, none⟩ := by
    rcases hO.2 with ⟨hv, h0⟩ | ⟨g, cap, cur, hv, _⟩
    · injection hv with h1 _ h2
      exact .inl ⟨h1, by omega, h2⟩
    · injection hv with h1 _ h2
      exact .inr ⟨g, h1⟩
  obtain ⟨i5, hi5, hy0, hy1, hy2⟩ := info_parts info35
  replace hi5 := Lib.hid hi5
  replace hy0 := Lib.hid hy0
  replace hy1 := Lib.hid hy1
  replace hy2 := Lib.hid hy2
  rw [← hn] at hkm hfin hL
  replace hn := Lib.hid hn
  clear hB hO hP hR hF h
  have hnw : IntKind.i64.wrap ((n : Int) - 1) = (n : Int) - 1 := IntWalk.i64_in _ (by omega)
  go_enter Try.func58, Try.ntmps58
  have z0 := hz.out _ (Keeps.refl _ _)
  go_wp2_with fail
  clear z0
  go_loopw [5, 6] (fun v i wr => ∃ (j : Nat) (Rr : List Raw), j ≤ m ∧ i = .int .i64 ((n : Int) - 1 - (j : Int)) ∧ Hid (wr.ownsRow w.heap.size 35 4 v j (flatC Rr)) ∧ Hid (RawsIs w X Rr ((L.drop (n - j)).reverse.map inv)) ∧ Hid (Keeps [] w wr)) (fun _ i _ => (intOf i + 1).toNat)
  case atStart =>
    refine ⟨0, [], Nat.zero_le _, by simp, Lib.hid ⟨rfl, .inl ⟨rfl, rfl⟩⟩, Lib.hid ⟨?_, fun i r c h => by simp at h⟩, Lib.hid (Keeps.refl _ _)⟩
    rw [Nat.sub_zero, hn.out, List.drop_length]
    rfl
  case round =>
    obtain ⟨j, Rr, hj, rfl, hown, hraws, hkw⟩ := hrel
    obtain ⟨wo, hwo⟩ : ∃ x, x = wr := ⟨_, rfl⟩
    subst hwo
    have z0 := hz.out _ hkw.out
    obtain ⟨A5, c5, rfl, _⟩ := own_slice hown.out
    by_cases hlt : j < m
    · obtain ⟨q, hq⟩ : ∃ q : Nat, (n : Int) - 1 - (j : Int) = (q : Int) := ⟨n - 1 - j, by omega⟩
      have hqn : q < n ∧ kp ≤ q ∧ n - j = q + 1 ∧ n - (j + 1) = q := by omega
      rw [hq]
      obtain ⟨ch, hch⟩ : ∃ c, L[q]? = some c := ⟨L[q]'(by rw [← hn.out]; omega), List.getElem?_eq_getElem _⟩
      obtain ⟨g, ⟨t, id, Ao, no, co, An, nn, cn⟩, rfl, c0, c1, c2, c3, hraw⟩ := hel.out _ hkw.out q ch hch
      dsimp only at c0 c1 c2 c3
      have hkq : (kp : Int) ≤ (q : Int) := by omega
      have hqi : (q : Int) < (n : Int) := by omega
      have hqw : IntKind.i64.wrap ((q : Int) - 1) = (n : Int) - 1 - ((j : Int) + 1) := by rw [IntWalk.i64_in _ (by omega)]; omega
      have HI : Hid (Calls Try.prog 19 #[.agg #[.int .i64 t, .int .i64 id, .slice Ao no co, .slice An nn cn]] wo fun e w2 => e = .returned (.agg #[.int .i64 t, .int .i64 id, .slice An nn cn, .slice Ao no co]) ∧ Hid (Keeps [] wo w2)) := Lib.hid (rinverse_any wo ⟨t, id, Ao, no, co, An, nn, cn⟩)
      go_wp2_with fail
      refine HI.out.mono ?_
      rintro e w3 ⟨rfl, k3⟩
      have ka : Keeps [] w3 (w3.alloc (.cells #[.int .i64 t, .int .i64 id, .slice An nn cn, .slice Ao no co] 35)) := (Keeps.refl [] w3).alloc _
      have hown4 := Lib.hid (own_keep0 (own_keep0 hown.out k3.out) ka)
      have Bn := Lib.hid (Blk.new w3 35 #[.int .i64 t, .int .i64 id, .slice An nn cn, .slice Ao no co])
      have hkw4 := Lib.hid ((hkw.out.trans k3.out).trans ka)
      have hsz4 := Lib.hid hkw4.out.size
      clear HI k3 ka z0 c0 c1 c2 c3
      go_wp2_with (at_builtin; refine wpList_append_row (by rfl) (.tmp 18) (.tmp 27) 28 rfl w.heap.size 35 i5 (.agg #[.int .i64 0, .int .i64 0, .slice none 0 0, .slice none 0 0]) 4 64 Try.underlying28 hi5.out hy0.out hy1.out hy2.out rfl (by decide) (.slice A5 j c5) j (flatC Rr) rfl hown4.out (some ⟨w3.heap.size, 0, none⟩) 1 1 [.int .i64 t, .int .i64 id, .slice An nn cn, .slice Ao no co] rfl rfl (src_raw (r := ⟨t, id, An, nn, cn, Ao, no, co⟩) Bn.out) (by simp [Value.oneCell']) (by unfold maxLen; omega) (by omega) hsz4.out ?_; intro v8 w8 q1 q2 q3 q4)
      have k48 : Hid (Keeps (Value.slice A5 j c5).ownBlock.toList (w3.alloc (.cells #[.int .i64 t, .int .i64 id, .slice An nn cn, .slice Ao no co] 35)) w8) := Lib.hid (Keeps.grown q2.out (by intro g h; rw [h]; simp))
      have hk8 : Hid (Keeps [] w w8) := Lib.hid ((hkw4.out.nil.trans k48.out).mono (fun y hy => .inr (own_blk hown4.out (Option.mem_toList.1 hy)).1))
      have hraws8 : Hid (RawsIs w X (Rr ++ [invR ⟨t, id, Ao, no, co, An, nn, cn⟩]) ((L.drop (n - (j + 1))).reverse.map inv)) := Lib.hid (by
        rw [hqn.2.2.2, drop_back hch]
        have hr4 := hraws.out
        rw [hqn.2.2.1] at hr4
        refine hr4.append ⟨rfl, fun i r c h1 h2 => ?_⟩
        have e : i = 0 := by
          have := (List.getElem?_eq_some_iff.1 h1).1
          simp at this
          omega
        subst e
        cases h1
        cases h2
        exact invR_is hraw.out)
      have hown8 : Hid (w8.ownsRow w.heap.size 35 4 v8 (j + 1) (flatC (Rr ++ [invR ⟨t, id, Ao, no, co, An, nn, cn⟩]))) := Lib.hid (by rw [flatC_append]; exact q1.out)
      clear hown4 Bn hkw4 hsz4 q1 q2 q3 q4 k48
      go_roundw
      case rel => exact ⟨j + 1, _, by omega, by go_num, hown8, hraws8, hk8⟩
      case measure => simp [intOf]; omega
    · obtain rfl : j = m := by omega
      have hkq : ¬ ((kp : Int) ≤ (n : Int) - 1 - (j : Int)) := by omega
      have hkc : (kp : Int) ≤ (cc : Int) := by omega
      obtain ⟨f1, f2, f3, f4⟩ := hfin.out _ hkw.out
      have y0 := f3 0
      have y1 := f3 1
      have g0 := f4 0
      have hend : Hid (RCutP b w X F gl L S kp j (.returned (.slice A5 j c5)) (wo.setCell ⟨gl, 0, none⟩ (.slice A kp cc))) := Lib.hid (by
        refine ⟨A5, c5, rfl, Lib.hid ?_, Lib.hid f1, Lib.hid f2⟩
        have hF : ∀ y ∈ F, y < w.heap.size := fun y hy => hXw.out y (f1.sub y hy)
        have hr : RawsIs w (F ++ X) Rr ((L.drop kp).reverse.map inv) := by
          have := hraws.out
          rw [show n - j = kp by omega] at this
          exact this.other (fun y hy => .inl ((List.mem_append.1 hy).elim (f1.sub y) id))
        have ks : Keeps [gl] wo (wo.setCell ⟨gl, 0, none⟩ (.slice A kp cc)) := (Keeps.refl [gl] wo).setCell (p := ⟨gl, 0, none⟩) (.inl (by simp)) _
        obtain ⟨_, _, _, _, _, hBg, _⟩ := f1.ex
        have hglw : gl < w.heap.size := hF gl (by
          obtain ⟨_, _, _, _, _, _, _, _, _, hFF⟩ := f1.ex
          rw [hFF]; simp)
        refine ChsAt.of (own_keep hown.out ks (fun g hg hm => ?_)) ?_ ((hr.keep f2 (fun y hy => .inl (List.mem_append_left _ hy))).other (fun y hy => .inl (List.mem_append_right _ hy))) (fun g hg hm => ?_)
        · have := (own_blk hown.out hg).1
          rw [List.mem_singleton.1 hm] at this
          omega
        · rw [hr.1]
          simp
          have := hn.out
          omega
        · have := (own_lo hown.out hg).1
          have := hXw.out g hm
          omega)
      clear f1 f2 f3 f4 hown hraws hel hfin hz
      rcases hAA with ⟨rfl, rfl, rfl⟩ | ⟨g, rfl⟩
      · obtain rfl : kp = 0 := by omega
        obtain rfl : j = 0 := by omega
        go_wp2_with fail
        go_ret
        exact hend.out
      · go_wp2_with fail
        go_ret
        exact hend.out
end Go.Proofs.Ytmclfbhcddcebaa
