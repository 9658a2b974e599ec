/- The reference's session: Do. -/
import Derived.Test.YtbhdangjafokaaaSess9
namespace Go.Proofs.Ytbhdangjafokaaa
open Go.RowKit
set_option linter.unusedSimpArgs false
set_option linter.unusedVariables false

/-- What Do makes of the place. -/
def rdo (ks : List Int) (cur dn : Nat) (op : Int) : Nat × Nat :=
  if op = 0 then (cur, adv ks cur dn) else if op = 1 then (cur, if cur < (split ks).length then 0 else dn) else if op = 2 then fin ks cur dn else (cur, dn)

/-- A session of the reference, as a value. -/
abbrev rs (num : Int) (A : Option Addr) (n c cur dn : Nat) : Array Value := #[.int .i64 num, .slice A n c, .int .i64 cur, .int .i64 dn]

theorem rdo_cases (ks : List Int) (cur dn : Nat) (op : Int) :
    (op = 0 ∧ (nx ks cur dn).2 = true ∧ rdo ks cur dn op = (cur, dn + 1)) ∨ (op = 0 ∧ (nx ks cur dn).2 = false ∧ rdo ks cur dn op = (cur, dn)) ∨
    (op = 1 ∧ decide ((split ks).length ≤ cur) = false ∧ rdo ks cur dn op = (cur, 0)) ∨ (op = 1 ∧ decide ((split ks).length ≤ cur) = true ∧ rdo ks cur dn op = (cur, dn)) ∨
    (op = 2 ∧ decide ((split ks).length ≤ cur) = false ∧ rdo ks cur dn op = (cur + 1, 0)) ∨ (op = 2 ∧ decide ((split ks).length ≤ cur) = true ∧ rdo ks cur dn op = (cur, dn)) ∨
    ((op == 0) = false ∧ (op == 1) = false ∧ (op == 2) = false ∧ rdo ks cur dn op = (cur, dn)) := by
  by_cases h0 : op = 0
  · subst h0
    cases h : (nx ks cur dn).2
    · right; left; exact ⟨rfl, rfl, by simp [rdo, adv, h]⟩
    · left; exact ⟨rfl, rfl, by simp [rdo, adv, h]⟩
  · by_cases h1 : op = 1
    · subst h1
      by_cases hc : cur < (split ks).length
      · right; right; left; exact ⟨rfl, by simp; omega, by simp [rdo, hc]⟩
      · right; right; right; left; exact ⟨rfl, by simp; omega, by simp [rdo, hc]⟩
    · by_cases h2 : op = 2
      · subst h2
        by_cases hc : cur < (split ks).length
        · right; right; right; right; left; exact ⟨rfl, by simp; omega, by simp [rdo, fin, hc]⟩
        · right; right; right; right; right; left; exact ⟨rfl, by simp; omega, by simp [rdo, fin, hc]⟩
      · right; right; right; right; right; right
        exact ⟨by simpa using h0, by simpa using h1, by simpa using h2, by simp [rdo, h0, h1, h2]⟩

theorem wpList_store_all {P : Program} {w : World} {ops : Array Oper} {rest : List Oper} {o : Oper} {a : Act} {Q : Exit → Act → World → Prop} (hgd : Region.wanted o (yielded ops a.tmps) = true) (ty : TypeId) (x y : Operand) (ho : o.op = .store ty x y)
    (g : Nat) (hx : a.eval x = .pointer (some ⟨g, 0, none⟩)) (t : TypeId) (cs new : List Value) (hy : a.eval y = .agg new.toArray) (hg : Blk w g t cs.toArray)
    (hi : (P.info? ty).map (·.size) = some new.length) (hlen : cs.length = new.length) (h1 : ∀ v ∈ new, v.oneCell' = true)
    (h : ∀ w', Hid (Blk w' g t new.toArray) → Keeps [g] w w' → wpList P ops Q rest (a.put o.dst undef) w') : wpList P ops Q (o :: rest) a w := by
  refine wpList_store_mid hgd ty x y ho g 0 hx t cs new hy hg hi (by omega) h1 ?_
  intro w' hm hk
  rw [splice_all _ _ hlen] at hm
  exact h w' hm hk

set_option maxHeartbeats 3200000 in
theorem rdo_any (w : World) (B : Nat) (A : Option Addr) (ks : List Int) (num op : Int) (n c cur dn : Nat) (hn : ks.length = n) (hnc : n ≤ c) (hO : IntsAt w B A ks) (hB : B ≤ w.heap.size) (h60 : n ≤ 1048576) (hdn : dn ≤ n) (hcu : cur ≤ n) :
    Calls Try.prog 23 #[.agg (rs num A n c cur dn), .int .i64 op] w fun e w' => e = .returned (.agg (rs num A n c (rdo ks cur dn op).1 (rdo ks cur dn op).2)) ∧ Keeps [] w w' := by
  have HD : Hid (∀ w', Keeps [] w w' → Calls Try.prog 27 #[.agg #[.int .i64 num, .slice A n c, .int .i64 cur, .int .i64 dn]] w' fun e w2 => e = .returned (.bool (decide ((split ks).length ≤ cur))) ∧ Keeps [] w w2 ∧ Keeps [] w' w2) := Lib.hid (fun w' k => by
    refine (rdone_any w' B A ks num n c cur dn hn hnc (hO.keep k (by simp)) (Nat.le_trans hB k.size) h60).mono ?_
    rintro e w2 ⟨rfl, k2⟩
    exact ⟨rfl, k.trans k2, k2⟩)
  have HN : Hid (∀ w', Keeps [] w w' → Calls Try.prog 26 #[.agg #[.int .i64 num, .slice A n c, .int .i64 cur, .int .i64 dn]] w' fun e w2 => e = .returned (.tuple #[.int .i64 ((nx ks cur dn).1 : Nat), .bool (nx ks cur dn).2]) ∧ Keeps [] w w2 ∧ Keeps [] w' w2) := Lib.hid (fun w' k => by
    refine (rnext_any w' B A ks num n c cur dn hn hnc (hO.keep k (by simp)) (Nat.le_trans hB k.size) h60 hdn).mono ?_
    rintro e w2 ⟨rfl, k2⟩
    exact ⟨rfl, k.trans k2, k2⟩)
  have b1 := (Blk.new w 62 (rs num A n c cur dn)).keep ((Keeps.refl [] _).alloc (.cells #[.int .i64 0, .slice none 0 0, .int .i64 0, .int .i64 0] 62)) (by simp)
  have hws : (w.alloc (.cells (rs num A n c cur dn) 62)).heap.size = w.heap.size + 1 := by simp
  have b2 := Blk.new (w.alloc (.cells (rs num A n c cur dn) 62)) 62 #[.int .i64 0, .slice none 0 0, .int .i64 0, .int .i64 0]
  rw [hws] at b2
  have kk : Keeps [] w ((w.alloc (.cells (rs num A n c cur dn) 62)).alloc (.cells #[.int .i64 0, .slice none 0 0, .int .i64 0, .int .i64 0] 62)) := ((Keeps.refl _ _).alloc _).alloc _
  replace b1 := Lib.hid b1
  replace b2 := Lib.hid b2
  replace kk := Lib.hid kk
  clear hO hws
  have hcs := rdo_cases ks cur dn op
  generalize rdo ks cur dn op = r at *
  obtain ⟨at_, ok⟩ : Nat × Bool := nx ks cur dn
  rcases hcs with ⟨rfl, hx, rfl⟩ | ⟨rfl, hx, rfl⟩ | ⟨rfl, hx, rfl⟩ | ⟨rfl, hx, rfl⟩ | ⟨rfl, hx, rfl⟩ | ⟨rfl, hx, rfl⟩ | ⟨h0, h1, h2, rfl⟩
  · go_enter Try.func23, Try.ntmps23
    go_wp2_with fail
    refine (HN.out _ kk.out).mono ?_
    rintro e w1 ⟨rfl, k1, k2⟩
    rw [hx]
    replace b1 := Lib.hid (b1.out.keep k2 (by simp))
    replace b2 := Lib.hid (b2.out.keep k2 (by simp))
    have c1 := b1.out.cell
    have f1 := b1.out.frozen
    replace k1 := Lib.hid k1
    clear k2 kk HN
    go_wp2_with (refine wpList_store_all rfl 62 (.tmp 4) (.tmp 44) rfl (w.heap.size + 1) rfl 62 [.int .i64 0, .slice none 0 0, .int .i64 0, .int .i64 0] _ rfl ?_ ?_ ?_ ?_ ?_; (first | exact b2.out | exact b2.out.keep ((Keeps.refl [w.heap.size] _).setCell (by simp) _) (by simp) | exact b2.out.keep (((Keeps.refl [w.heap.size] _).setCell (by simp) _).setCell (by simp) _) (by simp)); (kernel_rfl); (rfl); (simp [Value.oneCell']); intro w3 hm3 hk3; skip)
    (try simp only [Exit.inBlock, Exit.then]); refine bodyPost_ret (results_cell_row rfl _ _ (w.heap.size + 1) 62 _ (0, 0) _ rfl hm3.out Try.underlying62 rfl (by kernel_rfl)) rfl ?_
    refine ⟨by first | rfl | (push_cast; rfl), (k1.out.nil.trans ((?_ : Keeps [w.heap.size, w.heap.size + 1] _ _).trans (hk3.mono (fun x hx => .inl (by simp at hx; simp [hx]))))).mono (fun x hx => .inr (by simp at hx; omega))⟩
    first | exact Keeps.refl _ _ | exact (Keeps.refl _ _).setCell (by simp) _ | exact ((Keeps.refl _ _).setCell (by simp) _).setCell (by simp) _
  · go_enter Try.func23, Try.ntmps23
    go_wp2_with fail
    refine (HN.out _ kk.out).mono ?_
    rintro e w1 ⟨rfl, k1, k2⟩
    rw [hx]
    replace b1 := Lib.hid (b1.out.keep k2 (by simp))
    replace b2 := Lib.hid (b2.out.keep k2 (by simp))
    have c1 := b1.out.cell
    have f1 := b1.out.frozen
    replace k1 := Lib.hid k1
    clear k2 kk HN
    go_wp2_with (refine wpList_store_all rfl 62 (.tmp 4) (.tmp 44) rfl (w.heap.size + 1) rfl 62 [.int .i64 0, .slice none 0 0, .int .i64 0, .int .i64 0] _ rfl ?_ ?_ ?_ ?_ ?_; (first | exact b2.out | exact b2.out.keep ((Keeps.refl [w.heap.size] _).setCell (by simp) _) (by simp) | exact b2.out.keep (((Keeps.refl [w.heap.size] _).setCell (by simp) _).setCell (by simp) _) (by simp)); (kernel_rfl); (rfl); (simp [Value.oneCell']); intro w3 hm3 hk3; skip)
    (try simp only [Exit.inBlock, Exit.then]); refine bodyPost_ret (results_cell_row rfl _ _ (w.heap.size + 1) 62 _ (0, 0) _ rfl hm3.out Try.underlying62 rfl (by kernel_rfl)) rfl ?_
    refine ⟨by first | rfl | (push_cast; rfl), (k1.out.nil.trans ((?_ : Keeps [w.heap.size, w.heap.size + 1] _ _).trans (hk3.mono (fun x hx => .inl (by simp at hx; simp [hx]))))).mono (fun x hx => .inr (by simp at hx; omega))⟩
    first | exact Keeps.refl _ _ | exact (Keeps.refl _ _).setCell (by simp) _ | exact ((Keeps.refl _ _).setCell (by simp) _).setCell (by simp) _
  · go_enter Try.func23, Try.ntmps23
    go_wp2_with fail
    refine (HN.out _ kk.out).mono ?_
    rintro e w1 ⟨rfl, k1, k2⟩
    generalize (nx ks cur dn).2 = ok_
    generalize (nx ks cur dn).1 = at__
    replace b1 := Lib.hid (b1.out.keep k2 (by simp))
    replace b2 := Lib.hid (b2.out.keep k2 (by simp))
    have c1 := b1.out.cell
    have f1 := b1.out.frozen
    replace k1 := Lib.hid k1
    clear k2 kk HN
    clear f1
    go_wp2_with fail
    refine (HD.out _ k1.out).mono ?_
    rintro e w2 ⟨rfl, k3, k4⟩
    rw [hx]
    replace b1 := Lib.hid (b1.out.keep k4 (by simp))
    replace b2 := Lib.hid (b2.out.keep k4 (by simp))
    clear c1 k1
    have c1 := b1.out.cell
    have f1 := b1.out.frozen
    have k1 := Lib.hid k3
    clear k3 k4 HD
    go_wp2_with (refine wpList_store_all rfl 62 (.tmp 4) (.tmp 44) rfl (w.heap.size + 1) rfl 62 [.int .i64 0, .slice none 0 0, .int .i64 0, .int .i64 0] _ rfl ?_ ?_ ?_ ?_ ?_; (first | exact b2.out | exact b2.out.keep ((Keeps.refl [w.heap.size] _).setCell (by simp) _) (by simp) | exact b2.out.keep (((Keeps.refl [w.heap.size] _).setCell (by simp) _).setCell (by simp) _) (by simp)); (kernel_rfl); (rfl); (simp [Value.oneCell']); intro w3 hm3 hk3; skip)
    (try simp only [Exit.inBlock, Exit.then]); refine bodyPost_ret (results_cell_row rfl _ _ (w.heap.size + 1) 62 _ (0, 0) _ rfl hm3.out Try.underlying62 rfl (by kernel_rfl)) rfl ?_
    refine ⟨by first | rfl | (push_cast; rfl), (k1.out.nil.trans ((?_ : Keeps [w.heap.size, w.heap.size + 1] _ _).trans (hk3.mono (fun x hx => .inl (by simp at hx; simp [hx]))))).mono (fun x hx => .inr (by simp at hx; omega))⟩
    first | exact Keeps.refl _ _ | exact (Keeps.refl _ _).setCell (by simp) _ | exact ((Keeps.refl _ _).setCell (by simp) _).setCell (by simp) _
  · go_enter Try.func23, Try.ntmps23
    go_wp2_with fail
    refine (HN.out _ kk.out).mono ?_
    rintro e w1 ⟨rfl, k1, k2⟩
    generalize (nx ks cur dn).2 = ok_
    generalize (nx ks cur dn).1 = at__
    replace b1 := Lib.hid (b1.out.keep k2 (by simp))
    replace b2 := Lib.hid (b2.out.keep k2 (by simp))
    have c1 := b1.out.cell
    have f1 := b1.out.frozen
    replace k1 := Lib.hid k1
    clear k2 kk HN
    clear f1
    go_wp2_with fail
    refine (HD.out _ k1.out).mono ?_
    rintro e w2 ⟨rfl, k3, k4⟩
    rw [hx]
    replace b1 := Lib.hid (b1.out.keep k4 (by simp))
    replace b2 := Lib.hid (b2.out.keep k4 (by simp))
    clear c1 k1
    have c1 := b1.out.cell
    have f1 := b1.out.frozen
    have k1 := Lib.hid k3
    clear k3 k4 HD
    go_wp2_with (refine wpList_store_all rfl 62 (.tmp 4) (.tmp 44) rfl (w.heap.size + 1) rfl 62 [.int .i64 0, .slice none 0 0, .int .i64 0, .int .i64 0] _ rfl ?_ ?_ ?_ ?_ ?_; (first | exact b2.out | exact b2.out.keep ((Keeps.refl [w.heap.size] _).setCell (by simp) _) (by simp) | exact b2.out.keep (((Keeps.refl [w.heap.size] _).setCell (by simp) _).setCell (by simp) _) (by simp)); (kernel_rfl); (rfl); (simp [Value.oneCell']); intro w3 hm3 hk3; skip)
    (try simp only [Exit.inBlock, Exit.then]); refine bodyPost_ret (results_cell_row rfl _ _ (w.heap.size + 1) 62 _ (0, 0) _ rfl hm3.out Try.underlying62 rfl (by kernel_rfl)) rfl ?_
    refine ⟨by first | rfl | (push_cast; rfl), (k1.out.nil.trans ((?_ : Keeps [w.heap.size, w.heap.size + 1] _ _).trans (hk3.mono (fun x hx => .inl (by simp at hx; simp [hx]))))).mono (fun x hx => .inr (by simp at hx; omega))⟩
    first | exact Keeps.refl _ _ | exact (Keeps.refl _ _).setCell (by simp) _ | exact ((Keeps.refl _ _).setCell (by simp) _).setCell (by simp) _
  · go_enter Try.func23, Try.ntmps23
    go_wp2_with fail
    refine (HN.out _ kk.out).mono ?_
    rintro e w1 ⟨rfl, k1, k2⟩
    generalize (nx ks cur dn).2 = ok_
    generalize (nx ks cur dn).1 = at__
    replace b1 := Lib.hid (b1.out.keep k2 (by simp))
    replace b2 := Lib.hid (b2.out.keep k2 (by simp))
    have c1 := b1.out.cell
    have f1 := b1.out.frozen
    replace k1 := Lib.hid k1
    clear k2 kk HN
    clear f1
    go_wp2_with fail
    refine (HD.out _ k1.out).mono ?_
    rintro e w2 ⟨rfl, k3, k4⟩
    rw [hx]
    replace b1 := Lib.hid (b1.out.keep k4 (by simp))
    replace b2 := Lib.hid (b2.out.keep k4 (by simp))
    clear c1 k1
    have c1 := b1.out.cell
    have f1 := b1.out.frozen
    have k1 := Lib.hid k3
    clear k3 k4 HD
    go_wp2_with (refine wpList_store_all rfl 62 (.tmp 4) (.tmp 44) rfl (w.heap.size + 1) rfl 62 [.int .i64 0, .slice none 0 0, .int .i64 0, .int .i64 0] _ rfl ?_ ?_ ?_ ?_ ?_; (first | exact b2.out | exact b2.out.keep ((Keeps.refl [w.heap.size] _).setCell (by simp) _) (by simp) | exact b2.out.keep (((Keeps.refl [w.heap.size] _).setCell (by simp) _).setCell (by simp) _) (by simp)); (kernel_rfl); (rfl); (simp [Value.oneCell']); intro w3 hm3 hk3; skip)
    (try simp only [Exit.inBlock, Exit.then]); refine bodyPost_ret (results_cell_row rfl _ _ (w.heap.size + 1) 62 _ (0, 0) _ rfl hm3.out Try.underlying62 rfl (by kernel_rfl)) rfl ?_
    refine ⟨by first | rfl | (push_cast; rfl), (k1.out.nil.trans ((?_ : Keeps [w.heap.size, w.heap.size + 1] _ _).trans (hk3.mono (fun x hx => .inl (by simp at hx; simp [hx]))))).mono (fun x hx => .inr (by simp at hx; omega))⟩
    first | exact Keeps.refl _ _ | exact (Keeps.refl _ _).setCell (by simp) _ | exact ((Keeps.refl _ _).setCell (by simp) _).setCell (by simp) _
  · go_enter Try.func23, Try.ntmps23
    go_wp2_with fail
    refine (HN.out _ kk.out).mono ?_
    rintro e w1 ⟨rfl, k1, k2⟩
    generalize (nx ks cur dn).2 = ok_
    generalize (nx ks cur dn).1 = at__
    replace b1 := Lib.hid (b1.out.keep k2 (by simp))
    replace b2 := Lib.hid (b2.out.keep k2 (by simp))
    have c1 := b1.out.cell
    have f1 := b1.out.frozen
    replace k1 := Lib.hid k1
    clear k2 kk HN
    clear f1
    go_wp2_with fail
    refine (HD.out _ k1.out).mono ?_
    rintro e w2 ⟨rfl, k3, k4⟩
    rw [hx]
    replace b1 := Lib.hid (b1.out.keep k4 (by simp))
    replace b2 := Lib.hid (b2.out.keep k4 (by simp))
    clear c1 k1
    have c1 := b1.out.cell
    have f1 := b1.out.frozen
    have k1 := Lib.hid k3
    clear k3 k4 HD
    go_wp2_with (refine wpList_store_all rfl 62 (.tmp 4) (.tmp 44) rfl (w.heap.size + 1) rfl 62 [.int .i64 0, .slice none 0 0, .int .i64 0, .int .i64 0] _ rfl ?_ ?_ ?_ ?_ ?_; (first | exact b2.out | exact b2.out.keep ((Keeps.refl [w.heap.size] _).setCell (by simp) _) (by simp) | exact b2.out.keep (((Keeps.refl [w.heap.size] _).setCell (by simp) _).setCell (by simp) _) (by simp)); (kernel_rfl); (rfl); (simp [Value.oneCell']); intro w3 hm3 hk3; skip)
    (try simp only [Exit.inBlock, Exit.then]); refine bodyPost_ret (results_cell_row rfl _ _ (w.heap.size + 1) 62 _ (0, 0) _ rfl hm3.out Try.underlying62 rfl (by kernel_rfl)) rfl ?_
    refine ⟨by first | rfl | (push_cast; rfl), (k1.out.nil.trans ((?_ : Keeps [w.heap.size, w.heap.size + 1] _ _).trans (hk3.mono (fun x hx => .inl (by simp at hx; simp [hx]))))).mono (fun x hx => .inr (by simp at hx; omega))⟩
    first | exact Keeps.refl _ _ | exact (Keeps.refl _ _).setCell (by simp) _ | exact ((Keeps.refl _ _).setCell (by simp) _).setCell (by simp) _
  · go_enter Try.func23, Try.ntmps23
    go_wp2_with fail
    refine (HN.out _ kk.out).mono ?_
    rintro e w1 ⟨rfl, k1, k2⟩
    generalize (nx ks cur dn).2 = ok_
    generalize (nx ks cur dn).1 = at__
    replace b1 := Lib.hid (b1.out.keep k2 (by simp))
    replace b2 := Lib.hid (b2.out.keep k2 (by simp))
    have c1 := b1.out.cell
    have f1 := b1.out.frozen
    replace k1 := Lib.hid k1
    clear k2 kk HN
    go_wp2_with (refine wpList_store_all rfl 62 (.tmp 4) (.tmp 44) rfl (w.heap.size + 1) rfl 62 [.int .i64 0, .slice none 0 0, .int .i64 0, .int .i64 0] _ rfl ?_ ?_ ?_ ?_ ?_; (first | exact b2.out | exact b2.out.keep ((Keeps.refl [w.heap.size] _).setCell (by simp) _) (by simp) | exact b2.out.keep (((Keeps.refl [w.heap.size] _).setCell (by simp) _).setCell (by simp) _) (by simp)); (kernel_rfl); (rfl); (simp [Value.oneCell']); intro w3 hm3 hk3; skip)
    (try simp only [Exit.inBlock, Exit.then]); refine bodyPost_ret (results_cell_row rfl _ _ (w.heap.size + 1) 62 _ (0, 0) _ rfl hm3.out Try.underlying62 rfl (by kernel_rfl)) rfl ?_
    refine ⟨by first | rfl | (push_cast; rfl), (k1.out.nil.trans ((?_ : Keeps [w.heap.size, w.heap.size + 1] _ _).trans (hk3.mono (fun x hx => .inl (by simp at hx; simp [hx]))))).mono (fun x hx => .inr (by simp at hx; omega))⟩
    first | exact Keeps.refl _ _ | exact (Keeps.refl _ _).setCell (by simp) _ | exact ((Keeps.refl _ _).setCell (by simp) _).setCell (by simp) _
end Go.Proofs.Ytbhdangjafokaaa
