/- The walk of the law DiskDurable. -/
import Derived.Test.YtpjmkjcgpbpfdaaDiskDur3
namespace Go.Proofs.Ytpjmkjcgpbpfdaa
open Go.RowKit
set_option linter.unusedSimpArgs false
set_option maxRecDepth 20000 in
set_option maxHeartbeats 32000000 in
theorem durable_law (w : World) (A : Option Addr) (ops : List OpD) (n c : Nat) (hn : ops.length = n) (hnc : n ≤ c) (hc : c ≤ 9223372036854775807) (hO : OpsAt w w.heap.size A ops) :
    Calls Try.prog 5 #[.slice A n c] w fun e w' => e = .returned (.bool true) ∧ Keeps [] w w' := by
  have HO := Lib.hid hO
  have Hn := Lib.hid hn
  clear hO hn
  by_cases hfew : few ops = true
  · have hn60 : n ≤ 60 := by rw [← Hn.out]; unfold few at hfew; simp at hfew; omega
    replace hfew := Lib.hid hfew
    go_enter Try.func5, Try.ntmps5
    go_wp2_with fail
    refine (awake_any w).mono ?_
    rintro e w1 ⟨rfl, k1⟩
    replace k1 := Lib.hid k1
    go_wp2_with fail
    refine (few_any w1 A ops n c _ Hn.out hnc hc (HO.out.keep k1.out (by simp))).mono ?_
    rintro e w2 ⟨rfl, k2⟩
    rw [hfew.out]
    replace k2 := Lib.hid (k1.out.trans k2)
    clear k1
    go_wp2_with fail
    refine (new_ok w2 4 (by omega) (by omega)).mono ?_
    rintro e w3 ⟨bd, bs, rfl, hd, l1, l2, hk⟩
    have k2s := k2.out.size
    have HD := Lib.hid hd
    have HK := Lib.hid (k2.out.trans hk)
    clear hd hk k2
    go_wp2_with fail
    obtain ⟨bl, hbl⟩ : ∃ bl, bl = w3.heap.size := ⟨_, rfl⟩
    rw [← hbl]
    have hB0 := Blk.new w3 44 #[.slice none 0 0, .slice none 0 0, .slice none 0 0, .slice none 0 0]
    rw [← hbl] at hB0
    have hdl := HD.out.d.lt
    have hsl := HD.out.m.lt
    have ka : ∀ o, Keeps [] w3 (w3.alloc o) := fun o => (Keeps.refl _ _).alloc o
    obtain ⟨w4, hw4⟩ : ∃ w4, w4 = w3.alloc (Obj.cells #[Value.slice none 0 0, Value.slice none 0 0, Value.slice none 0 0, Value.slice none 0 0] 44) := ⟨_, rfl⟩
    rw [← hw4] at hB0 ⊢
    have k4 : Keeps [] w3 w4 := by rw [hw4]; exact ka _
    replace HD := Lib.hid (HD.out.keep k4 (by simp) (by simp))
    replace HK := Lib.hid (HK.out.trans k4)
    have hl4 : bl ≠ bd ∧ bl ≠ bs ∧ w.heap.size ≤ bl ∧ w.heap.size ≤ bd ∧ w.heap.size ≤ bs := by have := HK.out.size; have := k2s; omega
    replace hl4 := Lib.hid hl4
    have hLast : Last w4 44 [bd, bs, bl] bl 0 (fun _ => List.replicate 64 0) := ⟨_, hB0, rfl, fun j hj => absurd hj (by omega)⟩
    replace hLast := Lib.hid hLast
    clear hw4 hB0 ka k4 hdl hsl hbl
    go_loopw [34] (fun i wr => ∃ k : Nat, k ≤ 4 ∧ i = .int .i64 k ∧ DRep wr bd bs (st0 4) ∧ Last wr 44 [bd, bs, bl] bl k (fun _ => List.replicate 64 0) ∧ Keeps [] w wr) (fun i _ => 4 - (intOf i).toNat)
    case atStart => exact ⟨0, by omega, rfl, HD.out, hLast.out, HK.out⟩
    case round =>
      obtain ⟨k, hk, rfl, hd, hl, hkw⟩ := hrel
      clear HD hLast HK
      replace hd := Lib.hid hd
      replace hkw := Lib.hid hkw
      by_cases hlt : k < 4
      · replace hl := Lib.hid hl
        go_wp2_with (refine wpList_make rfl 23 (.const (.int .i64 64)) (.const (.int .i64 64)) rfl 5 (.int .u8 0) 1 1 Try.underlying23 (by kernel_rfl) .i64 .i64 64 64 rfl rfl (by omega) (by omega) (by omega) ?_; intro w1 m1 k1 s1; replace k1 := Lib.hid k1; obtain ⟨cells, hcB, hcs, hcl⟩ := hl.out.keepN k1.out; obtain ⟨u, hu⟩ : ∃ u, cells[k]? = some u := ⟨_, Array.getElem?_eq_getElem (by omega)⟩; have hcc := hcB.cell k; rw [hu] at hcc; have hcf := hcB.frozen k; replace hcB := Lib.hid hcB; replace hcl := Lib.hid hcl; clear hu; replace hcs := Lib.hid hcs; clear s1)
        go_roundw
        case rel =>
          have hgt : wr.heap.size ∉ [bd, bs, bl] := by
            obtain ⟨_, hB, _⟩ := hl.out
            have := hd.out.d.lt; have := hd.out.m.lt; have := hB.lt
            simp; omega
          have hs : LSlot w1 [bd, bs, bl] (.slice (some ⟨wr.heap.size, 0, none⟩) 64 64) (List.replicate 64 0) :=
            ⟨_, _, rfl, by omega, by simp [maxLen], blk_bts (made_zero m1.out), by simp, hgt⟩
          have kset : Keeps [bl] w1 (w1.setCell ⟨bl, k, none⟩ (.slice (some ⟨wr.heap.size, 0, none⟩) 64 64)) := (Keeps.refl _ _).setCell (by simp) _
          exact ⟨k + 1, by omega, by go_num, (hd.out.keep k1.out (by simp) (by simp)).keep kset (by have := hl4.out; simp; omega) (by have := hl4.out; simp; omega),
            (hl.out.keepN k1.out).grow (by simp) hlt hs, (((hkw.out.trans k1.out).nil (X := [bl])).trans kset).mono (by intro x hx; have := hl4.out; simp at hx; right; omega)⟩
        case measure => simp [intOf]; omega
      · obtain rfl : k = 4 := by omega
        replace hl := Lib.hid hl
        have hl0 := Lib.hid (hl.out.congr sec_st0)
        go_wp2_with fail
        clear hl
        go_loopw [43] (fun i wr => ∃ (k : Nat) (s : St), k ≤ n ∧ i = .int .i64 k ∧ s.n = 4 ∧ 0 ≤ s.writes ∧ s.writes ≤ k ∧ DRep wr bd bs s ∧ Last wr 44 [bd, bs, bl] bl 4 (sec s) ∧ Keeps [] w wr) (fun i _ => n - (intOf i).toNat)
        case atStart => exact ⟨0, st0 4, by omega, rfl, rfl, by decide, by decide, hd.out, hl0.out, hkw.out⟩
        case round =>
          obtain ⟨k, s, hk, rfl, hs4, hw0, hw1, hd, hl, hkw⟩ := hrel
          have hOk := HO.out.keep hkw (by simp)
          replace hkw := Lib.hid hkw
          replace hd := Lib.hid hd
          replace hl := Lib.hid hl
          clear hl0
          by_cases hlt : k < n
          · have hkl : k < ops.length := by rw [Hn.out]; exact hlt
            obtain ⟨o, ho⟩ : ∃ o, ops[k]? = some o := ⟨ops[k], List.getElem?_eq_getElem hkl⟩
            obtain ⟨hfit, g, off, v, rfl, hg, c0, c1, c2, c3, hv⟩ := hOk k o ho
            obtain ⟨A', c', rfl, hrest⟩ := hv
            replace hrest := Lib.hid hrest
            replace hfit := Lib.hid hfit
            clear hOk ho
            by_cases h2 : o.kind = 2
            · go_wp2_with fail
              obtain ⟨wa, hwa⟩ : ∃ wa, wa = wr.alloc (Obj.cells #[Value.int IntKind.i64 2, Value.int IntKind.i64 o.sector, Value.int IntKind.i64 o.n, Value.slice A' o.data.length c'] 46) := ⟨_, rfl⟩
              rw [← hwa]
              have ka : Keeps [] wr wa := by rw [hwa]; exact (Keeps.refl _ _).alloc _
              have hob : Blk wa wr.heap.size 46 #[.int .i64 2, .int .i64 o.sector, .int .i64 o.n, .slice A' o.data.length c'] := by rw [hwa]; exact Blk.new _ _ _
              have hoc := hob.cell
              replace hd := Lib.hid (hd.out.keep ka (by simp) (by simp))
              replace hl := Lib.hid (hl.out.keepN ka)
              replace hkw := Lib.hid (hkw.out.trans ka)
              replace hob := Lib.hid hob
              have hbd : wr.heap.size ∉ [bd, bs, bl] := by
                obtain ⟨_, hB, _⟩ := hl.out
                have b1 := hob.out.ne_ hd.out.d (by decide)
                have b2 := hob.out.ne_ hd.out.m (by decide)
                have b3 := hob.out.ne_ hB (by decide)
                simp; omega
              have hargs := Lib.hid hrest.out.2.2.2
              replace hrest := Lib.hid (hrest.out.2.2.1.keep_of ka (by simp))
              clear hwa ka c0 c1 c2 c3
              refine (failed_any wa bd bs s hd.out).mono ?_
              rintro e wb ⟨rfl, rfl⟩
              go_wp2_with fail
              refine (arm_any wa bd bs s _ _ hd.out hfit.out.2.1.2).mono ?_
              rintro e wc ⟨rfl, hd', hk'⟩
              have hlc := hl.out.keep hk' (by simp) (by have := hl4.out; simp; omega)
              have hkc := (hkw.out.nil (X := [bd])).trans hk' |>.mono (Y := []) (by intro x hx; have := hl4.out; simp at hx; right; omega)
              replace hlc := Lib.hid hlc
              replace hkc := Lib.hid hkc
              have hd2 := Lib.hid hd'
              clear hd' hk' hoc
              go_wp2_with fail
              go_roundw
              case rel =>
                repeat apply Exists.intro
                refine And.intro ?_ rfl
                exact ⟨k + 1, arm s o.sector o.n, by omega, by go_num, by rw [arm_n]; exact hs4, by rw [arm_w]; exact hw0, by rw [arm_w]; omega, hd2.out, hlc.out.congr (fun j _ => arm_sec s _ _ j), hkc.out⟩
              case measure => simp [intOf]; omega
            · skip
              by_cases h3 : o.kind = 3
              · go_wp2_with fail
                obtain ⟨wa, hwa⟩ : ∃ wa, wa = wr.alloc (Obj.cells #[Value.int IntKind.i64 3, Value.int IntKind.i64 o.sector, Value.int IntKind.i64 o.n, Value.slice A' o.data.length c'] 46) := ⟨_, rfl⟩
                rw [← hwa]
                have ka : Keeps [] wr wa := by rw [hwa]; exact (Keeps.refl _ _).alloc _
                have hob : Blk wa wr.heap.size 46 #[.int .i64 3, .int .i64 o.sector, .int .i64 o.n, .slice A' o.data.length c'] := by rw [hwa]; exact Blk.new _ _ _
                have hoc := hob.cell
                replace hd := Lib.hid (hd.out.keep ka (by simp) (by simp))
                replace hl := Lib.hid (hl.out.keepN ka)
                replace hkw := Lib.hid (hkw.out.trans ka)
                replace hob := Lib.hid hob
                have hbd : wr.heap.size ∉ [bd, bs, bl] := by
                  obtain ⟨_, hB, _⟩ := hl.out
                  have b1 := hob.out.ne_ hd.out.d (by decide)
                  have b2 := hob.out.ne_ hd.out.m (by decide)
                  have b3 := hob.out.ne_ hB (by decide)
                  simp; omega
                have hargs := Lib.hid hrest.out.2.2.2
                replace hrest := Lib.hid (hrest.out.2.2.1.keep_of ka (by simp))
                clear hwa ka c0 c1 c2 c3
                refine (failed_any wa bd bs s hd.out).mono ?_
                rintro e wb ⟨rfl, rfl⟩
                go_wp2_with fail
                refine (fail_any wa bd bs s hd.out).mono ?_
                rintro e wc ⟨rfl, hd', hk'⟩
                have hlc := hl.out.keep hk' (by simp) (by have := hl4.out; simp; omega)
                have hkc := (hkw.out.nil (X := [bd])).trans hk' |>.mono (Y := []) (by intro x hx; have := hl4.out; simp at hx; right; omega)
                replace hlc := Lib.hid hlc
                replace hkc := Lib.hid hkc
                have hd2 := Lib.hid hd'
                clear hd' hk' hoc
                go_wp2_with fail
                go_roundw
                case rel =>
                  repeat apply Exists.intro
                  refine And.intro ?_ rfl
                  exact ⟨k + 1, fail s, by omega, by go_num, hs4, hw0, (by show s.writes ≤ _; omega), hd2.out, hlc.out, hkc.out⟩
                case measure => simp [intOf]; omega
              · skip
                by_cases h4 : o.kind = 4
                · go_wp2_with fail
                  obtain ⟨wa, hwa⟩ : ∃ wa, wa = wr.alloc (Obj.cells #[Value.int IntKind.i64 4, Value.int IntKind.i64 o.sector, Value.int IntKind.i64 o.n, Value.slice A' o.data.length c'] 46) := ⟨_, rfl⟩
                  rw [← hwa]
                  have ka : Keeps [] wr wa := by rw [hwa]; exact (Keeps.refl _ _).alloc _
                  have hob : Blk wa wr.heap.size 46 #[.int .i64 4, .int .i64 o.sector, .int .i64 o.n, .slice A' o.data.length c'] := by rw [hwa]; exact Blk.new _ _ _
                  have hoc := hob.cell
                  replace hd := Lib.hid (hd.out.keep ka (by simp) (by simp))
                  replace hl := Lib.hid (hl.out.keepN ka)
                  replace hkw := Lib.hid (hkw.out.trans ka)
                  replace hob := Lib.hid hob
                  have hbd : wr.heap.size ∉ [bd, bs, bl] := by
                    obtain ⟨_, hB, _⟩ := hl.out
                    have b1 := hob.out.ne_ hd.out.d (by decide)
                    have b2 := hob.out.ne_ hd.out.m (by decide)
                    have b3 := hob.out.ne_ hB (by decide)
                    simp; omega
                  have hargs := Lib.hid hrest.out.2.2.2
                  replace hrest := Lib.hid (hrest.out.2.2.1.keep_of ka (by simp))
                  clear hwa ka c0 c1 c2 c3
                  refine (failed_any wa bd bs s hd.out).mono ?_
                  rintro e wb ⟨rfl, rfl⟩
                  go_wp2_with fail
                  refine (restart_any wa bd bs s hd.out).mono ?_
                  rintro e wc ⟨rfl, hd', hk'⟩
                  have hlc := hl.out.keep hk' (by simp) (by have := hl4.out; simp; omega)
                  have hkc := (hkw.out.nil (X := [bd])).trans hk' |>.mono (Y := []) (by intro x hx; have := hl4.out; simp at hx; right; omega)
                  replace hlc := Lib.hid hlc
                  replace hkc := Lib.hid hkc
                  have hd2 := Lib.hid hd'
                  clear hd' hk' hoc
                  go_wp2_with fail
                  go_roundw
                  case rel =>
                    repeat apply Exists.intro
                    refine And.intro ?_ rfl
                    exact ⟨k + 1, restart s, by omega, by go_num, hs4, hw0, (by show s.writes ≤ _; omega), hd2.out, hlc.out, hkc.out⟩
                  case measure => simp [intOf]; omega
                · skip
                  by_cases h1 : o.kind = 1
                  · go_wp2_with fail
                    obtain ⟨wa, hwa⟩ : ∃ wa, wa = wr.alloc (Obj.cells #[Value.int IntKind.i64 1, Value.int IntKind.i64 o.sector, Value.int IntKind.i64 o.n, Value.slice A' o.data.length c'] 46) := ⟨_, rfl⟩
                    rw [← hwa]
                    have ka : Keeps [] wr wa := by rw [hwa]; exact (Keeps.refl _ _).alloc _
                    have hob : Blk wa wr.heap.size 46 #[.int .i64 1, .int .i64 o.sector, .int .i64 o.n, .slice A' o.data.length c'] := by rw [hwa]; exact Blk.new _ _ _
                    have hoc := hob.cell
                    replace hd := Lib.hid (hd.out.keep ka (by simp) (by simp))
                    replace hl := Lib.hid (hl.out.keepN ka)
                    replace hkw := Lib.hid (hkw.out.trans ka)
                    replace hob := Lib.hid hob
                    have hbd : wr.heap.size ∉ [bd, bs, bl] := by
                      obtain ⟨_, hB, _⟩ := hl.out
                      have b1 := hob.out.ne_ hd.out.d (by decide)
                      have b2 := hob.out.ne_ hd.out.m (by decide)
                      have b3 := hob.out.ne_ hB (by decide)
                      simp; omega
                    have hargs := Lib.hid hrest.out.2.2.2
                    replace hrest := Lib.hid (hrest.out.2.2.1.keep_of ka (by simp))
                    clear hwa ka c0 c1 c2 c3
                    refine (failed_any wa bd bs s hd.out).mono ?_
                    rintro e wb ⟨rfl, rfl⟩
                    go_wp2_with fail
                    go_roundw
                    case rel =>
                      repeat apply Exists.intro
                      refine And.intro ?_ rfl
                      exact ⟨k + 1, s, by omega, by go_num, hs4, hw0, by omega, hd.out, hl.out, hkw.out⟩
                    case measure => simp [intOf]; omega
                  · skip
                    have e2 : (o.kind == 2) = false := by simpa using h2
                    have e3 : (o.kind == 3) = false := by simpa using h3
                    have e4 : (o.kind == 4) = false := by simpa using h4
                    have e1 : (o.kind == 1) = false := by simpa using h1
                    have e1' : (o.kind != 1) = true := by simpa using h1
                    clear h1 h2 h3 h4
                    have hz := hd.out.len
                    have hby := And.intro hd.out.b0 hd.out.b1
                    by_cases hchk : chk s o.sector = 0
                    · obtain ⟨hdown, hs0, hs1⟩ := chk_zero hchk
                      have hs3 : o.sector ≤ 3 := by omega
                      have hs5 : o.sector < 4 := by omega
                      have hi : ((o.sector.toNat : Nat) : Int) = o.sector := by omega
                      have hi4 : o.sector.toNat < 4 := by omega
                      clear hs1
                      by_cases hleft : s.left = 1
                      · have hwr := wr_torn (i := o.sector.toNat) (b := pad o.data) (by rw [hi]; exact hchk) (pad_len _) hleft hs4 hi4 hz hby.1 hby.2
                        rw [hi] at hwr
                        obtain ⟨s', hwr, hn', hw', hse1, hse2⟩ := hwr
                        have hk0 : s.bytes.toNat ≤ 64 := by omega
                        have hchk2 : chk (restart s') o.sector = 0 := chk_up rfl hs0 (by show o.sector < (s'.n : Int); omega)
                        have RD : ∀ w, DRep w bd bs (restart s') → Calls Try.prog 16 #[.pointer (some ⟨bd, 0, none⟩), .int .i64 o.sector] w fun e w' => 
                            e = .returned (.tuple #[.slice (some ⟨w.heap.size, 0, none⟩) 64 64, .int .i64 0]) ∧ Blk w' w.heap.size 61 ((sec s' o.sector.toNat).map bv).toArray ∧ Keeps [] w w' := fun w hD => by
                          have h := read_ok w bd bs (restart s') o.sector.toNat hD (by rw [hi]; exact hchk2) (by show _ < s'.n; omega)
                          rw [hi] at h
                          exact h
                        replace RD := Lib.hid RD
                        replace hwr := Lib.hid hwr
                        replace hse1 := Lib.hid hse1
                        replace hse2 := Lib.hid hse2
                        replace hi := Lib.hid hi
                        clear hchk hz hby hleft hchk2
                        go_wp2_with fail
                        obtain ⟨wa, hwa⟩ : ∃ wa, wa = wr.alloc (Obj.cells #[Value.int IntKind.i64 o.kind, Value.int IntKind.i64 o.sector, Value.int IntKind.i64 o.n, Value.slice A' o.data.length c'] 46) := ⟨_, rfl⟩
                        rw [← hwa]
                        have ka : Keeps [] wr wa := by rw [hwa]; exact (Keeps.refl _ _).alloc _
                        have hob : Blk wa wr.heap.size 46 #[.int .i64 o.kind, .int .i64 o.sector, .int .i64 o.n, .slice A' o.data.length c'] := by rw [hwa]; exact Blk.new _ _ _
                        have hoc := hob.cell
                        replace hd := Lib.hid (hd.out.keep ka (by simp) (by simp))
                        replace hl := Lib.hid (hl.out.keepN ka)
                        replace hkw := Lib.hid (hkw.out.trans ka)
                        replace hob := Lib.hid hob
                        have hbd : wr.heap.size ∉ [bd, bs, bl] := by
                          obtain ⟨_, hB, _⟩ := hl.out
                          have b1 := hob.out.ne_ hd.out.d (by decide)
                          have b2 := hob.out.ne_ hd.out.m (by decide)
                          have b3 := hob.out.ne_ hB (by decide)
                          simp; omega
                        have hargs := Lib.hid hrest.out.2.2.2
                        replace hrest := Lib.hid (hrest.out.2.2.1.keep_of ka (by simp))
                        clear hwa ka c0 c1 c2 c3
                        refine (failed_any wa bd bs s hd.out).mono ?_
                        rintro e wb ⟨rfl, rfl⟩
                        have hx1 : wa.cell? ⟨wr.heap.size, 1, none⟩ = some (.int .i64 o.sector) := by have := hob.out.cell 1; simpa using this
                        have hx3 : wa.cell? ⟨wr.heap.size, 3, none⟩ = some (.slice A' o.data.length c') := by have := hob.out.cell 3; simpa using this
                        have kd : Keeps [] wa wa.drew := (Keeps.refl _ _).drew
                        have HD := Lib.hid (hd.out.keep kd (by simp) (by simp))
                        have HB := Lib.hid (hrest.out.keep_of kd (by simp))
                        have HK : Hid (Keeps [bd, bs] wa wa.drew) := Lib.hid kd.nil
                        have hnb : wr.heap.size ∉ [bd, bs] := by have := hbd; simp at this ⊢; omega
                        replace hnb := Lib.hid hnb
                        go_wp2_with fail
                        clear hoc kd
                        go_region_held3 (fun w' => w'.cell? ⟨wr.heap.size, 1, none⟩ = some (.int .i64 o.sector) ∧ w'.cell? ⟨wr.heap.size, 3, none⟩ = some (.slice A' o.data.length c'))
                          ((refine (fun (kk : Keeps [bd, bs] wa _) => ⟨kk.cellEq hx1 hnb.out, kk.cellEq hx3 hnb.out⟩) ?_; exact HK.out))
                          (first
                            | (go_at_call 14; refine (sector_any _ A' o.data _ c' rfl HB.out).mono ?_; rintro e w' ⟨g1, rfl, hg1, hgl1, hk1⟩; replace HD := Lib.hid (HD.out.keep hk1 (by simp) (by simp)); replace HK := Lib.hid (HK.out.trans hk1.nil); replace hg1 := Lib.hid hg1; clear hk1)
                            | (go_at_call 15; refine (write_any _ bd bs s o.sector (some ⟨g1, 0, none⟩) (pad o.data) 64 64 (pad_len _) HD.out (blk_bts hg1.out) (by intro _ a ha; cases ha; exact hg1.out.ne_ HD.out.d (by decide)) (by omega) hw0 (by omega)).mono ?_; rintro e wc ⟨rfl, hd', hk'⟩; rw [hwr.out] at hd' ⊢; replace HD := Lib.hid hd'; replace HK := Lib.hid (HK.out.trans hk'); clear hd' hk'))
                        replace hl := Lib.hid (hl.out.keep HK.out (by simp) (by have := hl4.out; simp; omega))
                        replace hkw := Lib.hid ((hkw.out.nil (X := [bd, bs])).trans HK.out |>.mono (Y := []) (by intro x hx; have := hl4.out; simp at hx; right; omega))
                        replace hob := Lib.hid (hob.out.keep HK.out hnb.out)
                        have hoc := hob.out.cell
                        have HB2 := Lib.hid (hrest.out.keep_of HK.out (by intro h0 a ha; have := hargs.out h0 a ha; have := hl4.out; simp; omega))
                        clear hx1 hx3 HB HK
                        go_wp2_with fail
                        refine (restart_any _ bd bs s' HD.out).mono ?_
                        rintro e w5 ⟨rfl, hd5, hk5⟩
                        have hbl := hl4.out
                        replace hl := Lib.hid (hl.out.keep hk5 (by simp) (by simp; omega))
                        replace hkw := Lib.hid ((hkw.out.nil (X := [bd])).trans hk5 |>.mono (Y := []) (by intro x hx; simp at hx; right; omega))
                        replace hob := Lib.hid (hob.out.keep hk5 (by have := hbd; simp at this ⊢; omega))
                        replace HB2 := Lib.hid (HB2.out.keep_of hk5 (by intro h0 a ha; have := hargs.out h0 a ha; simp; omega))
                        replace HD := Lib.hid hd5
                        clear hoc hk5 hd5
                        have hoc := hob.out.cell
                        go_wp2_with fail
                        refine (RD.out _ HD.out).mono ?_
                        rintro e w6 ⟨rfl, hq6, hk6⟩
                        obtain ⟨q, hq⟩ : ∃ q, q = w5.heap.size := ⟨_, rfl⟩
                        rw [← hq] at hq6 ⊢
                        have hqs : q ≠ bs := by have := HD.out.m.lt; omega
                        have hqd : q ≠ bd := by have := HD.out.d.lt; omega
                        have hql : q ≠ bl := by obtain ⟨_, hB, _⟩ := hl.out; have := hB.lt; omega
                        replace hl := Lib.hid (hl.out.keepN hk6)
                        replace hkw := Lib.hid (hkw.out.trans hk6)
                        replace hob := Lib.hid (hob.out.keep hk6 (by simp))
                        replace HB2 := Lib.hid (HB2.out.keep_of hk6 (by simp))
                        replace HD := Lib.hid (HD.out.keep hk6 (by simp) (by simp))
                        replace hq6 := Lib.hid hq6
                        replace hqs := Lib.hid hqs
                        replace hqd := Lib.hid hqd
                        replace hql := Lib.hid hql
                        clear hoc hk6 hq hbl
                        have hoc := hob.out.cell
                        go_wp2_with fail
                        obtain ⟨gl, cl, hcl, hfl, hcl1, hcl2, hclB, hclL, hclX⟩ := hl.out.cell hi4
                        have hx1 : w6.cell? ⟨wr.heap.size, 1, none⟩ = some (.int .i64 o.sector) := by have := hob.out.cell 1; simpa using this
                        have hx3 : w6.cell? ⟨wr.heap.size, 3, none⟩ = some (.slice A' o.data.length c') := by have := hob.out.cell 3; simpa using this
                        have kd : Keeps [] w6 w6.drew := (Keeps.refl _ _).drew
                        replace HD := Lib.hid (HD.out.keep kd (by simp) (by simp))
                        replace hl := Lib.hid (hl.out.keepN kd)
                        have HB := Lib.hid (HB2.out.keep_of kd (by simp))
                        have HQ := Lib.hid (hq6.out.keep kd (by simp))
                        have HL := Lib.hid (hclB.keep kd (by simp))
                        have HK : Hid (Keeps [] w6 w6.drew) := Lib.hid kd
                        replace hcl := Lib.hid hcl
                        replace hclL := Lib.hid hclL
                        clear hoc kd hfl hclB hclX
                        go_region_held3 (fun w' => w'.cell? ⟨wr.heap.size, 1, none⟩ = some (.int .i64 o.sector) ∧ w'.cell? ⟨wr.heap.size, 3, none⟩ = some (.slice A' o.data.length c') ∧ w'.cell? ⟨bl, o.sector.toNat, none⟩ = some (.slice (some ⟨gl, 0, none⟩) 64 cl))
                          ((refine (fun (kk : Keeps [] w6 _) => ⟨kk.cellEq hx1 (by simp), kk.cellEq hx3 (by simp), kk.cellEq hcl.out (by simp)⟩) ?_; exact HK.out))
                          (first
                            | (go_at_call 14; refine (sector_any _ A' o.data _ c' rfl HB.out).mono ?_; rintro e w7 ⟨g2, rfl, hg2, hgl2, hk2⟩; replace HD := Lib.hid (HD.out.keep hk2 (by simp) (by simp)); replace hl := Lib.hid (hl.out.keepN hk2); replace HQ := Lib.hid (HQ.out.keep hk2 (by simp)); replace HL := Lib.hid (HL.out.keep hk2 (by simp)); replace HK := Lib.hid (HK.out.trans hk2); replace hg2 := Lib.hid hg2; clear hk2)
                            | (go_at_call 22; refine (torn_any _ gl g2 q (sec s o.sector.toNat) (pad o.data) (sec s' o.sector.toNat) cl s.bytes.toNat hclL.out (pad_len _) (by rw [hse1.out, List.length_append, List.length_take, pad_len, List.length_drop, hclL.out]; omega) hcl1 HL.out (blk_bts hg2.out) (blk_bts HQ.out) hk0 hse1.out).mono ?_; rintro e w8 ⟨rfl, hk2⟩; replace HD := Lib.hid (HD.out.keep hk2 (by simp) (by simp)); replace hl := Lib.hid (hl.out.keepN hk2); replace HQ := Lib.hid (HQ.out.keep hk2 (by simp)); replace HK := Lib.hid (HK.out.trans hk2); clear hk2))
                        obtain ⟨gx, cx, hcx, hfx, _⟩ := hl.out.cell hi4
                        replace hob := Lib.hid (hob.out.keep HK.out (by simp))
                        replace hkw := Lib.hid (hkw.out.trans HK.out)
                        have hoc := hob.out.cell
                        clear hx1 hx3
                        go_wp2_with fail
                        go_roundw
                        case rel =>
                          repeat apply Exists.intro
                          refine And.intro ?_ rfl
                          have hbl := hl4.out
                          have hLS : LSlot w8 [bd, bs, bl] (.slice (some ⟨q, 0, none⟩) 64 64) (sec (restart s') o.sector.toNat) :=
                            ⟨q, 64, rfl, by omega, by simp [maxLen], blk_bts HQ.out, by rw [restart_sec, hse1.out, List.length_append, List.length_take, pad_len, List.length_drop, hclL.out]; omega, by
                              have b1 := hqd.out; have b2 := hqs.out; have b3 := hql.out
                              simp; omega⟩
                          exact ⟨k + 1, restart s', by omega, by go_num, hn', (by show 0 ≤ s'.writes; omega), (by show s'.writes ≤ _; omega), HD.out.keep (X := [bl]) ((Keeps.refl _ _).setCell (by simp) _) (by simp; omega) (by simp; omega),
                            hl.out.put (by simp) hi4 hLS (fun j _ hj => hse2.out j hj), (hkw.out.setCell (.inr (by show _ ≤ bl; omega)) _)⟩
                        case measure => simp [intOf]; omega
                      · have hwr := wr_whole (i := o.sector.toNat) (b := pad o.data) (by rw [hi]; exact hchk) (pad_len _) hleft hs4 hi4 hz
                        rw [hi] at hwr
                        obtain ⟨s', hwr, hn', hw', hse1, hse2⟩ := hwr
                        replace hwr := Lib.hid hwr
                        replace hse1 := Lib.hid hse1
                        replace hse2 := Lib.hid hse2
                        replace hi := Lib.hid hi
                        clear hchk hz hby hleft
                        go_wp2_with fail
                        obtain ⟨wa, hwa⟩ : ∃ wa, wa = wr.alloc (Obj.cells #[Value.int IntKind.i64 o.kind, Value.int IntKind.i64 o.sector, Value.int IntKind.i64 o.n, Value.slice A' o.data.length c'] 46) := ⟨_, rfl⟩
                        rw [← hwa]
                        have ka : Keeps [] wr wa := by rw [hwa]; exact (Keeps.refl _ _).alloc _
                        have hob : Blk wa wr.heap.size 46 #[.int .i64 o.kind, .int .i64 o.sector, .int .i64 o.n, .slice A' o.data.length c'] := by rw [hwa]; exact Blk.new _ _ _
                        have hoc := hob.cell
                        replace hd := Lib.hid (hd.out.keep ka (by simp) (by simp))
                        replace hl := Lib.hid (hl.out.keepN ka)
                        replace hkw := Lib.hid (hkw.out.trans ka)
                        replace hob := Lib.hid hob
                        have hbd : wr.heap.size ∉ [bd, bs, bl] := by
                          obtain ⟨_, hB, _⟩ := hl.out
                          have b1 := hob.out.ne_ hd.out.d (by decide)
                          have b2 := hob.out.ne_ hd.out.m (by decide)
                          have b3 := hob.out.ne_ hB (by decide)
                          simp; omega
                        have hargs := Lib.hid hrest.out.2.2.2
                        replace hrest := Lib.hid (hrest.out.2.2.1.keep_of ka (by simp))
                        clear hwa ka c0 c1 c2 c3
                        refine (failed_any wa bd bs s hd.out).mono ?_
                        rintro e wb ⟨rfl, rfl⟩
                        have hx1 : wa.cell? ⟨wr.heap.size, 1, none⟩ = some (.int .i64 o.sector) := by have := hob.out.cell 1; simpa using this
                        have hx3 : wa.cell? ⟨wr.heap.size, 3, none⟩ = some (.slice A' o.data.length c') := by have := hob.out.cell 3; simpa using this
                        have kd : Keeps [] wa wa.drew := (Keeps.refl _ _).drew
                        have HD := Lib.hid (hd.out.keep kd (by simp) (by simp))
                        have HB := Lib.hid (hrest.out.keep_of kd (by simp))
                        have HK : Hid (Keeps [bd, bs] wa wa.drew) := Lib.hid kd.nil
                        have hnb : wr.heap.size ∉ [bd, bs] := by have := hbd; simp at this ⊢; omega
                        replace hnb := Lib.hid hnb
                        go_wp2_with fail
                        clear hoc kd
                        go_region_held3 (fun w' => w'.cell? ⟨wr.heap.size, 1, none⟩ = some (.int .i64 o.sector) ∧ w'.cell? ⟨wr.heap.size, 3, none⟩ = some (.slice A' o.data.length c'))
                          ((refine (fun (kk : Keeps [bd, bs] wa _) => ⟨kk.cellEq hx1 hnb.out, kk.cellEq hx3 hnb.out⟩) ?_; exact HK.out))
                          (first
                            | (go_at_call 14; refine (sector_any _ A' o.data _ c' rfl HB.out).mono ?_; rintro e w' ⟨g1, rfl, hg1, hgl1, hk1⟩; replace HD := Lib.hid (HD.out.keep hk1 (by simp) (by simp)); replace HK := Lib.hid (HK.out.trans hk1.nil); replace hg1 := Lib.hid hg1; clear hk1)
                            | (go_at_call 15; refine (write_any _ bd bs s o.sector (some ⟨g1, 0, none⟩) (pad o.data) 64 64 (pad_len _) HD.out (blk_bts hg1.out) (by intro _ a ha; cases ha; exact hg1.out.ne_ HD.out.d (by decide)) (by omega) hw0 (by omega)).mono ?_; rintro e wc ⟨rfl, hd', hk'⟩; rw [hwr.out] at hd' ⊢; replace HD := Lib.hid hd'; replace HK := Lib.hid (HK.out.trans hk'); clear hd' hk'))
                        replace hl := Lib.hid (hl.out.keep HK.out (by simp) (by have := hl4.out; simp; omega))
                        replace hkw := Lib.hid ((hkw.out.nil (X := [bd, bs])).trans HK.out |>.mono (Y := []) (by intro x hx; have := hl4.out; simp at hx; right; omega))
                        replace hob := Lib.hid (hob.out.keep HK.out hnb.out)
                        have hoc := hob.out.cell
                        have HB2 := Lib.hid (hrest.out.keep_of HK.out (by intro h0 a ha; have := hargs.out h0 a ha; have := hl4.out; simp; omega))
                        clear hx1 hx3 HB HK
                        go_wp2_with fail
                        obtain ⟨w5, rfl⟩ : ∃ w5, w5 = wc := ⟨_, rfl⟩
                        have hx1 : w5.cell? ⟨wr.heap.size, 1, none⟩ = some (.int .i64 o.sector) := by have := hob.out.cell 1; simpa using this
                        have hx3 : w5.cell? ⟨wr.heap.size, 3, none⟩ = some (.slice A' o.data.length c') := by have := hob.out.cell 3; simpa using this
                        have kd : Keeps [] w5 w5.drew := (Keeps.refl _ _).drew
                        replace HD := Lib.hid (HD.out.keep kd (by simp) (by simp))
                        replace hl := Lib.hid (hl.out.keepN kd)
                        have HB := Lib.hid (HB2.out.keep_of kd (by simp))
                        have HK : Hid (Keeps [bd, bs, bl] w5 w5.drew) := Lib.hid kd.nil
                        replace hbd := Lib.hid hbd
                        have hw5 := hl4.out
                        have hsz := hkw.out.size
                        clear hoc kd
                        go_region_held3 (fun w' => w'.cell? ⟨wr.heap.size, 1, none⟩ = some (.int .i64 o.sector) ∧ w'.cell? ⟨wr.heap.size, 3, none⟩ = some (.slice A' o.data.length c'))
                          ((refine (fun (kk : Keeps [bd, bs, bl] w5 _) => ⟨kk.cellEq hx1 hbd.out, kk.cellEq hx3 hbd.out⟩) ?_; first | exact HK.out | exact HK.out.setCell (.inl (by simp)) _))
                          (first
                            | (go_at_call 14; refine (sector_any _ A' o.data _ c' rfl HB.out).mono ?_; rintro e w6 ⟨g2, rfl, hg2, hgl2, hk2⟩; replace HD := Lib.hid (HD.out.keep hk2 (by simp) (by simp)); replace hl := Lib.hid (hl.out.keepN hk2); replace HK := Lib.hid (HK.out.trans hk2.nil); replace hkw := Lib.hid ((hkw.out.trans (Keeps.refl [] _).drew).trans hk2); replace hg2 := Lib.hid hg2; obtain ⟨gl, cl, hcl, hfl, _⟩ := hl.out.cell hi4; clear hk2))
                        all_goals
                          go_wp2_with fail
                          go_roundw
                          case rel =>
                            repeat apply Exists.intro
                            refine And.intro ?_ rfl
                            have hbl := hl4.out
                            have hLS : LSlot w6 [bd, bs, bl] (.slice (some ⟨g2, 0, none⟩) 64 64) (sec s' o.sector.toNat) :=
                              ⟨g2, 64, rfl, by omega, by simp [maxLen], by rw [hse1.out]; exact blk_bts hg2.out, by rw [hse1.out]; exact pad_len _, by
                                obtain ⟨_, hB, _⟩ := hl.out
                                have b1 := hg2.out.ne_ HD.out.d (by decide)
                                have b2 := hg2.out.ne_ HD.out.m (by decide)
                                have b3 := hg2.out.ne_ hB (by decide)
                                simp; omega⟩
                            exact ⟨k + 1, s', by omega, by go_num, hn', by omega, by omega, HD.out.keep (X := [bl]) ((Keeps.refl _ _).setCell (by simp) _) (by simp; omega) (by simp; omega),
                              hl.out.put (by simp) hi4 hLS (fun j _ hj => hse2.out j hj), (hkw.out.setCell (.inr (by show _ ≤ bl; omega)) _)⟩
                          case measure => simp [intOf]; omega
                    · have hwr := wr_refused (b := pad o.data) hchk
                      have hno := chk_not hchk hs4
                      have her : (chk s o.sector == 0) = false := by simpa using hchk
                      generalize chk s o.sector = er at *
                      replace hwr := Lib.hid hwr
                      replace hno := Lib.hid hno
                      clear hchk hz hby
                      go_wp2_with fail
                      obtain ⟨wa, hwa⟩ : ∃ wa, wa = wr.alloc (Obj.cells #[Value.int IntKind.i64 o.kind, Value.int IntKind.i64 o.sector, Value.int IntKind.i64 o.n, Value.slice A' o.data.length c'] 46) := ⟨_, rfl⟩
                      rw [← hwa]
                      have ka : Keeps [] wr wa := by rw [hwa]; exact (Keeps.refl _ _).alloc _
                      have hob : Blk wa wr.heap.size 46 #[.int .i64 o.kind, .int .i64 o.sector, .int .i64 o.n, .slice A' o.data.length c'] := by rw [hwa]; exact Blk.new _ _ _
                      have hoc := hob.cell
                      replace hd := Lib.hid (hd.out.keep ka (by simp) (by simp))
                      replace hl := Lib.hid (hl.out.keepN ka)
                      replace hkw := Lib.hid (hkw.out.trans ka)
                      replace hob := Lib.hid hob
                      have hbd : wr.heap.size ∉ [bd, bs, bl] := by
                        obtain ⟨_, hB, _⟩ := hl.out
                        have b1 := hob.out.ne_ hd.out.d (by decide)
                        have b2 := hob.out.ne_ hd.out.m (by decide)
                        have b3 := hob.out.ne_ hB (by decide)
                        simp; omega
                      have hargs := Lib.hid hrest.out.2.2.2
                      replace hrest := Lib.hid (hrest.out.2.2.1.keep_of ka (by simp))
                      clear hwa ka c0 c1 c2 c3
                      refine (failed_any wa bd bs s hd.out).mono ?_
                      rintro e wb ⟨rfl, rfl⟩
                      have hx1 : wa.cell? ⟨wr.heap.size, 1, none⟩ = some (.int .i64 o.sector) := by have := hob.out.cell 1; simpa using this
                      have hx3 : wa.cell? ⟨wr.heap.size, 3, none⟩ = some (.slice A' o.data.length c') := by have := hob.out.cell 3; simpa using this
                      have kd : Keeps [] wa wa.drew := (Keeps.refl _ _).drew
                      have HD := Lib.hid (hd.out.keep kd (by simp) (by simp))
                      have HB := Lib.hid (hrest.out.keep_of kd (by simp))
                      have HK : Hid (Keeps [bd, bs] wa wa.drew) := Lib.hid kd.nil
                      have hnb : wr.heap.size ∉ [bd, bs] := by have := hbd; simp at this ⊢; omega
                      replace hnb := Lib.hid hnb
                      go_wp2_with fail
                      clear hoc kd
                      go_region_held3 (fun w' => w'.cell? ⟨wr.heap.size, 1, none⟩ = some (.int .i64 o.sector) ∧ w'.cell? ⟨wr.heap.size, 3, none⟩ = some (.slice A' o.data.length c'))
                        ((refine (fun (kk : Keeps [bd, bs] wa _) => ⟨kk.cellEq hx1 hnb.out, kk.cellEq hx3 hnb.out⟩) ?_; exact HK.out))
                        (first
                          | (go_at_call 14; refine (sector_any _ A' o.data _ c' rfl HB.out).mono ?_; rintro e w' ⟨g1, rfl, hg1, hgl1, hk1⟩; replace HD := Lib.hid (HD.out.keep hk1 (by simp) (by simp)); replace HK := Lib.hid (HK.out.trans hk1.nil); replace hg1 := Lib.hid hg1; clear hk1)
                          | (go_at_call 15; refine (write_any _ bd bs s o.sector (some ⟨g1, 0, none⟩) (pad o.data) 64 64 (pad_len _) HD.out (blk_bts hg1.out) (by intro _ a ha; cases ha; exact hg1.out.ne_ HD.out.d (by decide)) (by omega) hw0 (by omega)).mono ?_; rintro e wc ⟨rfl, hd', hk'⟩; rw [hwr.out] at hd' ⊢; replace HD := Lib.hid hd'; replace HK := Lib.hid (HK.out.trans hk'); clear hd' hk'))
                      replace hl := Lib.hid (hl.out.keep HK.out (by simp) (by have := hl4.out; simp; omega))
                      replace hkw := Lib.hid ((hkw.out.nil (X := [bd, bs])).trans HK.out |>.mono (Y := []) (by intro x hx; have := hl4.out; simp at hx; right; omega))
                      replace hob := Lib.hid (hob.out.keep HK.out hnb.out)
                      have hoc := hob.out.cell
                      have HB2 := Lib.hid (hrest.out.keep_of HK.out (by intro h0 a ha; have := hargs.out h0 a ha; have := hl4.out; simp; omega))
                      clear hx1 hx3 HB HK
                      rcases hno.out with q1 | ⟨q1, q2⟩ | ⟨q1, q2, q3⟩
                      · go_wp2_with fail
                        go_roundw
                        case rel =>
                          repeat apply Exists.intro
                          refine And.intro ?_ rfl
                          exact ⟨k + 1, s, by omega, by go_num, hs4, hw0, by omega, HD.out, hl.out, hkw.out⟩
                        case measure => simp [intOf]; omega
                      · go_wp2_with fail
                        go_roundw
                        case rel =>
                          repeat apply Exists.intro
                          refine And.intro ?_ rfl
                          exact ⟨k + 1, s, by omega, by go_num, hs4, hw0, by omega, HD.out, hl.out, hkw.out⟩
                        case measure => simp [intOf]; omega
                      · go_wp2_with fail
                        go_roundw
                        case rel =>
                          repeat apply Exists.intro
                          refine And.intro ?_ rfl
                          exact ⟨k + 1, s, by omega, by go_num, hs4, hw0, by omega, HD.out, hl.out, hkw.out⟩
                        case measure => simp [intOf]; omega
          · obtain rfl : k = n := by omega
            clear hOk
            go_wp2_with fail
            refine (restart_any wr bd bs s hd.out).mono ?_
            rintro e w5 ⟨rfl, hd5, hk5⟩
            have hbl := hl4.out
            replace hl := Lib.hid (hl.out.keep hk5 (by simp) (by simp; omega))
            replace hkw := Lib.hid ((hkw.out.nil (X := [bd])).trans hk5 |>.mono (Y := []) (by intro x hx; simp at hx; right; omega))
            replace hd := Lib.hid hd5
            clear hd5 hk5 hbl
            go_wp2_with fail
            go_loopw [138] (fun i wv => ∃ j : Nat, j ≤ 4 ∧ i = .int .i64 j ∧ DRep wv bd bs (restart s) ∧ Last wv 44 [bd, bs, bl] bl 4 (sec s) ∧ Keeps [] w wv) (fun i _ => 4 - (intOf i).toNat)
            case atStart => exact ⟨0, by omega, rfl, hd.out, hl.out, hkw.out⟩
            case round =>
              clear hd hl hkw
              obtain ⟨j, hj, rfl, hd, hl, hkw⟩ := hrel
              by_cases hlt3 : j < 4
              · have RD := read_ok wr bd bs (restart s) j hd (chk_up rfl (by omega) (by show (j : Int) < (s.n : Int); omega)) (by show j < s.n; omega)
                obtain ⟨gl, cl, hcl, hfl, hcl1, hcl2, hclB, hclL, hclX⟩ := hl.cell hlt3
                replace RD := Lib.hid RD
                replace hd := Lib.hid hd
                replace hl := Lib.hid hl
                replace hkw := Lib.hid hkw
                replace hclL := Lib.hid hclL
                replace hclB := Lib.hid hclB
                clear hfl hclX
                go_wp2_with fail
                refine RD.out.mono ?_
                rintro e w6 ⟨rfl, hq6, hk6⟩
                replace hd := Lib.hid (hd.out.keep hk6 (by simp) (by simp))
                replace hl := Lib.hid (hl.out.keepN hk6)
                replace hkw := Lib.hid (hkw.out.trans hk6)
                replace hclB := Lib.hid (hclB.out.keep hk6 (by simp))
                have hc6 := hk6.cellEq hcl (by simp)
                replace hq6 := Lib.hid hq6
                clear hk6 hcl RD
                go_wp2_with fail
                refine (same_any w6 _ (some ⟨gl, 0, none⟩) (sec (restart s) j) (sec s j) _ _ _ _ hclL.out hclL.out (blk_bts hq6.out) hclB.out).mono ?_
                rintro e w7 ⟨rfl, rfl⟩
                rw [show decide (sec (restart s) j = sec s j) = true from decide_eq_true rfl]
                go_wp2_with fail
                go_roundw
                case rel => exact ⟨j + 1, by omega, by go_num, hd.out, hl.out, hkw.out⟩
                case measure => simp [intOf]; omega
              · replace hkw := Lib.hid hkw
                have hj4 : j = 4 := by omega
                subst hj4
                clear hd hl
                go_wp2_with fail
                go_ret
                exact ⟨rfl, hkw.out⟩
  · replace hfew : Hid (few ops = false) := Lib.hid (by simpa using hfew)
    go_enter Try.func5, Try.ntmps5
    go_wp2_with fail
    refine (awake_any w).mono ?_
    rintro e w1 ⟨rfl, k1⟩
    replace k1 := Lib.hid k1
    go_wp2_with fail
    refine (few_any w1 A ops n c _ Hn.out hnc hc (HO.out.keep k1.out (by simp))).mono ?_
    rintro e w2 ⟨rfl, k2⟩
    rw [hfew.out]
    replace k2 := Lib.hid k2
    go_wp2_with fail
    refine (awake_any w2).mono ?_
    rintro e w3 ⟨rfl, k3⟩
    replace k3 := Lib.hid k3
    go_wp2_with fail
    go_ret
    exact ⟨rfl, (k1.out.trans k2.out).trans k3.out⟩
end Go.Proofs.Ytpjmkjcgpbpfdaa
