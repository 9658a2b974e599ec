/- The walk of the statement WalCrash. -/
import Derived.Test.YtnoaahgjfknnlaaWal10
namespace Go.Proofs.Ytnoaahgjfknnlaa
open Go.RowKit
set_option linter.unusedSimpArgs false
set_option linter.unusedVariables false

theorem OutAt.keepX {base : Nat} {w w' : World} {v : Value} {rs : List (List UInt8)} {X : List Nat} (h : OutAt base w v rs) (hk : Keeps X w w') (hX : ∀ x ∈ X, x < base) : OutAt base w' v rs := by
  obtain ⟨vs, h1, h2⟩ := h
  refine ⟨vs, own_keep h1 hk (fun g hg hx => by have := (own_blk h1 hg).1; have := hX g hx; omega), fun j r hj => ?_⟩
  obtain ⟨B, c, e, hl, hm, hb, hx⟩ := h2 j r hj
  refine ⟨B, c, e, hl, hm, hb.keep hk (fun a ha hxx => by have := (hx a ha).1; have := hX _ hxx; omega), fun a ha => ?_⟩
  obtain ⟨h3, cur, h4⟩ := hx a ha
  exact ⟨h3, cur, h4.keep hk (fun hxx => by have := hX _ hxx; omega)⟩

theorem wpList_append_own2 {P : Program} {w : World} {ops : Array Oper} {rest : List Oper} {o : Oper} {a : Act} {Q : Exit → Act → World → Prop} (hgd : Region.wanted o (yielded ops a.tmps) = true) (s x : Operand) (t : TypeId)
    (ho : o.op = .call { callee := .builtin .append, args := #[s, x], argTypes := #[t, t] })
    (base : Nat) (e : TypeId) (i : TypeInfo) (z : Value) (size bytes : Nat) (ht : P.underlying t = some (.slice e)) (hi : P.info? e = some i) (hz : i.zero = some z)
    (hsize : i.size = size) (hby : i.bytes = bytes) (hzs : z.cells.size = size) (hsz : 0 < size)
    (v : Value) (n : Nat) (xs : List Value) (hs : a.eval s = v) (hown : w.ownsRow base e size v n xs)
    (ad : Addr) (m c : Nat) (news : List Value) (hx : a.eval x = .slice (some ad) m c) (hl : news.length = m * size) (hnews : ∀ j u, news[j]? = some u → w.cell? (ad.add j) = some u) (h1 : ∀ u ∈ news, u.oneCell' = true)
    (h63 : n + m ≤ maxLen) (hbytes : (n + m) * bytes ≤ 140737488355328) (hbase : base ≤ w.heap.size)
    (h : ∀ v' w', w'.ownsRow base e size v' (n + m) (xs ++ news) → w.grownBy w' v.ownBlock → (v' = .slice none 0 0 ↔ v = .slice none 0 0 ∧ m = 0) → wpList P ops Q rest (a.put o.dst v') w') : wpList P ops Q (o :: rest) a w :=
  wpList_wanted hgd fun _ hK => wp_append_own w s x t ho base e i z size bytes ht hi hz hsize hby hzs hsz v n xs hs hown ad m c news hx hl hnews h1 h63 hbytes hbase fun v' w' h2 h3 h4 => hK _ _ (h v' w' h2 h3 h4)

theorem keep_grown2 {X : List Nat} {w w1 w2 : World} {base : Nat} {e : TypeId} {size n : Nat} {v : Value} {xs : List Value} (hown : w1.ownsRow base e size v n xs) (k : Keeps X w w1) (hb : w.heap.size ≤ base) (hg : w1.grownBy w2 v.ownBlock) : Keeps X w w2 := by
  have h1 : Keeps (X ++ v.ownBlock.toList) w w1 := k.mono (fun x hx => .inl (by simp [hx]))
  have h2 : Keeps (X ++ v.ownBlock.toList) w1 w2 := (Keeps.grown (X := v.ownBlock.toList) hg (by intro g h; rw [h]; simp)).mono (fun x hx => .inl (List.mem_append_right _ hx))
  refine (h1.trans h2).mono ?_
  intro x hx
  rcases List.mem_append.1 hx with hx | hx
  · exact .inl hx
  · simp only [Option.mem_toList] at hx
    exact .inr (Nat.le_trans hb (own_blk hown hx).1)

/-- A run of appends so far: the disk stands, the records rs lie in the log. -/
structure Run (n fi co ep : Nat) (s : St) (rs : List (List UInt8)) (k : Nat) : Prop where
  down : s.down = false
  sz : s.n = n
  len : s.mem.length = 64 * n
  laid : Laid (sec s) fi co ep (encs rs)
  w0 : 0 ≤ s.writes
  w1 : s.writes ≤ 12 + 9 * k
  few : rs.length ≤ k
  small : ∀ x ∈ rs, x.length ≤ 400

set_option maxHeartbeats 6400000 in
set_option maxRecDepth 100000 in
theorem law_crash (w : World) (S : Int) (AO : Option Addr) (nO cO : Nat) (F Co : Int) (ep : Nat) (AR : Option Addr) (nR cR : Nat) (old rs : List (List UInt8)) (hlO : old.length = nO) (hcO : nO ≤ cO) (hmO : cO ≤ maxLen) (hO : LstAt w w.heap.size AO old) (hlR : rs.length = nR) (hcR : nR ≤ cR) (hmR : cR ≤ maxLen) (hR : LstAt w w.heap.size AR rs)
    (hF : -9223372036854775808 ≤ F ∧ F ≤ 9223372036854775807) (hCo : -9223372036854775808 ≤ Co ∧ Co ≤ 9223372036854775807) (hep : ep < 4294967296) (W By : Int) (hW : 0 ≤ W ∧ W < 256) (hBy : 0 ≤ By ∧ By < 256) :
    Calls Try.prog 8 #[.agg (caseV S AO nO cO F Co ep AR nR cR), .int .u8 W, .int .u8 By] w fun e w' => e = .returned (.bool true) ∧ Keeps [] w w' := by
  have hC := Lib.hid (CaseAt.start (S := S) (nO := nO) (cO := cO) (F := F) (Co := Co) (ep := ep) (nR := nR) (cR := cR) hO hR)
  replace hmO := Lib.hid hmO
  replace hmR := Lib.hid hmR
  clear hO hR
  go_enter Try.func8, Try.ntmps8
  go_wp2_with fail
  generalize w.alloc (.cells (caseV S AO nO cO F Co ep AR nR cR) 38) = wx at *
  refine (awake_any wx).mono ?_
  rintro e w1 ⟨rfl, k1⟩
  replace hC := Lib.hid (hC.out.keep_ k1)
  have cc := hC.out.blk.cell
  clear k1
  go_wp2_with fail
  refine (small_any w1 S AO nO cO F Co ep AR nR cR rs hlR hcR hmR.out (hC.out.recs.mono hC.out.keep.size)).mono ?_
  rintro e w2 ⟨b, rfl, hb, k2⟩
  replace hC := Lib.hid (hC.out.keep_ k2)
  clear k2 cc
  cases b
  · clear hb
    go_wp2_with fail
    refine (awake_any w2).mono ?_
    rintro e w3 ⟨rfl, k3⟩
    replace hC := Lib.hid (hC.out.keep_ k3)
    clear k3
    go_wp2_with fail
    go_ret
    exact ⟨rfl, hC.out.keep⟩
  · obtain ⟨hs1, hs2, hs3, hs4, hs5⟩ := hb.1 rfl
    clear hb
    obtain ⟨n, rfl⟩ : ∃ n : Nat, S = n := ⟨S.toNat, by omega⟩
    have cc := hC.out.blk.cell
    have hz2 := Lib.hid hC.out.blk.lt
    go_wp2_with fail
    refine (disks_any w2 n AO nO cO F Co ep AR nR cR old hlO hcO hmO.out (hC.out.old.mono hC.out.keep.size) (by omega) (by omega) (by omega)).mono ?_
    rintro e w3 ⟨bd, bs, bm, bS, s, rfl, hK⟩
    replace hC := Lib.hid (hC.out.keep_ hK.keep)
    have hz0 := hC.out.keep.size
    replace hK := Lib.hid hK
    have hnew : Hid (w.heap.size < bd ∧ w.heap.size < bs ∧ w.heap.size < bm ∧ w.heap.size < bS) := Lib.hid (by
      have h1 := hK.out.hbd; have h2 := hK.out.hbs; have h3 := hK.out.hbm; have h4 := hK.out.hbS; have h5 := hz2.out
      omega)
    clear cc hz0
    have cc := hC.out.blk.cell
    have hns := hK.out.n
    have HFr := Lib.hid (cfree_any w3 bm bS s n AO nO cO F Co ep AR nR cR hK.out.m hns hF hCo hep)
    go_wp2_with fail
    refine HFr.out.mono ?_
    rintro e w4 ⟨b, rfl, hfree, k4⟩
    replace hC := Lib.hid (hC.out.keep_ k4)
    have hD4 := Lib.hid (hK.out.d.keep k4 (by simp) (by simp))
    clear HFr cc k4
    cases b
    · clear hfree
      go_wp2_with fail
      go_ret
      exact ⟨rfl, hC.out.keep⟩
    · obtain ⟨hok, hfr⟩ := hfree rfl
      have hok2 := hok
      unfold okR at hok2
      obtain ⟨fi, rfl⟩ : ∃ fi : Nat, F = fi := ⟨F.toNat, by omega⟩
      obtain ⟨co, rfl⟩ : ∃ co : Nat, Co = co := ⟨Co.toNat, by omega⟩
      have hok3 : okR s.n fi co ep := hns.symm ▸ hok
      have HN := Lib.hid (lnew_ok [] w4 bd bs s fi co ep hD4.out hep hok3)
      have cc := hC.out.blk.cell
      clear hfree
      replace hfr := Lib.hid hfr
      go_wp2_with fail
      refine HN.out.mono ?_
      rintro e w5 ⟨rfl, hL, k5⟩
      have hbl : Hid (w.heap.size < w4.heap.size) := Lib.hid hC.out.blk.lt
      have hbne : w4.heap.size ≠ bd := by have := hD4.out.d.lt; omega
      have hbne2 : w4.heap.size ≠ bs := by have := hD4.out.m.lt; omega
      replace hC := Lib.hid (hC.out.keep_ k5)
      have hD5 := hD4.out.keep k5 (by simp) (by simp)
      generalize w4.heap.size = bl at *
      have HArm := Lib.hid (arm_any w5 bd bs s (W % 24 + 1) (By % 65) hD5 (by omega))
      replace hL := Lib.hid hL
      clear HN cc k5 hD4
      have eW : 0 ≤ W % 24 ∧ W % 24 < 24 := by omega
      have eB : 0 ≤ By % 65 ∧ By % 65 < 65 := by omega
      go_wp2_with fail
      refine HArm.out.mono ?_
      rintro e w6 ⟨rfl, hD6, k6⟩
      replace hC := Lib.hid (hC.out.keepX k6 (by have := hnew.out; simp; omega))
      have hL6 := Lib.hid (hL.out.keep k6 (by simp; exact hbne) (fun g cur hg _ => by simp; exact hg.ne_ hD5.d (by decide)))
      have hL0 : Laid (sec s) fi co ep (encs []) := fun j hj => by
        rw [if_neg (by simp [encs])]
        have := hfr.out j (by omega)
        simpa using this
      have hst : Hid (Run n fi co ep (arm s (W % 24 + 1) (By % 65)) [] 0) := Lib.hid (by
        have hdn := hK.out.down
        have hmem := hK.out.d.len
        refine ⟨?_, ?_, ?_, ?_, ?_, ?_, ?_, ?_⟩
        all_goals first
          | (unfold arm; rw [hdn]; simp; done)
          | (unfold arm; rw [hdn]; simp; exact hns)
          | skip
        · unfold arm; rw [hdn]; simp; rw [hmem, hns]
        · have : sec (arm s (W % 24 + 1) (By % 65)) = sec s := by unfold arm; rw [hdn]; rfl
          rw [this]; exact hL0
        · unfold arm; rw [hdn]; simp; exact hK.out.wr0
        · unfold arm; rw [hdn]; simp; have := hK.out.wr1; omega
        · exact Nat.le_refl _
        · simp)
      generalize arm s (W % 24 + 1) (By % 65) = s1 at *
      clear HArm hL k6 hD5 hL0
      have hDL : Hid (DRep w6 bd bs s1 ∧ LRep [] w6 bl bd fi co ep (encs []) 0) := Lib.hid ⟨hD6, hL6.out⟩
      have hX : Hid (∀ x ∈ [bl, bd, bs], w.heap.size < x) := Lib.hid (by have := hnew.out; have := hbl.out; intro x hx; simp at hx; omega)
      have cc := hC.out.blk.cell
      have hC6 := hC
      clear hL6 hD6 hC
      go_wp2_with fail
      have hdn0 := Lib.hid (DoneAt.nil w6.heap.size w.heap.size w6)
      have hlt6 : Hid (∀ x ∈ [bl, bd, bs], x < w6.heap.size) := Lib.hid (by
        obtain ⟨_, _, hb1, _⟩ := hDL.out.2.ex
        have h1 := hb1.lt; have h2 := hDL.out.1.d.lt; have h3 := hDL.out.1.m.lt
        intro x hx; simp at hx; omega)
      have hbase : w.heap.size ≤ w6.heap.size := hC6.out.keep.size
      obtain ⟨i0, hi, hz0, hz1, hz2x⟩ := info_parts info34
      replace hi := Lib.hid hi
      replace hz0 := Lib.hid hz0
      replace hz1 := Lib.hid hz1
      replace hz2x := Lib.hid hz2x
      have hnR : nR ≤ 12 := by omega
      clear cc
      go_loopw [11, 66] (fun dv i wr => ∃ (k rc : Nat) (dn : List (List UInt8)) (s' : St), k ≤ nR ∧ i = .int .i64 k ∧ rc ≤ k ∧ Hid (DRep wr bd bs s' ∧ LRep [] wr bl bd fi co ep (encs dn) rc) ∧ Hid (Run n fi co ep s' dn k) ∧ Hid (DoneAt w6.heap.size w.heap.size wr dv dn) ∧ Hid (Keeps [bl, bd, bs] w6 wr)) (fun _ i _ => nR - (intOf i).toNat)
      case atStart => exact ⟨0, 0, [], s1, Nat.zero_le _, rfl, Nat.zero_le _, hDL, hst, hdn0, Lib.hid (Keeps.refl _ _)⟩
      case round =>
        clear hDL hst hdn0
        obtain ⟨k, rc, dn, s', hk, rfl, hrc, hDL, hst, hdone, hkw⟩ := hrel
        have hCr := Lib.hid (hC6.out.keepX hkw.out hX.out)
        have hep1 := hDL.out.2.ep0
        have hfit0 := hDL.out.2.len
        by_cases hlt : k < nR
        · obtain ⟨r, hr⟩ : ∃ r, rs[k]? = some r := ⟨rs[k]'(by omega), List.getElem?_eq_getElem _⟩
          obtain ⟨g, o, Ar, c, rfl, hg, hcell, hrcap, hcm, hrb, hrB⟩ := hCr.out.recs k r hr
          have hr4 := hs5 r (List.mem_of_getElem? hr)
          have hki : (k : Int) < (nR : Int) := by omega
          have hki0 : (0 : Int) ≤ (k : Int) := by omega
          replace hrb := Lib.hid hrb
          replace hrB := Lib.hid hrB
          obtain ⟨rl, hrl⟩ : ∃ rl, r.length = rl := ⟨_, rfl⟩
          rw [hrl] at hcell hrcap hr4
          by_cases hfull : freeOf (59 * (co : Int) - ((encs dn).length : Int)) < (rl : Int)
          · have HA := Lib.hid (app_full [] wr bl bd fi co ep rc (encs dn) r Ar rl c hDL.out.2 hrl hfull)
            replace hrl := Lib.hid hrl
            go_wp2_with fail
            refine HA.out.mono ?_
            rintro e wa ⟨rfl, ka⟩
            clear HA
            go_wp2_with fail
            go_roundw
            case rel => exact ⟨k + 1, rc, dn, s', by omega, by go_num, by omega, Lib.hid ⟨hDL.out.1.keep ka (by simp) (by simp), hDL.out.2.keep ka (by simp) (by simp)⟩, Lib.hid ⟨hst.out.down, hst.out.sz, hst.out.len, hst.out.laid, hst.out.w0, by have := hst.out.w1; omega, by have := hst.out.few; omega, hst.out.small⟩, Lib.hid (hdone.out.keep ka (by simp) (by simp)), Lib.hid (hkw.out.trans ka.nil)⟩
            case measure => simp [intOf]; omega
          · have hfull2 : (rl : Int) ≤ freeOf (59 * (co : Int) - ((encs dn).length : Int)) := by omega
            have hfr2 : rl + 4 + (encs dn).length ≤ 59 * co := by unfold freeOf at hfull2; omega
            have hDlen : ((encs dn).drop (59 * ((encs dn).length / 59)) ++ enc r).length = (encs dn).length - 59 * ((encs dn).length / 59) + (rl + 4) := by rw [List.length_append, List.length_drop, enc_len, hrl]
            have hlen' : s'.mem.length = 64 * s'.n := by rw [hst.out.sz]; exact hst.out.len
            have hRun := wrs_armed ep ((encs dn).drop (59 * ((encs dn).length / 59)) ++ enc r).length s' (fi + (encs dn).length / 59) ((encs dn).drop (59 * ((encs dn).length / 59)) ++ enc r) hst.out.down hlen' (Nat.le_refl _) (by rw [hst.out.sz]; omega)
            have HA := app_any [] wr bl bd bs fi co ep rc s' (encs dn) r Ar rl c hDL.out.1 hDL.out.2 hrl hrcap hrb.out hfull2 hst.out.w0 (by have := hst.out.w1; omega) (by simp) (by omega)
            unfold AppPost at HA
            have hsl : ∀ j, j < co → (sec s' (fi + j)).length = 64 := fun j hj => sec_len hDL.out.1 (by rw [hst.out.sz]; omega)
            generalize wrs s' (fi + (encs dn).length / 59) ep ((encs dn).drop (59 * ((encs dn).length / 59)) ++ enc r).length ((encs dn).drop (59 * ((encs dn).length / 59)) ++ enc r) = q at *
            have hownB : Hid (∀ g, u11.ownBlock = some g → g ∉ [bl, bd, bs]) := Lib.hid (by
              intro g hg hx
              obtain ⟨vs, h1, _⟩ := hdone.out
              have := (own_blk h1 hg).1
              have := hlt6.out g hx
              omega)
            have hXle : Hid (∀ x ∈ [bl, bd, bs], w.heap.size ≤ x) := Lib.hid (fun x hx => by have := hX.out x hx; omega)
            rcases hRun with hGood | hTorn
            · rw [hGood.ok] at HA
              simp only [if_true] at HA
              replace HA := Lib.hid HA
              replace hGood := Lib.hid hGood
              replace hsl := Lib.hid hsl
              replace hrl := Lib.hid hrl
              replace hDlen := Lib.hid hDlen
              go_wp2_with fail
              refine HA.out.mono ?_
              rintro e wa ⟨rfl, hDa, hLa, ka⟩
              have hda := hdone.out.keep ka hownB.out hXle.out
              obtain ⟨vs, hv1, hv2⟩ := hda
              have hrba : Bts wa Ar r := by
                by_cases hre : r = []
                · exact .inl hre
                · exact hrb.out.keep ka (fun a ha hx => by have := hrB.out hre a ha; have := hXle.out _ hx; omega)
              replace hrba := Lib.hid hrba
              have hkwa := Lib.hid (hkw.out.trans ka)
              have hDLa := Lib.hid (And.intro hDa hLa)
              replace hv1 := Lib.hid hv1
              replace hv2 := Lib.hid hv2
              have hfew := hst.out.few
              clear HA ka hDa hLa
              go_wp2_with (at_builtin; refine wpList_append_own _ rfl (.tmp 105) (.tmp 107) 36 rfl w6.heap.size 34 i0 (.slice none 0 0) 1 24 Try.underlying36 hi.out hz0.out hz1.out hz2x.out rfl (by decide) u11 dn.length vs rfl (hv1.out.alloc _) ⟨wa.heap.size, 0, none⟩ 1 1 [.slice Ar rl c] rfl rfl (World.news_of_block (cs := #[.slice Ar rl c]) (t := 34) (fr := (0, 0)) (heap_alloc_new wa _)) (by simp [Value.oneCell']) ?_ ?_ ?_ ?_; (unfold maxLen; omega); omega; (have := hkwa.out.size; simp; omega); intro v' wb ho1 hgr hn1; have ho := Lib.hid (DoneAt.push hrl.out hbase hv2.out hv1.out hrba.out hrB.out ho1 hgr); have kb := Lib.hid (keep_grown2 (hv1.out.alloc (.cells #[.slice Ar rl c] 34)) (hkwa.out.alloc _) (Nat.le_refl _) hgr); have kb2 := Lib.hid (keeps_of_grown (w := wa) (hv1.out.alloc (.cells #[.slice Ar rl c] 34)) hgr ((Keeps.refl [] wa).alloc _)); clear hn1 ho1 hgr)
              have hne : ∀ g, g ∈ u11.ownBlock.toList → ∃ cur, Blk wa g 34 cur := fun g hg => (own_blk hv1.out (by simpa using hg)).2
              have hDb := hDLa.out.1.keep kb2.out (fun hx => by obtain ⟨cur, hc⟩ := hne _ hx; exact hDLa.out.1.d.ne_ hc (by decide) rfl) (fun hx => by obtain ⟨cur, hc⟩ := hne _ hx; exact hDLa.out.1.m.ne_ hc (by decide) rfl)
              have hLb := hDLa.out.2.keep kb2.out (fun hx => by obtain ⟨cur, hc⟩ := hne _ hx; obtain ⟨_, _, hb1, _⟩ := hDLa.out.2.ex; exact hb1.ne_ hc (by decide) rfl) (fun g cur hg _ hx => by obtain ⟨cur2, hc⟩ := hne _ hx; exact hg.ne_ hc (by decide) rfl)
              rw [← encs_snoc] at hLb
              have hnewR : Hid (Run n fi co ep q.1 (dn ++ [r]) (k + 1)) := Lib.hid (by
                have hG := hGood.out
                have hw1 := hG.w1
                have hw0 := hG.w0
                have hrw1 := hst.out.w1
                have hrw0 := hst.out.w0
                have hdl := hDlen.out
                refine ⟨hG.down, hG.n.trans hst.out.sz, by rw [hG.len, hst.out.sz], ?_, by omega, by rw [hdl] at hw1; omega, by rw [List.length_append, List.length_singleton]; omega, ?_⟩
                · rw [encs_snoc]
                  exact laid_append hst.out.laid hG.at_ hG.off
                · intro x hx
                  rcases List.mem_append.1 hx with hx | hx
                  · exact hst.out.small x hx
                  · simp at hx; subst hx; rw [hrl.out]; exact hr4)
              go_roundw
              case rel => exact ⟨k + 1, rc + 1, dn ++ [r], q.1, by omega, by go_num, by omega, Lib.hid ⟨hDb, hLb⟩, hnewR, ho, kb⟩
              case measure => simp [intOf]; omega
            · have hrec := torn_recs hst.out.laid hTorn (by omega) hep hsl (fun x hx => by have := hst.out.small x hx; omega) (by omega)
              rw [hTorn.err] at HA
              replace HA := Lib.hid HA
              replace hTorn := Lib.hid hTorn
              replace hsl := Lib.hid hsl
              replace hrl := Lib.hid hrl
              replace hDlen := Lib.hid hDlen
              replace hrec := Lib.hid hrec
              obtain ⟨Ad, cd, rfl, _, _⟩ := hdone.out.slice
              go_wp2_with fail
              refine HA.out.mono ?_
              rintro e wa ⟨rfl, hDa, hLa, ka⟩
              clear hLa
              have hda := Lib.hid (hdone.out.keep ka hownB.out hXle.out)
              have hrba : Bts wa Ar r := by
                by_cases hre : r = []
                · exact .inl hre
                · exact hrb.out.keep ka (fun a ha hx => by have := hrB.out hre a ha; have := hXle.out _ hx; omega)
              have hkwa := Lib.hid (hkw.out.trans ka)
              have HRs := Lib.hid (restart_any wa bd bs q.1 hDa)
              replace hrba := Lib.hid hrba
              have hfew := hst.out.few
              clear HA
              go_wp2_with fail
              refine HRs.out.mono ?_
              rintro e wb ⟨rfl, hDb, kb⟩
              have kbX : Keeps [bl, bd, bs] wa wb := kb.mono (fun x hx => .inl (by simp at hx; simp [hx]))
              have hdb := Lib.hid (hda.out.keep kbX hownB.out hXle.out)
              have hrbb : Bts wb Ar r := by
                by_cases hre : r = []
                · exact .inl hre
                · exact hrba.out.keep kbX (fun a ha hx => by have := hrB.out hre a ha; have := hXle.out _ hx; omega)
              have hkwb := Lib.hid (hkwa.out.trans kbX)
              have hCb := Lib.hid (hC6.out.keepX hkwb.out hX.out)
              have HS := scan_ok wb bd bs (restart q.1) fi co ep hDb rfl (by show okR q.1.n fi co ep; rw [hTorn.out.n, hst.out.sz]; exact hok) hep
              rw [show sec (restart q.1) = sec q.1 from rfl] at HS
              obtain ⟨RR, hRR⟩ : ∃ RR, recsOf (strm (sec q.1) ep co fi) = RR := ⟨_, rfl⟩
              rw [hRR] at HS
              have hrec' := hrec.out
              rw [hRR] at hrec'
              replace HS := Lib.hid HS
              replace hrec' := Lib.hid hrec'
              replace hRR := Lib.hid hRR
              replace hrbb := Lib.hid hrbb
              have cc := hCb.out.blk.cell
              clear HRs hDa ka hda hrba hkwa kb kbX
              go_wp2_with fail
              refine HS.out.mono ?_
              rintro e wc ⟨v, rfl, ho, kc⟩
              obtain ⟨A1, c1, rfl, _, _⟩ := ho.slice
              have hdlt : Hid (∀ x ∈ (Value.slice Ad dn.length cd).ownBlock.toList, x < wb.heap.size) := Lib.hid (by
                obtain ⟨vs, h1, _⟩ := hdb.out
                intro x hx
                obtain ⟨_, cur, hc⟩ := own_blk h1 (g := x) (by simpa using hx)
                exact hc.lt)
              have hdc := Lib.hid (hdb.out.keep kc (by simp) (by simp))
              have hrbc := Lib.hid (hrbb.out.keep kc (by simp))
              have hkwc := Lib.hid (hkwb.out.trans kc.nil)
              have kf := Lib.hid (hC6.out.keep.nil.trans hkwc.out)
              replace ho := Lib.hid ho
              clear HS cc kc hdb hkwb hCb
              rcases hrec'.out with rfl | hRr
              · have HE := Lib.hid (equal_yes wc A1 Ad RR RR.length c1 cd rfl (by omega) ho.out.rows hdc.out.rows)
                go_wp2_with fail
                refine HE.out.mono ?_
                rintro e wd ⟨rfl, kd⟩
                clear HE
                go_wp2_with fail
                go_ret
                exact ⟨rfl, (kf.out.trans kd.nil).mono (fun x hx => .inr (by have := hX.out x hx; omega))⟩
              · have HE := Lib.hid (equal_len wc A1 Ad RR.length c1 dn.length cd (by rw [hRr]; simp))
                replace hRr := Lib.hid hRr
                obtain ⟨vs, hv1, hv2⟩ := hdc.out
                replace hv1 := Lib.hid hv1
                replace hv2 := Lib.hid hv2
                have hor := Lib.hid ho.out.rows
                go_wp2_with fail
                refine HE.out.mono ?_
                rintro e wd ⟨rfl, rfl⟩
                clear HE
                go_wp2_with (refine wpList_append_own2 rfl (.tmp 96) (.tmp 98) 36 rfl w6.heap.size 34 i0 (.slice none 0 0) 1 24 Try.underlying36 hi.out hz0.out hz1.out hz2x.out rfl (by decide) (.slice Ad dn.length cd) dn.length vs rfl (hv1.out.alloc _) ⟨wc.heap.size, 0, none⟩ 1 1 [.slice Ar rl c] rfl rfl (World.news_of_block (cs := #[.slice Ar rl c]) (t := 34) (fr := (0, 0)) (heap_alloc_new wc _)) (by simp [Value.oneCell']) ?_ ?_ ?_ ?_; (unfold maxLen; omega); omega; (have := hkwc.out.size; simp; omega); intro v' we ho1 hgr hn1; have ho2 := DoneAt.push hrl.out hbase hv2.out hv1.out hrbc.out hrB.out ho1 hgr; rw [← hRr.out] at ho2; obtain ⟨A2, c2, rfl, _, _⟩ := ho2.slice; have hor2 := Lib.hid ho2.rows; have kwe := keeps_of_grown (w := wc) (hv1.out.alloc (.cells #[.slice Ar rl c] 34)) hgr ((Keeps.refl [] wc).alloc _); have hor3 := Lib.hid (ho.out.keepX kwe hdlt.out).rows; clear kwe ho2; have ke := Lib.hid (keep_grown2 (hv1.out.alloc (.cells #[.slice Ar rl c] 34)) (hkwc.out.alloc _) (Nat.le_refl _) hgr); clear hn1 ho1 hgr)
                have HE := Lib.hid (equal_yes we A1 A2 RR RR.length c1 c2 rfl (by rw [hRr.out, List.length_append, List.length_singleton]; omega) hor3.out hor2.out)
                refine HE.out.mono ?_
                rintro e wf ⟨rfl, kf2⟩
                clear HE
                go_wp2_with fail
                go_ret
                exact ⟨rfl, ((hC6.out.keep.nil.trans ke.out).trans kf2.nil).mono (fun x hx => .inr (by have := hX.out x hx; omega))⟩
        · obtain rfl : k = nR := by omega
          have hS : recsOf (strm (sec s') ep co fi) = dn := by
            rw [strm_of hst.out.laid hfit0 hep]
            have := recsOf_encs dn [] (fun x hx => by have := hst.out.small x hx; omega)
            rw [List.append_nil] at this
            rw [this, recsOf_short (by simp), List.append_nil]
          have HS := scan_ok wr bd bs s' fi co ep hDL.out.1 hst.out.down (by rw [hst.out.sz]; exact hok) hep
          rw [hS] at HS
          replace HS := Lib.hid HS
          obtain ⟨Ad, cd, rfl, _, _⟩ := hdone.out.slice
          have cc := hCr.out.blk.cell
          have hfew := hst.out.few
          go_wp2_with fail
          refine HS.out.mono ?_
          rintro e wa ⟨v, rfl, ho, ka⟩
          obtain ⟨A1, c1, rfl, _, _⟩ := ho.slice
          have HE := Lib.hid (equal_yes wa A1 Ad dn dn.length c1 cd rfl (by omega) ho.rows (hdone.out.rows.keep ka))
          have kf := Lib.hid (hC6.out.keep.nil.trans (hkw.out.trans ka.nil))
          clear HS cc ho ka
          go_wp2_with fail
          refine HE.out.mono ?_
          rintro e wb ⟨rfl, kb⟩
          clear HE
          go_wp2_with fail
          go_ret
          exact ⟨rfl, (kf.out.trans kb.nil).mono (fun x hx => .inr (by have := hX.out x hx; omega))⟩
end Go.Proofs.Ytnoaahgjfknnlaa
