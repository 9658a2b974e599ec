/- Plain laws of Meet: what it hands back has the members of both; it is commutative and associative. -/
import Derived.Test.YtbinnmcodlejmaaCong4
namespace Go.Proofs.Ytbinnmcodlejmaa
set_option linter.unusedVariables false

theorem mem_no {aR aM bR bM n : Int} (ha : Val aR aM) (hb : Val bR bM) (hd : (bR - aR) % (Int.gcd aM bM : Int) ≠ 0) : (memB aR aM n && memB bR bM n) = false := by
  cases h : memB aR aM n && memB bR bM n
  · rfl
  · exfalso
    simp only [memB, Bool.and_eq_true, decide_eq_true_eq] at h
    obtain ⟨⟨_, h1⟩, _, h2⟩ := h
    have d1 : (Int.gcd aM bM : Int) ∣ n - aR := Int.dvd_trans (Int.gcd_dvd_left aM bM) (by rw [← h1]; exact Int.dvd_self_sub_emod)
    have d2 : (Int.gcd aM bM : Int) ∣ n - bR := Int.dvd_trans (Int.gcd_dvd_right aM bM) (by rw [← h2]; exact Int.dvd_self_sub_emod)
    have d3 := Int.dvd_sub d1 d2
    rw [show n - aR - (n - bR) = bR - aR by omega] at d3
    exact hd (Int.emod_eq_zero_of_dvd d3)

theorem dvd_both {aM bM x : Int} (hb : 1 ≤ bM) (h1 : aM ∣ x) (h2 : bM ∣ x) : aM * (bM / (Int.gcd aM bM : Int)) ∣ x := by
  obtain ⟨t, rfl⟩ := h1
  have e1 := mul_div_gcd_l aM bM
  have e2 := mul_div_gcd_r aM bM
  have ho := gcd_one aM bM hb
  have hg := gcd_pos_r (a := aM) hb
  generalize (Int.gcd aM bM : Int) = g at *
  have h3 : bM / g ∣ aM / g * t := by
    obtain ⟨u, hu⟩ := h2
    refine ⟨u, ?_⟩
    have h4 : (aM / g * t - bM / g * u) * g = 0 := by
      have h5 : aM / g * g * t = bM / g * g * u := by rw [e1, e2]; exact hu
      grind
    rcases Int.mul_eq_zero.1 h4 with h | h
    · omega
    · omega
  have h5 : bM / g ∣ t := by
    have h6 := Int.dvd_gcd_mul_iff_dvd_mul.2 h3
    rw [Int.gcd_comm, ho] at h6
    simpa using h6
  exact Int.mul_dvd_mul_left aM h5

theorem mem_yes {aR aM bR bM cR cM n : Int} (ha : Val aR aM) (hb : Val bR bM) (hc : Val cR cM) (hcM : cM = aM * (bM / (Int.gcd aM bM : Int))) (h4 : cR % aM = aR) (h5 : cR % bM = bR) :
    memB cR cM n = (memB aR aM n && memB bR bM n) := by
  unfold memB
  rw [valB_true ha, valB_true hb, valB_true hc, Bool.eq_iff_iff]
  simp only [Bool.true_and, Bool.and_eq_true, decide_eq_true_eq]
  have ea : aM ∣ cM := by rw [hcM]; exact ⟨_, rfl⟩
  have eb : bM ∣ cM := by
    have e1 := mul_div_gcd_l aM bM
    have e2 := mul_div_gcd_r aM bM
    rw [hcM]
    generalize (Int.gcd aM bM : Int) = g at *
    refine ⟨aM / g, ?_⟩
    have f1 : aM * (bM / g) = aM / g * g * (bM / g) := by rw [e1]
    have f2 : bM * (aM / g) = bM / g * g * (aM / g) := by rw [e2]
    rw [f1, f2]
    generalize bM / g = y
    generalize aM / g = x
    grind
  constructor
  · intro h
    refine ⟨?_, ?_⟩
    · rw [← h4, ← h, Int.emod_emod_of_dvd n ea]
    · rw [← h5, ← h, Int.emod_emod_of_dvd n eb]
  · rintro ⟨h1, h2⟩
    have d1 : aM ∣ n - cR := by
      have := Int.emod_emod_of_dvd
      exact Int.dvd_of_emod_eq_zero (Int.emod_eq_emod_iff_emod_sub_eq_zero.1 (by rw [h1, h4]))
    have d2 : bM ∣ n - cR := Int.dvd_of_emod_eq_zero (Int.emod_eq_emod_iff_emod_sub_eq_zero.1 (by rw [h2, h5]))
    have d3 := dvd_both hb.1 d1 d2
    rw [← hcM] at d3
    have h6 : n % cM = cR % cM := Int.emod_eq_emod_iff_emod_sub_eq_zero.2 (Int.emod_eq_zero_of_dvd d3)
    rw [h6]
    exact Int.emod_eq_of_lt hc.2.2.1 hc.2.2.2

theorem memB_iff {r m n : Int} (h : Val r m) : memB r m n = true ↔ n % m = r := by
  unfold memB; rw [valB_true h]; simp

theorem self_mem {r m : Int} (h : Val r m) : r % m = r := Int.emod_eq_of_lt h.2.2.1 h.2.2.2

theorem sub_zero_comm {a b g : Int} : (a - b) % g = 0 ↔ (b - a) % g = 0 := by
  constructor
  · intro h
    have := Int.dvd_of_emod_eq_zero h
    exact Int.emod_eq_zero_of_dvd (by rw [show b - a = -(a - b) by omega]; exact Int.dvd_neg.2 this)
  · intro h
    have := Int.dvd_of_emod_eq_zero h
    exact Int.emod_eq_zero_of_dvd (by rw [show a - b = -(b - a) by omega]; exact Int.dvd_neg.2 this)

theorem lcm_comm (aM bM : Int) : aM * (bM / (Int.gcd aM bM : Int)) = bM * (aM / (Int.gcd bM aM : Int)) := by
  rw [Int.gcd_comm bM aM]
  have e1 := mul_div_gcd_l aM bM
  have e2 := mul_div_gcd_r aM bM
  generalize (Int.gcd aM bM : Int) = g at *
  have f1 : aM * (bM / g) = aM / g * g * (bM / g) := by rw [e1]
  have f2 : bM * (aM / g) = bM / g * g * (aM / g) := by rw [e2]
  rw [f1, f2]
  generalize bM / g = y
  generalize aM / g = x
  grind

/-- Meet is commutative. -/
theorem MeetRes.comm {aR aM bR bM xR xM yR yM e f : Int} {p q : Bool} (h : MeetRes aR aM bR bM xR xM p e) (k : MeetRes bR bM aR aM yR yM q f) : xR = yR ∧ xM = yM ∧ p = q ∧ e = f := by
  have hc : (Int.gcd bM aM : Int) = (Int.gcd aM bM : Int) := by rw [Int.gcd_comm]
  rcases h with ⟨h0, h1, h2, h3, h4⟩ | ⟨ha, hb, h⟩
  · rcases k with ⟨k0, k1, k2, k3, k4⟩ | ⟨hb, ha, k⟩
    · exact ⟨by omega, by omega, by rw [h3, k3], by omega⟩
    · exact absurd ⟨ha, hb⟩ h0
  · rcases k with ⟨k0, _⟩ | ⟨_, _, k⟩
    · exact absurd ⟨hb, ha⟩ k0
    · have hl := lcm_comm aM bM
      rw [hc] at k hl
      rw [sub_zero_comm (a := aR) (b := bR)] at k
      rw [show ((aR - bR) % (Int.gcd aM bM : Int) ≠ 0) = ((bR - aR) % (Int.gcd aM bM : Int) ≠ 0) from by rw [ne_eq, ne_eq, sub_zero_comm]] at k
      rcases h with ⟨h0, h1, h2, h3, h4⟩ | ⟨h0, h1, h2, h3, h4, h5⟩ | ⟨h0, h1, h2, h3, h4, h5, h6⟩
      · rcases k with ⟨k0, k1, k2, k3, k4⟩ | ⟨k0, k1, k2, k3, k4, k5⟩ | ⟨k0, k1, k2, k3, k4, k5, k6⟩
        · exact ⟨by omega, by omega, by rw [h3, k3], by omega⟩
        · exact absurd k0 h0
        · exact absurd k0 h0
      · rcases k with ⟨k0, k1, k2, k3, k4⟩ | ⟨k0, k1, k2, k3, k4, k5⟩ | ⟨k0, k1, k2, k3, k4, k5, k6⟩
        · exact absurd h0 k0
        · exact ⟨by omega, by omega, by rw [h4, k4], by omega⟩
        · have := k2.2.1; rw [k1, ← hl] at this; omega
      · rcases k with ⟨k0, k1, k2, k3, k4⟩ | ⟨k0, k1, k2, k3, k4, k5⟩ | ⟨k0, k1, k2, k3, k4, k5, k6⟩
        · exact absurd h0 k0
        · have := h2.2.1; rw [h1, hl] at this; omega
        · have hM : xM = yM := by rw [h1, k1, hl]
          have d1 : aM ∣ xR - yR := Int.dvd_of_emod_eq_zero (Int.emod_eq_emod_iff_emod_sub_eq_zero.1 (by rw [h3, k4]))
          have d2 : bM ∣ xR - yR := Int.dvd_of_emod_eq_zero (Int.emod_eq_emod_iff_emod_sub_eq_zero.1 (by rw [h4, k3]))
          have d3 := dvd_both hb.1 d1 d2
          rw [← h1] at d3
          have h7 : xR % xM = yR % xM := Int.emod_eq_emod_iff_emod_sub_eq_zero.2 (Int.emod_eq_zero_of_dvd d3)
          rw [self_mem h2, hM, self_mem k2] at h7
          exact ⟨h7, hM, by rw [h5, k5], by omega⟩

/-- What an answer without an error says: the members are those of both, or there are none. -/
theorem MeetRes.said {aR aM bR bM xR xM : Int} {p : Bool} (h : MeetRes aR aM bR bM xR xM p 0) :
    Val aR aM ∧ Val bR bM ∧ ((p = false ∧ xR = 0 ∧ xM = 0 ∧ ∀ n, (memB aR aM n && memB bR bM n) = false) ∨
      (p = true ∧ Val xR xM ∧ aM ∣ xM ∧ bM ∣ xM ∧ (∀ m, aM ∣ m → bM ∣ m → xM ∣ m) ∧ ∀ n, memB xR xM n = (memB aR aM n && memB bR bM n))) := by
  rcases h with ⟨_, _, _, _, h⟩ | ⟨ha, hb, h⟩
  · omega
  · refine ⟨ha, hb, ?_⟩
    rcases h with ⟨h0, h1, h2, h3, h4⟩ | ⟨h0, h1, h2, h3, h4, h5⟩ | ⟨h0, h1, h2, h3, h4, h5, h6⟩
    · exact .inl ⟨h3, h1, h2, fun n => mem_no ha hb h0⟩
    · omega
    · refine .inr ⟨h5, h2, by rw [h1]; exact ⟨_, rfl⟩, by rw [h1, lcm_comm]; exact ⟨_, rfl⟩, fun m m1 m2 => by rw [h1]; exact dvd_both hb.1 m1 m2, fun n => mem_yes ha hb h2 h1 h3 h4⟩

/-- Meet is associative where no error occurs. -/
theorem MeetRes.assoc {aR aM bR bM cR cM xR xM zR zM lR lM rR rM : Int} {l k : Bool} (hx : MeetRes aR aM bR bM xR xM true 0) (hz : MeetRes bR bM cR cM zR zM true 0)
    (hl : MeetRes xR xM cR cM lR lM l 0) (hr : MeetRes aR aM zR zM rR rM k 0) : lR = rR ∧ lM = rM ∧ l = k := by
  obtain ⟨va, vb, hx⟩ := hx.said
  obtain ⟨_, vc, hz⟩ := hz.said
  obtain ⟨vx, _, hl⟩ := hl.said
  obtain ⟨_, vz, hr⟩ := hr.said
  rcases hx with ⟨h, _⟩ | ⟨_, _, x1, x2, x3, x4⟩
  · cases h
  rcases hz with ⟨h, _⟩ | ⟨_, _, z1, z2, z3, z4⟩
  · cases h
  rcases hl with ⟨l1, l2, l3, l4⟩ | ⟨l1, l2, l3, l4, l5, l6⟩ <;> rcases hr with ⟨r1, r2, r3, r4⟩ | ⟨r1, r2, r3, r4, r5, r6⟩
  · exact ⟨by omega, by omega, by rw [l1, r1]⟩
  · exfalso
    have h := (memB_iff r2).2 (self_mem r2)
    rw [r6, z4] at h
    have g := l4 rR
    rw [x4] at g
    simp only [Bool.and_eq_true] at h
    rw [h.1, h.2.1, h.2.2] at g
    cases g
  · exfalso
    have h := (memB_iff l2).2 (self_mem l2)
    rw [l6, x4] at h
    have g := r4 lR
    rw [z4] at g
    simp only [Bool.and_eq_true] at h
    rw [h.1.1, h.1.2, h.2] at g
    cases g
  · have d1 : lM ∣ rM := l5 rM (x3 rM r3 (Int.dvd_trans z1 r4)) (Int.dvd_trans z2 r4)
    have d2 : rM ∣ lM := r5 lM (Int.dvd_trans x1 l3) (z3 lM (Int.dvd_trans x2 l3) l4)
    have hM : lM = rM := Int.dvd_antisymm (by have := l2.1; omega) (by have := r2.1; omega) d1 d2
    have h := (memB_iff l2).2 (self_mem l2)
    have g : memB rR rM lR = true := by
      rw [r6, z4]
      rw [l6, x4] at h
      simp only [Bool.and_eq_true] at h ⊢
      exact ⟨h.1.1, h.1.2, h.2⟩
    rw [memB_iff r2, ← hM, self_mem l2] at g
    exact ⟨g, hM, by rw [l1, r1]⟩
end Go.Proofs.Ytbinnmcodlejmaa
