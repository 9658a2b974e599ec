/- The records behind a torn write: those of before, or these and the one that was being appended. -/
import Derived.Test.YtnoaahgjfknnlaaWalR
namespace Go.Proofs.Ytnoaahgjfknnlaa
open Go.RowKit
set_option linter.unusedSimpArgs false
set_option linter.unusedVariables false

/-- What of the sectors the reader looks at. -/
def LaidW (S : Nat → List UInt8) (first count ep : Nat) (L : List UInt8) : Prop :=
  ∀ j, j < count → if 59 * j < L.length then epo (S (first + j)) = ep ∧ cnt (S (first + j)) = (chunk L j).length ∧ (S (first + j)).take (chunk L j).length = chunk L j else epo (S (first + j)) ≠ ep ∨ (59 * j < L.length + 59 ∧ L.length % 59 ≠ 0)

theorem strm_laidW {S : Nat → List UInt8} {first count ep : Nat} {L : List UInt8} (h : LaidW S first count ep L) (hL : L.length ≤ 59 * count) :
    ∀ k j, j + k = count → 59 * j ≤ L.length → strm S ep k (first + j) = L.drop (59 * j)
  | 0, j, hj, _ => by
    rw [List.drop_of_length_le (by omega)]
    rfl
  | k + 1, j, hj, hjl => by
    have hs := h j (by omega)
    by_cases hlt : 59 * j < L.length
    · rw [if_pos hlt] at hs
      obtain ⟨h1, h2, h3⟩ := hs
      have hcl := chunk_len L j
      rw [strm_succ, if_neg (by rw [h1, h2, hcl]; omega), h2, h3]
      by_cases hf : (chunk L j).length < 59
      · rw [if_pos hf, List.append_nil]
        unfold chunk
        rw [List.take_of_length_le (by rw [List.length_drop]; omega)]
      · rw [if_neg hf]
        have ih := strm_laidW h hL k (j + 1) (by omega) (by omega)
        rw [show first + j + 1 = first + (j + 1) by omega, ih]
        unfold chunk
        rw [show 59 * (j + 1) = 59 * j + 59 by omega, ← List.drop_drop, List.take_append_drop]
    · rw [if_neg hlt] at hs
      have h1 : epo (S (first + j)) ≠ ep := by
        rcases hs with h | ⟨_, h⟩
        · exact h
        · omega
      rw [strm_stop (.inl h1), List.drop_of_length_le (by omega)]
theorem strm_ofW {S : Nat → List UInt8} {first count ep : Nat} {L : List UInt8} (h : LaidW S first count ep L) (hL : L.length ≤ 59 * count) : strm S ep count first = L := by
  have := strm_laidW h hL count 0 (by omega) (by omega)
  simpa using this

theorem chunk_take (L : List UInt8) (K j : Nat) (h : 59 * (j + 1) ≤ K ∨ L.length ≤ K) : chunk (L.take K) j = chunk L j := by
  unfold chunk
  rcases h with h | h
  · rw [List.drop_take, List.take_take, Nat.min_eq_left (by omega)]
  · rw [List.take_of_length_le h]

theorem num_four (a0 a1 a2 a3 : UInt8) : num [a0, a1, a2, a3] = a0.toNat * 16777216 + a1.toNat * 65536 + a2.toNat * 256 + a3.toNat := rfl
theorem num_inj {a b : List UInt8} (ha : a.length = 4) (hb : b.length = 4) (h : num a = num b) : a = b := by
  obtain ⟨a0, a1, a2, a3, ra, rfl⟩ := four a (by omega)
  obtain ⟨b0, b1, b2, b3, rb, rfl⟩ := four b (by omega)
  obtain rfl : ra = [] := List.eq_nil_of_length_eq_zero (by simp only [List.length_cons] at ha; omega)
  obtain rfl : rb = [] := List.eq_nil_of_length_eq_zero (by simp only [List.length_cons] at hb; omega)
  rw [num_four, num_four] at h
  have h0 := a0.toNat_lt
  have h1 := a1.toNat_lt
  have h2 := a2.toNat_lt
  have h3 := a3.toNat_lt
  have g0 := b0.toNat_lt
  have g1 := b1.toNat_lt
  have g2 := b2.toNat_lt
  have g3 := b3.toNat_lt
  have e0 : a0 = b0 := UInt8.toNat_inj.1 (by omega)
  have e1 : a1 = b1 := UInt8.toNat_inj.1 (by omega)
  have e2 : a2 = b2 := UInt8.toNat_inj.1 (by omega)
  have e3 : a3 = b3 := UInt8.toNat_inj.1 (by omega)
  rw [e0, e1, e2, e3]

/-- A mix of a sector of the epoch and another one that ends with the epoch is that sector, if the mix goes beyond the data. -/
theorem mix_new {P O : List UInt8} {t ep : Nat} (hP : P.length = 64) (hO : O.length = 64) (he : epo P = ep) (ht : 60 ≤ t) (hx : epo (P.take t ++ O.drop (P.take t).length) = ep) : P.take t ++ O.drop (P.take t).length = P := by
  have hl : (P.take t).length = min t 64 := by rw [List.length_take, hP]
  have hX : (P.take t ++ O.drop (P.take t).length).length = 64 := by rw [List.length_append, List.length_drop, hl, hO]; omega
  have h60 : (P.take t ++ O.drop (P.take t).length).take 60 = P.take 60 := by
    rw [List.take_append_of_le_length (by omega), List.take_take, Nat.min_eq_left ht]
  have hd : (P.take t ++ O.drop (P.take t).length).drop 60 = P.drop 60 := by
    refine num_inj (by rw [List.length_drop, hX]) (by rw [List.length_drop, hP]) ?_
    exact hx.trans he.symm
  rw [← List.take_append_drop 60 (P.take t ++ O.drop (P.take t).length), h60, hd, List.take_append_drop]
theorem mix_old {P O : List UInt8} {t : Nat} (hP : P.length = 64) (ht : t ≤ 60) : epo (P.take t ++ O.drop (P.take t).length) = epo O := by
  unfold epo
  have hl : (P.take t).length = t := by rw [List.length_take, hP]; omega
  rw [hl, List.drop_append, List.drop_of_length_le (by omega), List.nil_append, List.drop_drop, hl, show t + (60 - t) = 60 by omega]

/-- What the reader finds behind a torn write: a prefix of the new stream that holds the old one. -/
theorem torn_strm {s : St} {q : St × Int} {fi co ep : Nat} {L r : List UInt8} (h : Laid (sec s) fi co ep L) (hT : Torn s (fi + L.length / 59) ep (L.drop (59 * (L.length / 59)) ++ enc r) q)
    (hfit : L.length + (r.length + 4) ≤ 59 * co) (hep : ep < 4294967296) (hsl : ∀ j, j < co → (sec s (fi + j)).length = 64) :
    ∃ K, L.length ≤ K ∧ strm (sec q.1) ep co fi = (L ++ enc r).take K := by
  obtain ⟨m, hm, hbef, htor, haft⟩ := hT.ex
  have hD : L.drop (59 * (L.length / 59)) ++ enc r = (L ++ enc r).drop (59 * (L.length / 59)) := by rw [List.drop_append_of_le_length (by omega)]
  have hl' : (L ++ enc r).length = L.length + (r.length + 4) := by rw [List.length_append, enc_len]
  rw [hD] at hm hbef htor
  rw [List.length_drop] at hm
  have hck : ∀ j, chunk ((L ++ enc r).drop (59 * (L.length / 59))) j = chunk (L ++ enc r) (L.length / 59 + j) := by
    intro j
    unfold chunk
    rw [List.drop_drop, show 59 * (L.length / 59) + 59 * j = 59 * (L.length / 59 + j) by omega]
  rw [hck] at htor
  obtain ⟨J, hJ⟩ : ∃ J, L.length / 59 + m = J := ⟨_, rfl⟩
  rw [show fi + L.length / 59 + m = fi + J by omega, hJ] at htor
  have hJco : J < co := by omega
  -- the sectors ahead of the torn one
  have hpre : ∀ j, j < J → sec q.1 (fi + j) = pack (chunk (L ++ enc r) j) ep := by
    intro j hj
    by_cases hjat : j < L.length / 59
    · rw [haft (fi + j) (.inl (by omega))]
      have hs := h j (by omega)
      rw [if_pos (by omega)] at hs
      rw [hs]
      congr 1
      unfold chunk
      rw [List.drop_append_of_le_length (by omega), List.take_append_of_le_length (by rw [List.length_drop]; omega)]
    · have e := hbef (j - L.length / 59) (by omega)
      rw [hck, show L.length / 59 + (j - L.length / 59) = j by omega, show fi + L.length / 59 + (j - L.length / 59) = fi + j by omega] at e
      exact e
  -- the sectors behind it
  have hpost : ∀ j, J < j → j < co → epo (sec q.1 (fi + j)) ≠ ep := by
    intro j hj hjc
    rw [haft (fi + j) (.inr (by omega))]
    have hs := h j hjc
    rw [if_neg (by omega)] at hs
    exact hs
  have hP : (pack (chunk (L ++ enc r) J) ep).length = 64 := pack_len (chunk_le _ _)
  have hPe : epo (pack (chunk (L ++ enc r) J) ep) = ep := pack_epo (chunk_le _ _) hep
  have hO := hsl J hJco
  have hOs := h J hJco
  generalize ht : s.bytes.toNat = t at *
  -- the good sectors as the reader sees them
  have good : ∀ (K j : Nat), (59 * (j + 1) ≤ K ∨ (L ++ enc r).length ≤ K) → sec q.1 (fi + j) = pack (chunk (L ++ enc r) j) ep → epo (sec q.1 (fi + j)) = ep ∧ cnt (sec q.1 (fi + j)) = (chunk ((L ++ enc r).take K) j).length ∧ (sec q.1 (fi + j)).take (chunk ((L ++ enc r).take K) j).length = chunk ((L ++ enc r).take K) j := by
    intro K j hK e
    rw [chunk_take _ _ _ hK, e]
    exact ⟨pack_epo (chunk_le _ _) hep, pack_cnt (chunk_le _ _), pack_data (chunk_le _ _)⟩
  by_cases hX : epo (sec q.1 (fi + J)) = ep ∧ 60 ≤ t
  · -- the torn sector is the new one
    have hnew : sec q.1 (fi + J) = pack (chunk (L ++ enc r) J) ep := by
      rw [htor]
      exact mix_new hP hO hPe hX.2 (by rw [← htor]; exact hX.1)
    refine ⟨59 * (J + 1), by omega, strm_ofW ?_ (by rw [List.length_take]; omega)⟩
    intro j hj
    have hlen : ((L ++ enc r).take (59 * (J + 1))).length = min (59 * (J + 1)) (L ++ enc r).length := List.length_take
    by_cases hlt : 59 * j < ((L ++ enc r).take (59 * (J + 1))).length
    · rw [if_pos hlt]
      refine good _ j (.inl (by omega)) ?_
      rcases Nat.lt_or_ge j J with hjJ | hjJ
      · exact hpre j hjJ
      · obtain rfl : j = J := by omega
        exact hnew
    · rw [if_neg hlt]
      exact .inl (hpost j (by omega) hj)
  · by_cases hE : epo (sec q.1 (fi + J)) = ep
    · -- the data alone has turned: the old tail is read
      have ht60 : t < 60 := by
        rcases Nat.lt_or_ge t 60 with h1 | h1
        · exact h1
        · exact absurd ⟨hE, h1⟩ hX
      have hoe : epo (sec s (fi + J)) = ep := by
        rw [htor, mix_old hP (by omega)] at hE
        exact hE
      have hlt : 59 * J < L.length := by
        by_cases hh : 59 * J < L.length
        · exact hh
        · rw [if_neg hh] at hOs
          exact absurd hoe hOs
      rw [if_pos hlt] at hOs
      have hJat : J = L.length / 59 := by omega
      have hv : (chunk L J).length = L.length % 59 := by rw [chunk_len]; omega
      have hcut : chunk ((L ++ enc r).take L.length) J = chunk L J := by rw [List.take_left]
      refine ⟨L.length, Nat.le_refl _, strm_ofW ?_ (by rw [List.take_left]; omega)⟩
      intro j hj
      rw [List.take_left]
      by_cases hjl : 59 * j < L.length
      · rw [if_pos hjl]
        rcases Nat.lt_or_ge j J with hjJ | hjJ
        · have := good L.length j (.inl (by omega)) (hpre j hjJ)
          rw [List.take_left] at this
          exact this
        · obtain rfl : j = J := by omega
          have hpl : ((pack (chunk (L ++ enc r) j) ep).take t).length = t := by rw [List.length_take, hP]; omega
          have hbytes : ∀ i, t ≤ i → (sec q.1 (fi + j))[i]? = (sec s (fi + j))[i]? := by
            intro i hi
            rw [htor, List.getElem?_append_right (by omega), hpl, List.getElem?_drop, show t + (i - t) = i by omega]
          refine ⟨hE, ?_, ?_⟩
          · unfold cnt
            rw [List.getD_eq_getElem?_getD, hbytes 59 (by omega), ← List.getD_eq_getElem?_getD, hOs]
            exact pack_cnt (chunk_le _ _)
          · apply List.ext_getElem?
            intro i
            have hpre1 : (pack (chunk L j) ep).take (chunk L j).length = chunk L j := pack_data (chunk_le _ _)
            have hpre2 : (chunk (L ++ enc r) j).take (chunk L j).length = chunk L j := by
              unfold chunk
              rw [List.drop_append_of_le_length (by omega), List.take_take, Nat.min_eq_left (by rw [List.length_take]; omega)]
              rw [List.take_append_of_le_length (by rw [List.length_take]; omega), List.length_take, List.length_drop]
              rw [List.take_of_length_le (by rw [List.length_drop]; omega), List.take_of_length_le (by rw [List.length_drop]; omega)]
            by_cases hi : i < (chunk L j).length
            · rw [List.getElem?_take, if_pos hi]
              by_cases hit : i < t
              · rw [htor, List.getElem?_append_left (by omega), List.getElem?_take, if_pos hit]
                have e1 : (pack (chunk (L ++ enc r) j) ep)[i]? = (chunk (L ++ enc r) j)[i]? := by
                  have h1 : (chunk L j).length ≤ (chunk (L ++ enc r) j).length := by rw [chunk_len, chunk_len, hl']; omega
                  unfold pack
                  rw [List.append_assoc, List.append_assoc, List.getElem?_append_left (by omega)]
                have a1 : (chunk L j)[i]? = (chunk (L ++ enc r) j)[i]? := by
                  conv => lhs; rw [← hpre2]
                  rw [List.getElem?_take, if_pos hi]
                rw [e1, a1]
              · have a2 : (chunk L j)[i]? = (pack (chunk L j) ep)[i]? := by
                  conv => lhs; rw [← hpre1]
                  rw [List.getElem?_take, if_pos hi]
                rw [hbytes i (by omega), hOs, a2]
            · rw [List.getElem?_eq_none (by rw [List.length_take]; omega), List.getElem?_eq_none (by omega)]
      · rw [if_neg hjl]
        left
        exact hpost j (by omega) hj
    · -- the reader stops at the torn sector
      refine ⟨59 * J, ?_, strm_ofW ?_ (by rw [List.length_take]; omega)⟩
      · rcases Nat.lt_or_ge (59 * J) L.length with hh | hh
        · exfalso
          rw [if_pos hh] at hOs
          have hoe : epo (sec s (fi + J)) = ep := by rw [hOs]; exact pack_epo (chunk_le _ _) hep
          rcases Nat.lt_or_ge t 60 with h1 | h1
          · exact hE (by rw [htor, mix_old hP (by omega)]; exact hoe)
          · refine hE ?_
            rw [htor]
            have hX64 : epo ((pack (chunk (L ++ enc r) J) ep).take t ++ (sec s (fi + J)).drop ((pack (chunk (L ++ enc r) J) ep).take t).length) = ep := by
              have hpd : (pack (chunk (L ++ enc r) J) ep).drop 60 = (sec s (fi + J)).drop 60 := num_inj (by rw [List.length_drop, hP]) (by rw [List.length_drop, hO]) (hPe.trans hoe.symm)
              have hpl : ((pack (chunk (L ++ enc r) J) ep).take t).length = min t 64 := by rw [List.length_take, hP]
              have e : (pack (chunk (L ++ enc r) J) ep).take t ++ (sec s (fi + J)).drop ((pack (chunk (L ++ enc r) J) ep).take t).length = pack (chunk (L ++ enc r) J) ep := by
                rw [hpl]
                have e2 : (sec s (fi + J)).drop (min t 64) = (pack (chunk (L ++ enc r) J) ep).drop (min t 64) := by
                  have := congrArg (fun l => l.drop (min t 64 - 60)) hpd
                  simp only [List.drop_drop] at this
                  rw [show 60 + (min t 64 - 60) = min t 64 by omega] at this
                  exact this.symm
                rw [e2]
                rcases Nat.lt_or_ge t 64 with h2 | h2
                · rw [Nat.min_eq_left (by omega), List.take_append_drop]
                · rw [List.take_of_length_le (by omega), List.drop_of_length_le (by omega), List.append_nil]
              rw [e]; exact hPe
            exact hX64
        · exact hh
      · intro j hj
        have hlen : ((L ++ enc r).take (59 * J)).length = min (59 * J) (L ++ enc r).length := List.length_take
        by_cases hlt : 59 * j < ((L ++ enc r).take (59 * J)).length
        · rw [if_pos hlt]
          exact good _ j (.inl (by omega)) (hpre j (by omega))
        · rw [if_neg hlt]
          left
          rcases Nat.lt_or_ge J j with hjJ | hjJ
          · exact hpost j hjJ hj
          · obtain rfl : j = J := by omega
            exact hE

/-- The records that Scan finds behind a torn write. -/
theorem torn_recs {s : St} {q : St × Int} {fi co ep : Nat} {rs : List (List UInt8)} {r : List UInt8} (h : Laid (sec s) fi co ep (encs rs)) (hT : Torn s (fi + (encs rs).length / 59) ep ((encs rs).drop (59 * ((encs rs).length / 59)) ++ enc r) q)
    (hfit : (encs rs).length + (r.length + 4) ≤ 59 * co) (hep : ep < 4294967296) (hsl : ∀ j, j < co → (sec s (fi + j)).length = 64) (hrs : ∀ x ∈ rs, x.length ≤ 16777216) (hr : r.length ≤ 16777216) :
    recsOf (strm (sec q.1) ep co fi) = rs ∨ recsOf (strm (sec q.1) ep co fi) = rs ++ [r] := by
  obtain ⟨K, hK, e⟩ := torn_strm h hT hfit hep hsl
  rw [e, List.take_append, List.take_of_length_le hK, recsOf_encs rs _ hrs]
  rcases Nat.lt_or_ge (K - (encs rs).length) (r.length + 4) with h1 | h1
  · left
    rw [recsOf_cut r _ h1 (by omega), List.append_nil]
  · right
    rw [List.take_of_length_le (by rw [enc_len]; omega)]
    have := recsOf_enc r [] hr
    rw [List.append_nil] at this
    rw [this, recsOf_short (by simp)]
end Go.Proofs.Ytnoaahgjfknnlaa
