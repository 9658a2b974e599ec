/- The log in plain Lean: numbers of four bytes, sectors, streams, records. -/
namespace Go.Proofs.Ytnoaahgjfknnlaa
set_option linter.unusedVariables false

/-- A number in four bytes, most significant byte first. -/
def be32 (n : Nat) : List UInt8 := [UInt8.ofNat (n / 16777216), UInt8.ofNat (n / 65536), UInt8.ofNat (n / 256), UInt8.ofNat n]
/-- The number in the first four bytes. -/
def num (b : List UInt8) : Nat := (b.getD 0 0).toNat * 16777216 + (b.getD 1 0).toNat * 65536 + (b.getD 2 0).toNat * 256 + (b.getD 3 0).toNat

theorem be32_len (n : Nat) : (be32 n).length = 4 := rfl
theorem num_be32 {n : Nat} (h : n < 4294967296) (r : List UInt8) : num (be32 n ++ r) = n := by
  simp only [num, be32, List.cons_append, List.nil_append, List.getD_cons_zero, List.getD_cons_succ, UInt8.toNat_ofNat']
  omega
theorem num_lt (b : List UInt8) : num b < 4294967296 := by
  unfold num
  have h0 := (b.getD 0 0).toNat_lt
  have h1 := (b.getD 1 0).toNat_lt
  have h2 := (b.getD 2 0).toNat_lt
  have h3 := (b.getD 3 0).toNat_lt
  omega
theorem num_take (b : List UInt8) (k : Nat) (hk : 4 ≤ k) : num (b.take k) = num b := by
  simp only [num, List.getD_eq_getElem?_getD, List.getElem?_take, show (0 < k) = True by simp; omega, show (1 < k) = True by simp; omega, show (2 < k) = True by simp; omega, show (3 < k) = True by simp; omega, if_true]
theorem num_append (b r : List UInt8) (h : 4 ≤ b.length) : num (b ++ r) = num b := by
  rw [← num_take (b ++ r) b.length h, List.take_left]

/-- A sector of the log. -/
def pack (data : List UInt8) (ep : Nat) : List UInt8 := data ++ List.replicate (59 - data.length) 0 ++ [UInt8.ofNat data.length] ++ be32 ep
def cnt (b : List UInt8) : Nat := (b.getD 59 0).toNat
def epo (b : List UInt8) : Nat := num (b.drop 60)

theorem pack_len {data : List UInt8} {ep : Nat} (h : data.length ≤ 59) : (pack data ep).length = 64 := by
  simp only [pack, List.length_append, List.length_replicate, List.length_singleton, be32_len]
  omega
theorem pack_cnt {data : List UInt8} {ep : Nat} (h : data.length ≤ 59) : cnt (pack data ep) = data.length := by
  simp only [cnt, pack, List.getD_eq_getElem?_getD]
  rw [List.append_assoc, List.append_assoc, ← List.append_assoc, List.getElem?_append_right (by simp; omega)]
  simp only [List.length_append, List.length_replicate]
  rw [show 59 - (data.length + (59 - data.length)) = 0 by omega]
  simp only [List.singleton_append, List.getElem?_cons_zero, Option.getD_some, UInt8.toNat_ofNat']
  omega
theorem pack_epo {data : List UInt8} {ep : Nat} (h : data.length ≤ 59) (he : ep < 4294967296) : epo (pack data ep) = ep := by
  unfold epo pack
  rw [List.drop_append_of_le_length (by simp; omega), List.drop_of_length_le (by simp; omega)]
  have := num_be32 he []
  simpa using this
theorem pack_data {data : List UInt8} {ep : Nat} (h : data.length ≤ 59) : (pack data ep).take data.length = data := by
  unfold pack
  rw [List.append_assoc, List.append_assoc, List.take_left']
  rfl

/-- The stream that sectors hold, from sector i on, at most k of them. -/
def strm (S : Nat → List UInt8) (ep : Nat) : Nat → Nat → List UInt8
  | 0, _ => []
  | k + 1, i =>
    if epo (S i) ≠ ep ∨ 59 < cnt (S i) then [] else (S i).take (cnt (S i)) ++ (if cnt (S i) < 59 then [] else strm S ep k (i + 1))

/-- The records of a stream. -/
def recs : Nat → List UInt8 → List (List UInt8)
  | 0, _ => []
  | f + 1, s => if s.length < 4 then [] else if 16777216 < num s ∨ s.length < num s + 4 then [] else (s.drop 4).take (num s) :: recs f (s.drop (num s + 4))

def enc (r : List UInt8) : List UInt8 := be32 r.length ++ r
def encs : List (List UInt8) → List UInt8
  | [] => []
  | r :: rs => enc r ++ encs rs
theorem enc_len (r : List UInt8) : (enc r).length = r.length + 4 := by
  simp only [enc, List.length_append, be32_len]; omega
theorem encs_append : ∀ a b, encs (a ++ b) = encs a ++ encs b
  | [], b => rfl
  | r :: a, b => by
    show enc r ++ encs (a ++ b) = enc r ++ encs a ++ encs b
    rw [encs_append, List.append_assoc]
theorem encs_snoc (a : List (List UInt8)) (r : List UInt8) : encs (a ++ [r]) = encs a ++ enc r := by
  rw [encs_append]
  simp [encs]

theorem recs_more : ∀ (f g : Nat) (s : List UInt8), s.length ≤ f → s.length ≤ g → recs f s = recs g s
  | 0, 0, s, _, _ => rfl
  | 0, g + 1, s, h, _ => by
    unfold recs
    rw [if_pos (by omega)]
  | f + 1, 0, s, _, h => by
    unfold recs
    rw [if_pos (by omega)]
  | f + 1, g + 1, s, h1, h2 => by
    unfold recs
    split
    · rfl
    · split
      · rfl
      · rw [recs_more f g _ (by rw [List.length_drop]; omega) (by rw [List.length_drop]; omega)]
def recsOf (s : List UInt8) : List (List UInt8) := recs s.length s

theorem recsOf_short {s : List UInt8} (h : s.length < 4) : recsOf s = [] := by
  unfold recsOf
  cases hl : s.length with
  | zero => rfl
  | succ n => unfold recs; rw [if_pos h]
theorem recsOf_stop {s : List UInt8} (h : 4 ≤ s.length) (hx : 16777216 < num s ∨ s.length < num s + 4) : recsOf s = [] := by
  unfold recsOf
  obtain ⟨n, hn⟩ : ∃ n, s.length = n + 1 := ⟨s.length - 1, by omega⟩
  rw [hn]
  unfold recs
  rw [if_neg (by omega), if_pos hx]
theorem recsOf_step {s : List UInt8} (h : 4 ≤ s.length) (h1 : num s ≤ 16777216) (h2 : num s + 4 ≤ s.length) : recsOf s = (s.drop 4).take (num s) :: recsOf (s.drop (num s + 4)) := by
  unfold recsOf
  obtain ⟨n, hn⟩ : ∃ n, s.length = n + 1 := ⟨s.length - 1, by omega⟩
  rw [hn]
  show (if s.length < 4 then [] else if 16777216 < num s ∨ s.length < num s + 4 then [] else (s.drop 4).take (num s) :: recs n (s.drop (num s + 4))) = _
  rw [if_neg (by omega), if_neg (by omega), recs_more n _ _ (by rw [List.length_drop]; omega) (Nat.le_refl _)]

theorem recsOf_enc (r rest : List UInt8) (h : r.length ≤ 16777216) : recsOf (enc r ++ rest) = r :: recsOf rest := by
  have hn : num (enc r ++ rest) = r.length := by
    unfold enc
    rw [List.append_assoc, num_be32 (by omega)]
  have hl : (enc r ++ rest).length = r.length + 4 + rest.length := by rw [List.length_append, enc_len]
  rw [recsOf_step (by omega) (by omega) (by omega), hn]
  congr 1
  · unfold enc
    rw [List.append_assoc, List.drop_left' (by rfl), List.take_left' (by rfl)]
  · rw [List.drop_left' (by rw [enc_len])]
theorem recsOf_encs : ∀ (rs : List (List UInt8)) (rest : List UInt8), (∀ r ∈ rs, r.length ≤ 16777216) → recsOf (encs rs ++ rest) = rs ++ recsOf rest
  | [], rest, _ => rfl
  | r :: rs, rest, h => by
    show recsOf (enc r ++ encs rs ++ rest) = r :: (rs ++ recsOf rest)
    rw [List.append_assoc, recsOf_enc _ _ (h r (by simp)), recsOf_encs rs rest (fun x hx => h x (by simp [hx]))]
/-- A record that is cut short is none. -/
theorem recsOf_cut (r : List UInt8) (k : Nat) (hk : k < r.length + 4) (hr : r.length < 4294967296) : recsOf ((enc r).take k) = [] := by
  have hl : ((enc r).take k).length = k := by rw [List.length_take, enc_len]; omega
  by_cases h4 : k < 4
  · exact recsOf_short (by omega)
  · refine recsOf_stop (by omega) (.inr ?_)
    rw [num_take _ _ (by omega)]
    have := num_be32 hr r
    unfold enc
    rw [this]
    unfold enc at hl
    omega

/-- The part of a stream that its sector j holds. -/
def chunk (L : List UInt8) (j : Nat) : List UInt8 := (L.drop (59 * j)).take 59
theorem chunk_le (L : List UInt8) (j : Nat) : (chunk L j).length ≤ 59 := by
  unfold chunk; rw [List.length_take]; omega
theorem chunk_len (L : List UInt8) (j : Nat) : (chunk L j).length = min 59 (L.length - 59 * j) := by
  unfold chunk; rw [List.length_take, List.length_drop]

/-- Sectors hold a stream, and behind it nothing of the epoch. -/
def Laid (S : Nat → List UInt8) (first count ep : Nat) (L : List UInt8) : Prop :=
  ∀ j, j < count → if 59 * j < L.length then S (first + j) = pack (chunk L j) ep else epo (S (first + j)) ≠ ep

theorem strm_laid {S : Nat → List UInt8} {first count ep : Nat} {L : List UInt8} (h : Laid S first count ep L) (hL : L.length ≤ 59 * count) (he : ep < 4294967296) :
    ∀ k j, j + k = count → strm S ep k (first + j) = L.drop (59 * j)
  | 0, j, hj => by
    have : L.length ≤ 59 * j := by have : j = count := by omega
                                   subst this; exact hL
    rw [List.drop_of_length_le this]
    rfl
  | k + 1, j, hj => by
    have hs := h j (by omega)
    unfold strm
    by_cases hlt : 59 * j < L.length
    · rw [if_pos hlt] at hs
      rw [hs, pack_epo (chunk_le _ _) he, pack_cnt (chunk_le _ _), pack_data (chunk_le _ _)]
      have hcl := chunk_len L j
      rw [if_neg (by omega)]
      by_cases hf : (chunk L j).length < 59
      · rw [if_pos hf, List.append_nil]
        unfold chunk
        rw [List.take_of_length_le (by rw [List.length_drop]; omega)]
      · rw [if_neg hf]
        have ih := strm_laid h hL he k (j + 1) (by omega)
        rw [show first + j + 1 = first + (j + 1) by omega, ih]
        unfold chunk
        rw [show 59 * (j + 1) = 59 * j + 59 by omega, ← List.drop_drop, List.take_append_drop]
    · rw [if_neg hlt] at hs
      rw [if_pos (.inl hs), List.drop_of_length_le (by omega)]
theorem strm_of {S : Nat → List UInt8} {first count ep : Nat} {L : List UInt8} (h : Laid S first count ep L) (hL : L.length ≤ 59 * count) (he : ep < 4294967296) : strm S ep count first = L := by
  have := strm_laid h hL he count 0 (by omega)
  simpa using this
end Go.Proofs.Ytnoaahgjfknnlaa
