/- The references' bytes and words of a row, as lists: no program in sight but its plain functions. -/
import Derived.Test.YtmpbcmnnlkienaaPlainB
import Derived.Test.YtmpbcmnnlkienaaHSx4
namespace Go.Proofs.Ytmpbcmnnlkienaa.Pure
open Go.RowKit Go.Proofs.Ytmpbcmnnlkienaa.HS Go.Proofs.YtmpbcmnnlkienaaW.PrintWords Go.Proofs.YtmpbcmnnlkienaaW.PrintLast Go.Proofs.YtmpbcmnnlkienaaW.PrintMore
set_option linter.unusedVariables false
theorem refNum (n k : Nat) (h : n < 128) : garnerref01_Number.f (k + 1) (IntKind.u64.wrap (n : Int)) = some [(n : Int)] := by
  unfold garnerref01_Number.f
  rw [Rd.wrap_u64_nat n (by omega), garnerref01_Number.l0, if_neg (by omega), if_pos (by simp)]
  rw [List.nil_append, show (n : Int) % 256 = (n : Int) by omega]
theorem refBytes1 (f : List Int) (k : Nat) (h : f.length < 128) : garnerref01_Bytes.f (k + 1) f = some ((f.length : Int) :: f) := by
  unfold garnerref01_Bytes.f
  rw [refNum f.length k h, Option.bind_some, if_pos (by simp only [List.length_cons, List.length_nil]; omega)]
  rfl
theorem refBytes_go (l : List (List Int)) (hf : ∀ f ∈ l, f.length ≤ 24) (hl : l.length ≤ 3) : ∀ (k i : Nat) (x : List Int), l.length - i + 1 < k → i ≤ l.length → x.length ≤ 100 * i + 1 → garnerref13_Bytes.l0 k l x (i : Int) = some (x ++ cat (l.drop i))
  | 0, i, x, h, _, _ => by omega
  | k + 1, i, x, h, hi, hx => by
    rw [garnerref13_Bytes.l0]
    by_cases hlt : i < l.length
    · obtain ⟨k', rfl⟩ : ∃ k', k = k' + 1 := ⟨k - 1, by omega⟩
      have h24 := hf l[i] (List.getElem_mem hlt)
      rw [if_pos (by omega), if_pos (by omega), rd_L2_at l i hlt, refBytes1 _ k' (by omega), Option.bind_some, if_pos (by simp only [List.length_cons]; omega), w64_1 i (by omega), refBytes_go l hf hl (k' + 1) (i + 1) _ (by omega) (by omega) (by rw [List.length_append, List.length_cons]; omega), List.drop_eq_getElem_cons hlt, cat_cons, List.append_assoc, List.cons_append]
    · rw [if_neg (by omega), List.drop_eq_nil_of_le (by omega)]
      simp [cat]
theorem refBytes_eq {l : List (List Int)} (h : mayB l = true) (k : Nat) (hk : 10 ≤ k) : garnerref13_Bytes.f k l = some (rowB l) := by
  obtain ⟨h1, h2, h3⟩ := (may_iff l).1 h
  obtain ⟨k', rfl⟩ : ∃ k', k = k' + 1 := ⟨k - 1, by omega⟩
  unfold garnerref13_Bytes.f
  rw [refNum l.length k' (by omega), Option.bind_some, show (0 : Int) = ((0 : Nat) : Int) from rfl, refBytes_go l h3 h2 (k' + 1) 0 _ (by omega) (by omega) (by simp), rowB_eq h, List.drop_zero]
  rfl
theorem w_p8 (q : Nat) (h : q ≤ 1000) : wrap64 (((8 * q : Nat) : Int) + 8) = ((8 * (q + 1) : Nat) : Int) := by unfold wrap64; omega
theorem pk_bd {b : List Int} (hb : Rd.Byt b) (q j : Nat) (hj : j < 8) : pk b q j * 256 < 18446744073709551616 ∧ pk b q (j + 1) < 18446744073709551616 := by
  have hp := pk_lt hb q j
  have hp2 := pk_lt hb q (j + 1)
  have h7 : (256 : Nat) ^ j ≤ 72057594037927936 := Nat.le_trans (Nat.pow_le_pow_right (by decide) (show j ≤ 7 by omega)) (by decide)
  have h8 : (256 : Nat) ^ (j + 1) ≤ 18446744073709551616 := Nat.le_trans (Nat.pow_le_pow_right (by decide) (show j + 1 ≤ 8 by omega)) (by decide)
  generalize 256 ^ j = p at hp h7
  generalize 256 ^ (j + 1) = p2 at hp2 h8
  exact ⟨by omega, by omega⟩
theorem pk_w1 {b : List Int} (hb : Rd.Byt b) (q j : Nat) (hj : j < 8) : IntKind.u64.wrap ((pk b q j : Int) * 256) = ((pk b q j * 256 : Nat) : Int) := by
  have h := (pk_bd hb q j hj).1
  rw [show (pk b q j : Int) * 256 = ((pk b q j * 256 : Nat) : Int) by omega]
  exact Rd.wrap_u64_nat _ h
theorem pk_w2 {b : List Int} (hb : Rd.Byt b) (q j : Nat) (hj : j < 8) (hlt : 8 * q + j < b.length) : IntKind.u64.wrap (((pk b q j * 256 : Nat) : Int) + IntKind.u64.wrap (rd b ((8 * q + j : Nat) : Int))) = ((pk b q (j + 1) : Nat) : Int) := by
  have h := (pk_bd hb q j hj).2
  have hv := Rd.byt_rd hb hlt
  obtain ⟨v, hvv⟩ : ∃ v : Nat, rd b ((8 * q + j : Nat) : Int) = (v : Int) := ⟨(rd b ((8 * q + j : Nat) : Int)).toNat, by omega⟩
  have hpk : pk b q (j + 1) = pk b q j * 256 + v := by rw [pk, if_pos hlt, hvv, Int.toNat_natCast]
  rw [hvv, Rd.wrap_u64_nat v (by omega), show ((pk b q j * 256 : Nat) : Int) + (v : Int) = ((pk b q (j + 1) : Nat) : Int) by rw [hpk]; omega, Rd.wrap_u64_nat _ h]
theorem refWords_in {b : List Int} (hb : Rd.Byt b) (hl : b.length ≤ 1000) (q : Nat) (hq : 8 * q ≤ b.length) (x4 : List Int) (hx : x4.length ≤ 1000) (d : Nat) : ∀ (j k K : Nat), j + d = 8 → K = k + d + 1 → garnerref13_Words.l1 K b x4 ((8 * q : Nat) : Int) (pk b q j : Int) ((8 * q + j : Nat) : Int) = garnerref13_Words.l0 k b (x4 ++ [(pk b q 8 : Int)]) ((8 * (q + 1) : Nat) : Int) := by
  induction d with
  | zero =>
    intro j k K hj hK
    obtain rfl : j = 8 := by omega
    obtain rfl : K = k + 1 := by omega
    rw [garnerref13_Words.l1, w_p8 q (by omega), if_neg (by omega), if_pos (by omega)]
  | succ d ih =>
    intro j k K hj hK
    obtain ⟨K', rfl⟩ : ∃ K', K = K' + 1 := ⟨K - 1, by omega⟩
    have e2 : wrap64 (((8 * q + j : Nat) : Int) + 1) = ((8 * q + (j + 1) : Nat) : Int) := w64_1 _ (by omega)
    rw [garnerref13_Words.l1, w_p8 q (by omega), if_pos (by omega), pk_w1 hb q j (by omega), e2]
    by_cases hlt : 8 * q + j < b.length
    · rw [if_pos (by omega), if_pos (by omega), pk_w2 hb q j (by omega) hlt]
      exact ih (j + 1) k K' (by omega) (by omega)
    · have hpk : pk b q (j + 1) = pk b q j * 256 := by rw [pk, if_neg hlt, Nat.add_zero]
      rw [if_neg (by omega), ← hpk]
      exact ih (j + 1) k K' (by omega) (by omega)
theorem refWords_go {b : List Int} (hb : Rd.Byt b) (hl : b.length ≤ 1000) (d : Nat) : ∀ (q k K : Nat), q + d = (b.length + 7) / 8 → K = k + 10 * d + 1 → garnerref13_Words.l0 K b ((b.length : Int) :: (List.range q).map fun q => (pk b q 8 : Int)) ((8 * q : Nat) : Int) = some (wordsB b) := by
  induction d with
  | zero =>
    intro q k K hq hK
    obtain rfl : K = k + 1 := by omega
    rw [garnerref13_Words.l0, if_neg (by omega), show q = (b.length + 7) / 8 by omega]
    rfl
  | succ d ih =>
    intro q k K hq hK
    obtain ⟨K', rfl⟩ : ∃ K', K = K' + 1 := ⟨K - 1, by omega⟩
    have h := refWords_in hb hl q (by omega) ((b.length : Int) :: (List.range q).map fun q => (pk b q 8 : Int)) (by simp only [List.length_cons, List.length_map, List.length_range]; omega) 8 0 (k + 10 * d + 1) K' (by omega) (by omega)
    rw [show ((pk b q 0 : Nat) : Int) = 0 from rfl, Nat.add_zero] at h
    rw [garnerref13_Words.l0, if_pos (by omega), h]
    have h2 := ih (q + 1) k _ (by omega) rfl
    rw [List.range_succ, List.map_append] at h2
    exact h2
theorem refWords_eq {l : List (List Int)} (hb : Byts l) (h : mayB l = true) (k : Nat) (hk : 200 ≤ k) : garnerref13_Words.f k l = some (wordsB (rowB l)) := by
  have hlen := rowB_len h
  unfold garnerref13_Words.f
  rw [refBytes_eq h k (by omega), Option.bind_some, Rd.wrap_u64_nat _ (by omega)]
  exact refWords_go (rowB_byt hb h) (by omega) (((rowB l).length + 7) / 8) 0 (k - 10 * (((rowB l).length + 7) / 8) - 1) k (by omega) (by omega)
theorem refMay_go (l : List (List Int)) (hl : l.length < 1000000000000000) : ∀ (k i : Nat), 2 * (4 - i) + 2 ≤ k → i ≤ 4 → i ≤ l.length → (∀ j (h : j < l.length), j < i → (l[j]).length ≤ 24) → garnerref13_May.l0 k l (i : Int) = some (mayB l)
  | 0, i, h, _, _, _ => by omega
  | k + 1, i, h, hi, hi2, ha => by
    obtain ⟨k', rfl⟩ : ∃ k', k = k' + 1 := ⟨k - 1, by omega⟩
    rw [garnerref13_May.l0]
    by_cases hlt : i < l.length
    · rw [if_pos (by omega)]
      by_cases h4 : i < 4
      · rw [decide_eq_true (by omega), garnerref13_May.j1, if_pos rfl, if_pos (by omega), if_pos (by omega), rd_L2_at l i hlt]
        by_cases hf : ((l[i]).length : Int) > 24
        · rw [if_pos hf]
          symm
          congr 1
          rw [← Bool.not_eq_true]
          intro hm
          have := ((may_iff l).1 hm).2.2 l[i] (List.getElem_mem hlt)
          omega
        · rw [if_neg hf, w64_1 i (by omega)]
          refine refMay_go l hl k' (i + 1) (by omega) (by omega) (by omega) fun j hj hji => ?_
          by_cases hji2 : j = i
          · subst hji2; omega
          · exact ha j hj (by omega)
      · rw [decide_eq_false (by omega), garnerref13_May.j1, if_neg (by decide), if_pos (by omega), decide_eq_false (by omega)]
        symm
        congr 1
        rw [← Bool.not_eq_true]
        intro hm
        have := (may_iff l).1 hm
        omega
    · rw [if_neg (by omega), garnerref13_May.j1, if_neg (by decide)]
      by_cases h1 : (l.length : Int) ≥ 1
      · rw [if_pos h1]
        congr 1
        rw [Bool.eq_iff_iff, decide_eq_true_iff, may_iff]
        refine ⟨fun h3 => ⟨by omega, by omega, fun f hf => ?_⟩, fun h3 => by omega⟩
        obtain ⟨j, hj, rfl⟩ := List.getElem_of_mem hf
        exact ha j hj (by omega)
      · rw [if_neg h1]
        symm
        congr 1
        rw [← Bool.not_eq_true]
        intro hm
        have := (may_iff l).1 hm
        omega
theorem refMay_eq (l : List (List Int)) (hl : l.length < 1000000000000000) (k : Nat) (hk : 10 ≤ k) : garnerref13_May.f k l = some (mayB l) := by
  unfold garnerref13_May.f
  exact refMay_go l hl k 0 (by omega) (by omega) (by omega) (fun j _ h => by omega)
theorem refCopy_go (l : List (List Int)) (hs : sz l ≤ 9000) : ∀ (k i : Nat), l.length - i < k → i ≤ l.length → garnerref13_Copy.l0 k l (l.take i) (i : Int) = some l
  | 0, i, h, _ => by omega
  | k + 1, i, h, hi => by
    have hll : l.length ≤ 9000 := by unfold sz at hs; omega
    rw [garnerref13_Copy.l0]
    by_cases hlt : i < l.length
    · have hf := sum_mem (List.getElem_mem hlt)
      have hfl : (l[i]).length ≤ 9000 := by unfold sz at hs; omega
      rw [if_pos (by omega), if_pos (by omega), rd_L2_at l i hlt, if_pos (by simp only [List.length_nil]; omega), if_pos (by rw [List.length_take]; omega), w64_1 i (by omega), List.nil_append, ← List.take_succ_eq_append_getElem hlt]
      exact refCopy_go l hs k (i + 1) (by omega) (by omega)
    · rw [if_neg (by omega), List.take_of_length_le (by omega)]
theorem refCopy_eq (l : List (List Int)) (hs : sz l ≤ 9000) (k : Nat) (hk : 9001 ≤ k) : garnerref13_Copy.f k l = some l := by
  have hll : l.length ≤ 9000 := by unfold sz at hs; omega
  unfold garnerref13_Copy.f
  have h := refCopy_go l hs k 0 (by omega) (by omega)
  rw [List.take_zero] at h
  exact h
end Go.Proofs.Ytmpbcmnnlkienaa.Pure
