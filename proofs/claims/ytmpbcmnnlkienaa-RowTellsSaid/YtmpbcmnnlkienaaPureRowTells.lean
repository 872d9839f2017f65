import Derived.Test.YtmpbcmnnlkienaaHSx8
import Derived.Test.YtmpbcmnnlkienaaPlainA
namespace Go.Proofs.Ytmpbcmnnlkienaa.Pure
open Go.RowKit Go.Proofs.Ytmpbcmnnlkienaa.HS Go.Proofs.YtmpbcmnnlkienaaW.PrintWords Go.Proofs.YtmpbcmnnlkienaaW.PrintLast Go.Proofs.YtmpbcmnnlkienaaW.PrintMore
set_option linter.unusedVariables false
theorem tells_loop {a b : List (List Int)} (ha : Byts a) (hb : Byts b) (hma : mayB a = true) (hmb : mayB b = true) (v w : List Int) (hv : v = wordsB (rowB a)) (hw : w = wordsB (rowB b)) :
    ∀ (k i : Nat) (s : Bool), v.length - i + 31 < k → i ≤ v.length → (s = true → v.length = w.length) → (s = true → v.take i = w.take i) → (s = false → v ≠ w) → garnerlaw13_RowTells.l0 k a b (rowB a) (rowB b) v w s (i : Int) = some true
  | 0, i, s, h, _, _, _, _ => by omega
  | k + 1, i, s, h, hi, hl, ht, hf => by
    have hlen : v.length ≤ 11 := by rw [hv, wordsB_len]; have := rowB_len hma; omega
    have hend : ∀ s : Bool, s = decide (v = w) → ((row_Same.f a b).bind fun t504 => (if (((strOfNums (rowB a)).toList == (strOfNums (rowB b)).toList) == t504) = true then ((row_Same.f a b).bind fun t505 => (if (s == t505) = true then ((garnerlaw13_known.f k).bind fun t506 => (some t506)) else (some false))) else (some false))) = some true := by
      intro s hs
      have hvw : (v = w) ↔ a = b := by
        rw [hv, hw]
        exact ⟨fun h => rowB_inj hma hmb (wordsB_inj (rowB_byt ha hma) (rowB_byt hb hmb) h), fun h => by rw [h]⟩
      have hx : ((strOfNums (rowB a)).toList == (strOfNums (rowB b)).toList) = decide (a = b) := by
        by_cases e : a = b
        · rw [decide_eq_true e, e]; simp
        · rw [decide_eq_false e, beq_eq_false_iff_ne]
          exact fun h => e (rowB_inj hma hmb (txt_inj (rowB_byt ha hma) (rowB_byt hb hmb) h))
      rw [same_eq ha hb]
      simp only [Option.bind_some]
      rw [hx, if_pos (by simp), hs, if_pos (by rw [beq_iff_eq, decide_eq_decide]; exact hvw), known_ge k (by omega)]
      rfl
    rw [garnerlaw13_RowTells.l0]
    by_cases hlt : i < v.length
    · rw [if_pos (by omega)]
      cases s with
      | true =>
        have h2 := hl rfl
        rw [if_pos rfl, if_pos (by omega), if_pos (by omega), w64_1 i (by omega)]
        refine tells_loop ha hb hma hmb v w hv hw k (i + 1) _ (by omega) (by omega) (fun _ => h2) (fun he => ?_) (fun he => ?_)
        · rw [beq_iff_eq, rd_at v i hlt, rd_at w i (by omega)] at he
          rw [List.take_succ_eq_append_getElem hlt, List.take_succ_eq_append_getElem (show i < w.length by omega), ht rfl, he]
        · rw [beq_eq_false_iff_ne] at he
          intro e
          exact he (by rw [e])
      | false =>
        rw [if_neg (by decide)]
        exact hend false (by rw [decide_eq_false (hf rfl)])
    · rw [if_neg (by omega)]
      refine hend s ?_
      cases s with
      | true =>
        have h1 := ht rfl
        have h2 := hl rfl
        rw [List.take_of_length_le (by omega), List.take_of_length_le (by omega)] at h1
        rw [decide_eq_true h1]
      | false => rw [decide_eq_false (hf rfl)]
theorem RowTells (a b : List (List Int)) (ha : Byts a) (hb : Byts b) (hla : a.length < 1000000000000000) (hlb : b.length < 1000000000000000) : ∃ k, garnerlaw13_RowTells.f k a b = some true := by
  obtain ⟨K, hK, h1, h2⟩ : ∃ K : Nat, 1000 ≤ K ∧ a.length < K ∧ b.length < K := ⟨a.length + b.length + 1000, by omega, by omega, by omega⟩
  refine ⟨K + 3, ?_⟩
  unfold garnerlaw13_RowTells.f
  obtain ⟨n, hn, hn9⟩ := size_eq a hla (K + 3) (by omega)
  obtain ⟨m, hm, hm9⟩ := size_eq b hlb (K + 3) (by omega)
  have big : garnerlaw13_RowTells.j0 (K + 3) a b true = some true := by
    rw [garnerlaw13_RowTells.j0, if_pos rfl, known_ge _ (by omega)]
    rfl
  rw [hn]
  simp only [Option.bind_some]
  by_cases c0 : (n : Int) > 9000
  · rw [if_pos c0, big]
  rw [if_neg c0, hm]
  simp only [Option.bind_some]
  by_cases c1 : (m : Int) > 9000
  · rw [decide_eq_true c1, big]
  rw [decide_eq_false c1, garnerlaw13_RowTells.j0, if_neg (by decide), words_eq ha (K + 2) (by omega), words_eq hb (K + 2) (by omega), same_eq ha hb, same_eq hb ha, refSame_eq ha hb hla (K + 2) (by omega)]
  unfold row_Bytes.f
  simp only [Option.bind_some, garnerlaw13_num.f]
  have e1 : (decide (a = b) != decide (b = a)) = false := by
    rw [bne_eq_false_iff_eq, decide_eq_decide]
    exact ⟨fun h => h.symm, fun h => h.symm⟩
  rw [if_neg (by simp), e1, if_neg (by decide)]
  have f0 : ∀ (x : List (List Int)) (y z : List Int), (if mayB x = true then (y, (0 : Int)) else ([], 2)).2 = (if mayB x = true then (z, (0 : Int)) else ([], 2)).2 := by intro x y z; split <;> rfl
  rw [if_pos (f0 _ _ _), show ((if mayB b = true then (rowB b, (0 : Int)) else ([], 2)).2 != (if mayB b = true then (wordsB (rowB b), (0 : Int)) else ([], 2)).2) = false from by rw [bne_eq_false_iff_eq]; exact f0 _ _ _]
  rw [garnerlaw13_RowTells.j1, if_neg (by decide)]
  simp only [garnerlaw13_num.f, Option.bind_some]
  by_cases hma : mayB a = true
  · by_cases hmb : mayB b = true
    · rw [if_pos hma, if_pos hmb, if_pos hma, if_pos hmb]
      dsimp only
      rw [if_pos (by decide +kernel)]
      have hwl : (wordsB (rowB a)).length ≤ 11 := by rw [wordsB_len]; have := rowB_len hma; omega
      refine tells_loop ha hb hma hmb _ _ rfl rfl (K + 1) 0 _ (by omega) (by omega) (fun h => ?_) (fun _ => by simp) (fun h e => ?_)
      · rw [beq_iff_eq] at h; omega
      · rw [beq_eq_false_iff_ne] at h; exact h (by rw [e])
    · rw [if_neg hmb, if_pos hma]; dsimp only; rw [if_neg (by decide +kernel), known_ge _ (by omega)]
      rfl
  · by_cases hmb : mayB b = true
    · rw [if_neg hma, if_pos hmb]; dsimp only; rw [if_neg (by decide +kernel), known_ge _ (by omega)]
      rfl
    · rw [if_neg hma, if_neg hmb]; dsimp only; rw [if_neg (by decide +kernel), known_ge _ (by omega)]
      rfl
end Go.Proofs.Ytmpbcmnnlkienaa.Pure
