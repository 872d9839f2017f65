import Derived.Test.YtmpbcmnnlkienaaHSx6
namespace Go.Proofs.Ytmpbcmnnlkienaa.Pure
open Go.RowKit Go.Proofs.Ytmpbcmnnlkienaa.HS Go.Proofs.YtmpbcmnnlkienaaW.PrintWords Go.Proofs.YtmpbcmnnlkienaaW.PrintLast
theorem known30 : garnerlaw13_known.f 30 = some true := by decide +kernel
theorem known_ge : ∀ k, 30 ≤ k → garnerlaw13_known.f k = some true := by
  intro k hk
  induction k with
  | zero => omega
  | succ k ih =>
    rcases Nat.lt_or_ge k 30 with h | h
    · rw [show k + 1 = 30 by omega]; exact known30
    · exact garnerlaw13_known.mono k _ (ih h)
theorem front_eq (l : List Int) : row_Front.f l = some (if l.length ≤ 24 then (frontB l, 0) else ([], 2)) := rfl
theorem mayKey_eq (k : List Int) : row_MayKey.f k = some (decide (1 ≤ k.length ∧ k.length ≤ 32)) := by
  unfold row_MayKey.f
  by_cases h1 : 1 ≤ k.length
  · rw [if_pos (by omega)]
    by_cases h2 : k.length ≤ 32
    · rw [decide_eq_true (by omega), decide_eq_true ⟨h1, h2⟩]
    · rw [decide_eq_false (by omega), decide_eq_false (fun h => h2 h.2)]
  · rw [if_neg (by omega), decide_eq_false (fun h => h1 h.1)]
theorem entry_eq (a k : List Int) (hk : k.length ≤ 9000) : row_Entry.f a k = some (if a.length ≤ 24 ∧ 1 ≤ k.length ∧ k.length ≤ 32 then (frontB a ++ [0, 1] ++ k, 0) else ([], 2)) := by
  unfold row_Entry.f
  rw [front_eq, mayKey_eq]
  by_cases ha : a.length ≤ 24
  · have hf := frontB_len a
    by_cases hm : 1 ≤ k.length ∧ k.length ≤ 32
    · have h1 : (frontB a).length + [(0 : Int), 1].length < 140737488355328 := by simp only [List.length_cons, List.length_nil]; omega
      have h2 : (frontB a ++ [0, 1]).length + k.length < 140737488355328 := by rw [List.length_append]; simp only [List.length_cons, List.length_nil]; omega
      simp only [if_pos ha, Option.bind_some, if_true, decide_eq_true hm, if_pos h1, if_pos h2]
      rw [if_pos ⟨ha, hm⟩]
    · simp only [if_pos ha, Option.bind_some, if_true, decide_eq_false hm, Bool.false_eq_true, if_false]
      rw [if_neg fun h => hm h.2]
  · simp only [if_neg ha, Option.bind_some]
    rw [if_neg (by decide), if_neg fun h => ha h.1]
theorem frontB_app (a b : List Int) : frontB (a ++ b) = frontB a ++ frontB b := by simp [frontB]
theorem str_app' (a b : List Int) : strOfNums a ++ strOfNums b = strOfNums (a ++ b) := by
  apply ByteArray.ext
  rw [ByteArray.data_append]
  simp [strOfNums]
theorem str_app (a b : List Int) : (strOfNums a ++ strOfNums b).toList = (strOfNums (a ++ b)).toList := by rw [str_app']
theorem str_01 : (⟨#[0, 1]⟩ : ByteArray) = strOfNums [0, 1] := rfl
theorem rmay_eq (k : List Int) : garnerref13_MayKey.f k = some (decide (1 ≤ k.length ∧ k.length ≤ 32)) := mayKey_eq k
theorem w64 (p q : Nat) (h : p + q ≤ 100000) : wrap64 ((p : Int) + (q : Int)) = ((p + q : Nat) : Int) := by unfold wrap64; omega
theorem splitGo_cons {c : Int} (r f : List Int) (h : c ≠ 0) : splitGo (c :: r) f = splitGo r (f ++ [c]) := by
  cases r with
  | nil => rfl
  | cons d r => rw [splitGo, if_neg h]
def splitV (R : Option (List Int × List Int)) : List Int × List Int × Int := match R with | some (a, b) => (a, b, 0) | none => ([], [], 4)
theorem rd_get (x : List Int) (p : Nat) (h : p < x.length) : rd x (p : Int) = x[p] := by simp [rd, h]
theorem refSplit (x : List Int) (hx : x.length ≤ 9000) : ∀ (k p : Nat) (f : List Int), x.length - p + 2 ≤ k → p ≤ x.length → f.length ≤ p → garnerref13_Split.l0 k x f (p : Int) = some (splitV (splitGo (x.drop p) f))
  | 0, p, f, hk, _, _ => by omega
  | k + 1, p, f, hk, hp, hf => by
    rw [garnerref13_Split.l0]
    by_cases hl : p < x.length
    · have e1 : wrap64 ((p : Int) + 1) = ((p + 1 : Nat) : Int) := w64 p 1 (by omega)
      have e2 : wrap64 ((p : Int) + 2) = ((p + 2 : Nat) : Int) := w64 p 2 (by omega)
      rw [if_pos (by omega), if_pos (by omega), rd_get x p hl, List.drop_eq_getElem_cons hl, e1, e2]
      by_cases hc : x[p] = 0
      · rw [if_pos hc, hc]
        by_cases hl2 : p + 1 < x.length
        · rw [if_neg (by omega), if_pos (by omega), if_pos (by omega), rd_get x (p + 1) hl2, List.drop_eq_getElem_cons hl2, splitGo, if_pos rfl]
          by_cases h1 : x[p + 1] = 1
          · have hn : ¬ x[p + 1] = 255 := by omega
            have hd : ([] : List Int).length + (x.drop (p + 2)).length < 140737488355328 := by simp only [List.length_nil, List.length_drop]; omega
            rw [if_pos h1, if_pos (by omega), if_pos (by omega), if_neg hn]
            simp only [Int.toNat_natCast]
            rw [if_pos hd]
            simp only [Option.bind_some, List.nil_append]
            rw [rmay_eq]
            simp only [Option.bind_some]
            obtain ⟨k', rfl⟩ : ∃ k', k = k' + 1 := ⟨k - 1, by omega⟩
            by_cases h24 : f.length ≤ 24
            · rw [if_neg (by omega)]
              by_cases hm : 1 ≤ (x.drop (p + 2)).length ∧ (x.drop (p + 2)).length ≤ 32
              · rw [decide_eq_true hm, if_pos ⟨h1, h24, hm⟩, garnerref13_Split.j1]
                rfl
              · rw [decide_eq_false hm, if_neg (fun h => hm h.2.2), garnerref13_Split.j1]
                rfl
            · rw [if_pos (by omega), if_neg (fun h => h24 h.2.1), garnerref13_Split.j1]
              rfl
          · rw [if_neg h1]
            by_cases h2 : x[p + 1] = 255
            · rw [if_pos h2, if_pos h2, if_pos (by omega)]
              exact refSplit x hx k (p + 2) (f ++ [0]) (by omega) (by omega) (by rw [List.length_append]; simp only [List.length_cons, List.length_nil]; omega)
            · rw [if_neg h2, if_neg h2, if_neg (fun h => h1 h.1)]
              rfl
        · rw [if_pos (by omega), List.drop_eq_nil_of_le (by omega)]
          rfl
      · rw [if_neg hc, if_pos (by omega), splitGo_cons _ _ hc]
        exact refSplit x hx k (p + 1) (f ++ [x[p]]) (by omega) (by omega) (by rw [List.length_append]; simp only [List.length_cons, List.length_nil]; omega)
    · rw [if_neg (by omega), List.drop_eq_nil_of_le (by omega)]
      rfl
theorem refFront (x : List Int) (hx : x.length ≤ 9000) : ∀ (k p : Nat) (f : List Int), x.length - p + 1 ≤ k → p ≤ x.length → f.length ≤ 2 * p → garnerref13_Front.l0 k x f (p : Int) = some (f ++ frontB (x.drop p))
  | 0, p, f, hk, _, _ => by omega
  | k + 1, p, f, hk, hp, hf => by
    rw [garnerref13_Front.l0]
    by_cases hl : p < x.length
    · have e1 : wrap64 ((p : Int) + 1) = ((p + 1 : Nat) : Int) := w64 p 1 (by omega)
      rw [if_pos (by omega), if_pos (by omega), if_pos (by omega), rd_get x p hl, List.drop_eq_getElem_cons hl, e1]
      simp only [Option.bind_some]
      have hfc : frontB (x[p] :: x.drop (p + 1)) = (if x[p] = 0 then [x[p], 255] else [x[p]]) ++ frontB (x.drop (p + 1)) := by unfold frontB; rw [List.map_cons, List.flatten_cons]
      rw [hfc]
      by_cases hc : x[p] = 0
      · rw [if_pos hc, if_pos hc, if_pos (by rw [List.length_append]; simp only [List.length_cons, List.length_nil]; omega)]
        rw [refFront x hx k (p + 1) _ (by omega) (by omega) (by rw [List.length_append, List.length_append]; simp only [List.length_cons, List.length_nil]; omega)]
        simp
      · rw [if_neg hc, if_neg hc]
        rw [refFront x hx k (p + 1) _ (by omega) (by omega) (by rw [List.length_append]; simp only [List.length_cons, List.length_nil]; omega)]
        simp
    · rw [if_neg (by omega), List.drop_eq_nil_of_le (by omega)]
      simp [frontB]
theorem refEntry (a k : List Int) (K : Nat) (hK : 9001 ≤ K) (ha : a.length ≤ 9000) (hk : k.length ≤ 9000) : garnerref13_Entry.f K a k = some (frontB a ++ [0, 1] ++ k) := by
  unfold garnerref13_Entry.f garnerref13_Front.f
  have h := refFront a ha K 0 [] (by omega) (by omega) (by simp)
  have hf := frontB_len a
  simp only [List.nil_append, List.drop_zero] at h
  rw [show ((0 : Nat) : Int) = 0 from rfl] at h
  rw [h]
  simp only [Option.bind_some]
  rw [if_pos (by simp only [List.length_cons, List.length_nil]; omega), if_pos (by rw [List.length_append]; simp only [List.length_cons, List.length_nil]; omega)]
theorem split_eq (l : List Int) (hb : bytB l = true) (hl : l.length ≤ 9000) : row_Split.f l = some (splitV (splitGo l [])) := by
  unfold row_Split.f
  rw [if_pos ⟨hb, by omega⟩]
  unfold splitV
  rfl
theorem wf_byte {l : List Int} (h : ∀ x ∈ l, (Lit.int .u8 x).wf = true) : bytB l = true := by
  unfold bytB
  rw [List.all_eq_true]
  intro x hx
  have h3 : 0 ≤ x ∧ x < 256 := by
    have h2 := h x hx
    simp [Go.Lit.wf, IntKind.min, IntKind.max, IntKind.signed, IntKind.bits] at h2
    omega
  exact decide_eq_true h3
theorem RowEntries : garnerlaw13_RowEntries.Pure := by
  intro l0 l1 l2 _ _ _ _ _ _ _ _ hb
  obtain ⟨K, hK⟩ : ∃ K : Nat, 20000 ≤ K := ⟨20000, Nat.le_refl _⟩
  refine ⟨K + 3, ?_⟩
  unfold garnerlaw13_RowEntries.f
  have big : garnerlaw13_RowEntries.j0 (K + 3) l0 l1 l2 true = some true := by
    rw [garnerlaw13_RowEntries.j0, if_pos rfl, known_ge _ (by omega)]
    rfl
  by_cases h0 : (l0.length : Int) > 9000
  · rw [if_pos h0, big]
  rw [if_neg h0]
  by_cases h1 : (l1.length : Int) > 9000
  · rw [if_pos h1, big]
  rw [if_neg h1]
  by_cases h2 : (l2.length : Int) > 9000
  · rw [decide_eq_true h2, big]
  rw [decide_eq_false h2, garnerlaw13_RowEntries.j0, if_neg (by decide), split_eq l2 (wf_byte hb) (by omega)]
  simp only [Option.bind_some]
  have hs : garnerref13_Split.f (K + 2) l2 = some (splitV (splitGo l2 [])) := by
    unfold garnerref13_Split.f
    exact refSplit l2 (by omega) (K + 2) 0 [] (by omega) (by omega) (by simp)
  rw [hs]
  simp only [Option.bind_some, if_true, garnerlaw13_num.f, bne_self_eq_false]
  rw [garnerlaw13_RowEntries.j1, if_neg (by decide), front_eq, entry_eq l0 l1 (by omega)]
  simp only [Option.bind_some, garnerlaw13_num.f]
  by_cases h24 : l0.length ≤ 24
  · rw [if_neg (by omega), if_pos h24]
    have hf : garnerref13_Front.f (K + 1) l0 = some (frontB l0) := by
      have h := refFront l0 (by omega) (K + 1) 0 [] (by omega) (by omega) (by simp)
      simp only [List.nil_append, List.drop_zero] at h
      exact h
    rw [hf]
    simp only [Option.bind_some, if_true, bne_self_eq_false]
    rw [garnerlaw13_RowEntries.j2, if_neg (by decide), rmay_eq]
    simp only [Option.bind_some]
    by_cases hm : 1 ≤ l1.length ∧ l1.length ≤ 32
    · rw [decide_eq_true hm, if_pos rfl, refEntry l0 l1 K (by omega) (by omega) (by omega), if_pos ⟨h24, hm⟩]
      simp only [Option.bind_some, if_true, garnerlaw13_num.f]
      rw [known_ge _ (by omega)]
      rfl
    · rw [decide_eq_false hm, if_neg (by decide), if_neg (c := l0.length ≤ 24 ∧ 1 ≤ l1.length ∧ l1.length ≤ 32) (fun h => hm h.2), if_pos (by decide)]
      simp only [Option.bind_some, if_true, garnerlaw13_num.f]
      rw [known_ge _ (by omega)]
      rfl
  · rw [if_pos (by omega), if_neg h24, if_neg (c := l0.length ≤ 24 ∧ 1 ≤ l1.length ∧ l1.length ≤ 32) (fun h => h24 h.1), if_pos (by decide)]
    simp only [if_true]
    rw [if_pos (by decide), known_ge _ (by omega)]
    rfl
end Go.Proofs.Ytmpbcmnnlkienaa.Pure
