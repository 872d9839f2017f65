import Derived.Test.YtmpbcmnnlkienaaHSx7
namespace Go.Proofs.Ytmpbcmnnlkienaa.Pure
open Go.RowKit Go.Proofs.Ytmpbcmnnlkienaa.HS Go.Proofs.YtmpbcmnnlkienaaW.PrintWords Go.Proofs.YtmpbcmnnlkienaaW.PrintLast
theorem known30 : garnerlaw13_known.f 30 = some true := by decide +kernel
theorem known31 : garnerlaw13_known.f 31 = some true := by decide +kernel
theorem front_eq (l : List Int) : row_Front.f l = some (if l.length ≤ 24 then (frontB l, 0) else ([], 2)) := rfl
theorem mayKey_eq (k : List Int) : row_MayKey.f k = some (decide (1 ≤ k.length ∧ k.length ≤ 32)) := by
  unfold row_MayKey.f
  by_cases h1 : 1 ≤ k.length
  · rw [if_pos (by omega)]
    by_cases h2 : k.length ≤ 32
    · rw [decide_eq_true (by omega), decide_eq_true ⟨h1, h2⟩]
    · rw [decide_eq_false (by omega), decide_eq_false (fun h => h2 h.2)]
  · rw [if_neg (by omega), decide_eq_false (fun h => h1 h.1)]
theorem entry_eq (a k : List Int) (hk : k.length ≤ 9000) : row_Entry.f a k = some (if a.length ≤ 24 ∧ 1 ≤ k.length ∧ k.length ≤ 32 then (frontB a ++ [0, 1] ++ k, 0) else ([], 2)) := by
  unfold row_Entry.f
  rw [front_eq, mayKey_eq]
  by_cases ha : a.length ≤ 24
  · have hf := frontB_len a
    by_cases hm : 1 ≤ k.length ∧ k.length ≤ 32
    · have h1 : (frontB a).length + [(0 : Int), 1].length < 140737488355328 := by simp only [List.length_cons, List.length_nil]; omega
      have h2 : (frontB a ++ [0, 1]).length + k.length < 140737488355328 := by rw [List.length_append]; simp only [List.length_cons, List.length_nil]; omega
      simp only [if_pos ha, Option.bind_some, if_true, decide_eq_true hm, if_pos h1, if_pos h2]
      rw [if_pos ⟨ha, hm⟩]
    · simp only [if_pos ha, Option.bind_some, if_true, decide_eq_false hm, Bool.false_eq_true, if_false]
      rw [if_neg fun h => hm h.2]
  · simp only [if_neg ha, Option.bind_some]
    rw [if_neg (by decide), if_neg fun h => ha h.1]
theorem frontB_app (a b : List Int) : frontB (a ++ b) = frontB a ++ frontB b := by simp [frontB]
theorem str_app' (a b : List Int) : strOfNums a ++ strOfNums b = strOfNums (a ++ b) := by
  apply ByteArray.ext
  rw [ByteArray.data_append]
  simp [strOfNums]
theorem str_app (a b : List Int) : (strOfNums a ++ strOfNums b).toList = (strOfNums (a ++ b)).toList := by rw [str_app']
theorem str_01 : (⟨#[0, 1]⟩ : ByteArray) = strOfNums [0, 1] := rfl
theorem RowFronts : garnerlaw13_RowFronts.Pure := by
  intro l0 l1 l2 h0 h0' _ h1 h1' _ h2 h2' _
  refine ⟨31, ?_⟩
  unfold garnerlaw13_RowFronts.f
  by_cases hc : (wrap64 ((wrap64 ((l0.length : Int) + (l1.length : Int))) + (l2.length : Int))) > 9000
  · rw [if_pos hc, known31]
    rfl
  · rw [if_neg hc]
    have hw : l0.length + l1.length + l2.length ≤ 9000 := by
      unfold wrap64 at hc
      omega
    clear hc
    have e1 : ([] : List Int).length + l0.length < 140737488355328 := by simp only [List.length_nil]; omega
    rw [if_pos e1]
    simp only [Option.bind_some, List.nil_append]
    rw [if_pos (by omega : l0.length + l1.length < 140737488355328)]
    simp only [Option.bind_some, front_eq, garnerlaw13_num.f, entry_eq _ l2 (by omega)]
    have f0 := frontB_len l0
    have f1 := frontB_len l1
    have fb := frontB_len (l0 ++ l1)
    by_cases hb : (l0 ++ l1).length ≤ 24
    · have hb' := hb
      rw [List.length_append] at hb'
      have a0 : l0.length ≤ 24 := by omega
      have a1 : l1.length ≤ 24 := by omega
      simp only [if_pos hb, if_pos a0, if_pos a1, if_true]
      rw [if_pos (by unfold wrap64; omega), if_pos (by rw [strOfNums_size, strOfNums_size]; omega), if_pos (by rw [str_app, frontB_app]), mayKey_eq]
      simp only [Option.bind_some]
      by_cases hm : 1 ≤ l2.length ∧ l2.length ≤ 32
      · rw [if_pos ⟨hb, hm⟩, decide_eq_true hm]
        show garnerlaw13_RowFronts.j0 (30 + 1) _ _ _ _ _ = _
        rw [garnerlaw13_RowFronts.j0]
        dsimp only
        rw [if_neg (by decide)]
        simp only [garnerlaw13_num.f, Option.bind_some, if_true]
        rw [if_pos (by rw [strOfNums_size]; omega), str_01, str_app', if_pos (by rw [strOfNums_size, strOfNums_size, List.length_append]; simp only [List.length_cons, List.length_nil]; omega), str_app', if_pos rfl, known30]
        rfl
      · rw [if_neg (fun h => hm h.2), decide_eq_false hm]
        show garnerlaw13_RowFronts.j0 (30 + 1) _ _ _ _ _ = _
        rw [garnerlaw13_RowFronts.j0]
        dsimp only
        rw [if_neg (by decide)]
        simp only [garnerlaw13_num.f, Option.bind_some]
        rw [if_neg (by decide), known30]
        rfl
    · simp only [if_neg hb]
      rw [if_neg (by decide), if_pos trivial, if_pos (by omega), if_pos (by decide), if_neg (c := (l0 ++ l1).length ≤ 24 ∧ 1 ≤ l2.length ∧ l2.length ≤ 32) (fun h => hb h.1), if_pos rfl, known31]
      rfl
end Go.Proofs.Ytmpbcmnnlkienaa.Pure
