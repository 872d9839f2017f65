/- garnerref13.May, Front, Entry, MayKey: what they answer. -/
import Derived.Test.YtecdnhmdodedmaaCm
import Derived.Test.YtecdnhmdodedmaaCg
import Derived.Test.YtecdnhmdodedmaaHSx4
namespace Go.Proofs.Ytecdnhmdodedmaa.Ch
open Go.RowKit Go.Proofs.YtecdnhmdodedmaaW.PrintWords Go.Proofs.YtecdnhmdodedmaaW.PrintLast Go.Proofs.YtecdnhmdodedmaaW.PrintMore Go.Proofs.Ytecdnhmdodedmaa.HS Go.Proofs.Ytecdnhmdodedmaa.Ca Go.Proofs.Ytecdnhmdodedmaa.It
set_option linter.unusedVariables false
set_option linter.unusedSimpArgs false
theorem refMay_j1 (r : List (List Int)) (hr : r.length ≤ 1048576) (i K : Nat) : garnerref13_May.j1 (K + 1) r (i : Int) false = some (decide (1 ≤ r.length) && decide (r.length ≤ 3)) := by
  rw [garnerref13_May.j1, if_neg (by simp)]
  by_cases h1 : 1 ≤ r.length
  · rw [if_pos (by omega), decide_eq_true h1]
    by_cases h2 : r.length ≤ 3
    · rw [decide_eq_true h2, decide_eq_true (by omega)]; rfl
    · rw [decide_eq_false h2, decide_eq_false (by omega)]; rfl
  · rw [if_neg (by omega), decide_eq_false h1]; rfl
theorem refMay_l0 (r : List (List Int)) (hr : r.length ≤ 1048576) : ∀ (n i K : Nat), i + n = r.length → (∀ q, q < i → (rd_L2 r (q : Int)).length ≤ 24) → 2 * n + 2 ≤ K → garnerref13_May.l0 K r (i : Int) = some (mayB r)
  | _, _, 0, _, _, h => by omega
  | _, _, 1, _, _, h => by omega
  | 0, i, K + 2, h, hq, hK => by
    rw [garnerref13_May.l0, if_neg (by omega), refMay_j1 r hr]
    unfold mayB
    have : (r.all fun f => decide (f.length ≤ 24)) = true := by
      rw [List.all_eq_true]
      intro f hf
      obtain ⟨q, hql, rfl⟩ := List.mem_iff_getElem.1 hf
      have := hq q (by omega)
      rw [show rd_L2 r (q : Int) = r[q] by simp [rd_L2, List.getD, hql]] at this
      exact decide_eq_true this
    rw [this]
    simp
  | n + 1, i, K + 2, h, hq, hK => by
    rw [garnerref13_May.l0, if_pos (by omega)]
    by_cases h4 : i < 4
    · rw [decide_eq_true (by omega), garnerref13_May.j1, if_pos rfl, if_pos (by omega), if_pos (by omega), step64 i _ (show i < r.length by omega) hr]
      by_cases hl : ((rd_L2 r (i : Int)).length : Int) > 24
      · rw [if_pos hl]
        have : mayB r = false := by
          rw [Bool.eq_false_iff]
          intro hm
          have := ((mayB_iff r).1 hm).2.2 _ (rd_L2_mem r i (by omega))
          omega
        rw [this]
      · rw [if_neg hl, refMay_l0 r hr n (i + 1) K (by omega) (fun q hq2 => by
          by_cases e : q = i
          · subst e; omega
          · exact hq q (by omega)) (by omega)]
    · rw [decide_eq_false (by omega), refMay_j1 r hr]
      have : mayB r = false := by
        rw [Bool.eq_false_iff]
        intro hm
        have := ((mayB_iff r).1 hm).2.1
        omega
      rw [this, decide_eq_false (show ¬ r.length ≤ 3 by omega), Bool.and_false]
theorem refMay_is (r : List (List Int)) (hr : r.length ≤ 1048576) (K : Nat) (hK : 2 * r.length + 2 ≤ K) : garnerref13_May.f K r = some (mayB r) := refMay_l0 r hr r.length 0 K (by omega) (fun q h => by omega) hK
theorem refFront_l0 (f : List Int) (hf : f.length ≤ 1048576) : ∀ (n i K : Nat) (acc : List Int), i + n = f.length → acc.length ≤ 2 * i → n + 1 ≤ K → garnerref13_Front.l0 K f acc (i : Int) = some (acc ++ frontB (f.drop i))
  | _, _, 0, _, _, _, h => by omega
  | 0, i, K + 1, acc, h, _, _ => by
    rw [garnerref13_Front.l0, if_neg (by omega), List.drop_eq_nil_of_le (by omega)]
    simp [frontB]
  | n + 1, i, K + 1, acc, h, h2, hK => by
    have ih := fun acc' (h' : acc'.length ≤ 2 * (i + 1)) => refFront_l0 f hf n (i + 1) K acc' (by omega) h' (by omega)
    rw [garnerref13_Front.l0, if_pos (by omega), if_pos (by omega), if_pos (by omega), Option.bind_some, step64 i _ (show i < f.length by omega) hf, drop_rd f i (by omega)]
    have hc : frontB (rd f (i : Int) :: f.drop (i + 1)) = (if rd f (i : Int) = 0 then [rd f (i : Int), 255] else [rd f (i : Int)]) ++ frontB (f.drop (i + 1)) := rfl
    rw [hc]
    by_cases e : rd f (i : Int) = 0
    · rw [if_pos e, if_pos (by rw [List.length_append]; simp; omega), ih _ (by simp; omega), if_pos e]; simp
    · rw [if_neg e, ih _ (by simp; omega), if_neg e]; simp
theorem refFront_is (f : List Int) (hf : f.length ≤ 1048576) (K : Nat) (hK : f.length + 1 ≤ K) : garnerref13_Front.f K f = some (frontB f) := by
  have := refFront_l0 f hf f.length 0 K [] (by omega) (by simp) hK
  rwa [List.drop_zero, List.nil_append] at this
theorem refEntry_is (f k : List Int) (hf : f.length ≤ 1048576) (hk : k.length ≤ 1048576) (K : Nat) (hK : f.length + 1 ≤ K) : garnerref13_Entry.f K f k = some (entryL f k) := by
  unfold garnerref13_Entry.f
  have := frontB_len f
  rw [refFront_is f hf K hK]
  simp only [Option.bind_some]
  rw [if_pos (by simp only [List.length_cons, List.length_nil]; omega), if_pos (by simp only [List.length_append, List.length_cons, List.length_nil]; omega)]
  rfl
theorem rowMayKey_f (k : List Int) : garnerref13_MayKey.f k = some (keyB k) := by
  unfold garnerref13_MayKey.f keyB
  by_cases h1 : 1 ≤ k.length
  · rw [if_pos (by omega), decide_eq_true h1]
    by_cases h2 : k.length ≤ 32
    · rw [decide_eq_true h2, decide_eq_true (by omega)]; rfl
    · rw [decide_eq_false h2, decide_eq_false (by omega)]; rfl
  · rw [if_neg (by omega), decide_eq_false h1]; rfl
end Go.Proofs.Ytecdnhmdodedmaa.Ch
