/- Written for this claim by a program of this session (hp.py): Go functions as plain functions, each with the proof that its call comes to it. -/
import Derived.Test.YtajkjngngaobpaaHSx0
import Derived.Test.YtajkjngngaobpaaHSx1
namespace Go.Proofs.Ytajkjngngaobpaa.HS
open Go.RowKit Go.Proofs.YtajkjngngaobpaaW.PrintWords Go.Proofs.YtajkjngngaobpaaW.PrintLast Go.Proofs.YtajkjngngaobpaaW.PrintMore
attribute [local go_sem] max2_int min2_int max_two min_two max_three min_three max_four min_four   -- for this text's walks alone
set_option linter.unusedVariables false
set_option linter.unusedSimpArgs false

/-! ### garnerlaw02_CrcTells: function 6 -/
mutual
noncomputable def garnerlaw02_CrcTells.j0 : Nat → List Int → List Int → Int → (Int → Int) → Int → Bool → Option (Bool)
  | 0, _, _, _, _, _, _ => none
  | k + 1, x0, x1, x2, x3, x4, x30 => if x30 = true then ((garnerlaw02_known.f k).bind fun t196 => (some t196)) else ((some (([] : List Int) : List Int)).bind fun y197 => (if y197.length + x0.length < 140737488355328 then (garnerlaw02_CrcTells.l0 k x0 x1 x2 x3 x4 (y197 ++ x0) 0) else (none)))
noncomputable def garnerlaw02_CrcTells.l0 : Nat → List Int → List Int → Int → (Int → Int) → Int → List Int → Int → Option (Bool)
  | 0, _, _, _, _, _, _, _ => none
  | k + 1, x0, x1, x2, x3, x4, x9, x10 => if x10 < 3 then (if 0 ≤ x10 then (if (wrap64 (8 * (x0.length : Int))) = 0 then (none) else (if (Int.tmod (x3 x10) (wrap64 (8 * (x0.length : Int)))) < 0 then (if 0 ≤ (wrap64 (Int.tdiv (wrap64 (-(Int.tmod (x3 x10) (wrap64 (8 * (x0.length : Int)))))) 8)) then (if (wrap64 (Int.tdiv (wrap64 (-(Int.tmod (x3 x10) (wrap64 (8 * (x0.length : Int)))))) 8)) < (x9.length : Int) then (if 0 ≤ (Int.tmod (wrap64 (-(Int.tmod (x3 x10) (wrap64 (8 * (x0.length : Int)))))) 8) then (garnerlaw02_CrcTells.l0 k x0 x1 x2 x3 x4 (x9.set ((wrap64 (Int.tdiv (wrap64 (-(Int.tmod (x3 x10) (wrap64 (8 * (x0.length : Int)))))) 8)) : Int).toNat (Go.bits .xor .u8 (rd x9 (wrap64 (Int.tdiv (wrap64 (-(Int.tmod (x3 x10) (wrap64 (8 * (x0.length : Int)))))) 8))) (shl .u8 1 (Int.tmod (wrap64 (-(Int.tmod (x3 x10) (wrap64 (8 * (x0.length : Int)))))) 8)))) (wrap64 (x10 + 1))) else (none)) else (none)) else (none)) else (if 0 ≤ (wrap64 (Int.tdiv (Int.tmod (x3 x10) (wrap64 (8 * (x0.length : Int)))) 8)) then (if (wrap64 (Int.tdiv (Int.tmod (x3 x10) (wrap64 (8 * (x0.length : Int)))) 8)) < (x9.length : Int) then (if 0 ≤ (Int.tmod (Int.tmod (x3 x10) (wrap64 (8 * (x0.length : Int)))) 8) then (garnerlaw02_CrcTells.l0 k x0 x1 x2 x3 x4 (x9.set ((wrap64 (Int.tdiv (Int.tmod (x3 x10) (wrap64 (8 * (x0.length : Int)))) 8)) : Int).toNat (Go.bits .xor .u8 (rd x9 (wrap64 (Int.tdiv (Int.tmod (x3 x10) (wrap64 (8 * (x0.length : Int)))) 8))) (shl .u8 1 (Int.tmod (Int.tmod (x3 x10) (wrap64 (8 * (x0.length : Int)))) 8)))) (wrap64 (x10 + 1))) else (none)) else (none)) else (none)))) else (none)) else (if (strOfNums x9).toList = (strOfNums x0).toList then (garnerlaw02_CrcTells.j2 k x0 x1 x2 x4 x9 false) else ((crc_Sum.f 5 [x9]).bind fun t207 => ((crc_Sum.f 5 [x0]).bind fun t208 => (garnerlaw02_CrcTells.j2 k x0 x1 x2 x4 x9 (t207 == t208)))))
noncomputable def garnerlaw02_CrcTells.j2 : Nat → List Int → List Int → Int → Int → List Int → Bool → Option (Bool)
  | 0, _, _, _, _, _, _ => none
  | k + 1, x0, x1, x2, x4, x9, x76 => if x76 = true then (none) else ((some (([] : List Int) : List Int)).bind fun y209 => (if y209.length + x0.length < 140737488355328 then ((some (y209 ++ x0 : List Int)).bind fun y212 => (if (wrap64 (8 * (x0.length : Int))) = 0 then (none) else (if (Int.tmod x2 (wrap64 (8 * (x0.length : Int)))) < 0 then (garnerlaw02_CrcTells.j3 k x0 x1 x4 x9 y212 (wrap64 (-(Int.tmod x2 (wrap64 (8 * (x0.length : Int))))))) else (garnerlaw02_CrcTells.j3 k x0 x1 x4 x9 y212 (Int.tmod x2 (wrap64 (8 * (x0.length : Int)))))))) else (none)))
noncomputable def garnerlaw02_CrcTells.j3 : Nat → List Int → List Int → Int → List Int → List Int → Int → Option (Bool)
  | 0, _, _, _, _, _, _ => none
  | k + 1, x0, x1, x4, x9, x12, x13 => garnerlaw02_CrcTells.l1 k x0 x1 x4 x9 x12 x13 0
noncomputable def garnerlaw02_CrcTells.l1 : Nat → List Int → List Int → Int → List Int → List Int → Int → Int → Option (Bool)
  | 0, _, _, _, _, _, _, _ => none
  | k + 1, x0, x1, x4, x9, x12, x13, x14 => if x14 < 32 then (garnerlaw02_CrcTells.j5 k x0 x1 x4 x9 x12 x13 x14 (decide ((wrap64 (x13 + x14)) < (wrap64 (8 * (x0.length : Int)))))) else (garnerlaw02_CrcTells.j5 k x0 x1 x4 x9 x12 x13 x14 false)
noncomputable def garnerlaw02_CrcTells.j5 : Nat → List Int → List Int → Int → List Int → List Int → Int → Int → Bool → Option (Bool)
  | 0, _, _, _, _, _, _, _, _ => none
  | k + 1, x0, x1, x4, x9, x12, x13, x14, x100 => if x100 = true then (if 0 ≤ x14 then (if (Int.tmod (shr .u32 x4 x14) 2) = 1 then (if 0 ≤ (wrap64 (Int.tdiv (wrap64 (x13 + x14)) 8)) then (if (wrap64 (Int.tdiv (wrap64 (x13 + x14)) 8)) < (x12.length : Int) then (if 0 ≤ (Int.tmod (wrap64 (x13 + x14)) 8) then (garnerlaw02_CrcTells.l1 k x0 x1 x4 x9 (x12.set ((wrap64 (Int.tdiv (wrap64 (x13 + x14)) 8)) : Int).toNat (Go.bits .xor .u8 (rd x12 (wrap64 (Int.tdiv (wrap64 (x13 + x14)) 8))) (shl .u8 1 (Int.tmod (wrap64 (x13 + x14)) 8)))) x13 (wrap64 (x14 + 1))) else (none)) else (none)) else (none)) else (garnerlaw02_CrcTells.l1 k x0 x1 x4 x9 x12 x13 (wrap64 (x14 + 1)))) else (none)) else (if (strOfNums x12).toList = (strOfNums x0).toList then (garnerlaw02_CrcTells.j6 k x0 x1 x9 false) else ((crc_Sum.f 5 [x12]).bind fun t217 => ((crc_Sum.f 5 [x0]).bind fun t218 => (garnerlaw02_CrcTells.j6 k x0 x1 x9 (t217 == t218)))))
noncomputable def garnerlaw02_CrcTells.j6 : Nat → List Int → List Int → List Int → Bool → Option (Bool)
  | 0, _, _, _, _ => none
  | k + 1, x0, x1, x9, x140 => if x140 = true then (none) else (if 0 ≤ (x0.length : Int) then (if ((x0.length : Int) : Int).toNat ≤ 281474976710656 then (garnerlaw02_CrcTells.l2 k x0 x1 x9 (List.replicate ((x0.length : Int) : Int).toNat 0) 0) else (none)) else (none))
noncomputable def garnerlaw02_CrcTells.l2 : Nat → List Int → List Int → List Int → List Int → Int → Option (Bool)
  | 0, _, _, _, _, _ => none
  | k + 1, x0, x1, x9, x15, x16 => if x16 < (x0.length : Int) then (if x16 < (x1.length : Int) then (if 0 ≤ x16 then (if x16 < (x15.length : Int) then (garnerlaw02_CrcTells.l2 k x0 x1 x9 (x15.set (x16 : Int).toNat (rd x1 x16)) (wrap64 (x16 + 1))) else (none)) else (none)) else (garnerlaw02_CrcTells.l2 k x0 x1 x9 x15 (wrap64 (x16 + 1)))) else (if 0 ≤ (x0.length : Int) then (if ((x0.length : Int) : Int).toNat ≤ 281474976710656 then (garnerlaw02_CrcTells.l3 k x0 x9 x15 (List.replicate ((x0.length : Int) : Int).toNat 0) 0) else (none)) else (none))
noncomputable def garnerlaw02_CrcTells.l3 : Nat → List Int → List Int → List Int → List Int → Int → Option (Bool)
  | 0, _, _, _, _, _ => none
  | k + 1, x0, x9, x15, x17, x18 => if x18 < (x0.length : Int) then (if 0 ≤ x18 then (if x18 < (x9.length : Int) then (if x18 < (x15.length : Int) then (if x18 < (x17.length : Int) then (garnerlaw02_CrcTells.l3 k x0 x9 x15 (x17.set (x18 : Int).toNat (Go.bits .xor .u8 (Go.bits .xor .u8 (rd x0 x18) (rd x9 x18)) (rd x15 x18))) (wrap64 (x18 + 1))) else (none)) else (none)) else (none)) else (none)) else ((crc_Sum.f 5 [x0]).bind fun t231 => ((crc_Sum.f 5 [x9]).bind fun t232 => ((crc_Sum.f 5 [x15]).bind fun t233 => ((crc_Sum.f 5 [x17]).bind fun t234 => (if (Go.bits .xor .u32 (Go.bits .xor .u32 t231 t232) t233) = t234 then ((garnerlaw02_known.f k).bind fun t235 => (some t235)) else (none))))))
end
noncomputable def garnerlaw02_CrcTells.f (k : Nat) (l0 : List Int) (l1 : List Int) (a2 : Int) (a3 : Int → Int) (a4 : Int) : Option (Bool) := if (l0.length : Int) = 0 then (garnerlaw02_CrcTells.j0 k l0 l1 a2 a3 a4 true) else (garnerlaw02_CrcTells.j0 k l0 l1 a2 a3 a4 (decide ((l0.length : Int) > 65536)))
theorem garnerlaw02_CrcTells.mono_l : ∀ k, (∀ y0 y1 y2 y3 y4 y5, LeO (garnerlaw02_CrcTells.j0 k y0 y1 y2 y3 y4 y5) (garnerlaw02_CrcTells.j0 (k + 1) y0 y1 y2 y3 y4 y5)) ∧ (∀ y0 y1 y2 y3 y4 y5 y6, LeO (garnerlaw02_CrcTells.l0 k y0 y1 y2 y3 y4 y5 y6) (garnerlaw02_CrcTells.l0 (k + 1) y0 y1 y2 y3 y4 y5 y6)) ∧ (∀ y0 y1 y2 y3 y4 y5, LeO (garnerlaw02_CrcTells.j2 k y0 y1 y2 y3 y4 y5) (garnerlaw02_CrcTells.j2 (k + 1) y0 y1 y2 y3 y4 y5)) ∧ (∀ y0 y1 y2 y3 y4 y5, LeO (garnerlaw02_CrcTells.j3 k y0 y1 y2 y3 y4 y5) (garnerlaw02_CrcTells.j3 (k + 1) y0 y1 y2 y3 y4 y5)) ∧ (∀ y0 y1 y2 y3 y4 y5 y6, LeO (garnerlaw02_CrcTells.l1 k y0 y1 y2 y3 y4 y5 y6) (garnerlaw02_CrcTells.l1 (k + 1) y0 y1 y2 y3 y4 y5 y6)) ∧ (∀ y0 y1 y2 y3 y4 y5 y6 y7, LeO (garnerlaw02_CrcTells.j5 k y0 y1 y2 y3 y4 y5 y6 y7) (garnerlaw02_CrcTells.j5 (k + 1) y0 y1 y2 y3 y4 y5 y6 y7)) ∧ (∀ y0 y1 y2 y3, LeO (garnerlaw02_CrcTells.j6 k y0 y1 y2 y3) (garnerlaw02_CrcTells.j6 (k + 1) y0 y1 y2 y3)) ∧ (∀ y0 y1 y2 y3 y4, LeO (garnerlaw02_CrcTells.l2 k y0 y1 y2 y3 y4) (garnerlaw02_CrcTells.l2 (k + 1) y0 y1 y2 y3 y4)) ∧ (∀ y0 y1 y2 y3 y4, LeO (garnerlaw02_CrcTells.l3 k y0 y1 y2 y3 y4) (garnerlaw02_CrcTells.l3 (k + 1) y0 y1 y2 y3 y4))
  | 0 => ⟨fun _ _ _ _ _ _ r h => by simp [garnerlaw02_CrcTells.j0] at h, fun _ _ _ _ _ _ _ r h => by simp [garnerlaw02_CrcTells.l0] at h, fun _ _ _ _ _ _ r h => by simp [garnerlaw02_CrcTells.j2] at h, fun _ _ _ _ _ _ r h => by simp [garnerlaw02_CrcTells.j3] at h, fun _ _ _ _ _ _ _ r h => by simp [garnerlaw02_CrcTells.l1] at h, fun _ _ _ _ _ _ _ _ r h => by simp [garnerlaw02_CrcTells.j5] at h, fun _ _ _ _ r h => by simp [garnerlaw02_CrcTells.j6] at h, fun _ _ _ _ _ r h => by simp [garnerlaw02_CrcTells.l2] at h, fun _ _ _ _ _ r h => by simp [garnerlaw02_CrcTells.l3] at h⟩
  | k + 1 => by
    obtain ⟨ih0, ih1, ih2, ih3, ih4, ih5, ih6, ih7, ih8⟩ := garnerlaw02_CrcTells.mono_l k
    refine ⟨?_, ?_, ?_, ?_, ?_, ?_, ?_, ?_, ?_⟩
    · intro y0 y1 y2 y3 y4 y5
      unfold garnerlaw02_CrcTells.j0
      repeat' first
      | (with_reducible exact ih0 _ _ _ _ _ _)
      | (with_reducible exact ih1 _ _ _ _ _ _ _)
      | (with_reducible exact ih2 _ _ _ _ _ _)
      | (with_reducible exact ih3 _ _ _ _ _ _)
      | (with_reducible exact ih4 _ _ _ _ _ _ _)
      | (with_reducible exact ih5 _ _ _ _ _ _ _ _)
      | (with_reducible exact ih6 _ _ _ _)
      | (with_reducible exact ih7 _ _ _ _ _)
      | (with_reducible exact ih8 _ _ _ _ _)
      | (with_reducible exact garnerlaw02_known.mono _)
      | (with_reducible exact LeO.refl _)
      | (with_reducible exact LeO.none _)
      | (with_reducible refine LeO.ite ?_ ?_)
      | (with_reducible refine LeO.bind ?_ (fun _ => ?_))
      | exact ih0 _ _ _ _ _ _
      | exact ih1 _ _ _ _ _ _ _
      | exact ih2 _ _ _ _ _ _
      | exact ih3 _ _ _ _ _ _
      | exact ih4 _ _ _ _ _ _ _
      | exact ih5 _ _ _ _ _ _ _ _
      | exact ih6 _ _ _ _
      | exact ih7 _ _ _ _ _
      | exact ih8 _ _ _ _ _
      | exact garnerlaw02_known.mono _
      | exact LeO.none _
      | refine LeO.ite ?_ ?_
      | refine LeO.bind ?_ (fun _ => ?_)
    · intro y0 y1 y2 y3 y4 y5 y6
      unfold garnerlaw02_CrcTells.l0
      repeat' first
      | (with_reducible exact ih0 _ _ _ _ _ _)
      | (with_reducible exact ih1 _ _ _ _ _ _ _)
      | (with_reducible exact ih2 _ _ _ _ _ _)
      | (with_reducible exact ih3 _ _ _ _ _ _)
      | (with_reducible exact ih4 _ _ _ _ _ _ _)
      | (with_reducible exact ih5 _ _ _ _ _ _ _ _)
      | (with_reducible exact ih6 _ _ _ _)
      | (with_reducible exact ih7 _ _ _ _ _)
      | (with_reducible exact ih8 _ _ _ _ _)
      | (with_reducible exact garnerlaw02_known.mono _)
      | (with_reducible exact LeO.refl _)
      | (with_reducible exact LeO.none _)
      | (with_reducible refine LeO.ite ?_ ?_)
      | (with_reducible refine LeO.bind ?_ (fun _ => ?_))
      | exact ih0 _ _ _ _ _ _
      | exact ih1 _ _ _ _ _ _ _
      | exact ih2 _ _ _ _ _ _
      | exact ih3 _ _ _ _ _ _
      | exact ih4 _ _ _ _ _ _ _
      | exact ih5 _ _ _ _ _ _ _ _
      | exact ih6 _ _ _ _
      | exact ih7 _ _ _ _ _
      | exact ih8 _ _ _ _ _
      | exact garnerlaw02_known.mono _
      | exact LeO.none _
      | refine LeO.ite ?_ ?_
      | refine LeO.bind ?_ (fun _ => ?_)
    · intro y0 y1 y2 y3 y4 y5
      unfold garnerlaw02_CrcTells.j2
      repeat' first
      | (with_reducible exact ih0 _ _ _ _ _ _)
      | (with_reducible exact ih1 _ _ _ _ _ _ _)
      | (with_reducible exact ih2 _ _ _ _ _ _)
      | (with_reducible exact ih3 _ _ _ _ _ _)
      | (with_reducible exact ih4 _ _ _ _ _ _ _)
      | (with_reducible exact ih5 _ _ _ _ _ _ _ _)
      | (with_reducible exact ih6 _ _ _ _)
      | (with_reducible exact ih7 _ _ _ _ _)
      | (with_reducible exact ih8 _ _ _ _ _)
      | (with_reducible exact garnerlaw02_known.mono _)
      | (with_reducible exact LeO.refl _)
      | (with_reducible exact LeO.none _)
      | (with_reducible refine LeO.ite ?_ ?_)
      | (with_reducible refine LeO.bind ?_ (fun _ => ?_))
      | exact ih0 _ _ _ _ _ _
      | exact ih1 _ _ _ _ _ _ _
      | exact ih2 _ _ _ _ _ _
      | exact ih3 _ _ _ _ _ _
      | exact ih4 _ _ _ _ _ _ _
      | exact ih5 _ _ _ _ _ _ _ _
      | exact ih6 _ _ _ _
      | exact ih7 _ _ _ _ _
      | exact ih8 _ _ _ _ _
      | exact garnerlaw02_known.mono _
      | exact LeO.none _
      | refine LeO.ite ?_ ?_
      | refine LeO.bind ?_ (fun _ => ?_)
    · intro y0 y1 y2 y3 y4 y5
      unfold garnerlaw02_CrcTells.j3
      repeat' first
      | (with_reducible exact ih0 _ _ _ _ _ _)
      | (with_reducible exact ih1 _ _ _ _ _ _ _)
      | (with_reducible exact ih2 _ _ _ _ _ _)
      | (with_reducible exact ih3 _ _ _ _ _ _)
      | (with_reducible exact ih4 _ _ _ _ _ _ _)
      | (with_reducible exact ih5 _ _ _ _ _ _ _ _)
      | (with_reducible exact ih6 _ _ _ _)
      | (with_reducible exact ih7 _ _ _ _ _)
      | (with_reducible exact ih8 _ _ _ _ _)
      | (with_reducible exact garnerlaw02_known.mono _)
      | (with_reducible exact LeO.refl _)
      | (with_reducible exact LeO.none _)
      | (with_reducible refine LeO.ite ?_ ?_)
      | (with_reducible refine LeO.bind ?_ (fun _ => ?_))
      | exact ih0 _ _ _ _ _ _
      | exact ih1 _ _ _ _ _ _ _
      | exact ih2 _ _ _ _ _ _
      | exact ih3 _ _ _ _ _ _
      | exact ih4 _ _ _ _ _ _ _
      | exact ih5 _ _ _ _ _ _ _ _
      | exact ih6 _ _ _ _
      | exact ih7 _ _ _ _ _
      | exact ih8 _ _ _ _ _
      | exact garnerlaw02_known.mono _
      | exact LeO.none _
      | refine LeO.ite ?_ ?_
      | refine LeO.bind ?_ (fun _ => ?_)
    · intro y0 y1 y2 y3 y4 y5 y6
      unfold garnerlaw02_CrcTells.l1
      repeat' first
      | (with_reducible exact ih0 _ _ _ _ _ _)
      | (with_reducible exact ih1 _ _ _ _ _ _ _)
      | (with_reducible exact ih2 _ _ _ _ _ _)
      | (with_reducible exact ih3 _ _ _ _ _ _)
      | (with_reducible exact ih4 _ _ _ _ _ _ _)
      | (with_reducible exact ih5 _ _ _ _ _ _ _ _)
      | (with_reducible exact ih6 _ _ _ _)
      | (with_reducible exact ih7 _ _ _ _ _)
      | (with_reducible exact ih8 _ _ _ _ _)
      | (with_reducible exact garnerlaw02_known.mono _)
      | (with_reducible exact LeO.refl _)
      | (with_reducible exact LeO.none _)
      | (with_reducible refine LeO.ite ?_ ?_)
      | (with_reducible refine LeO.bind ?_ (fun _ => ?_))
      | exact ih0 _ _ _ _ _ _
      | exact ih1 _ _ _ _ _ _ _
      | exact ih2 _ _ _ _ _ _
      | exact ih3 _ _ _ _ _ _
      | exact ih4 _ _ _ _ _ _ _
      | exact ih5 _ _ _ _ _ _ _ _
      | exact ih6 _ _ _ _
      | exact ih7 _ _ _ _ _
      | exact ih8 _ _ _ _ _
      | exact garnerlaw02_known.mono _
      | exact LeO.none _
      | refine LeO.ite ?_ ?_
      | refine LeO.bind ?_ (fun _ => ?_)
    · intro y0 y1 y2 y3 y4 y5 y6 y7
      unfold garnerlaw02_CrcTells.j5
      repeat' first
      | (with_reducible exact ih0 _ _ _ _ _ _)
      | (with_reducible exact ih1 _ _ _ _ _ _ _)
      | (with_reducible exact ih2 _ _ _ _ _ _)
      | (with_reducible exact ih3 _ _ _ _ _ _)
      | (with_reducible exact ih4 _ _ _ _ _ _ _)
      | (with_reducible exact ih5 _ _ _ _ _ _ _ _)
      | (with_reducible exact ih6 _ _ _ _)
      | (with_reducible exact ih7 _ _ _ _ _)
      | (with_reducible exact ih8 _ _ _ _ _)
      | (with_reducible exact garnerlaw02_known.mono _)
      | (with_reducible exact LeO.refl _)
      | (with_reducible exact LeO.none _)
      | (with_reducible refine LeO.ite ?_ ?_)
      | (with_reducible refine LeO.bind ?_ (fun _ => ?_))
      | exact ih0 _ _ _ _ _ _
      | exact ih1 _ _ _ _ _ _ _
      | exact ih2 _ _ _ _ _ _
      | exact ih3 _ _ _ _ _ _
      | exact ih4 _ _ _ _ _ _ _
      | exact ih5 _ _ _ _ _ _ _ _
      | exact ih6 _ _ _ _
      | exact ih7 _ _ _ _ _
      | exact ih8 _ _ _ _ _
      | exact garnerlaw02_known.mono _
      | exact LeO.none _
      | refine LeO.ite ?_ ?_
      | refine LeO.bind ?_ (fun _ => ?_)
    · intro y0 y1 y2 y3
      unfold garnerlaw02_CrcTells.j6
      repeat' first
      | (with_reducible exact ih0 _ _ _ _ _ _)
      | (with_reducible exact ih1 _ _ _ _ _ _ _)
      | (with_reducible exact ih2 _ _ _ _ _ _)
      | (with_reducible exact ih3 _ _ _ _ _ _)
      | (with_reducible exact ih4 _ _ _ _ _ _ _)
      | (with_reducible exact ih5 _ _ _ _ _ _ _ _)
      | (with_reducible exact ih6 _ _ _ _)
      | (with_reducible exact ih7 _ _ _ _ _)
      | (with_reducible exact ih8 _ _ _ _ _)
      | (with_reducible exact garnerlaw02_known.mono _)
      | (with_reducible exact LeO.refl _)
      | (with_reducible exact LeO.none _)
      | (with_reducible refine LeO.ite ?_ ?_)
      | (with_reducible refine LeO.bind ?_ (fun _ => ?_))
      | exact ih0 _ _ _ _ _ _
      | exact ih1 _ _ _ _ _ _ _
      | exact ih2 _ _ _ _ _ _
      | exact ih3 _ _ _ _ _ _
      | exact ih4 _ _ _ _ _ _ _
      | exact ih5 _ _ _ _ _ _ _ _
      | exact ih6 _ _ _ _
      | exact ih7 _ _ _ _ _
      | exact ih8 _ _ _ _ _
      | exact garnerlaw02_known.mono _
      | exact LeO.none _
      | refine LeO.ite ?_ ?_
      | refine LeO.bind ?_ (fun _ => ?_)
    · intro y0 y1 y2 y3 y4
      unfold garnerlaw02_CrcTells.l2
      repeat' first
      | (with_reducible exact ih0 _ _ _ _ _ _)
      | (with_reducible exact ih1 _ _ _ _ _ _ _)
      | (with_reducible exact ih2 _ _ _ _ _ _)
      | (with_reducible exact ih3 _ _ _ _ _ _)
      | (with_reducible exact ih4 _ _ _ _ _ _ _)
      | (with_reducible exact ih5 _ _ _ _ _ _ _ _)
      | (with_reducible exact ih6 _ _ _ _)
      | (with_reducible exact ih7 _ _ _ _ _)
      | (with_reducible exact ih8 _ _ _ _ _)
      | (with_reducible exact garnerlaw02_known.mono _)
      | (with_reducible exact LeO.refl _)
      | (with_reducible exact LeO.none _)
      | (with_reducible refine LeO.ite ?_ ?_)
      | (with_reducible refine LeO.bind ?_ (fun _ => ?_))
      | exact ih0 _ _ _ _ _ _
      | exact ih1 _ _ _ _ _ _ _
      | exact ih2 _ _ _ _ _ _
      | exact ih3 _ _ _ _ _ _
      | exact ih4 _ _ _ _ _ _ _
      | exact ih5 _ _ _ _ _ _ _ _
      | exact ih6 _ _ _ _
      | exact ih7 _ _ _ _ _
      | exact ih8 _ _ _ _ _
      | exact garnerlaw02_known.mono _
      | exact LeO.none _
      | refine LeO.ite ?_ ?_
      | refine LeO.bind ?_ (fun _ => ?_)
    · intro y0 y1 y2 y3 y4
      unfold garnerlaw02_CrcTells.l3
      repeat' first
      | (with_reducible exact ih0 _ _ _ _ _ _)
      | (with_reducible exact ih1 _ _ _ _ _ _ _)
      | (with_reducible exact ih2 _ _ _ _ _ _)
      | (with_reducible exact ih3 _ _ _ _ _ _)
      | (with_reducible exact ih4 _ _ _ _ _ _ _)
      | (with_reducible exact ih5 _ _ _ _ _ _ _ _)
      | (with_reducible exact ih6 _ _ _ _)
      | (with_reducible exact ih7 _ _ _ _ _)
      | (with_reducible exact ih8 _ _ _ _ _)
      | (with_reducible exact garnerlaw02_known.mono _)
      | (with_reducible exact LeO.refl _)
      | (with_reducible exact LeO.none _)
      | (with_reducible refine LeO.ite ?_ ?_)
      | (with_reducible refine LeO.bind ?_ (fun _ => ?_))
      | exact ih0 _ _ _ _ _ _
      | exact ih1 _ _ _ _ _ _ _
      | exact ih2 _ _ _ _ _ _
      | exact ih3 _ _ _ _ _ _
      | exact ih4 _ _ _ _ _ _ _
      | exact ih5 _ _ _ _ _ _ _ _
      | exact ih6 _ _ _ _
      | exact ih7 _ _ _ _ _
      | exact ih8 _ _ _ _ _
      | exact garnerlaw02_known.mono _
      | exact LeO.none _
      | refine LeO.ite ?_ ?_
      | refine LeO.bind ?_ (fun _ => ?_)
theorem garnerlaw02_CrcTells.mono : ∀ a0 a1 a2 a3 a4 k, LeO (garnerlaw02_CrcTells.f k a0 a1 a2 a3 a4) (garnerlaw02_CrcTells.f (k + 1) a0 a1 a2 a3 a4) := by
  intro a0 a1 a2 a3 a4 k
  obtain ⟨ih0, ih1, ih2, ih3, ih4, ih5, ih6, ih7, ih8⟩ := garnerlaw02_CrcTells.mono_l k
  unfold garnerlaw02_CrcTells.f
  repeat' first
      | (with_reducible exact ih0 _ _ _ _ _ _)
      | (with_reducible exact ih1 _ _ _ _ _ _ _)
      | (with_reducible exact ih2 _ _ _ _ _ _)
      | (with_reducible exact ih3 _ _ _ _ _ _)
      | (with_reducible exact ih4 _ _ _ _ _ _ _)
      | (with_reducible exact ih5 _ _ _ _ _ _ _ _)
      | (with_reducible exact ih6 _ _ _ _)
      | (with_reducible exact ih7 _ _ _ _ _)
      | (with_reducible exact ih8 _ _ _ _ _)
      | (with_reducible exact garnerlaw02_known.mono _)
      | (with_reducible exact LeO.refl _)
      | (with_reducible exact LeO.none _)
      | (with_reducible refine LeO.ite ?_ ?_)
      | (with_reducible refine LeO.bind ?_ (fun _ => ?_))
      | exact ih0 _ _ _ _ _ _
      | exact ih1 _ _ _ _ _ _ _
      | exact ih2 _ _ _ _ _ _
      | exact ih3 _ _ _ _ _ _
      | exact ih4 _ _ _ _ _ _ _
      | exact ih5 _ _ _ _ _ _ _ _
      | exact ih6 _ _ _ _
      | exact ih7 _ _ _ _ _
      | exact ih8 _ _ _ _ _
      | exact garnerlaw02_known.mono _
      | exact LeO.none _
      | refine LeO.ite ?_ ?_
      | refine LeO.bind ?_ (fun _ => ?_)
def garnerlaw02_CrcTells.T11 : Bool × List (List Nat × List Nat) := (true, [([], []), ([], []), ([1], [1]), ([], []), ([], []), ([4], [4]), ([3, 5], [3, 5]), ([6], [6]), ([], []), ([8], [8]), ([9], [9]), ([7, 10], [7, 10]), ([0, 2, 0, 1, 2, 3, 4, 5, 6, 7, 8, 9, 10, 11], [0, 2]), ([12, 11, 0, 1, 2, 3, 4, 5, 6, 7, 8, 9, 10, 11], [11, 12])])
def garnerlaw02_CrcTells.B11 : List Nat := [0, 0, 2, 0, 0, 16, 56, 120, 0, 256, 768, 2040, 4095, 8191]
theorem garnerlaw02_CrcTells.tab11 : rtab .any (opsOf Try.f6 11) = garnerlaw02_CrcTells.T11 := by kernel_rfl
theorem garnerlaw02_CrcTells.bits11 : waitsOk garnerlaw02_CrcTells.T11.2 garnerlaw02_CrcTells.B11 = true := by kernel_rfl
def garnerlaw02_CrcTells.T22 : Bool × List (List Nat × List Nat) := (true, [([], []), ([], []), ([], []), ([1, 2], [1, 2]), ([3], [3]), ([], []), ([], []), ([], []), ([6, 7], [6, 7]), ([8], [8]), ([5, 9], [5, 9]), ([10], [10]), ([], []), ([], []), ([12, 13], [12, 13]), ([14], [14]), ([15], [15]), ([11, 16], [11, 16]), ([0, 4, 0, 1, 2, 3, 4, 5, 6, 7, 8, 9, 10, 11, 12, 13, 14, 15, 16, 17], [0, 4]), ([18, 17, 0, 1, 2, 3, 4, 5, 6, 7, 8, 9, 10, 11, 12, 13, 14, 15, 16, 17], [17, 18])])
def garnerlaw02_CrcTells.B22 : List Nat := [0, 0, 0, 6, 14, 0, 0, 0, 192, 448, 992, 2016, 0, 0, 12288, 28672, 61440, 131040, 262143, 524287]
theorem garnerlaw02_CrcTells.tab22 : rtab .any (opsOf Try.f6 22) = garnerlaw02_CrcTells.T22 := by kernel_rfl
theorem garnerlaw02_CrcTells.bits22 : waitsOk garnerlaw02_CrcTells.T22.2 garnerlaw02_CrcTells.B22 = true := by kernel_rfl
def garnerlaw02_CrcTells.T35 : Bool × List (List Nat × List Nat) := (true, [([], []), ([], []), ([], []), ([], []), ([2, 3], [2, 3]), ([4], [4]), ([], []), ([], []), ([6, 7], [6, 7]), ([8], [8]), ([5, 9], [5, 9]), ([], []), ([], []), ([11, 12], [11, 12]), ([13], [13]), ([10, 14], [10, 14]), ([0, 1, 0, 1, 2, 3, 4, 5, 6, 7, 8, 9, 10, 11, 12, 13, 14, 15], [0, 1]), ([16, 15, 0, 1, 2, 3, 4, 5, 6, 7, 8, 9, 10, 11, 12, 13, 14, 15], [15, 16])])
def garnerlaw02_CrcTells.B35 : List Nat := [0, 0, 0, 0, 12, 28, 0, 0, 192, 448, 1020, 0, 0, 6144, 14336, 32764, 65535, 131071]
theorem garnerlaw02_CrcTells.tab35 : rtab .any (opsOf Try.f6 35) = garnerlaw02_CrcTells.T35 := by kernel_rfl
theorem garnerlaw02_CrcTells.bits35 : waitsOk garnerlaw02_CrcTells.T35.2 garnerlaw02_CrcTells.B35 = true := by kernel_rfl
theorem tsum {k : Nat} {x : List Int} {n : Nat} (hn : x.length = n) {s : Int} (h : crc_Sum.f k [x] = some s) {w : World} {A : Option Addr} {c : Nat} (hx : Kd.C (Kd.int .u8) w A x.length x) (hxc : n ≤ c) :
    Calls Try.prog 8 #[.slice (some ⟨w.heap.size, 0, none⟩) 1 1] (w.alloc (.cells #[.slice A n c] 24)) fun e w' => e = .returned (.int .u32 s) ∧ Below (w.alloc (.cells #[.slice A n c] 24)).heap.size (w.alloc (.cells #[.slice A n c] 24)) w' := by
  subst hn
  exact crc_Sum.calls k _ 1 [x] s _ (known_rows1 (x := x) hx hxc 24) (by simp) h
theorem kept_cell {w w' : World} (hb : Below w.heap.size w w') {a : Addr} {v : Value} (h : w.cell? a = some v) : w'.cell? a = some v := (hb.cell (World.block_lt_of_cell? w a h)).trans h
set_option maxHeartbeats 16000000 in
set_option maxRecDepth 100000 in
theorem garnerlaw02_CrcTells.calls (k : Nat) (A0 : Option Addr) (c0 : Nat) (l0 : List Int) (A1 : Option Addr) (c1 : Nat) (l1 : List Int) (a2 : Int) (a3 : Int → Int) (ha2 : a3 0 = a2) (a4 : Int) (r : Bool) (wz : World) (hr0 : Kd.C (Kd.int .u8) wz A0 l0.length l0) (hc0 : l0.length ≤ c0) (hr1 : Kd.C (Kd.int .u8) wz A1 l1.length l1) (hc1 : l1.length ≤ c1) (h : garnerlaw02_CrcTells.f k l0 l1 a2 a3 a4 = some r) :
    Calls Try.prog 6 #[.agg #[.slice A0 l0.length c0, .slice A1 l1.length c1], .agg #[.int .i64 a2, .int .i64 (a3 1), .int .i64 (a3 2)], .int .u32 a4] wz fun e w' => e = .returned (.bool r) ∧ Below wz.heap.size wz w' := by
  have hu35 := Try.underlying35
  have hu36 := Try.underlying36
  have HR0 := Aside0.mk hr0
  have HC0 := Aside0.mk hc0
  clear hr0 hc0
  have HR1 := Aside0.mk hr1
  have HC1 := Aside0.mk hc1
  clear hr1 hc1
  have H : (if (l0.length : Int) = 0 then (garnerlaw02_CrcTells.j0 k l0 l1 a2 a3 a4 true) else (garnerlaw02_CrcTells.j0 k l0 l1 a2 a3 a4 (decide ((l0.length : Int) > 65536)))) = some r := h
  clear h
  have HC6 := Aside0.mk H
  clear H
  have AV := Aside0.mk ha2
  clear ha2
  go_enter Try.func6, Try.ntmps6
  go_upto_region 1 with (fail)
  have hc : ∀ (o o2 : Obj), ((wz.alloc o).alloc o2).heap[wz.heap.size]? = some o := fun o o2 => ((below_alloc (Below.refl (wz.alloc o).heap.size (wz.alloc o)) o2).block wz.heap.size (by simp)).trans (blk_new wz o)
  have hd : ∀ (o o2 : Obj), ((wz.alloc o).alloc o2).heap[wz.heap.size + 1]? = some o2 := fun o o2 => by have := blk_new (wz.alloc o) o2; rwa [show (wz.alloc o).heap.size = wz.heap.size + 1 by simp] at this
  have y0 := (blk_cell (hc (.cells #[.slice A0 l0.length c0, .slice A1 l1.length c1] 35) (.cells #[.int .i64 a2, .int .i64 (a3 1), .int .i64 (a3 2)] 36)) 0).trans rfl
  have y1 := (blk_cell (hc (.cells #[.slice A0 l0.length c0, .slice A1 l1.length c1] 35) (.cells #[.int .i64 a2, .int .i64 (a3 1), .int .i64 (a3 2)] 36)) 1).trans rfl
  have HZ := Aside0.mk (below_alloc (below_alloc (Below.refl wz.heap.size wz) (.cells #[.slice A0 l0.length c0, .slice A1 l1.length c1] 35)) (.cells #[.int .i64 a2, .int .i64 (a3 1), .int .i64 (a3 2)] 36))
  have HA := Aside0.mk (show ∀ i : Int, 0 ≤ i → i < 3 → ((wz.alloc (.cells #[.slice A0 l0.length c0, .slice A1 l1.length c1] 35)).alloc (.cells #[.int .i64 a2, .int .i64 (a3 1), .int .i64 (a3 2)] 36)).cell? ⟨wz.heap.size + 1, i.toNat, none⟩ = some (.int .i64 (a3 i)) from fun i h0 h3 => by
    have hb := hd (.cells #[.slice A0 l0.length c0, .slice A1 l1.length c1] 35) (.cells #[.int .i64 a2, .int .i64 (a3 1), .int .i64 (a3 2)] 36)
    rcases (show i = 0 ∨ i = 1 ∨ i = 2 by omega) with rfl | rfl | rfl
    · rw [AV.out]; exact (blk_cell hb 0).trans rfl
    · exact (blk_cell hb 1).trans rfl
    · exact (blk_cell hb 2).trans rfl)
  generalize (wz.alloc (.cells #[.slice A0 l0.length c0, .slice A1 l1.length c1] 35)).alloc (.cells #[.int .i64 a2, .int .i64 (a3 1), .int .i64 (a3 2)] 36) = wy at y0 y1 HZ HA ⊢
  clear hc hd
  go_quiet (fail)
  clear y0 y1
  replace HZ := Aside0.mk (pw_below_drewN HZ.out nq)
  replace HA := Aside0.mk (show ∀ i : Int, 0 ≤ i → i < 3 → (wy.drewN nq).cell? ⟨wz.heap.size + 1, i.toNat, none⟩ = some (.int .i64 (a3 i)) from HA.out)
  generalize wy.drewN nq = w at HZ HA ⊢
  replace HR0 := Aside0.mk (Kd.C_below HR0.out HZ.out)
  replace HR1 := Aside0.mk (Kd.C_below HR1.out HZ.out)
  have HA0 := Aside0.mk (show w.cell? ⟨wz.heap.size + 1, 0, none⟩ = some (.int .i64 a2) from by have h := HA.out 0 (by decide) (by decide); rw [AV.out] at h; exact h)
  have HB := Aside0.mk (Below.refl w.heap.size w)
  go_upto_region 2 with (fail)
  go_cut [30] (fun v30 wc => ∃ (kq : Nat) (x30_5 : Bool), v30 = .bool x30_5 ∧ Aside0 (garnerlaw02_CrcTells.j0 kq l0 l1 a2 a3 a4 x30_5 = some r) ∧ Aside0 (kq ≤ k) ∧ Aside0 (Below w.heap.size w wc))
  case first => as_aux_lemma =>
    have H := HC6.out
    clear HC6
    by_cases c7 : (l0.length : Int) = 0
    · rw [if_pos c7] at H
      have c7b0 : ((l0.length : Int) == 0) = true := beq_iff_eq.mpr c7
      have c7b1 : ((l0.length : Int) != 0) = false := bne_eq_false_iff_eq.mpr c7
      clear c7
      (first | rw [c7b0] | (simp only [i64_w, i32_w]; rw [c7b0]) | skip)
      have H' := Aside0.mk H
      clear H
      go_wp2
      go_meet
      case rel => exact ⟨_, (true), (by first | rfl | (simp; done) | (simp [*]; done)), H', ⟨by first | omega | exact Nat.le_refl _⟩, ⟨by repeat (first | (with_reducible first | exact HB.out | apply below_alloc | apply pw_below_drewN | apply below_drew1) | exact HB.out)⟩⟩
    · rw [if_neg c7] at H
      have c7b0 : ((l0.length : Int) == 0) = false := beq_eq_false_iff_ne.mpr c7
      have c7b1 : ((l0.length : Int) != 0) = true := bne_iff_ne.mpr c7
      have c7b2 : ¬ (l0 = []) := fun h_ => c7 (by rw [h_]; rfl)
      (first | rw [c7b0] | (simp only [i64_w, i32_w]; rw [c7b0]) | skip)
      have H' := Aside0.mk H
      clear H
      go_wp2
      go_meet
      case rel => exact ⟨_, (decide ((l0.length : Int) > 65536)), (by first | rfl | (simp; done) | (simp [*]; done)), H', ⟨by first | omega | exact Nat.le_refl _⟩, ⟨by repeat (first | (with_reducible first | exact HB.out | apply below_alloc | apply pw_below_drewN | apply below_drew1) | exact HB.out)⟩⟩
  case rest => as_aux_lemma =>
    clear HC6
    try clear c1
    try clear p2
    try clear c6
    try clear c7
    try clear c7b0
    try clear c7b1
    try clear c7b2
    obtain ⟨kq, x30_5, rfl, HA, HJ5, HB⟩ := hcut
    cases kq with
    | zero => exact absurd HA.out (by simp [garnerlaw02_CrcTells.j0])
    | succ kj5 =>
      have H := HA.out
      clear HA
      simp only [garnerlaw02_CrcTells.j0] at H
      by_cases c8 : x30_5 = true
      · subst c8
        have H1 : ((garnerlaw02_known.f kj5).bind fun t196 => (some t196)) = some r := by rw [if_pos rfl] at H; exact H
        clear H
        have H := H1
        clear H1
        replace H := Option.bind_eq_some_iff.mp H
        obtain ⟨t196, A90, H⟩ := H
        replace H : (some t196) = some r := H
        have A9 := Aside0.mk A90
        clear A90
        obtain rfl := Option.some.inj H
        go_wp2_with (first | ((with_reducible refine gate_callee (f := 7) rfl ?_); refine goesL_ (some 31) rfl rfl Try.func7 (by kernel_rfl) rfl #[] rfl (by (try simp only [List.map_toArray, List.map_cons, List.map_nil]); first | done | rfl | (simp only [List.length_drop, List.length_take]; rfl)) ?_; (with_reducible refine (garnerlaw02_known.calls kj5  t196 _ A9.out).mono ?_); rintro e w10 ⟨rfl, hb⟩; refine ⟨_, rfl, ?_⟩; have n0_ := Aside0.mk (below_step (by repeat (first | (with_reducible first | exact HB.out | apply below_alloc | apply pw_below_drewN | apply below_drew1) | exact HB.out)) hb); clear HB; have HB := n0_; clear n0_; (try clear hb); (try clear hb2); (try clear hk); (try clear hi)))
        go_ret
        exact ⟨by first | rfl | (simp [errW_none, errW_some] <;> rfl) | (simp [*, errW_none, errW_some] <;> rfl), below_step HZ.out (by repeat (first | (with_reducible first | exact HB.out | apply below_alloc | apply pw_below_drewN | apply below_drew1) | exact HB.out))⟩
      · replace c8 := Bool.eq_false_iff.mpr c8
        subst c8
        have H1 : ((some (([] : List Int) : List Int)).bind fun y197 => (if y197.length + l0.length < 140737488355328 then (garnerlaw02_CrcTells.l0 kj5 l0 l1 a2 a3 a4 (y197 ++ l0) 0) else (none))) = some r := by rw [if_neg (show ¬ (false = true) by decide)] at H; exact H
        clear H
        have H := H1
        clear H1
        obtain ⟨y197, hy197⟩ : ∃ y_ : List Int, y_ = (([] : List Int)) := ⟨_, rfl⟩
        replace H : (if y197.length + l0.length < 140737488355328 then (garnerlaw02_CrcTells.l0 kj5 l0 l1 a2 a3 a4 (y197 ++ l0) 0) else (none)) = some r := by first | (rw [hy197]; with_reducible exact H) | (have H2_ := (Option.bind_some _ _).symm.trans H; rw [hy197]; with_reducible exact H2_) | (have H2_ := (Option.bind_some _ _).symm.trans H; with_reducible exact H2_) | with_reducible exact H | (rw [hy197]; exact H) | exact H
        have Ny197 := Aside0.mk hy197
        clear hy197
        by_cases c11 : y197.length + l0.length < 140737488355328
        · rw [if_pos c11] at H
          have LMc11 := Aside0.mk c11
          clear c11
          obtain ⟨y200, hy200⟩ : ∃ y_ : List Int, y_ = (y197 ++ l0) := ⟨_, rfl⟩
          replace H : (garnerlaw02_CrcTells.l0 kj5 l0 l1 a2 a3 a4 y200 0) = some r := by first | (rw [hy200]; with_reducible exact H) | (have H2_ := (Option.bind_some _ _).symm.trans H; rw [hy200]; with_reducible exact H2_) | (have H2_ := (Option.bind_some _ _).symm.trans H; with_reducible exact H2_) | with_reducible exact H | (rw [hy200]; exact H) | exact H
          have Ny200 := Aside0.mk hy200
          clear hy200
          have H' := Aside0.mk H
          clear H
          go_wp2_with (first | ((with_reducible refine gate_dst (N := 32) rfl ?_); (try (refine gate_guard (by rfl) ?_; dsimp only)); refine Kd.R_lit (Kd.int .u8) _ 5 ?hg (N := 32) ?hd (xs := ([] : List Int)) (inner := []) (ok := fun _ => True) (okp := fun _ => True) ?hr ?hp (fun _ hk => hk) trivial (Below.refl _ _) (Nat.le_refl _) (by simp) ?_; (case hd => rfl); (case hg => rfl); (case hr => first | (go_simp; done) | (go_simp; rfl)); (case hp => exact (Reps.none _ _)); intro v198 w12 ho13 hb hg_ hnew_; clear hg_ hnew_; (first | rw [← Ny197.out] at ho13 | (simp only [Int.reduceToNat] at ho13; rw [← Ny197.out] at ho13)); have n0_ := Aside0.mk (Kd.R_lower ho13 (below_size (by repeat (first | (with_reducible first | exact HB.out | apply below_alloc | apply pw_below_drewN | apply below_drew1) | exact HB.out)))); have n1_ := Aside0.mk (below_step (by repeat (first | (with_reducible first | exact HB.out | apply below_alloc | apply pw_below_drewN | apply below_drew1) | exact HB.out)) hb); clear HB; have HO199 := n0_; have HB := n1_; clear n0_ n1_; clear hb ho13) | ((with_reducible refine gate_builtin (b := .append) (xs := #[.tmp 32, .tmp 33]) rfl ?_); (try (refine gate_guard (by rfl) ?_; dsimp only)); at_builtin; refine Kd.R_append_rows (Kd.int .u8) (w0 := w) w.heap.size rfl (.tmp 32) (.tmp 33) 24 5 (.int .u8 0) 1 rfl Try.underlying24 info5 rfl (by decide) (by omega) v198 y197 l0 _ _ _ (fun _ => True) (fun _ => False) rfl rfl ?aO ?aR (fun _ _ h => h) (fun _ h => h.elim) ?aF ?aB ?aS ?aL ?_; (case aR => repeat (first | exact (Kd.C_below HR0.out HB.out) | (with_reducible refine Kd.C_alloc ?_ _) | (with_reducible refine Kd.C_drewN ?_ _) | (with_reducible refine Kd.C_drew ?_))); (case aB => exact (by repeat (first | (with_reducible first | exact HB.out | apply below_alloc | apply pw_below_drewN | apply below_drew1) | exact HB.out))); (case aF => exact (fun _ _ => trivial)); (case aO => exact (by (with_reducible repeat (first | apply Kd.R_alloc | apply Kd.R_drewN | apply Kd.R_drew)); exact HO199.out)); (case aS => exact (below_size (by repeat (first | (with_reducible first | exact HB.out | apply below_alloc | apply pw_below_drewN | apply below_drew1) | exact HB.out)))); (case aL => have := LMc11.out; omega); intro v201 w14 ho hb hg hat; rw [← Ny200.out] at ho; have n0_ := Aside0.mk (hb); have n1_ := Aside0.mk (ho); clear HB; clear HO199; have HB := n0_; have HO202 := n1_; clear n0_ n1_; clear ho hb hg hat))
          go_loopg [10] kj5 (fun kq v10 w' => ∃ (x9_2 : List Int) (x10_2 : Int), v10 = .int .i64 x10_2 ∧ Aside0 (garnerlaw02_CrcTells.l0 kq l0 l1 a2 a3 a4 x9_2 x10_2 = some r) ∧ Aside0 (kq ≤ kj5) ∧ Aside0 (Kd.R (Kd.int .u8) 5 w' w.heap.size (fun _ => True) v201 x9_2) ∧ Aside0 (Below w.heap.size w w'))
          case atStart => exact ⟨(y200), (0), (by first | rfl | (simp; done) | (simp [*]; done)), H', ⟨Nat.le_refl _⟩, ⟨by (with_reducible repeat (first | apply Kd.R_alloc | apply Kd.R_drewN | apply Kd.R_drew)); exact HO202.out⟩, ⟨by repeat (first | (with_reducible first | exact HB.out | apply below_alloc | apply pw_below_drewN | apply below_drew1) | exact HB.out)⟩⟩
          case round => as_aux_lemma =>
            clear H'
            try clear c1
            try clear p2
            try clear c6
            try clear c7
            try clear c7b0
            try clear c7b1
            try clear c7b2
            try clear c8
            try clear c11
            try clear p2
            obtain ⟨x9_2, x10_2, rfl, HA, HK2, HO_9, HB⟩ := hrel
            cases gk with
            | zero => exact absurd HA.out (by simp [garnerlaw02_CrcTells.l0])
            | succ k2 =>
              have H := HA.out
              clear HA
              simp only [garnerlaw02_CrcTells.l0] at H
              by_cases c15 : x10_2 < 3
              · rw [if_pos c15] at H
                have c150 : 0 ≤ x10_2 := Decidable.byContradiction fun h_ => by rw [if_neg h_] at H; exact absurd H (by simp)
                rw [if_pos c150] at H
                have hxa := kept_cell HB.out (HA.out x10_2 c150 c15)
                obtain ⟨av_, hav_⟩ : ∃ z : Int, a3 x10_2 = z := ⟨_, rfl⟩
                rw [hav_] at hxa
                try rw [hav_] at H
                have c150b : decide (0 ≤ x10_2) = true := decide_eq_true c150
                have c150e : (0 ≤ x10_2) = True := eq_true c150
                have c15e : (x10_2 < 3) = True := eq_true c15
                clear c150
                have c15b0 : decide (x10_2 < 3) = true := decide_eq_true c15
                clear c15
                by_cases c16 : (wrap64 (8 * (l0.length : Int))) = 0
                · rw [if_pos c16] at H
                  exact absurd H (by simp)
                · rw [if_neg c16] at H
                  have c16b0 : ((wrap64 (8 * (l0.length : Int))) == 0) = false := beq_eq_false_iff_ne.mpr c16
                  have c16b1 : ((wrap64 (8 * (l0.length : Int))) != 0) = true := bne_iff_ne.mpr c16
                  by_cases c17 : (Int.tmod av_ (wrap64 (8 * (l0.length : Int)))) < 0
                  · rw [if_pos c17] at H
                    have c17b0 : decide ((Int.tmod av_ (wrap64 (8 * (l0.length : Int)))) < 0) = true := decide_eq_true c17
                    clear c17
                    obtain ⟨ji18, hji18⟩ : ∃ j_ : Int, (wrap64 (Int.tdiv (wrap64 (-(Int.tmod av_ (wrap64 (8 * (l0.length : Int)))))) 8)) = j_ := ⟨_, rfl⟩
                    replace H : (if 0 ≤ (ji18) then (if (ji18) < (x9_2.length : Int) then (if 0 ≤ (Int.tmod (wrap64 (-(Int.tmod av_ (wrap64 (8 * (l0.length : Int)))))) 8) then (garnerlaw02_CrcTells.l0 k2 l0 l1 a2 a3 a4 (x9_2.set ((ji18) : Int).toNat (Go.bits .xor .u8 (rd x9_2 (ji18)) (shl .u8 1 (Int.tmod (wrap64 (-(Int.tmod av_ (wrap64 (8 * (l0.length : Int)))))) 8)))) (wrap64 (x10_2 + 1))) else (none)) else (none)) else (none)) = some r := by first | (rw [hji18] at H; exact H) | (simp only [hji18] at H ⊢; exact H)
                    have hji18w : (IntKind.i64.wrap (Int.tdiv (wrap64 (-(Int.tmod av_ (wrap64 (8 * (l0.length : Int)))))) 8)) = ji18 := (i64_w _).trans hji18
                    by_cases c19 : 0 ≤ (ji18)
                    · rw [if_pos c19] at H
                      have c19b0 : decide (0 ≤ (ji18)) = true := decide_eq_true c19
                      clear c19
                      by_cases c20 : (ji18) < (x9_2.length : Int)
                      · rw [if_pos c20] at H
                        have c20b0 : decide ((ji18) < (x9_2.length : Int)) = true := decide_eq_true c20
                        clear c20
                        obtain ⟨ji21, hji21⟩ : ∃ j_ : Int, (Int.tmod (wrap64 (-(Int.tmod av_ (wrap64 (8 * (l0.length : Int)))))) 8) = j_ := ⟨_, rfl⟩
                        replace H : (if 0 ≤ (ji21) then (garnerlaw02_CrcTells.l0 k2 l0 l1 a2 a3 a4 (x9_2.set ((ji18) : Int).toNat (Go.bits .xor .u8 (rd x9_2 (ji18)) (shl .u8 1 (ji21)))) (wrap64 (x10_2 + 1))) else (none)) = some r := by first | (rw [hji21] at H; exact H) | (simp only [hji21] at H ⊢; exact H)
                        by_cases c22 : 0 ≤ (ji21)
                        · rw [if_pos c22] at H
                          have c22b0 := eq_true c22
                          have c22b1 : decide (0 ≤ (ji21)) = true := decide_eq_true c22
                          clear c22
                          obtain ⟨ji23, hji23⟩ : ∃ j_ : Int, (shl .u8 1 (ji21)) = j_ := ⟨_, rfl⟩
                          replace H : (garnerlaw02_CrcTells.l0 k2 l0 l1 a2 a3 a4 (x9_2.set ((ji18) : Int).toNat (Go.bits .xor .u8 (rd x9_2 (ji18)) (ji23))) (wrap64 (x10_2 + 1))) = some r := by first | (rw [hji23] at H; exact H) | (simp only [hji23] at H ⊢; exact H)
                          have hji23_ : (IntKind.u8.wrap (1 * 2 ^ min (ji21).toNat 8)) = ji23 := hji23
                          have hji23z : (ji21) ≤ 8 → (IntKind.u8.wrap (1 * 2 ^ (ji21).toNat)) = ji23 := shl_small hji23
                          have hji23u : (IntKind.u8.wrap (2 ^ min (ji21).toNat 8)) = ji23 := by have h_ := hji23_; rw [Int.one_mul] at h_; exact h_
                          have hji23v : (ji21) ≤ 8 → (IntKind.u8.wrap (2 ^ (ji21).toNat)) = ji23 := fun hle_ => by have h_ := hji23z hle_; rw [Int.one_mul] at h_; exact h_
                          obtain ⟨y204, hy204⟩ : ∃ y_ : List Int, y_ = (x9_2.set ((ji18) : Int).toNat (Go.bits .xor .u8 (rd x9_2 (ji18)) (ji23))) := ⟨_, rfl⟩
                          replace H : (garnerlaw02_CrcTells.l0 k2 l0 l1 a2 a3 a4 y204 (wrap64 (x10_2 + 1))) = some r := by first | (rw [hy204]; with_reducible exact H) | (have H2_ := (Option.bind_some _ _).symm.trans H; rw [hy204]; with_reducible exact H2_) | (have H2_ := (Option.bind_some _ _).symm.trans H; with_reducible exact H2_) | with_reducible exact H | (rw [hy204]; exact H) | exact H
                          have Ny204 := Aside0.mk hy204
                          clear hy204
                          have H' := Aside0.mk H
                          clear H
                          try go_wp2
                          have n0_ := Aside0.mk (Kd.R_drew HO_9.out)
                          have n1_ := Aside0.mk (below_drew1 HB.out)
                          clear HO_9
                          clear HB
                          have HO_9 := n0_
                          have HB := n1_
                          clear n0_ n1_
                          obtain ⟨Ao26, co26, eo26⟩ := Kd.R_slice HO_9.out
                          (first | subst eo26 | (injection eo26 with f1_ f2_ f3_; have f4_ := f1_.symm; have f5_ := f3_.symm; clear f1_ f2_ f3_; subst f4_; subst f5_))
                          have p203 : 0 ≤ ((ji18) : Int) := of_decide_eq_true (by first | (with_reducible assumption) | assumption)
                          have q203 : (ji18) < (x9_2.length : Int) := of_decide_eq_true (by first | (with_reducible assumption) | assumption)
                          obtain ⟨ad203, e203, hx203_0⟩ := Kd.at_int (Kd.R_reads' HO_9.out).2.2 (ji18) p203 q203
                          cases e203
                          replace p203 := eq_true p203
                          replace q203 := eq_true q203
                          (try (have q203d := q203; simp only [List.length_drop, List.length_take] at q203d))
                          have p24 : 0 ≤ ((ji18) : Int) := of_decide_eq_true (by first | (with_reducible assumption) | assumption)
                          have q24 : ((ji18) : Int) < ((x9_2.length : Int) : Int) := of_decide_eq_true (by first | (with_reducible assumption) | assumption)
                          obtain ⟨go24, co24, eo24, gb24, gl24, cl24, HG24⟩ := Kd.R_form HO_9.out (by omega)
                          (first | cases eo24 | (injection eo24 with ea_ en_ ec_; (first | subst ea_ | (injection ea_ with ea_; subst ea_)); subst ec_; clear en_))
                          have GB24 := Aside0.mk gb24
                          have GG24 := Aside0.mk HG24
                          clear gb24 gl24 HG24
                          (first | simp only [add_plain] at hx203_0 | skip)
                          obtain ⟨hx24_0, hf24_0⟩ := Kd.R_celln 0 HO_9.out ((ji18) : Int) p24 q24
                          replace p24 := eq_true p24
                          replace q24 := eq_true q24
                          (try (have q24d := q24; simp only [List.length_drop, List.length_take] at q24d))
                          have HP27 := Kd.R_putn HO_9.out ((ji18) : Int) (Go.bits .xor .u8 (rd x9_2 (ji18)) (ji23))
                          rw [← Ny204.out] at HP27
                          have HQ27 := Aside0.mk HP27
                          clear HP27
                          refine start_ (n := 14) (S := fun w' => w'.cell? ⟨go24, ((ji18)).toNat, none⟩ = some (.int .u8 (rd x9_2 (ji18)))) (ds := [13]) #[false, false, false, false, false, false, false, false, false, false, false, false, false, false] (by kernel_rfl) rfl rfl (hx203_0) (fun hHeld => ?_); refine with_tabW garnerlaw02_CrcTells.tab11 garnerlaw02_CrcTells.bits11 (fun HT_ HW_ => ?_)
                          generalize wr.drew = w25 at HO_9 HB GG24 HQ27 hf24_0 hx203_0 hx24_0 hHeld ⊢
                          refine pure_ (i := 0) (N := some 50) (v := ?_) (a' := ?_) #[true, false, false, false, false, false, false, false, false, false, false, false, false, false] rfl rfl (any_of HT_.out (by kernel_rfl)) (fun _ _ _ h => h) (Or.inl ⟨by rfl, ?_⟩) ?_ ?_
                          rotate_left
                          · intro w'
                            go_simp
                            with_reducible rfl
                          rotate_left
                          · simp only [Act.put, List.setIfInBounds_toArray, List.set_cons_zero, List.set_cons_succ, i64_w, i32_w]
                            rfl
                          refine pure_ (i := 1) (N := some 51) (v := ?_) (a' := ?_) #[true, true, false, false, false, false, false, false, false, false, false, false, false, false] rfl rfl (any_of HT_.out (by kernel_rfl)) (fun _ _ _ h => h) (Or.inl ⟨by rfl, ?_⟩) ?_ ?_
                          rotate_left
                          · intro w'
                            go_simp
                            with_reducible rfl
                          rotate_left
                          · simp only [Act.put, List.setIfInBounds_toArray, List.set_cons_zero, List.set_cons_succ, i64_w, i32_w]
                            rfl
                          refine pure_ (i := 2) (N := some 52) (v := ?_) (a' := ?_) #[true, true, true, false, false, false, false, false, false, false, false, false, false, false] rfl rfl (any_of HT_.out (by kernel_rfl)) (fun _ _ _ h => h) (Or.inl ⟨by rfl, ?_⟩) ?_ ?_
                          rotate_left
                          · intro w'
                            go_simp
                            with_reducible rfl
                          rotate_left
                          · simp only [Act.put, List.setIfInBounds_toArray, List.set_cons_zero, List.set_cons_succ, i64_w, i32_w]
                            rfl
                          refine pure_ (i := 3) (N := some 53) (v := ?_) (a' := ?_) #[true, true, true, true, false, false, false, false, false, false, false, false, false, false] rfl rfl (any_of HT_.out (by kernel_rfl)) (fun _ _ _ h => h) (Or.inl ⟨by rfl, ?_⟩) ?_ ?_
                          rotate_left
                          · intro w'
                            go_simp
                            with_reducible rfl
                          rotate_left
                          · simp only [Act.put, List.setIfInBounds_toArray, List.set_cons_zero, List.set_cons_succ, i64_w, i32_w]
                            rfl
                          refine pure_ (i := 4) (N := some 54) (v := ?_) (a' := ?_) #[true, true, true, true, true, false, false, false, false, false, false, false, false, false] rfl rfl (any_of HT_.out (by kernel_rfl)) (fun _ _ _ h => h) (Or.inl ⟨by rfl, ?_⟩) ?_ ?_
                          rotate_left
                          · intro w'
                            go_simp
                            with_reducible rfl
                          rotate_left
                          · simp only [Act.put, List.setIfInBounds_toArray, List.set_cons_zero, List.set_cons_succ, i64_w, i32_w]
                            rfl
                          refine pure_ (i := 5) (N := some 55) (v := ?_) (a' := ?_) #[true, true, true, true, true, true, false, false, false, false, false, false, false, false] rfl rfl (any_of HT_.out (by kernel_rfl)) (fun _ _ _ h => h) (Or.inl ⟨by rfl, ?_⟩) ?_ ?_
                          rotate_left
                          · intro w'
                            go_simp
                            with_reducible rfl
                          rotate_left
                          · simp only [Act.put, List.setIfInBounds_toArray, List.set_cons_zero, List.set_cons_succ, i64_w, i32_w]
                            rfl
                          refine pure_ (i := 6) (N := some 56) (v := ?_) (a' := ?_) #[true, true, true, true, true, true, true, false, false, false, false, false, false, false] rfl rfl (any_of HT_.out (by kernel_rfl)) (fun _ _ _ h => h) (Or.inl ⟨by rfl, ?_⟩) ?_ ?_
                          rotate_left
                          · intro w'
                            go_simp
                            with_reducible rfl
                          rotate_left
                          · simp only [Act.put, List.setIfInBounds_toArray, List.set_cons_zero, List.set_cons_succ, i64_w, i32_w]
                            rfl
                          refine pure_ (i := 8) (N := some 58) (v := ?_) (a' := ?_) #[true, true, true, true, true, true, true, false, true, false, false, false, false, false] rfl rfl (any_of HT_.out (by kernel_rfl)) (fun _ _ _ h => h) (Or.inl ⟨by rfl, ?_⟩) ?_ ?_
                          rotate_left
                          · intro w'
                            go_simp
                            with_reducible rfl
                          rotate_left
                          · simp only [Act.put, List.setIfInBounds_toArray, List.set_cons_zero, List.set_cons_succ, i64_w, i32_w]
                            rfl
                          refine pure_ (i := 9) (N := some 59) (v := ?_) (a' := ?_) #[true, true, true, true, true, true, true, false, true, true, false, false, false, false] rfl rfl (any_of HT_.out (by kernel_rfl)) (fun _ _ _ h => h) (Or.inl ⟨by rfl, ?_⟩) ?_ ?_
                          rotate_left
                          · intro w'
                            go_simp
                            with_reducible rfl
                          rotate_left
                          · simp only [Act.put, List.setIfInBounds_toArray, List.set_cons_zero, List.set_cons_succ, i64_w, i32_w]
                            rfl
                          refine pure_ (i := 10) (N := some 60) (v := ?_) (a' := ?_) #[true, true, true, true, true, true, true, false, true, true, true, false, false, false] rfl rfl (any_of HT_.out (by kernel_rfl)) (fun _ _ _ h => h) (Or.inl ⟨by rfl, ?_⟩) ?_ ?_
                          rotate_left
                          · intro w'
                            go_simp
                            with_reducible rfl
                          rotate_left
                          · simp only [Act.put, List.setIfInBounds_toArray, List.set_cons_zero, List.set_cons_succ, i64_w, i32_w]
                            rfl
                          refine take_ (i := 7) (N := some 57) (v := ?_) (a' := ?_) #[true, true, true, true, true, true, true, true, true, true, true, false, false, false] rfl rfl (take_ofW HT_.out HW_.out (by kernel_rfl)) (fun _ _ _ h => h) (Or.inl ⟨by rfl, ?_⟩) hHeld ?_ ?_
                          rotate_left
                          · intro w' s0
                            go_simp
                            with_reducible rfl
                          rotate_left
                          · simp only [Act.put, List.setIfInBounds_toArray, List.set_cons_zero, List.set_cons_succ, i64_w, i32_w]
                            rfl
                          refine pure_ (i := 11) (N := some 61) (v := ?_) (a' := ?_) #[true, true, true, true, true, true, true, true, true, true, true, true, false, false] rfl rfl (any_of HT_.out (by kernel_rfl)) (fun _ _ _ h => h) (Or.inl ⟨by rfl, ?_⟩) ?_ ?_
                          rotate_left
                          · intro w'
                            go_simp
                            with_reducible rfl
                          rotate_left
                          · simp only [Act.put, List.setIfInBounds_toArray, List.set_cons_zero, List.set_cons_succ, i64_w, i32_w]
                            rfl
                          refine pure_ (i := 12) (N := some 62) (v := ?_) (a' := ?_) #[true, true, true, true, true, true, true, true, true, true, true, true, true, false] rfl rfl (any_of HT_.out (by kernel_rfl)) (fun _ _ _ h => h) (Or.inl ⟨by rfl, ?_⟩) ?_ ?_
                          rotate_left
                          · intro w'
                            go_simp
                            with_reducible rfl
                          rotate_left
                          · simp only [Act.put, List.setIfInBounds_toArray, List.set_cons_zero, List.set_cons_succ, i64_w, i32_w]
                            rfl
                          refine last_ (i := 13) (N := none) #[true, true, true, true, true, true, true, true, true, true, true, true, true, true] rfl rfl (one_of HT_.out (by kernel_rfl)) (by decide) (fun K hK => ?_)
                          refine skip_ (w1 := ?_) (by rfl) rfl ?_ ?_
                          rotate_left
                          · go_simp
                            rfl
                          refine hK.out _ _ ?_
                          clear hK K
                          refine done_ (done_of HT_.out (by kernel_rfl)) ?_
                          try go_wp2
                          go_roundg k2
                          case measure => have := HJ5.out; have := HK2.out; omega
                          case rel => exact ⟨(y204), (wrap64 (x10_2 + 1)), (by first | rfl | (simp; done) | (simp [*]; done)), H', ⟨by have := HJ5.out; have := HK2.out; omega⟩, ⟨by (with_reducible repeat (first | apply Kd.R_alloc | apply Kd.R_drewN | apply Kd.R_drew)); exact HQ27.out⟩, ⟨by repeat (first | (with_reducible first | exact HB.out | apply below_alloc | apply pw_below_drewN | apply below_drew1 | refine below_set ?_ GB24.out) | exact HB.out)⟩⟩
                        · rw [if_neg c22] at H
                          exact absurd H (by simp)
                      · rw [if_neg c20] at H
                        exact absurd H (by simp)
                    · rw [if_neg c19] at H
                      exact absurd H (by simp)
                  · rw [if_neg c17] at H
                    have c17b0 : decide ((Int.tmod av_ (wrap64 (8 * (l0.length : Int)))) < 0) = false := decide_eq_false c17
                    clear c17
                    obtain ⟨ji28, hji28⟩ : ∃ j_ : Int, (wrap64 (Int.tdiv (Int.tmod av_ (wrap64 (8 * (l0.length : Int)))) 8)) = j_ := ⟨_, rfl⟩
                    replace H : (if 0 ≤ (ji28) then (if (ji28) < (x9_2.length : Int) then (if 0 ≤ (Int.tmod (Int.tmod av_ (wrap64 (8 * (l0.length : Int)))) 8) then (garnerlaw02_CrcTells.l0 k2 l0 l1 a2 a3 a4 (x9_2.set ((ji28) : Int).toNat (Go.bits .xor .u8 (rd x9_2 (ji28)) (shl .u8 1 (Int.tmod (Int.tmod av_ (wrap64 (8 * (l0.length : Int)))) 8)))) (wrap64 (x10_2 + 1))) else (none)) else (none)) else (none)) = some r := by first | (rw [hji28] at H; exact H) | (simp only [hji28] at H ⊢; exact H)
                    have hji28w : (IntKind.i64.wrap (Int.tdiv (Int.tmod av_ (wrap64 (8 * (l0.length : Int)))) 8)) = ji28 := (i64_w _).trans hji28
                    by_cases c29 : 0 ≤ (ji28)
                    · rw [if_pos c29] at H
                      have c29b0 : decide (0 ≤ (ji28)) = true := decide_eq_true c29
                      clear c29
                      by_cases c30 : (ji28) < (x9_2.length : Int)
                      · rw [if_pos c30] at H
                        have c30b0 : decide ((ji28) < (x9_2.length : Int)) = true := decide_eq_true c30
                        clear c30
                        obtain ⟨ji31, hji31⟩ : ∃ j_ : Int, (Int.tmod (Int.tmod av_ (wrap64 (8 * (l0.length : Int)))) 8) = j_ := ⟨_, rfl⟩
                        replace H : (if 0 ≤ (ji31) then (garnerlaw02_CrcTells.l0 k2 l0 l1 a2 a3 a4 (x9_2.set ((ji28) : Int).toNat (Go.bits .xor .u8 (rd x9_2 (ji28)) (shl .u8 1 (ji31)))) (wrap64 (x10_2 + 1))) else (none)) = some r := by first | (rw [hji31] at H; exact H) | (simp only [hji31] at H ⊢; exact H)
                        by_cases c32 : 0 ≤ (ji31)
                        · rw [if_pos c32] at H
                          have c32b0 := eq_true c32
                          have c32b1 : decide (0 ≤ (ji31)) = true := decide_eq_true c32
                          clear c32
                          obtain ⟨ji33, hji33⟩ : ∃ j_ : Int, (shl .u8 1 (ji31)) = j_ := ⟨_, rfl⟩
                          replace H : (garnerlaw02_CrcTells.l0 k2 l0 l1 a2 a3 a4 (x9_2.set ((ji28) : Int).toNat (Go.bits .xor .u8 (rd x9_2 (ji28)) (ji33))) (wrap64 (x10_2 + 1))) = some r := by first | (rw [hji33] at H; exact H) | (simp only [hji33] at H ⊢; exact H)
                          have hji33_ : (IntKind.u8.wrap (1 * 2 ^ min (ji31).toNat 8)) = ji33 := hji33
                          have hji33z : (ji31) ≤ 8 → (IntKind.u8.wrap (1 * 2 ^ (ji31).toNat)) = ji33 := shl_small hji33
                          have hji33u : (IntKind.u8.wrap (2 ^ min (ji31).toNat 8)) = ji33 := by have h_ := hji33_; rw [Int.one_mul] at h_; exact h_
                          have hji33v : (ji31) ≤ 8 → (IntKind.u8.wrap (2 ^ (ji31).toNat)) = ji33 := fun hle_ => by have h_ := hji33z hle_; rw [Int.one_mul] at h_; exact h_
                          obtain ⟨y206, hy206⟩ : ∃ y_ : List Int, y_ = (x9_2.set ((ji28) : Int).toNat (Go.bits .xor .u8 (rd x9_2 (ji28)) (ji33))) := ⟨_, rfl⟩
                          replace H : (garnerlaw02_CrcTells.l0 k2 l0 l1 a2 a3 a4 y206 (wrap64 (x10_2 + 1))) = some r := by first | (rw [hy206]; with_reducible exact H) | (have H2_ := (Option.bind_some _ _).symm.trans H; rw [hy206]; with_reducible exact H2_) | (have H2_ := (Option.bind_some _ _).symm.trans H; with_reducible exact H2_) | with_reducible exact H | (rw [hy206]; exact H) | exact H
                          have Ny206 := Aside0.mk hy206
                          clear hy206
                          have H' := Aside0.mk H
                          clear H
                          try go_wp2
                          have n0_ := Aside0.mk (Kd.R_drew HO_9.out)
                          have n1_ := Aside0.mk (below_drew1 HB.out)
                          clear HO_9
                          clear HB
                          have HO_9 := n0_
                          have HB := n1_
                          clear n0_ n1_
                          obtain ⟨Ao36, co36, eo36⟩ := Kd.R_slice HO_9.out
                          (first | subst eo36 | (injection eo36 with f1_ f2_ f3_; have f4_ := f1_.symm; have f5_ := f3_.symm; clear f1_ f2_ f3_; subst f4_; subst f5_))
                          have p205 : 0 ≤ ((ji28) : Int) := of_decide_eq_true (by first | (with_reducible assumption) | assumption)
                          have q205 : (ji28) < (x9_2.length : Int) := of_decide_eq_true (by first | (with_reducible assumption) | assumption)
                          obtain ⟨ad205, e205, hx205_0⟩ := Kd.at_int (Kd.R_reads' HO_9.out).2.2 (ji28) p205 q205
                          cases e205
                          replace p205 := eq_true p205
                          replace q205 := eq_true q205
                          (try (have q205d := q205; simp only [List.length_drop, List.length_take] at q205d))
                          have p34 : 0 ≤ ((ji28) : Int) := of_decide_eq_true (by first | (with_reducible assumption) | assumption)
                          have q34 : ((ji28) : Int) < ((x9_2.length : Int) : Int) := of_decide_eq_true (by first | (with_reducible assumption) | assumption)
                          obtain ⟨go34, co34, eo34, gb34, gl34, cl34, HG34⟩ := Kd.R_form HO_9.out (by omega)
                          (first | cases eo34 | (injection eo34 with ea_ en_ ec_; (first | subst ea_ | (injection ea_ with ea_; subst ea_)); subst ec_; clear en_))
                          have GB34 := Aside0.mk gb34
                          have GG34 := Aside0.mk HG34
                          clear gb34 gl34 HG34
                          (first | simp only [add_plain] at hx205_0 | skip)
                          obtain ⟨hx34_0, hf34_0⟩ := Kd.R_celln 0 HO_9.out ((ji28) : Int) p34 q34
                          replace p34 := eq_true p34
                          replace q34 := eq_true q34
                          (try (have q34d := q34; simp only [List.length_drop, List.length_take] at q34d))
                          have HP37 := Kd.R_putn HO_9.out ((ji28) : Int) (Go.bits .xor .u8 (rd x9_2 (ji28)) (ji33))
                          rw [← Ny206.out] at HP37
                          have HQ37 := Aside0.mk HP37
                          clear HP37
                          refine start_ (n := 14) (S := fun w' => w'.cell? ⟨go34, ((ji28)).toNat, none⟩ = some (.int .u8 (rd x9_2 (ji28)))) (ds := [13]) #[false, false, false, false, false, false, false, false, false, false, false, false, false, false] (by kernel_rfl) rfl rfl (hx205_0) (fun hHeld => ?_); refine with_tabW garnerlaw02_CrcTells.tab11 garnerlaw02_CrcTells.bits11 (fun HT_ HW_ => ?_)
                          generalize wr.drew = w35 at HO_9 HB GG34 HQ37 hf34_0 hx205_0 hx34_0 hHeld ⊢
                          refine pure_ (i := 0) (N := some 50) (v := ?_) (a' := ?_) #[true, false, false, false, false, false, false, false, false, false, false, false, false, false] rfl rfl (any_of HT_.out (by kernel_rfl)) (fun _ _ _ h => h) (Or.inl ⟨by rfl, ?_⟩) ?_ ?_
                          rotate_left
                          · intro w'
                            go_simp
                            with_reducible rfl
                          rotate_left
                          · simp only [Act.put, List.setIfInBounds_toArray, List.set_cons_zero, List.set_cons_succ, i64_w, i32_w]
                            rfl
                          refine pure_ (i := 1) (N := some 51) (v := ?_) (a' := ?_) #[true, true, false, false, false, false, false, false, false, false, false, false, false, false] rfl rfl (any_of HT_.out (by kernel_rfl)) (fun _ _ _ h => h) (Or.inl ⟨by rfl, ?_⟩) ?_ ?_
                          rotate_left
                          · intro w'
                            go_simp
                            with_reducible rfl
                          rotate_left
                          · simp only [Act.put, List.setIfInBounds_toArray, List.set_cons_zero, List.set_cons_succ, i64_w, i32_w]
                            rfl
                          refine pure_ (i := 2) (N := some 52) (v := ?_) (a' := ?_) #[true, true, true, false, false, false, false, false, false, false, false, false, false, false] rfl rfl (any_of HT_.out (by kernel_rfl)) (fun _ _ _ h => h) (Or.inl ⟨by rfl, ?_⟩) ?_ ?_
                          rotate_left
                          · intro w'
                            go_simp
                            with_reducible rfl
                          rotate_left
                          · simp only [Act.put, List.setIfInBounds_toArray, List.set_cons_zero, List.set_cons_succ, i64_w, i32_w]
                            rfl
                          refine pure_ (i := 3) (N := some 53) (v := ?_) (a' := ?_) #[true, true, true, true, false, false, false, false, false, false, false, false, false, false] rfl rfl (any_of HT_.out (by kernel_rfl)) (fun _ _ _ h => h) (Or.inl ⟨by rfl, ?_⟩) ?_ ?_
                          rotate_left
                          · intro w'
                            go_simp
                            with_reducible rfl
                          rotate_left
                          · simp only [Act.put, List.setIfInBounds_toArray, List.set_cons_zero, List.set_cons_succ, i64_w, i32_w]
                            rfl
                          refine pure_ (i := 4) (N := some 54) (v := ?_) (a' := ?_) #[true, true, true, true, true, false, false, false, false, false, false, false, false, false] rfl rfl (any_of HT_.out (by kernel_rfl)) (fun _ _ _ h => h) (Or.inl ⟨by rfl, ?_⟩) ?_ ?_
                          rotate_left
                          · intro w'
                            go_simp
                            with_reducible rfl
                          rotate_left
                          · simp only [Act.put, List.setIfInBounds_toArray, List.set_cons_zero, List.set_cons_succ, i64_w, i32_w]
                            rfl
                          refine pure_ (i := 5) (N := some 55) (v := ?_) (a' := ?_) #[true, true, true, true, true, true, false, false, false, false, false, false, false, false] rfl rfl (any_of HT_.out (by kernel_rfl)) (fun _ _ _ h => h) (Or.inl ⟨by rfl, ?_⟩) ?_ ?_
                          rotate_left
                          · intro w'
                            go_simp
                            with_reducible rfl
                          rotate_left
                          · simp only [Act.put, List.setIfInBounds_toArray, List.set_cons_zero, List.set_cons_succ, i64_w, i32_w]
                            rfl
                          refine pure_ (i := 6) (N := some 56) (v := ?_) (a' := ?_) #[true, true, true, true, true, true, true, false, false, false, false, false, false, false] rfl rfl (any_of HT_.out (by kernel_rfl)) (fun _ _ _ h => h) (Or.inl ⟨by rfl, ?_⟩) ?_ ?_
                          rotate_left
                          · intro w'
                            go_simp
                            with_reducible rfl
                          rotate_left
                          · simp only [Act.put, List.setIfInBounds_toArray, List.set_cons_zero, List.set_cons_succ, i64_w, i32_w]
                            rfl
                          refine pure_ (i := 8) (N := some 58) (v := ?_) (a' := ?_) #[true, true, true, true, true, true, true, false, true, false, false, false, false, false] rfl rfl (any_of HT_.out (by kernel_rfl)) (fun _ _ _ h => h) (Or.inl ⟨by rfl, ?_⟩) ?_ ?_
                          rotate_left
                          · intro w'
                            go_simp
                            with_reducible rfl
                          rotate_left
                          · simp only [Act.put, List.setIfInBounds_toArray, List.set_cons_zero, List.set_cons_succ, i64_w, i32_w]
                            rfl
                          refine pure_ (i := 9) (N := some 59) (v := ?_) (a' := ?_) #[true, true, true, true, true, true, true, false, true, true, false, false, false, false] rfl rfl (any_of HT_.out (by kernel_rfl)) (fun _ _ _ h => h) (Or.inl ⟨by rfl, ?_⟩) ?_ ?_
                          rotate_left
                          · intro w'
                            go_simp
                            with_reducible rfl
                          rotate_left
                          · simp only [Act.put, List.setIfInBounds_toArray, List.set_cons_zero, List.set_cons_succ, i64_w, i32_w]
                            rfl
                          refine pure_ (i := 10) (N := some 60) (v := ?_) (a' := ?_) #[true, true, true, true, true, true, true, false, true, true, true, false, false, false] rfl rfl (any_of HT_.out (by kernel_rfl)) (fun _ _ _ h => h) (Or.inl ⟨by rfl, ?_⟩) ?_ ?_
                          rotate_left
                          · intro w'
                            go_simp
                            with_reducible rfl
                          rotate_left
                          · simp only [Act.put, List.setIfInBounds_toArray, List.set_cons_zero, List.set_cons_succ, i64_w, i32_w]
                            rfl
                          refine take_ (i := 7) (N := some 57) (v := ?_) (a' := ?_) #[true, true, true, true, true, true, true, true, true, true, true, false, false, false] rfl rfl (take_ofW HT_.out HW_.out (by kernel_rfl)) (fun _ _ _ h => h) (Or.inl ⟨by rfl, ?_⟩) hHeld ?_ ?_
                          rotate_left
                          · intro w' s0
                            go_simp
                            with_reducible rfl
                          rotate_left
                          · simp only [Act.put, List.setIfInBounds_toArray, List.set_cons_zero, List.set_cons_succ, i64_w, i32_w]
                            rfl
                          refine pure_ (i := 11) (N := some 61) (v := ?_) (a' := ?_) #[true, true, true, true, true, true, true, true, true, true, true, true, false, false] rfl rfl (any_of HT_.out (by kernel_rfl)) (fun _ _ _ h => h) (Or.inl ⟨by rfl, ?_⟩) ?_ ?_
                          rotate_left
                          · intro w'
                            go_simp
                            with_reducible rfl
                          rotate_left
                          · simp only [Act.put, List.setIfInBounds_toArray, List.set_cons_zero, List.set_cons_succ, i64_w, i32_w]
                            rfl
                          refine pure_ (i := 12) (N := some 62) (v := ?_) (a' := ?_) #[true, true, true, true, true, true, true, true, true, true, true, true, true, false] rfl rfl (any_of HT_.out (by kernel_rfl)) (fun _ _ _ h => h) (Or.inl ⟨by rfl, ?_⟩) ?_ ?_
                          rotate_left
                          · intro w'
                            go_simp
                            with_reducible rfl
                          rotate_left
                          · simp only [Act.put, List.setIfInBounds_toArray, List.set_cons_zero, List.set_cons_succ, i64_w, i32_w]
                            rfl
                          refine last_ (i := 13) (N := none) #[true, true, true, true, true, true, true, true, true, true, true, true, true, true] rfl rfl (one_of HT_.out (by kernel_rfl)) (by decide) (fun K hK => ?_)
                          refine skip_ (w1 := ?_) (by rfl) rfl ?_ ?_
                          rotate_left
                          · go_simp
                            rfl
                          refine hK.out _ _ ?_
                          clear hK K
                          refine done_ (done_of HT_.out (by kernel_rfl)) ?_
                          try go_wp2
                          go_roundg k2
                          case measure => have := HJ5.out; have := HK2.out; omega
                          case rel => exact ⟨(y206), (wrap64 (x10_2 + 1)), (by first | rfl | (simp; done) | (simp [*]; done)), H', ⟨by have := HJ5.out; have := HK2.out; omega⟩, ⟨by (with_reducible repeat (first | apply Kd.R_alloc | apply Kd.R_drewN | apply Kd.R_drew)); exact HQ37.out⟩, ⟨by repeat (first | (with_reducible first | exact HB.out | apply below_alloc | apply pw_below_drewN | apply below_drew1 | refine below_set ?_ GB34.out) | exact HB.out)⟩⟩
                        · rw [if_neg c32] at H
                          exact absurd H (by simp)
                      · rw [if_neg c30] at H
                        exact absurd H (by simp)
                    · rw [if_neg c29] at H
                      exact absurd H (by simp)
              · rw [if_neg c15] at H
                have c15b0 : decide (x10_2 < 3) = false := decide_eq_false c15
                clear c15
                have HC38 := Aside0.mk H
                clear H
                go_upto_region 12 with (fail)
                go_cut [76] (fun v76 wc => ∃ (kq : Nat) (x76_37 : Bool), v76 = .bool x76_37 ∧ Aside0 (garnerlaw02_CrcTells.j2 kq l0 l1 a2 a4 x9_2 x76_37 = some r) ∧ Aside0 (kq ≤ k2) ∧ Aside0 (Kd.R (Kd.int .u8) 5 wc w.heap.size (fun _ => True) v201 x9_2) ∧ Aside0 (Below w.heap.size w wc))
                case first => as_aux_lemma =>
                  have H := HC38.out
                  clear HC38
                  by_cases c39 : (strOfNums x9_2).toList = (strOfNums l0).toList
                  · rw [if_pos c39] at H
                    have c39b0 : ((strOfNums x9_2).toList == (strOfNums l0).toList) = true := beq_iff_eq.mpr c39
                    have c39b1 : ((strOfNums x9_2).toList != (strOfNums l0).toList) = false := bne_eq_false_iff_eq.mpr c39
                    clear c39
                    (first | rw [c39b0] | (simp only [i64_w, i32_w]; rw [c39b0]) | skip)
                    have H' := Aside0.mk H
                    clear H
                    have hcv40 := own_string (P := Try.prog) Try.underlying24 Try.underlying5 Try.underlying9 (Kd.own_of_R HO_9.out); have hcv40d := fun n_ => own_string (P := Try.prog) Try.underlying24 Try.underlying5 Try.underlying9 (Kd.own_of_R (Kd.R_drewN HO_9.out n_))
                    have hcv41 := Kd.C_string (P := Try.prog) (A := A0) (c := c0) Try.underlying24 Try.underlying5 Try.underlying9 (Kd.C_below HR0.out HB.out); have hcv41d := fun n_ => Kd.C_string (P := Try.prog) (A := A0) (c := c0) Try.underlying24 Try.underlying5 Try.underlying9 (Kd.C_drewN (Kd.C_below HR0.out HB.out) n_)
                    go_wp2
                    go_meet
                    case rel => exact ⟨_, (false), (by first | rfl | (simp; done) | (simp [*]; done)), H', ⟨by have := HJ5.out; have := HK2.out; first | omega | exact Nat.le_refl _⟩, ⟨by (with_reducible repeat (first | apply Kd.R_alloc | apply Kd.R_drewN | apply Kd.R_drew)); exact HO_9.out⟩, ⟨by repeat (first | (with_reducible first | exact HB.out | apply below_alloc | apply pw_below_drewN | apply below_drew1) | exact HB.out)⟩⟩
                  · rw [if_neg c39] at H
                    have c39b0 : ((strOfNums x9_2).toList == (strOfNums l0).toList) = false := beq_eq_false_iff_ne.mpr c39
                    have c39b1 : ((strOfNums x9_2).toList != (strOfNums l0).toList) = true := bne_iff_ne.mpr c39
                    (first | rw [c39b0] | (simp only [i64_w, i32_w]; rw [c39b0]) | skip)
                    replace H := Option.bind_eq_some_iff.mp H
                    obtain ⟨t207, A420, H⟩ := H
                    replace H : ((crc_Sum.f 5 [l0]).bind fun t208 => (garnerlaw02_CrcTells.j2 k2 l0 l1 a2 a4 x9_2 (t207 == t208))) = some r := H
                    have A42 := Aside0.mk A420
                    clear A420
                    replace H := Option.bind_eq_some_iff.mp H
                    obtain ⟨t208, A430, H⟩ := H
                    replace H : (garnerlaw02_CrcTells.j2 k2 l0 l1 a2 a4 x9_2 (t207 == t208)) = some r := H
                    have A43 := Aside0.mk A430
                    clear A430
                    have H' := Aside0.mk H
                    clear H
                    have hcv44 := own_string (P := Try.prog) Try.underlying24 Try.underlying5 Try.underlying9 (Kd.own_of_R HO_9.out); have hcv44d := fun n_ => own_string (P := Try.prog) Try.underlying24 Try.underlying5 Try.underlying9 (Kd.own_of_R (Kd.R_drewN HO_9.out n_))
                    have hcv45 := Kd.C_string (P := Try.prog) (A := A0) (c := c0) Try.underlying24 Try.underlying5 Try.underlying9 (Kd.C_below HR0.out HB.out); have hcv45d := fun n_ => Kd.C_string (P := Try.prog) (A := A0) (c := c0) Try.underlying24 Try.underlying5 Try.underlying9 (Kd.C_drewN (Kd.C_below HR0.out HB.out) n_)
                    obtain ⟨Ao46, co46, eo46⟩ := Kd.R_slice HO_9.out
                    subst eo46
                    go_wp2_with (first | (go_at_call 8; (with_reducible refine (tsum rfl A42.out ?side1 ?side2).mono ?_); (case side1 => repeat (first | exact (Kd.R_reads' HO_9.out).2.2 | (with_reducible refine Kd.C_alloc ?_ _) | (with_reducible refine Kd.C_drewN ?_ _) | (with_reducible refine Kd.C_drew ?_))); (case side2 => exact (Kd.R_reads' HO_9.out).2.1); rintro e w47 ⟨rfl, hb⟩; have n0_ := Aside0.mk (Kd.R_below (by (with_reducible repeat (first | apply Kd.R_alloc | apply Kd.R_drewN | apply Kd.R_drew)); exact HO_9.out) hb); have n1_ := Aside0.mk (below_step (by repeat (first | (with_reducible first | exact HB.out | apply below_alloc | apply pw_below_drewN | apply below_drew1) | exact HB.out)) hb); clear HO_9; clear HB; have HO_9 := n0_; have HB := n1_; clear n0_ n1_; (try clear hb); (try clear hb2); (try clear hk); (try clear hi)) | (go_at_call 8; (with_reducible refine (tsum rfl A43.out ?side1 ?side2).mono ?_); (case side1 => repeat (first | exact (Kd.C_below HR0.out HB.out) | (with_reducible refine Kd.C_alloc ?_ _) | (with_reducible refine Kd.C_drewN ?_ _) | (with_reducible refine Kd.C_drew ?_))); (case side2 => exact HC0.out); rintro e w48 ⟨rfl, hb⟩; have n0_ := Aside0.mk (Kd.R_below (by (with_reducible repeat (first | apply Kd.R_alloc | apply Kd.R_drewN | apply Kd.R_drew)); exact HO_9.out) hb); have n1_ := Aside0.mk (below_step (by repeat (first | (with_reducible first | exact HB.out | apply below_alloc | apply pw_below_drewN | apply below_drew1) | exact HB.out)) hb); clear HO_9; clear HB; have HO_9 := n0_; have HB := n1_; clear n0_ n1_; (try clear hb); (try clear hb2); (try clear hk); (try clear hi)))
                    go_meet
                    case rel => exact ⟨_, ((t207 == t208)), (by first | rfl | (simp; done) | (simp [*]; done)), H', ⟨by have := HJ5.out; have := HK2.out; first | omega | exact Nat.le_refl _⟩, ⟨by (with_reducible repeat (first | apply Kd.R_alloc | apply Kd.R_drewN | apply Kd.R_drew)); exact HO_9.out⟩, ⟨by repeat (first | (with_reducible first | exact HB.out | apply below_alloc | apply pw_below_drewN | apply below_drew1) | exact HB.out)⟩⟩
                case rest => as_aux_lemma =>
                  clear HC38
                  try clear c1
                  try clear c2
                  try clear p2
                  try clear q2
                  try clear hx2
                  try clear c3
                  try clear p3
                  try clear q3
                  try clear hx3
                  try clear hcv4
                  try clear c6
                  try clear p6
                  try clear c7
                  try clear c7b0
                  try clear c7b1
                  try clear c7b2
                  try clear c8
                  try clear c11
                  try clear c15
                  try clear c15b0
                  try clear c16
                  try clear c16b0
                  try clear c16b1
                  try clear c17
                  try clear c17b0
                  try clear c19
                  try clear c19b0
                  try clear c20
                  try clear c20b0
                  try clear p20
                  try clear q20
                  try clear hx20
                  try clear c22
                  try clear c22b0
                  try clear c22b1
                  try clear p24
                  try clear q24
                  try clear hx24
                  try clear hf24
                  try clear c29
                  try clear c29b0
                  try clear c30
                  try clear c30b0
                  try clear c32
                  try clear c32b0
                  try clear c32b1
                  try clear p34
                  try clear q34
                  try clear hx34
                  try clear hf34
                  try clear c39
                  try clear c39b0
                  try clear c39b1
                  try clear hcv40
                  try clear hcv41
                  try clear hcv44
                  try clear hcv45
                  try clear hx203_0
                  try clear hx205_0
                  try clear hx24_0
                  try clear hx34_0
                  try clear p2
                  try clear p203
                  try clear p205
                  try clear p24
                  try clear p34
                  try clear q203
                  try clear q205
                  try clear q24
                  try clear q34
                  obtain ⟨kq, x76_37, rfl, HA, HJ37, HO_9, HB⟩ := hcut
                  cases kq with
                  | zero => exact absurd HA.out (by simp [garnerlaw02_CrcTells.j2])
                  | succ kj37 =>
                    have H := HA.out
                    clear HA
                    simp only [garnerlaw02_CrcTells.j2] at H
                    by_cases c49 : x76_37 = true
                    · subst c49
                      have H1 : (none) = some r := by rw [if_pos rfl] at H; exact H
                      clear H
                      have H := H1
                      clear H1
                      exact absurd H (by simp)
                    · replace c49 := Bool.eq_false_iff.mpr c49
                      subst c49
                      have H1 : ((some (([] : List Int) : List Int)).bind fun y209 => (if y209.length + l0.length < 140737488355328 then ((some (y209 ++ l0 : List Int)).bind fun y212 => (if (wrap64 (8 * (l0.length : Int))) = 0 then (none) else (if (Int.tmod a2 (wrap64 (8 * (l0.length : Int)))) < 0 then (garnerlaw02_CrcTells.j3 kj37 l0 l1 a4 x9_2 y212 (wrap64 (-(Int.tmod a2 (wrap64 (8 * (l0.length : Int))))))) else (garnerlaw02_CrcTells.j3 kj37 l0 l1 a4 x9_2 y212 (Int.tmod a2 (wrap64 (8 * (l0.length : Int)))))))) else (none))) = some r := by rw [if_neg (show ¬ (false = true) by decide)] at H; exact H
                      clear H
                      have H := H1
                      clear H1
                      obtain ⟨y209, hy209⟩ : ∃ y_ : List Int, y_ = (([] : List Int)) := ⟨_, rfl⟩
                      replace H : (if y209.length + l0.length < 140737488355328 then ((some (y209 ++ l0 : List Int)).bind fun y212 => (if (wrap64 (8 * (l0.length : Int))) = 0 then (none) else (if (Int.tmod a2 (wrap64 (8 * (l0.length : Int)))) < 0 then (garnerlaw02_CrcTells.j3 kj37 l0 l1 a4 x9_2 y212 (wrap64 (-(Int.tmod a2 (wrap64 (8 * (l0.length : Int))))))) else (garnerlaw02_CrcTells.j3 kj37 l0 l1 a4 x9_2 y212 (Int.tmod a2 (wrap64 (8 * (l0.length : Int)))))))) else (none)) = some r := by first | (rw [hy209]; with_reducible exact H) | (have H2_ := (Option.bind_some _ _).symm.trans H; rw [hy209]; with_reducible exact H2_) | (have H2_ := (Option.bind_some _ _).symm.trans H; with_reducible exact H2_) | with_reducible exact H | (rw [hy209]; exact H) | exact H
                      have Ny209 := Aside0.mk hy209
                      clear hy209
                      by_cases c50 : y209.length + l0.length < 140737488355328
                      · rw [if_pos c50] at H
                        have LMc50 := Aside0.mk c50
                        clear c50
                        obtain ⟨y212, hy212⟩ : ∃ y_ : List Int, y_ = (y209 ++ l0) := ⟨_, rfl⟩
                        replace H : (if (wrap64 (8 * (l0.length : Int))) = 0 then (none) else (if (Int.tmod a2 (wrap64 (8 * (l0.length : Int)))) < 0 then (garnerlaw02_CrcTells.j3 kj37 l0 l1 a4 x9_2 y212 (wrap64 (-(Int.tmod a2 (wrap64 (8 * (l0.length : Int))))))) else (garnerlaw02_CrcTells.j3 kj37 l0 l1 a4 x9_2 y212 (Int.tmod a2 (wrap64 (8 * (l0.length : Int))))))) = some r := by first | (rw [hy212]; with_reducible exact H) | (have H2_ := (Option.bind_some _ _).symm.trans H; rw [hy212]; with_reducible exact H2_) | (have H2_ := (Option.bind_some _ _).symm.trans H; with_reducible exact H2_) | with_reducible exact H | (rw [hy212]; exact H) | exact H
                        have Ny212 := Aside0.mk hy212
                        clear hy212
                        by_cases c51 : (wrap64 (8 * (l0.length : Int))) = 0
                        · rw [if_pos c51] at H
                          exact absurd H (by simp)
                        · rw [if_neg c51] at H
                          have c51b0 : ((wrap64 (8 * (l0.length : Int))) == 0) = false := beq_eq_false_iff_ne.mpr c51
                          have c51b1 : ((wrap64 (8 * (l0.length : Int))) != 0) = true := bne_iff_ne.mpr c51
                          have HC52 := Aside0.mk H
                          clear H
                          go_upto_if 87 with (first | ((with_reducible refine gate_dst (N := 77) rfl ?_); (try (refine gate_guard (by rfl) ?_; dsimp only)); refine Kd.R_lit (Kd.int .u8) _ 5 ?hg (N := 77) ?hd (xs := ([] : List Int)) (inner := []) (ok := fun _ => True) (okp := fun _ => True) ?hr ?hp (fun _ hk => hk) trivial (Below.refl _ _) (Nat.le_refl _) (by simp) ?_; (case hd => rfl); (case hg => rfl); (case hr => first | (go_simp; done) | (go_simp; rfl)); (case hp => exact (Reps.none _ _)); intro v210 w53 ho54 hb hg_ hnew_; clear hg_ hnew_; (first | rw [← Ny209.out] at ho54 | (simp only [Int.reduceToNat] at ho54; rw [← Ny209.out] at ho54)); have n0_ := Aside0.mk (Kd.R_elder' (by (with_reducible repeat (first | apply Kd.R_alloc | apply Kd.R_drewN | apply Kd.R_drew)); exact HO_9.out) (Kd.R_base ho54) hb); have n1_ := Aside0.mk (Kd.R_lower (Kd.R_new' ho54 (Kd.R_lt (by (with_reducible repeat (first | apply Kd.R_alloc | apply Kd.R_drewN | apply Kd.R_drew)); exact HO_9.out))) (below_size (by repeat (first | (with_reducible first | exact HB.out | apply below_alloc | apply pw_below_drewN | apply below_drew1) | exact HB.out)))); have n2_ := Aside0.mk (below_step (by repeat (first | (with_reducible first | exact HB.out | apply below_alloc | apply pw_below_drewN | apply below_drew1) | exact HB.out)) hb); clear HO_9; clear HB; have HO_9 := n0_; have HO211 := n1_; have HB := n2_; clear n0_ n1_ n2_; clear hb ho54) | ((with_reducible refine gate_builtin (b := .append) (xs := #[.tmp 77, .tmp 78]) rfl ?_); (try (refine gate_guard (by rfl) ?_; dsimp only)); at_builtin; refine Kd.R_append_rows (Kd.int .u8) (w0 := w) w.heap.size rfl (.tmp 77) (.tmp 78) 24 5 (.int .u8 0) 1 rfl Try.underlying24 info5 rfl (by decide) (by omega) v210 y209 l0 _ _ _ (fun k_ => some k_ ≠ (v201 : Value).ownBlock) (fun _ => False) rfl rfl ?aO ?aR (fun _ _ h => h) (fun _ h => h.elim) ?aF ?aB ?aS ?aL ?_; (case aR => repeat (first | exact (Kd.C_below HR0.out HB.out) | (with_reducible refine Kd.C_alloc ?_ _) | (with_reducible refine Kd.C_drewN ?_ _) | (with_reducible refine Kd.C_drew ?_))); (case aB => exact (by repeat (first | (with_reducible first | exact HB.out | apply below_alloc | apply pw_below_drewN | apply below_drew1) | exact HB.out))); (case aF => exact (fun k_ hk => Kd.fresh' (Kd.R_lt (by (with_reducible repeat (first | apply Kd.R_alloc | apply Kd.R_drewN | apply Kd.R_drew)); exact HO_9.out)) k_ hk)); (case aO => exact (by (with_reducible repeat (first | apply Kd.R_alloc | apply Kd.R_drewN | apply Kd.R_drew)); exact Kd.R_mono HO211.out (fun _ hk => hk.2))); (case aS => exact (below_size (by repeat (first | (with_reducible first | exact HB.out | apply below_alloc | apply pw_below_drewN | apply below_drew1) | exact HB.out)))); (case aL => have := LMc50.out; omega); intro v213 w55 ho hb hg hat; rw [← Ny212.out] at ho; have n0_ := Aside0.mk (Kd.R_after (ok := (fun _ => True)) (by (with_reducible repeat (first | apply Kd.R_alloc | apply Kd.R_drewN | apply Kd.R_drew)); exact HO_9.out) hg hat); have n1_ := Aside0.mk (hb); have n2_ := Aside0.mk (ho); clear HO_9; clear HB; clear HO211; have HO_9 := n0_; have HB := n1_; have HO214 := n2_; clear n0_ n1_ n2_; clear ho hb hg hat; have hx80 := kept_cell HB.out HA0.out))
                          (try simp only [Act.put, List.setIfInBounds_toArray, List.set_cons_zero, List.set_cons_succ])
                          go_cut [13] (fun v13 wc => ∃ (kq : Nat) (x13_51 : Int), v13 = .int .i64 x13_51 ∧ Aside0 (garnerlaw02_CrcTells.j3 kq l0 l1 a4 x9_2 y212 x13_51 = some r) ∧ Aside0 (kq ≤ kj37) ∧ Aside0 (Kd.R (Kd.int .u8) 5 wc w.heap.size (fun k_ => some k_ ≠ (v213 : Value).ownBlock) v201 x9_2) ∧ Aside0 (Kd.R (Kd.int .u8) 5 wc w.heap.size (fun k_ => some k_ ≠ (v201 : Value).ownBlock) v213 y212) ∧ Aside0 (Below w.heap.size w wc))
                          case first => as_aux_lemma =>
                            have H := HC52.out
                            clear HC52
                            by_cases c56 : (Int.tmod a2 (wrap64 (8 * (l0.length : Int)))) < 0
                            · rw [if_pos c56] at H
                              have c56b0 : decide ((Int.tmod a2 (wrap64 (8 * (l0.length : Int)))) < 0) = true := decide_eq_true c56
                              clear c56
                              (first | rw [c56b0] | (simp only [i64_w, i32_w]; rw [c56b0]) | skip)
                              have H' := Aside0.mk H
                              clear H
                              go_wp2
                              go_meet
                              case rel => exact ⟨_, (wrap64 (-(Int.tmod a2 (wrap64 (8 * (l0.length : Int)))))), (by first | rfl | (simp; done) | (simp [*]; done)), H', ⟨by have := HJ5.out; have := HK2.out; have := HJ37.out; first | omega | exact Nat.le_refl _⟩, ⟨by (with_reducible repeat (first | apply Kd.R_alloc | apply Kd.R_drewN | apply Kd.R_drew)); exact Kd.R_mono HO_9.out (fun _ hk => hk.2)⟩, ⟨by (with_reducible repeat (first | apply Kd.R_alloc | apply Kd.R_drewN | apply Kd.R_drew)); exact HO214.out⟩, ⟨by repeat (first | (with_reducible first | exact HB.out | apply below_alloc | apply pw_below_drewN | apply below_drew1) | exact HB.out)⟩⟩
                            · rw [if_neg c56] at H
                              have c56b0 : decide ((Int.tmod a2 (wrap64 (8 * (l0.length : Int)))) < 0) = false := decide_eq_false c56
                              clear c56
                              (first | rw [c56b0] | (simp only [i64_w, i32_w]; rw [c56b0]) | skip)
                              have H' := Aside0.mk H
                              clear H
                              go_wp2
                              go_meet
                              case rel => exact ⟨_, (Int.tmod a2 (wrap64 (8 * (l0.length : Int)))), (by first | rfl | (simp; done) | (simp [*]; done)), H', ⟨by have := HJ5.out; have := HK2.out; have := HJ37.out; first | omega | exact Nat.le_refl _⟩, ⟨by (with_reducible repeat (first | apply Kd.R_alloc | apply Kd.R_drewN | apply Kd.R_drew)); exact Kd.R_mono HO_9.out (fun _ hk => hk.2)⟩, ⟨by (with_reducible repeat (first | apply Kd.R_alloc | apply Kd.R_drewN | apply Kd.R_drew)); exact HO214.out⟩, ⟨by repeat (first | (with_reducible first | exact HB.out | apply below_alloc | apply pw_below_drewN | apply below_drew1) | exact HB.out)⟩⟩
                          case rest => as_aux_lemma =>
                            clear HC52
                            try clear c1
                            try clear c2
                            try clear p2
                            try clear q2
                            try clear hx2
                            try clear c3
                            try clear p3
                            try clear q3
                            try clear hx3
                            try clear c4
                            try clear hcv4
                            try clear c5
                            try clear c6
                            try clear p6
                            try clear c7
                            try clear c7b0
                            try clear c7b1
                            try clear c7b2
                            try clear c8
                            try clear c11
                            try clear c15
                            try clear c15b0
                            try clear c16
                            try clear c16b0
                            try clear c16b1
                            try clear c17
                            try clear c17b0
                            try clear c19
                            try clear c19b0
                            try clear c20
                            try clear c20b0
                            try clear p20
                            try clear q20
                            try clear hx20
                            try clear c22
                            try clear c22b0
                            try clear c22b1
                            try clear p24
                            try clear q24
                            try clear hx24
                            try clear hf24
                            try clear c29
                            try clear c29b0
                            try clear c30
                            try clear c30b0
                            try clear c32
                            try clear c32b0
                            try clear c32b1
                            try clear p34
                            try clear q34
                            try clear hx34
                            try clear hf34
                            try clear c39
                            try clear c39b0
                            try clear c39b1
                            try clear hcv40
                            try clear hcv41
                            try clear hcv44
                            try clear hcv45
                            try clear c49
                            try clear c50
                            try clear c51
                            try clear c51b0
                            try clear c51b1
                            try clear c56
                            try clear c56b0
                            try clear hx203_0
                            try clear hx205_0
                            try clear hx24_0
                            try clear hx34_0
                            try clear p2
                            try clear p20
                            try clear p203
                            try clear p205
                            try clear p24
                            try clear p3
                            try clear p34
                            try clear p6
                            try clear q2
                            try clear q20
                            try clear q203
                            try clear q205
                            try clear q24
                            try clear q3
                            try clear q34
                            obtain ⟨kq, x13_51, rfl, HA, HJ51, HO_9, HO_12, HB⟩ := hcut
                            cases kq with
                            | zero => exact absurd HA.out (by simp [garnerlaw02_CrcTells.j3])
                            | succ kj51 =>
                              have H := HA.out
                              clear HA
                              simp only [garnerlaw02_CrcTells.j3] at H
                              have H' := Aside0.mk H
                              clear H
                              go_wp2
                              go_loopg [14] kj51 (fun kq v14 w' => ∃ (x12_5 : List Int) (x14_5 : Int), v14 = .int .i64 x14_5 ∧ Aside0 (garnerlaw02_CrcTells.l1 kq l0 l1 a4 x9_2 x12_5 x13_51 x14_5 = some r) ∧ Aside0 (kq ≤ kj51) ∧ Aside0 (Kd.R (Kd.int .u8) 5 w' w.heap.size (fun k_ => some k_ ≠ (v213 : Value).ownBlock) v201 x9_2) ∧ Aside0 (Kd.R (Kd.int .u8) 5 w' w.heap.size (fun k_ => some k_ ≠ (v201 : Value).ownBlock) v213 x12_5) ∧ Aside0 (Below w.heap.size w w'))
                              case atStart => exact ⟨(y212), (0), (by first | rfl | (simp; done) | (simp [*]; done)), H', ⟨Nat.le_refl _⟩, ⟨by (with_reducible repeat (first | apply Kd.R_alloc | apply Kd.R_drewN | apply Kd.R_drew)); exact HO_9.out⟩, ⟨by (with_reducible repeat (first | apply Kd.R_alloc | apply Kd.R_drewN | apply Kd.R_drew)); exact HO_12.out⟩, ⟨by repeat (first | (with_reducible first | exact HB.out | apply below_alloc | apply pw_below_drewN | apply below_drew1) | exact HB.out)⟩⟩
                              case round => as_aux_lemma =>
                                clear H'
                                try clear c1
                                try clear c2
                                try clear p2
                                try clear q2
                                try clear hx2
                                try clear c3
                                try clear p3
                                try clear q3
                                try clear hx3
                                try clear c4
                                try clear hcv4
                                try clear c5
                                try clear c6
                                try clear p6
                                try clear c7
                                try clear c7b0
                                try clear c7b1
                                try clear c7b2
                                try clear c8
                                try clear c11
                                try clear c15
                                try clear c15b0
                                try clear c16
                                try clear c16b0
                                try clear c16b1
                                try clear c17
                                try clear c17b0
                                try clear c19
                                try clear c19b0
                                try clear c20
                                try clear c20b0
                                try clear p20
                                try clear q20
                                try clear hx20
                                try clear c22
                                try clear c22b0
                                try clear c22b1
                                try clear p24
                                try clear q24
                                try clear hx24
                                try clear hf24
                                try clear c29
                                try clear c29b0
                                try clear c30
                                try clear c30b0
                                try clear c32
                                try clear c32b0
                                try clear c32b1
                                try clear p34
                                try clear q34
                                try clear hx34
                                try clear hf34
                                try clear c39
                                try clear c39b0
                                try clear c39b1
                                try clear hcv40
                                try clear hcv41
                                try clear hcv44
                                try clear hcv45
                                try clear c49
                                try clear c50
                                try clear c51
                                try clear c51b0
                                try clear c51b1
                                try clear c56
                                try clear c56b0
                                try clear hx203_0
                                try clear hx205_0
                                try clear hx24_0
                                try clear hx34_0
                                try clear p2
                                try clear p20
                                try clear p203
                                try clear p205
                                try clear p24
                                try clear p3
                                try clear p34
                                try clear p6
                                try clear q2
                                try clear q20
                                try clear q203
                                try clear q205
                                try clear q24
                                try clear q3
                                try clear q34
                                obtain ⟨x12_5, x14_5, rfl, HA, HK5, HO_9, HO_12, HB⟩ := hrel
                                cases gk with
                                | zero => exact absurd HA.out (by simp [garnerlaw02_CrcTells.l1])
                                | succ k5 =>
                                  have H := HA.out
                                  clear HA
                                  simp only [garnerlaw02_CrcTells.l1] at H
                                  have HC57 := Aside0.mk H
                                  clear H
                                  go_upto_region 19 with (fail)
                                  go_cut [100] (fun v100 wc => ∃ (kq : Nat) (x100_56 : Bool), v100 = .bool x100_56 ∧ Aside0 (garnerlaw02_CrcTells.j5 kq l0 l1 a4 x9_2 x12_5 x13_51 x14_5 x100_56 = some r) ∧ Aside0 (kq ≤ k5) ∧ Aside0 (Kd.R (Kd.int .u8) 5 wc w.heap.size (fun k_ => some k_ ≠ (v213 : Value).ownBlock) v201 x9_2) ∧ Aside0 (Kd.R (Kd.int .u8) 5 wc w.heap.size (fun k_ => some k_ ≠ (v201 : Value).ownBlock) v213 x12_5) ∧ Aside0 (Below w.heap.size w wc))
                                  case first => as_aux_lemma =>
                                    have H := HC57.out
                                    clear HC57
                                    by_cases c58 : x14_5 < 32
                                    · rw [if_pos c58] at H
                                      have c58b0 : decide (x14_5 < 32) = true := decide_eq_true c58
                                      clear c58
                                      (first | rw [c58b0] | (simp only [i64_w, i32_w]; rw [c58b0]) | skip)
                                      have H' := Aside0.mk H
                                      clear H
                                      go_wp2
                                      go_meet
                                      case rel => exact ⟨_, (decide ((wrap64 (x13_51 + x14_5)) < (wrap64 (8 * (l0.length : Int))))), (by first | rfl | (simp; done) | (simp [*]; done)), H', ⟨by have := HJ5.out; have := HK2.out; have := HJ37.out; have := HJ51.out; have := HK5.out; first | omega | exact Nat.le_refl _⟩, ⟨by (with_reducible repeat (first | apply Kd.R_alloc | apply Kd.R_drewN | apply Kd.R_drew)); exact HO_9.out⟩, ⟨by (with_reducible repeat (first | apply Kd.R_alloc | apply Kd.R_drewN | apply Kd.R_drew)); exact HO_12.out⟩, ⟨by repeat (first | (with_reducible first | exact HB.out | apply below_alloc | apply pw_below_drewN | apply below_drew1) | exact HB.out)⟩⟩
                                    · rw [if_neg c58] at H
                                      have c58b0 : decide (x14_5 < 32) = false := decide_eq_false c58
                                      clear c58
                                      (first | rw [c58b0] | (simp only [i64_w, i32_w]; rw [c58b0]) | skip)
                                      have H' := Aside0.mk H
                                      clear H
                                      go_wp2
                                      go_meet
                                      case rel => exact ⟨_, (false), (by first | rfl | (simp; done) | (simp [*]; done)), H', ⟨by have := HJ5.out; have := HK2.out; have := HJ37.out; have := HJ51.out; have := HK5.out; first | omega | exact Nat.le_refl _⟩, ⟨by (with_reducible repeat (first | apply Kd.R_alloc | apply Kd.R_drewN | apply Kd.R_drew)); exact HO_9.out⟩, ⟨by (with_reducible repeat (first | apply Kd.R_alloc | apply Kd.R_drewN | apply Kd.R_drew)); exact HO_12.out⟩, ⟨by repeat (first | (with_reducible first | exact HB.out | apply below_alloc | apply pw_below_drewN | apply below_drew1) | exact HB.out)⟩⟩
                                  case rest => as_aux_lemma =>
                                    clear HC57
                                    try clear c1
                                    try clear c2
                                    try clear p2
                                    try clear q2
                                    try clear hx2
                                    try clear c3
                                    try clear p3
                                    try clear q3
                                    try clear hx3
                                    try clear c4
                                    try clear hcv4
                                    try clear c5
                                    try clear c6
                                    try clear p6
                                    try clear c7
                                    try clear c7b0
                                    try clear c7b1
                                    try clear c7b2
                                    try clear c8
                                    try clear c11
                                    try clear c15
                                    try clear c15b0
                                    try clear c16
                                    try clear c16b0
                                    try clear c16b1
                                    try clear c17
                                    try clear c17b0
                                    try clear c19
                                    try clear c19b0
                                    try clear c20
                                    try clear c20b0
                                    try clear p20
                                    try clear q20
                                    try clear hx20
                                    try clear c22
                                    try clear c22b0
                                    try clear c22b1
                                    try clear p24
                                    try clear q24
                                    try clear hx24
                                    try clear hf24
                                    try clear c29
                                    try clear c29b0
                                    try clear c30
                                    try clear c30b0
                                    try clear c32
                                    try clear c32b0
                                    try clear c32b1
                                    try clear p34
                                    try clear q34
                                    try clear hx34
                                    try clear hf34
                                    try clear c39
                                    try clear c39b0
                                    try clear c39b1
                                    try clear hcv40
                                    try clear hcv41
                                    try clear hcv44
                                    try clear hcv45
                                    try clear c49
                                    try clear c50
                                    try clear c51
                                    try clear c51b0
                                    try clear c51b1
                                    try clear c56
                                    try clear c56b0
                                    try clear c58
                                    try clear c58b0
                                    try clear hx203_0
                                    try clear hx205_0
                                    try clear hx24_0
                                    try clear hx34_0
                                    try clear p2
                                    try clear p20
                                    try clear p203
                                    try clear p205
                                    try clear p24
                                    try clear p3
                                    try clear p34
                                    try clear p6
                                    try clear q2
                                    try clear q20
                                    try clear q203
                                    try clear q205
                                    try clear q24
                                    try clear q3
                                    try clear q34
                                    obtain ⟨kq, x100_56, rfl, HA, HJ56, HO_9, HO_12, HB⟩ := hcut
                                    cases kq with
                                    | zero => exact absurd HA.out (by simp [garnerlaw02_CrcTells.j5])
                                    | succ kj56 =>
                                      have H := HA.out
                                      clear HA
                                      simp only [garnerlaw02_CrcTells.j5] at H
                                      by_cases c59 : x100_56 = true
                                      · subst c59
                                        have H1 : (if 0 ≤ x14_5 then (if (Int.tmod (shr .u32 a4 x14_5) 2) = 1 then (if 0 ≤ (wrap64 (Int.tdiv (wrap64 (x13_51 + x14_5)) 8)) then (if (wrap64 (Int.tdiv (wrap64 (x13_51 + x14_5)) 8)) < (x12_5.length : Int) then (if 0 ≤ (Int.tmod (wrap64 (x13_51 + x14_5)) 8) then (garnerlaw02_CrcTells.l1 kj56 l0 l1 a4 x9_2 (x12_5.set ((wrap64 (Int.tdiv (wrap64 (x13_51 + x14_5)) 8)) : Int).toNat (Go.bits .xor .u8 (rd x12_5 (wrap64 (Int.tdiv (wrap64 (x13_51 + x14_5)) 8))) (shl .u8 1 (Int.tmod (wrap64 (x13_51 + x14_5)) 8)))) x13_51 (wrap64 (x14_5 + 1))) else (none)) else (none)) else (none)) else (garnerlaw02_CrcTells.l1 kj56 l0 l1 a4 x9_2 x12_5 x13_51 (wrap64 (x14_5 + 1)))) else (none)) = some r := by rw [if_pos rfl] at H; exact H
                                        clear H
                                        have H := H1
                                        clear H1
                                        by_cases c60 : 0 ≤ x14_5
                                        · rw [if_pos c60] at H
                                          have c60b0 := eq_true c60
                                          have c60b1 : decide (0 ≤ x14_5) = true := decide_eq_true c60
                                          clear c60
                                          obtain ⟨ji61, hji61⟩ : ∃ j_ : Int, (shr .u32 a4 x14_5) = j_ := ⟨_, rfl⟩
                                          replace H : (if (Int.tmod (ji61) 2) = 1 then (if 0 ≤ (wrap64 (Int.tdiv (wrap64 (x13_51 + x14_5)) 8)) then (if (wrap64 (Int.tdiv (wrap64 (x13_51 + x14_5)) 8)) < (x12_5.length : Int) then (if 0 ≤ (Int.tmod (wrap64 (x13_51 + x14_5)) 8) then (garnerlaw02_CrcTells.l1 kj56 l0 l1 a4 x9_2 (x12_5.set ((wrap64 (Int.tdiv (wrap64 (x13_51 + x14_5)) 8)) : Int).toNat (Go.bits .xor .u8 (rd x12_5 (wrap64 (Int.tdiv (wrap64 (x13_51 + x14_5)) 8))) (shl .u8 1 (Int.tmod (wrap64 (x13_51 + x14_5)) 8)))) x13_51 (wrap64 (x14_5 + 1))) else (none)) else (none)) else (none)) else (garnerlaw02_CrcTells.l1 kj56 l0 l1 a4 x9_2 x12_5 x13_51 (wrap64 (x14_5 + 1)))) = some r := by first | (rw [hji61] at H; exact H) | (simp only [hji61] at H ⊢; exact H)
                                          have hji61_ : (a4 / 2 ^ min x14_5.toNat 32) = ji61 := hji61
                                          have hji61z : x14_5 ≤ 32 → (a4 / 2 ^ x14_5.toNat) = ji61 := shr_small hji61
                                          by_cases c62 : (Int.tmod (ji61) 2) = 1
                                          · rw [if_pos c62] at H
                                            have c62b0 : ((Int.tmod (ji61) 2) == 1) = true := beq_iff_eq.mpr c62
                                            have c62b1 : ((Int.tmod (ji61) 2) != 1) = false := bne_eq_false_iff_eq.mpr c62
                                            clear c62
                                            obtain ⟨ji63, hji63⟩ : ∃ j_ : Int, (wrap64 (Int.tdiv (wrap64 (x13_51 + x14_5)) 8)) = j_ := ⟨_, rfl⟩
                                            replace H : (if 0 ≤ (ji63) then (if (ji63) < (x12_5.length : Int) then (if 0 ≤ (Int.tmod (wrap64 (x13_51 + x14_5)) 8) then (garnerlaw02_CrcTells.l1 kj56 l0 l1 a4 x9_2 (x12_5.set ((ji63) : Int).toNat (Go.bits .xor .u8 (rd x12_5 (ji63)) (shl .u8 1 (Int.tmod (wrap64 (x13_51 + x14_5)) 8)))) x13_51 (wrap64 (x14_5 + 1))) else (none)) else (none)) else (none)) = some r := by first | (rw [hji63] at H; exact H) | (simp only [hji63] at H ⊢; exact H)
                                            have hji63w : (IntKind.i64.wrap (Int.tdiv (wrap64 (x13_51 + x14_5)) 8)) = ji63 := (i64_w _).trans hji63
                                            by_cases c64 : 0 ≤ (ji63)
                                            · rw [if_pos c64] at H
                                              have c64b0 : decide (0 ≤ (ji63)) = true := decide_eq_true c64
                                              clear c64
                                              by_cases c65 : (ji63) < (x12_5.length : Int)
                                              · rw [if_pos c65] at H
                                                have c65b0 : decide ((ji63) < (x12_5.length : Int)) = true := decide_eq_true c65
                                                clear c65
                                                obtain ⟨ji66, hji66⟩ : ∃ j_ : Int, (Int.tmod (wrap64 (x13_51 + x14_5)) 8) = j_ := ⟨_, rfl⟩
                                                replace H : (if 0 ≤ (ji66) then (garnerlaw02_CrcTells.l1 kj56 l0 l1 a4 x9_2 (x12_5.set ((ji63) : Int).toNat (Go.bits .xor .u8 (rd x12_5 (ji63)) (shl .u8 1 (ji66)))) x13_51 (wrap64 (x14_5 + 1))) else (none)) = some r := by first | (rw [hji66] at H; exact H) | (simp only [hji66] at H ⊢; exact H)
                                                by_cases c67 : 0 ≤ (ji66)
                                                · rw [if_pos c67] at H
                                                  have c67b0 := eq_true c67
                                                  have c67b1 : decide (0 ≤ (ji66)) = true := decide_eq_true c67
                                                  clear c67
                                                  obtain ⟨ji68, hji68⟩ : ∃ j_ : Int, (shl .u8 1 (ji66)) = j_ := ⟨_, rfl⟩
                                                  replace H : (garnerlaw02_CrcTells.l1 kj56 l0 l1 a4 x9_2 (x12_5.set ((ji63) : Int).toNat (Go.bits .xor .u8 (rd x12_5 (ji63)) (ji68))) x13_51 (wrap64 (x14_5 + 1))) = some r := by first | (rw [hji68] at H; exact H) | (simp only [hji68] at H ⊢; exact H)
                                                  have hji68_ : (IntKind.u8.wrap (1 * 2 ^ min (ji66).toNat 8)) = ji68 := hji68
                                                  have hji68z : (ji66) ≤ 8 → (IntKind.u8.wrap (1 * 2 ^ (ji66).toNat)) = ji68 := shl_small hji68
                                                  have hji68u : (IntKind.u8.wrap (2 ^ min (ji66).toNat 8)) = ji68 := by have h_ := hji68_; rw [Int.one_mul] at h_; exact h_
                                                  have hji68v : (ji66) ≤ 8 → (IntKind.u8.wrap (2 ^ (ji66).toNat)) = ji68 := fun hle_ => by have h_ := hji68z hle_; rw [Int.one_mul] at h_; exact h_
                                                  obtain ⟨y216, hy216⟩ : ∃ y_ : List Int, y_ = (x12_5.set ((ji63) : Int).toNat (Go.bits .xor .u8 (rd x12_5 (ji63)) (ji68))) := ⟨_, rfl⟩
                                                  replace H : (garnerlaw02_CrcTells.l1 kj56 l0 l1 a4 x9_2 y216 x13_51 (wrap64 (x14_5 + 1))) = some r := by first | (rw [hy216]; with_reducible exact H) | (have H2_ := (Option.bind_some _ _).symm.trans H; rw [hy216]; with_reducible exact H2_) | (have H2_ := (Option.bind_some _ _).symm.trans H; with_reducible exact H2_) | with_reducible exact H | (rw [hy216]; exact H) | exact H
                                                  have Ny216 := Aside0.mk hy216
                                                  clear hy216
                                                  have H' := Aside0.mk H
                                                  clear H
                                                  try go_wp2
                                                  have n0_ := Aside0.mk (Kd.R_drew HO_9.out)
                                                  have n1_ := Aside0.mk (Kd.R_drew HO_12.out)
                                                  have n2_ := Aside0.mk (below_drew1 HB.out)
                                                  clear HO_9
                                                  clear HO_12
                                                  clear HB
                                                  have HO_9 := n0_
                                                  have HO_12 := n1_
                                                  have HB := n2_
                                                  clear n0_ n1_ n2_
                                                  obtain ⟨Ao71, co71, eo71⟩ := Kd.R_slice HO_12.out
                                                  (first | subst eo71 | (injection eo71 with f1_ f2_ f3_; have f4_ := f1_.symm; have f5_ := f3_.symm; clear f1_ f2_ f3_; subst f4_; subst f5_))
                                                  have p215 : 0 ≤ ((ji63) : Int) := of_decide_eq_true (by first | (with_reducible assumption) | assumption)
                                                  have q215 : (ji63) < (x12_5.length : Int) := of_decide_eq_true (by first | (with_reducible assumption) | assumption)
                                                  obtain ⟨ad215, e215, hx215_0⟩ := Kd.at_int (Kd.R_reads' HO_12.out).2.2 (ji63) p215 q215
                                                  cases e215
                                                  replace p215 := eq_true p215
                                                  replace q215 := eq_true q215
                                                  (try (have q215d := q215; simp only [List.length_drop, List.length_take] at q215d))
                                                  have p69 : 0 ≤ ((ji63) : Int) := of_decide_eq_true (by first | (with_reducible assumption) | assumption)
                                                  have q69 : ((ji63) : Int) < ((x12_5.length : Int) : Int) := of_decide_eq_true (by first | (with_reducible assumption) | assumption)
                                                  obtain ⟨go69, co69, eo69, gb69, gl69, cl69, HG69⟩ := Kd.R_form HO_12.out (by omega)
                                                  (first | cases eo69 | (injection eo69 with ea_ en_ ec_; (first | subst ea_ | (injection ea_ with ea_; subst ea_)); subst ec_; clear en_))
                                                  have GB69 := Aside0.mk gb69
                                                  have GG69 := Aside0.mk HG69
                                                  clear gb69 gl69 HG69
                                                  (first | simp only [add_plain] at hx215_0 | skip)
                                                  obtain ⟨hx69_0, hf69_0⟩ := Kd.R_celln 0 HO_12.out ((ji63) : Int) p69 q69
                                                  replace p69 := eq_true p69
                                                  replace q69 := eq_true q69
                                                  (try (have q69d := q69; simp only [List.length_drop, List.length_take] at q69d))
                                                  have HP72 := Kd.R_putn HO_12.out ((ji63) : Int) (Go.bits .xor .u8 (rd x12_5 (ji63)) (ji68))
                                                  rw [← Ny216.out] at HP72
                                                  have HQ72 := Aside0.mk HP72
                                                  clear HP72
                                                  refine start_ (n := 20) (S := fun w' => w'.cell? ⟨go69, ((ji63)).toNat, none⟩ = some (.int .u8 (rd x12_5 (ji63)))) (ds := [19]) #[false, false, false, false, false, false, false, false, false, false, false, false, false, false, false, false, false, false, false, false] (by kernel_rfl) rfl rfl (hx215_0) (fun hHeld => ?_); refine with_tabW garnerlaw02_CrcTells.tab22 garnerlaw02_CrcTells.bits22 (fun HT_ HW_ => ?_)
                                                  generalize wc.drew = w70 at HO_9 HO_12 HB GG69 HQ72 hf69_0 hx215_0 hx69_0 hHeld ⊢
                                                  refine pure_ (i := 0) (N := some 108) (v := ?_) (a' := ?_) #[true, false, false, false, false, false, false, false, false, false, false, false, false, false, false, false, false, false, false, false] rfl rfl (any_of HT_.out (by kernel_rfl)) (fun _ _ _ h => h) (Or.inl ⟨by rfl, ?_⟩) ?_ ?_
                                                  rotate_left
                                                  · intro w'
                                                    go_simp
                                                    with_reducible rfl
                                                  rotate_left
                                                  · simp only [Act.put, List.setIfInBounds_toArray, List.set_cons_zero, List.set_cons_succ, i64_w, i32_w]
                                                    rfl
                                                  refine pure_ (i := 1) (N := some 109) (v := ?_) (a' := ?_) #[true, true, false, false, false, false, false, false, false, false, false, false, false, false, false, false, false, false, false, false] rfl rfl (any_of HT_.out (by kernel_rfl)) (fun _ _ _ h => h) (Or.inl ⟨by rfl, ?_⟩) ?_ ?_
                                                  rotate_left
                                                  · intro w'
                                                    go_simp
                                                    with_reducible rfl
                                                  rotate_left
                                                  · simp only [Act.put, List.setIfInBounds_toArray, List.set_cons_zero, List.set_cons_succ, i64_w, i32_w]
                                                    rfl
                                                  refine pure_ (i := 2) (N := some 110) (v := ?_) (a' := ?_) #[true, true, true, false, false, false, false, false, false, false, false, false, false, false, false, false, false, false, false, false] rfl rfl (any_of HT_.out (by kernel_rfl)) (fun _ _ _ h => h) (Or.inl ⟨by rfl, ?_⟩) ?_ ?_
                                                  rotate_left
                                                  · intro w'
                                                    go_simp
                                                    with_reducible rfl
                                                  rotate_left
                                                  · simp only [Act.put, List.setIfInBounds_toArray, List.set_cons_zero, List.set_cons_succ, i64_w, i32_w]
                                                    rfl
                                                  refine pure_ (i := 3) (N := some 111) (v := ?_) (a' := ?_) #[true, true, true, true, false, false, false, false, false, false, false, false, false, false, false, false, false, false, false, false] rfl rfl (any_of HT_.out (by kernel_rfl)) (fun _ _ _ h => h) (Or.inl ⟨by rfl, ?_⟩) ?_ ?_
                                                  rotate_left
                                                  · intro w'
                                                    go_simp
                                                    with_reducible rfl
                                                  rotate_left
                                                  · simp only [Act.put, List.setIfInBounds_toArray, List.set_cons_zero, List.set_cons_succ, i64_w, i32_w]
                                                    rfl
                                                  refine pure_ (i := 4) (N := some 112) (v := ?_) (a' := ?_) #[true, true, true, true, true, false, false, false, false, false, false, false, false, false, false, false, false, false, false, false] rfl rfl (any_of HT_.out (by kernel_rfl)) (fun _ _ _ h => h) (Or.inl ⟨by rfl, ?_⟩) ?_ ?_
                                                  rotate_left
                                                  · intro w'
                                                    go_simp
                                                    with_reducible rfl
                                                  rotate_left
                                                  · simp only [Act.put, List.setIfInBounds_toArray, List.set_cons_zero, List.set_cons_succ, i64_w, i32_w]
                                                    rfl
                                                  refine pure_ (i := 5) (N := some 113) (v := ?_) (a' := ?_) #[true, true, true, true, true, true, false, false, false, false, false, false, false, false, false, false, false, false, false, false] rfl rfl (any_of HT_.out (by kernel_rfl)) (fun _ _ _ h => h) (Or.inl ⟨by rfl, ?_⟩) ?_ ?_
                                                  rotate_left
                                                  · intro w'
                                                    go_simp
                                                    with_reducible rfl
                                                  rotate_left
                                                  · simp only [Act.put, List.setIfInBounds_toArray, List.set_cons_zero, List.set_cons_succ, i64_w, i32_w]
                                                    rfl
                                                  refine pure_ (i := 6) (N := some 114) (v := ?_) (a' := ?_) #[true, true, true, true, true, true, true, false, false, false, false, false, false, false, false, false, false, false, false, false] rfl rfl (any_of HT_.out (by kernel_rfl)) (fun _ _ _ h => h) (Or.inl ⟨by rfl, ?_⟩) ?_ ?_
                                                  rotate_left
                                                  · intro w'
                                                    go_simp
                                                    with_reducible rfl
                                                  rotate_left
                                                  · simp only [Act.put, List.setIfInBounds_toArray, List.set_cons_zero, List.set_cons_succ, i64_w, i32_w]
                                                    rfl
                                                  refine pure_ (i := 7) (N := some 115) (v := ?_) (a' := ?_) #[true, true, true, true, true, true, true, true, false, false, false, false, false, false, false, false, false, false, false, false] rfl rfl (any_of HT_.out (by kernel_rfl)) (fun _ _ _ h => h) (Or.inl ⟨by rfl, ?_⟩) ?_ ?_
                                                  rotate_left
                                                  · intro w'
                                                    go_simp
                                                    with_reducible rfl
                                                  rotate_left
                                                  · simp only [Act.put, List.setIfInBounds_toArray, List.set_cons_zero, List.set_cons_succ, i64_w, i32_w]
                                                    rfl
                                                  refine pure_ (i := 8) (N := some 116) (v := ?_) (a' := ?_) #[true, true, true, true, true, true, true, true, true, false, false, false, false, false, false, false, false, false, false, false] rfl rfl (any_of HT_.out (by kernel_rfl)) (fun _ _ _ h => h) (Or.inl ⟨by rfl, ?_⟩) ?_ ?_
                                                  rotate_left
                                                  · intro w'
                                                    go_simp
                                                    with_reducible rfl
                                                  rotate_left
                                                  · simp only [Act.put, List.setIfInBounds_toArray, List.set_cons_zero, List.set_cons_succ, i64_w, i32_w]
                                                    rfl
                                                  refine pure_ (i := 9) (N := some 117) (v := ?_) (a' := ?_) #[true, true, true, true, true, true, true, true, true, true, false, false, false, false, false, false, false, false, false, false] rfl rfl (any_of HT_.out (by kernel_rfl)) (fun _ _ _ h => h) (Or.inl ⟨by rfl, ?_⟩) ?_ ?_
                                                  rotate_left
                                                  · intro w'
                                                    go_simp
                                                    with_reducible rfl
                                                  rotate_left
                                                  · simp only [Act.put, List.setIfInBounds_toArray, List.set_cons_zero, List.set_cons_succ, i64_w, i32_w]
                                                    rfl
                                                  refine pure_ (i := 10) (N := some 118) (v := ?_) (a' := ?_) #[true, true, true, true, true, true, true, true, true, true, true, false, false, false, false, false, false, false, false, false] rfl rfl (any_of HT_.out (by kernel_rfl)) (fun _ _ _ h => h) (Or.inl ⟨by rfl, ?_⟩) ?_ ?_
                                                  rotate_left
                                                  · intro w'
                                                    go_simp
                                                    with_reducible rfl
                                                  rotate_left
                                                  · simp only [Act.put, List.setIfInBounds_toArray, List.set_cons_zero, List.set_cons_succ, i64_w, i32_w]
                                                    rfl
                                                  refine pure_ (i := 12) (N := some 120) (v := ?_) (a' := ?_) #[true, true, true, true, true, true, true, true, true, true, true, false, true, false, false, false, false, false, false, false] rfl rfl (any_of HT_.out (by kernel_rfl)) (fun _ _ _ h => h) (Or.inl ⟨by rfl, ?_⟩) ?_ ?_
                                                  rotate_left
                                                  · intro w'
                                                    go_simp
                                                    with_reducible rfl
                                                  rotate_left
                                                  · simp only [Act.put, List.setIfInBounds_toArray, List.set_cons_zero, List.set_cons_succ, i64_w, i32_w]
                                                    rfl
                                                  refine pure_ (i := 13) (N := some 121) (v := ?_) (a' := ?_) #[true, true, true, true, true, true, true, true, true, true, true, false, true, true, false, false, false, false, false, false] rfl rfl (any_of HT_.out (by kernel_rfl)) (fun _ _ _ h => h) (Or.inl ⟨by rfl, ?_⟩) ?_ ?_
                                                  rotate_left
                                                  · intro w'
                                                    go_simp
                                                    with_reducible rfl
                                                  rotate_left
                                                  · simp only [Act.put, List.setIfInBounds_toArray, List.set_cons_zero, List.set_cons_succ, i64_w, i32_w]
                                                    rfl
                                                  refine pure_ (i := 14) (N := some 122) (v := ?_) (a' := ?_) #[true, true, true, true, true, true, true, true, true, true, true, false, true, true, true, false, false, false, false, false] rfl rfl (any_of HT_.out (by kernel_rfl)) (fun _ _ _ h => h) (Or.inl ⟨by rfl, ?_⟩) ?_ ?_
                                                  rotate_left
                                                  · intro w'
                                                    go_simp
                                                    with_reducible rfl
                                                  rotate_left
                                                  · simp only [Act.put, List.setIfInBounds_toArray, List.set_cons_zero, List.set_cons_succ, i64_w, i32_w]
                                                    rfl
                                                  refine pure_ (i := 15) (N := some 123) (v := ?_) (a' := ?_) #[true, true, true, true, true, true, true, true, true, true, true, false, true, true, true, true, false, false, false, false] rfl rfl (any_of HT_.out (by kernel_rfl)) (fun _ _ _ h => h) (Or.inl ⟨by rfl, ?_⟩) ?_ ?_
                                                  rotate_left
                                                  · intro w'
                                                    go_simp
                                                    with_reducible rfl
                                                  rotate_left
                                                  · simp only [Act.put, List.setIfInBounds_toArray, List.set_cons_zero, List.set_cons_succ, i64_w, i32_w]
                                                    rfl
                                                  refine pure_ (i := 16) (N := some 124) (v := ?_) (a' := ?_) #[true, true, true, true, true, true, true, true, true, true, true, false, true, true, true, true, true, false, false, false] rfl rfl (any_of HT_.out (by kernel_rfl)) (fun _ _ _ h => h) (Or.inl ⟨by rfl, ?_⟩) ?_ ?_
                                                  rotate_left
                                                  · intro w'
                                                    go_simp
                                                    with_reducible rfl
                                                  rotate_left
                                                  · simp only [Act.put, List.setIfInBounds_toArray, List.set_cons_zero, List.set_cons_succ, i64_w, i32_w]
                                                    rfl
                                                  refine take_ (i := 11) (N := some 119) (v := ?_) (a' := ?_) #[true, true, true, true, true, true, true, true, true, true, true, true, true, true, true, true, true, false, false, false] rfl rfl (take_ofW HT_.out HW_.out (by kernel_rfl)) (fun _ _ _ h => h) (Or.inl ⟨by rfl, ?_⟩) hHeld ?_ ?_
                                                  rotate_left
                                                  · intro w' s0
                                                    go_simp
                                                    with_reducible rfl
                                                  rotate_left
                                                  · simp only [Act.put, List.setIfInBounds_toArray, List.set_cons_zero, List.set_cons_succ, i64_w, i32_w]
                                                    rfl
                                                  refine pure_ (i := 17) (N := some 125) (v := ?_) (a' := ?_) #[true, true, true, true, true, true, true, true, true, true, true, true, true, true, true, true, true, true, false, false] rfl rfl (any_of HT_.out (by kernel_rfl)) (fun _ _ _ h => h) (Or.inl ⟨by rfl, ?_⟩) ?_ ?_
                                                  rotate_left
                                                  · intro w'
                                                    go_simp
                                                    with_reducible rfl
                                                  rotate_left
                                                  · simp only [Act.put, List.setIfInBounds_toArray, List.set_cons_zero, List.set_cons_succ, i64_w, i32_w]
                                                    rfl
                                                  refine pure_ (i := 18) (N := some 126) (v := ?_) (a' := ?_) #[true, true, true, true, true, true, true, true, true, true, true, true, true, true, true, true, true, true, true, false] rfl rfl (any_of HT_.out (by kernel_rfl)) (fun _ _ _ h => h) (Or.inl ⟨by rfl, ?_⟩) ?_ ?_
                                                  rotate_left
                                                  · intro w'
                                                    go_simp
                                                    with_reducible rfl
                                                  rotate_left
                                                  · simp only [Act.put, List.setIfInBounds_toArray, List.set_cons_zero, List.set_cons_succ, i64_w, i32_w]
                                                    rfl
                                                  refine last_ (i := 19) (N := none) #[true, true, true, true, true, true, true, true, true, true, true, true, true, true, true, true, true, true, true, true] rfl rfl (one_of HT_.out (by kernel_rfl)) (by decide) (fun K hK => ?_)
                                                  refine skip_ (w1 := ?_) (by rfl) rfl ?_ ?_
                                                  rotate_left
                                                  · go_simp
                                                    rfl
                                                  refine hK.out _ _ ?_
                                                  clear hK K
                                                  refine done_ (done_of HT_.out (by kernel_rfl)) ?_
                                                  try go_wp2
                                                  go_roundg kj56
                                                  case measure => have := HJ5.out; have := HK2.out; have := HJ37.out; have := HJ51.out; have := HK5.out; have := HJ56.out; omega
                                                  case rel => exact ⟨(y216), (wrap64 (x14_5 + 1)), (by first | rfl | (simp; done) | (simp [*]; done)), H', ⟨by have := HJ5.out; have := HK2.out; have := HJ37.out; have := HJ51.out; have := HK5.out; have := HJ56.out; omega⟩, ⟨by (with_reducible repeat (first | apply Kd.R_alloc | apply Kd.R_drewN | apply Kd.R_drew)); exact Kd.R_mono (Kd.R_far (p := ⟨go69, ((ji63) : Int).toNat, none⟩) (Kd.R_mono HO_9.out (fun k_ hk => (⟨hk, fun e_ => hk (by rw [e_]; rfl)⟩ : _ ∧ k_ ≠ go69))) (fun _ hk => hk.2) (.int .u8 (Go.bits .xor .u8 (rd x12_5 (ji63)) (ji68)))) (fun _ hk => hk.1)⟩, ⟨by (with_reducible repeat (first | apply Kd.R_alloc | apply Kd.R_drewN | apply Kd.R_drew)); exact HQ72.out⟩, ⟨by repeat (first | (with_reducible first | exact HB.out | apply below_alloc | apply pw_below_drewN | apply below_drew1 | refine below_set ?_ GB69.out) | exact HB.out)⟩⟩
                                                · rw [if_neg c67] at H
                                                  exact absurd H (by simp)
                                              · rw [if_neg c65] at H
                                                exact absurd H (by simp)
                                            · rw [if_neg c64] at H
                                              exact absurd H (by simp)
                                          · rw [if_neg c62] at H
                                            have c62b0 : ((Int.tmod (ji61) 2) == 1) = false := beq_eq_false_iff_ne.mpr c62
                                            have c62b1 : ((Int.tmod (ji61) 2) != 1) = true := bne_iff_ne.mpr c62
                                            have H' := Aside0.mk H
                                            clear H
                                            go_wp2
                                            go_roundg kj56
                                            case measure => have := HJ5.out; have := HK2.out; have := HJ37.out; have := HJ51.out; have := HK5.out; have := HJ56.out; omega
                                            case rel => exact ⟨(x12_5), (wrap64 (x14_5 + 1)), (by first | rfl | (simp; done) | (simp [*]; done)), H', ⟨by have := HJ5.out; have := HK2.out; have := HJ37.out; have := HJ51.out; have := HK5.out; have := HJ56.out; omega⟩, ⟨by (with_reducible repeat (first | apply Kd.R_alloc | apply Kd.R_drewN | apply Kd.R_drew)); exact HO_9.out⟩, ⟨by (with_reducible repeat (first | apply Kd.R_alloc | apply Kd.R_drewN | apply Kd.R_drew)); exact HO_12.out⟩, ⟨by repeat (first | (with_reducible first | exact HB.out | apply below_alloc | apply pw_below_drewN | apply below_drew1) | exact HB.out)⟩⟩
                                        · rw [if_neg c60] at H
                                          exact absurd H (by simp)
                                      · replace c59 := Bool.eq_false_iff.mpr c59
                                        subst c59
                                        have H1 : (if (strOfNums x12_5).toList = (strOfNums l0).toList then (garnerlaw02_CrcTells.j6 kj56 l0 l1 x9_2 false) else ((crc_Sum.f 5 [x12_5]).bind fun t217 => ((crc_Sum.f 5 [l0]).bind fun t218 => (garnerlaw02_CrcTells.j6 kj56 l0 l1 x9_2 (t217 == t218))))) = some r := by rw [if_neg (show ¬ (false = true) by decide)] at H; exact H
                                        clear H
                                        have H := H1
                                        clear H1
                                        have HC73 := Aside0.mk H
                                        clear H
                                        go_upto_region 23 with (fail)
                                        go_cut [140] (fun v140 wc => ∃ (kq : Nat) (x140_72 : Bool), v140 = .bool x140_72 ∧ Aside0 (garnerlaw02_CrcTells.j6 kq l0 l1 x9_2 x140_72 = some r) ∧ Aside0 (kq ≤ kj56) ∧ Aside0 (Kd.R (Kd.int .u8) 5 wc w.heap.size (fun _ => True) v201 x9_2) ∧ Aside0 (Below w.heap.size w wc))
                                        case first => as_aux_lemma =>
                                          have H := HC73.out
                                          clear HC73
                                          by_cases c74 : (strOfNums x12_5).toList = (strOfNums l0).toList
                                          · rw [if_pos c74] at H
                                            have c74b0 : ((strOfNums x12_5).toList == (strOfNums l0).toList) = true := beq_iff_eq.mpr c74
                                            have c74b1 : ((strOfNums x12_5).toList != (strOfNums l0).toList) = false := bne_eq_false_iff_eq.mpr c74
                                            clear c74
                                            (first | rw [c74b0] | (simp only [i64_w, i32_w]; rw [c74b0]) | skip)
                                            have H' := Aside0.mk H
                                            clear H
                                            have hcv75 := own_string (P := Try.prog) Try.underlying24 Try.underlying5 Try.underlying9 (Kd.own_of_R HO_12.out); have hcv75d := fun n_ => own_string (P := Try.prog) Try.underlying24 Try.underlying5 Try.underlying9 (Kd.own_of_R (Kd.R_drewN HO_12.out n_))
                                            have hcv76 := Kd.C_string (P := Try.prog) (A := A0) (c := c0) Try.underlying24 Try.underlying5 Try.underlying9 (Kd.C_below HR0.out HB.out); have hcv76d := fun n_ => Kd.C_string (P := Try.prog) (A := A0) (c := c0) Try.underlying24 Try.underlying5 Try.underlying9 (Kd.C_drewN (Kd.C_below HR0.out HB.out) n_)
                                            go_wp2
                                            go_meet
                                            case rel => exact ⟨_, (false), (by first | rfl | (simp; done) | (simp [*]; done)), H', ⟨by have := HJ5.out; have := HK2.out; have := HJ37.out; have := HJ51.out; have := HK5.out; have := HJ56.out; first | omega | exact Nat.le_refl _⟩, ⟨by (with_reducible repeat (first | apply Kd.R_alloc | apply Kd.R_drewN | apply Kd.R_drew)); exact Kd.R_mono HO_9.out (fun _ hk => trivial)⟩, ⟨by repeat (first | (with_reducible first | exact HB.out | apply below_alloc | apply pw_below_drewN | apply below_drew1) | exact HB.out)⟩⟩
                                          · rw [if_neg c74] at H
                                            have c74b0 : ((strOfNums x12_5).toList == (strOfNums l0).toList) = false := beq_eq_false_iff_ne.mpr c74
                                            have c74b1 : ((strOfNums x12_5).toList != (strOfNums l0).toList) = true := bne_iff_ne.mpr c74
                                            (first | rw [c74b0] | (simp only [i64_w, i32_w]; rw [c74b0]) | skip)
                                            replace H := Option.bind_eq_some_iff.mp H
                                            obtain ⟨t217, A770, H⟩ := H
                                            replace H : ((crc_Sum.f 5 [l0]).bind fun t218 => (garnerlaw02_CrcTells.j6 kj56 l0 l1 x9_2 (t217 == t218))) = some r := H
                                            have A77 := Aside0.mk A770
                                            clear A770
                                            replace H := Option.bind_eq_some_iff.mp H
                                            obtain ⟨t218, A780, H⟩ := H
                                            replace H : (garnerlaw02_CrcTells.j6 kj56 l0 l1 x9_2 (t217 == t218)) = some r := H
                                            have A78 := Aside0.mk A780
                                            clear A780
                                            have H' := Aside0.mk H
                                            clear H
                                            have hcv79 := own_string (P := Try.prog) Try.underlying24 Try.underlying5 Try.underlying9 (Kd.own_of_R HO_12.out); have hcv79d := fun n_ => own_string (P := Try.prog) Try.underlying24 Try.underlying5 Try.underlying9 (Kd.own_of_R (Kd.R_drewN HO_12.out n_))
                                            have hcv80 := Kd.C_string (P := Try.prog) (A := A0) (c := c0) Try.underlying24 Try.underlying5 Try.underlying9 (Kd.C_below HR0.out HB.out); have hcv80d := fun n_ => Kd.C_string (P := Try.prog) (A := A0) (c := c0) Try.underlying24 Try.underlying5 Try.underlying9 (Kd.C_drewN (Kd.C_below HR0.out HB.out) n_)
                                            obtain ⟨Ao81, co81, eo81⟩ := Kd.R_slice HO_12.out
                                            subst eo81
                                            go_wp2_with (first | (go_at_call 8; (with_reducible refine (tsum rfl A77.out ?side1 ?side2).mono ?_); (case side1 => repeat (first | exact (Kd.R_reads' HO_12.out).2.2 | (with_reducible refine Kd.C_alloc ?_ _) | (with_reducible refine Kd.C_drewN ?_ _) | (with_reducible refine Kd.C_drew ?_))); (case side2 => exact (Kd.R_reads' HO_12.out).2.1); rintro e w82 ⟨rfl, hb⟩; have n0_ := Aside0.mk (Kd.R_below (by (with_reducible repeat (first | apply Kd.R_alloc | apply Kd.R_drewN | apply Kd.R_drew)); exact HO_9.out) hb); have n1_ := Aside0.mk (Kd.R_below (by (with_reducible repeat (first | apply Kd.R_alloc | apply Kd.R_drewN | apply Kd.R_drew)); exact HO_12.out) hb); have n2_ := Aside0.mk (below_step (by repeat (first | (with_reducible first | exact HB.out | apply below_alloc | apply pw_below_drewN | apply below_drew1) | exact HB.out)) hb); clear HO_9; clear HO_12; clear HB; have HO_9 := n0_; have HO_12 := n1_; have HB := n2_; clear n0_ n1_ n2_; (try clear hb); (try clear hb2); (try clear hk); (try clear hi)) | (go_at_call 8; (with_reducible refine (tsum rfl A78.out ?side1 ?side2).mono ?_); (case side1 => repeat (first | exact (Kd.C_below HR0.out HB.out) | (with_reducible refine Kd.C_alloc ?_ _) | (with_reducible refine Kd.C_drewN ?_ _) | (with_reducible refine Kd.C_drew ?_))); (case side2 => exact HC0.out); rintro e w83 ⟨rfl, hb⟩; have n0_ := Aside0.mk (Kd.R_below (by (with_reducible repeat (first | apply Kd.R_alloc | apply Kd.R_drewN | apply Kd.R_drew)); exact HO_9.out) hb); have n1_ := Aside0.mk (Kd.R_below (by (with_reducible repeat (first | apply Kd.R_alloc | apply Kd.R_drewN | apply Kd.R_drew)); exact HO_12.out) hb); have n2_ := Aside0.mk (below_step (by repeat (first | (with_reducible first | exact HB.out | apply below_alloc | apply pw_below_drewN | apply below_drew1) | exact HB.out)) hb); clear HO_9; clear HO_12; clear HB; have HO_9 := n0_; have HO_12 := n1_; have HB := n2_; clear n0_ n1_ n2_; (try clear hb); (try clear hb2); (try clear hk); (try clear hi)))
                                            go_meet
                                            case rel => exact ⟨_, ((t217 == t218)), (by first | rfl | (simp; done) | (simp [*]; done)), H', ⟨by have := HJ5.out; have := HK2.out; have := HJ37.out; have := HJ51.out; have := HK5.out; have := HJ56.out; first | omega | exact Nat.le_refl _⟩, ⟨by (with_reducible repeat (first | apply Kd.R_alloc | apply Kd.R_drewN | apply Kd.R_drew)); exact Kd.R_mono HO_9.out (fun _ hk => trivial)⟩, ⟨by repeat (first | (with_reducible first | exact HB.out | apply below_alloc | apply pw_below_drewN | apply below_drew1) | exact HB.out)⟩⟩
                                        case rest => as_aux_lemma =>
                                          clear HC73
                                          try clear c1
                                          try clear c2
                                          try clear p2
                                          try clear q2
                                          try clear hx2
                                          try clear c3
                                          try clear p3
                                          try clear q3
                                          try clear hx3
                                          try clear c4
                                          try clear hcv4
                                          try clear c5
                                          try clear c6
                                          try clear p6
                                          try clear q6
                                          try clear hx6
                                          try clear hf6
                                          try clear c7
                                          try clear c7b0
                                          try clear c7b1
                                          try clear c7b2
                                          try clear hcv7
                                          try clear c8
                                          try clear hcv8
                                          try clear c11
                                          try clear c15
                                          try clear c15b0
                                          try clear c16
                                          try clear c16b0
                                          try clear c16b1
                                          try clear c17
                                          try clear c17b0
                                          try clear c19
                                          try clear c19b0
                                          try clear c20
                                          try clear c20b0
                                          try clear p20
                                          try clear q20
                                          try clear hx20
                                          try clear p21
                                          try clear q21
                                          try clear hx21
                                          try clear c22
                                          try clear c22b0
                                          try clear c22b1
                                          try clear p24
                                          try clear q24
                                          try clear hx24
                                          try clear hf24
                                          try clear c29
                                          try clear c29b0
                                          try clear c30
                                          try clear c30b0
                                          try clear c32
                                          try clear c32b0
                                          try clear c32b1
                                          try clear p34
                                          try clear q34
                                          try clear hx34
                                          try clear hf34
                                          try clear c39
                                          try clear c39b0
                                          try clear c39b1
                                          try clear hcv40
                                          try clear hcv41
                                          try clear hcv44
                                          try clear hcv45
                                          try clear c49
                                          try clear c50
                                          try clear c51
                                          try clear c51b0
                                          try clear c51b1
                                          try clear c56
                                          try clear c56b0
                                          try clear c58
                                          try clear c58b0
                                          try clear c59
                                          try clear c60
                                          try clear c60b0
                                          try clear c60b1
                                          try clear c62
                                          try clear c62b0
                                          try clear c62b1
                                          try clear c64
                                          try clear c64b0
                                          try clear p64
                                          try clear c65
                                          try clear c65b0
                                          try clear c67
                                          try clear c67b0
                                          try clear c67b1
                                          try clear p69
                                          try clear q69
                                          try clear hx69
                                          try clear hf69
                                          try clear c74
                                          try clear c74b0
                                          try clear c74b1
                                          try clear hcv75
                                          try clear hcv76
                                          try clear hcv79
                                          try clear hcv80
                                          try clear hx203_0
                                          try clear hx205_0
                                          try clear hx215_0
                                          try clear hx24_0
                                          try clear hx34_0
                                          try clear hx69_0
                                          try clear p2
                                          try clear p20
                                          try clear p203
                                          try clear p205
                                          try clear p215
                                          try clear p24
                                          try clear p3
                                          try clear p34
                                          try clear p6
                                          try clear p69
                                          try clear q2
                                          try clear q20
                                          try clear q203
                                          try clear q205
                                          try clear q215
                                          try clear q24
                                          try clear q3
                                          try clear q34
                                          try clear q69
                                          obtain ⟨kq, x140_72, rfl, HA, HJ72, HO_9, HB⟩ := hcut
                                          cases kq with
                                          | zero => exact absurd HA.out (by simp [garnerlaw02_CrcTells.j6])
                                          | succ kj72 =>
                                            have H := HA.out
                                            clear HA
                                            simp only [garnerlaw02_CrcTells.j6] at H
                                            by_cases c84 : x140_72 = true
                                            · subst c84
                                              have H1 : (none) = some r := by rw [if_pos rfl] at H; exact H
                                              clear H
                                              have H := H1
                                              clear H1
                                              exact absurd H (by simp)
                                            · replace c84 := Bool.eq_false_iff.mpr c84
                                              subst c84
                                              have H1 : (if 0 ≤ (l0.length : Int) then (if ((l0.length : Int) : Int).toNat ≤ 281474976710656 then (garnerlaw02_CrcTells.l2 kj72 l0 l1 x9_2 (List.replicate ((l0.length : Int) : Int).toNat 0) 0) else (none)) else (none)) = some r := by rw [if_neg (show ¬ (false = true) by decide)] at H; exact H
                                              clear H
                                              have H := H1
                                              clear H1
                                              by_cases c85 : 0 ≤ (l0.length : Int)
                                              · rw [if_pos c85] at H
                                                have c85b0 := eq_true c85
                                                have c85b1 : decide (0 ≤ (l0.length : Int)) = true := decide_eq_true c85
                                                clear c85
                                                by_cases c86 : ((l0.length : Int) : Int).toNat ≤ 281474976710656
                                                · rw [if_pos c86] at H
                                                  have c86b0 := eq_true c86
                                                  have c86b1 : decide (((l0.length : Int) : Int).toNat ≤ 281474976710656) = true := decide_eq_true c86
                                                  clear c86
                                                  obtain ⟨y219, hy219⟩ : ∃ y_ : List Int, y_ = (List.replicate ((l0.length : Int) : Int).toNat 0) := ⟨_, rfl⟩
                                                  replace H : (garnerlaw02_CrcTells.l2 kj72 l0 l1 x9_2 y219 0) = some r := by first | (rw [hy219]; with_reducible exact H) | (have H2_ := (Option.bind_some _ _).symm.trans H; rw [hy219]; with_reducible exact H2_) | (have H2_ := (Option.bind_some _ _).symm.trans H; with_reducible exact H2_) | with_reducible exact H | (rw [hy219]; exact H) | exact H
                                                  have Ny219 := Aside0.mk hy219
                                                  clear hy219
                                                  have H' := Aside0.mk H
                                                  clear H
                                                  go_wp2_with (first | ((with_reducible refine gate_dst (N := 143) rfl ?_); (try (refine gate_guard (by rfl) ?_; dsimp only)); refine Kd.R_make (Kd.int .u8) _ 5 rfl (N := 143) rfl 24 _ _ rfl (l0.length : Int) rfl rfl Try.underlying24 (.int .u8 0) 1 info5 rfl (by decide) (by omega) 0 (ok := fun _ => True) (okp := fun _ => True) rfl (fun _ hk => hk) trivial (of_decide_eq_true (by first | (with_reducible assumption) | assumption)) (Nat.le_trans (Nat.mul_le_mul_right _ (of_decide_eq_true (by first | (with_reducible assumption) | assumption) : (l0.length : Int).toNat ≤ 281474976710656)) (by omega)) (Below.refl _ _) (Nat.le_refl _) ?_; intro v220 w87 ho88 hb hg_ hnew_; clear hg_ hnew_; (first | rw [← Ny219.out] at ho88 | (simp only [Int.reduceToNat] at ho88; rw [← Ny219.out] at ho88)); have n0_ := Aside0.mk (Kd.R_elder' (by (with_reducible repeat (first | apply Kd.R_alloc | apply Kd.R_drewN | apply Kd.R_drew)); exact HO_9.out) (Kd.R_base ho88) hb); have n1_ := Aside0.mk (Kd.R_lower (Kd.R_new' ho88 (Kd.R_lt (by (with_reducible repeat (first | apply Kd.R_alloc | apply Kd.R_drewN | apply Kd.R_drew)); exact HO_9.out))) (below_size (by repeat (first | (with_reducible first | exact HB.out | apply below_alloc | apply pw_below_drewN | apply below_drew1) | exact HB.out)))); have n2_ := Aside0.mk (below_step (by repeat (first | (with_reducible first | exact HB.out | apply below_alloc | apply pw_below_drewN | apply below_drew1) | exact HB.out)) hb); clear HO_9; clear HB; have HO_9 := n0_; have HO221 := n1_; have HB := n2_; clear n0_ n1_ n2_; clear hb ho88))
                                                  go_loopg [16] kj72 (fun kq v16 w' => ∃ (x15_8 : List Int) (x16_8 : Int), v16 = .int .i64 x16_8 ∧ Aside0 (garnerlaw02_CrcTells.l2 kq l0 l1 x9_2 x15_8 x16_8 = some r) ∧ Aside0 (kq ≤ kj72) ∧ Aside0 (Kd.R (Kd.int .u8) 5 w' w.heap.size (fun k_ => some k_ ≠ (v220 : Value).ownBlock) v201 x9_2) ∧ Aside0 (Kd.R (Kd.int .u8) 5 w' w.heap.size (fun k_ => some k_ ≠ (v201 : Value).ownBlock) v220 x15_8) ∧ Aside0 (Below w.heap.size w w'))
                                                  case atStart => exact ⟨(y219), (0), (by first | rfl | (simp; done) | (simp [*]; done)), H', ⟨Nat.le_refl _⟩, ⟨by (with_reducible repeat (first | apply Kd.R_alloc | apply Kd.R_drewN | apply Kd.R_drew)); exact Kd.R_mono HO_9.out (fun _ hk => hk.2)⟩, ⟨by (with_reducible repeat (first | apply Kd.R_alloc | apply Kd.R_drewN | apply Kd.R_drew)); exact Kd.R_mono HO221.out (fun _ hk => hk.2)⟩, ⟨by repeat (first | (with_reducible first | exact HB.out | apply below_alloc | apply pw_below_drewN | apply below_drew1) | exact HB.out)⟩⟩
                                                  case round => as_aux_lemma =>
                                                    clear H'
                                                    try clear c1
                                                    try clear c2
                                                    try clear p2
                                                    try clear q2
                                                    try clear hx2
                                                    try clear c3
                                                    try clear p3
                                                    try clear q3
                                                    try clear hx3
                                                    try clear c4
                                                    try clear hcv4
                                                    try clear c5
                                                    try clear c6
                                                    try clear p6
                                                    try clear q6
                                                    try clear hx6
                                                    try clear hf6
                                                    try clear c7
                                                    try clear c7b0
                                                    try clear c7b1
                                                    try clear c7b2
                                                    try clear hcv7
                                                    try clear c8
                                                    try clear hcv8
                                                    try clear c11
                                                    try clear c15
                                                    try clear c15b0
                                                    try clear c16
                                                    try clear c16b0
                                                    try clear c16b1
                                                    try clear c17
                                                    try clear c17b0
                                                    try clear c19
                                                    try clear c19b0
                                                    try clear c20
                                                    try clear c20b0
                                                    try clear p20
                                                    try clear q20
                                                    try clear hx20
                                                    try clear p21
                                                    try clear q21
                                                    try clear hx21
                                                    try clear c22
                                                    try clear c22b0
                                                    try clear c22b1
                                                    try clear p24
                                                    try clear q24
                                                    try clear hx24
                                                    try clear hf24
                                                    try clear c29
                                                    try clear c29b0
                                                    try clear c30
                                                    try clear c30b0
                                                    try clear c32
                                                    try clear c32b0
                                                    try clear c32b1
                                                    try clear p34
                                                    try clear q34
                                                    try clear hx34
                                                    try clear hf34
                                                    try clear c39
                                                    try clear c39b0
                                                    try clear c39b1
                                                    try clear hcv40
                                                    try clear hcv41
                                                    try clear hcv44
                                                    try clear hcv45
                                                    try clear c49
                                                    try clear c50
                                                    try clear c51
                                                    try clear c51b0
                                                    try clear c51b1
                                                    try clear c56
                                                    try clear c56b0
                                                    try clear c58
                                                    try clear c58b0
                                                    try clear c59
                                                    try clear c60
                                                    try clear c60b0
                                                    try clear c60b1
                                                    try clear c62
                                                    try clear c62b0
                                                    try clear c62b1
                                                    try clear c64
                                                    try clear c64b0
                                                    try clear p64
                                                    try clear c65
                                                    try clear c65b0
                                                    try clear c67
                                                    try clear c67b0
                                                    try clear c67b1
                                                    try clear p69
                                                    try clear q69
                                                    try clear hx69
                                                    try clear hf69
                                                    try clear c74
                                                    try clear c74b0
                                                    try clear c74b1
                                                    try clear hcv75
                                                    try clear hcv76
                                                    try clear hcv79
                                                    try clear hcv80
                                                    try clear c84
                                                    try clear c85
                                                    try clear c85b0
                                                    try clear c85b1
                                                    try clear c86
                                                    try clear c86b0
                                                    try clear c86b1
                                                    try clear hx203_0
                                                    try clear hx205_0
                                                    try clear hx215_0
                                                    try clear hx24_0
                                                    try clear hx34_0
                                                    try clear hx69_0
                                                    try clear p2
                                                    try clear p20
                                                    try clear p203
                                                    try clear p205
                                                    try clear p21
                                                    try clear p215
                                                    try clear p24
                                                    try clear p3
                                                    try clear p34
                                                    try clear p6
                                                    try clear p64
                                                    try clear p69
                                                    try clear q2
                                                    try clear q20
                                                    try clear q203
                                                    try clear q205
                                                    try clear q21
                                                    try clear q215
                                                    try clear q24
                                                    try clear q3
                                                    try clear q34
                                                    try clear q6
                                                    try clear q69
                                                    obtain ⟨x15_8, x16_8, rfl, HA, HK8, HO_9, HO_15, HB⟩ := hrel
                                                    cases gk with
                                                    | zero => exact absurd HA.out (by simp [garnerlaw02_CrcTells.l2])
                                                    | succ k8 =>
                                                      have H := HA.out
                                                      clear HA
                                                      simp only [garnerlaw02_CrcTells.l2] at H
                                                      by_cases c89 : x16_8 < (l0.length : Int)
                                                      · rw [if_pos c89] at H
                                                        have c89b0 : decide (x16_8 < (l0.length : Int)) = true := decide_eq_true c89
                                                        clear c89
                                                        by_cases c90 : x16_8 < (l1.length : Int)
                                                        · rw [if_pos c90] at H
                                                          have c90b0 : decide (x16_8 < (l1.length : Int)) = true := decide_eq_true c90
                                                          clear c90
                                                          by_cases c91 : 0 ≤ x16_8
                                                          · rw [if_pos c91] at H
                                                            have c91b0 : decide (0 ≤ x16_8) = true := decide_eq_true c91
                                                            clear c91
                                                            by_cases c92 : x16_8 < (x15_8.length : Int)
                                                            · rw [if_pos c92] at H
                                                              have c92b0 : decide (x16_8 < (x15_8.length : Int)) = true := decide_eq_true c92
                                                              clear c92
                                                              obtain ⟨y223, hy223⟩ : ∃ y_ : List Int, y_ = (x15_8.set (x16_8 : Int).toNat (rd l1 x16_8)) := ⟨_, rfl⟩
                                                              replace H : (garnerlaw02_CrcTells.l2 k8 l0 l1 x9_2 y223 (wrap64 (x16_8 + 1))) = some r := by first | (rw [hy223]; with_reducible exact H) | (have H2_ := (Option.bind_some _ _).symm.trans H; rw [hy223]; with_reducible exact H2_) | (have H2_ := (Option.bind_some _ _).symm.trans H; with_reducible exact H2_) | with_reducible exact H | (rw [hy223]; exact H) | exact H
                                                              have Ny223 := Aside0.mk hy223
                                                              clear hy223
                                                              have H' := Aside0.mk H
                                                              clear H
                                                              have p222 : 0 ≤ (x16_8 : Int) := of_decide_eq_true (by first | (with_reducible assumption) | assumption)
                                                              have q222 : x16_8 < (l1.length : Int) := of_decide_eq_true (by first | (with_reducible assumption) | assumption)
                                                              obtain ⟨ad222, e222, hx222_0⟩ := Kd.at_int HR1.out x16_8 p222 q222
                                                              cases e222
                                                              replace hx222_0 := (HB.out.cell (World.block_lt_of_cell? w _ hx222_0)).trans hx222_0
                                                              replace p222 := eq_true p222
                                                              replace q222 := eq_true q222
                                                              (try (have q222d := q222; simp only [List.length_drop, List.length_take] at q222d))
                                                              have p93 : 0 ≤ (x16_8 : Int) := of_decide_eq_true (by first | (with_reducible assumption) | assumption)
                                                              have q93 : (x16_8 : Int) < ((x15_8.length : Int) : Int) := of_decide_eq_true (by first | (with_reducible assumption) | assumption)
                                                              obtain ⟨go93, co93, eo93, gb93, gl93, cl93, HG93⟩ := Kd.R_form HO_15.out (by omega)
                                                              (first | cases eo93 | (injection eo93 with ea_ en_ ec_; (first | subst ea_ | (injection ea_ with ea_; subst ea_)); subst ec_; clear en_))
                                                              have GB93 := Aside0.mk gb93
                                                              have GG93 := Aside0.mk HG93
                                                              clear gb93 gl93 HG93
                                                              obtain ⟨hx93_0, hf93_0⟩ := Kd.R_celln 0 HO_15.out (x16_8 : Int) p93 q93
                                                              replace p93 := eq_true p93
                                                              replace q93 := eq_true q93
                                                              (try (have q93d := q93; simp only [List.length_drop, List.length_take] at q93d))
                                                              have HP94 := Kd.R_putg HO_15.out (x16_8 : Int) (rd l1 x16_8)
                                                              go_wp2_with (first | ((with_reducible refine gate_store (t := 5) (p := 160) rfl ?_); refine store_event (t := 5) (p := 160) (v := ?vo_w95) (w1 := (wr.setCell ⟨go93, (x16_8 : Int).toNat, none⟩ (.int .u8 (rd l1 x16_8)))) ?hg ?ho ?hn ?hr ?_; (case ho => rfl); (case hg => rfl); (case hn => rfl); (case hr => first | (go_simp; done) | (go_simp; rfl)); intro w95 hw; have hg : wr.grownBy w95 (some go93) := (by rw [hw]; exact HP94.2); have hp_ : Kd.R (Kd.int .u8) 5 w95 w.heap.size (fun k_ => some k_ ≠ (v201 : Value).ownBlock) (.slice (some ⟨go93, 0, none⟩) x15_8.length co93) y223 := (by rw [hw, Ny223.out]; exact HP94.1); clear HP94; have n0_ := Aside0.mk (Kd.R_after (v := (.slice (some ⟨go93, 0, none⟩) x15_8.length co93)) (v1 := (.slice (some ⟨go93, 0, none⟩) x15_8.length co93)) (ok := (fun _ => True)) (by (with_reducible repeat (first | apply Kd.R_alloc | apply Kd.R_drewN | apply Kd.R_drew)); exact Kd.R_mono HO_9.out (fun _ hk => ⟨trivial, hk⟩)) hg (.inl rfl)); have n1_ := Aside0.mk (hp_); have n2_ := Aside0.mk ((by rw [hw]; exact below_set (HB.out) GB93.out : Below w.heap.size w w95)); clear HO_9; clear HO_15; clear HB; have HO_9 := n0_; have HO_15 := n1_; have HB := n2_; clear n0_ n1_ n2_; clear hg hw hp_))
                                                              go_roundg k8
                                                              case measure => have := HJ5.out; have := HK2.out; have := HJ37.out; have := HJ51.out; have := HK5.out; have := HJ56.out; have := HJ72.out; have := HK8.out; omega
                                                              case rel => exact ⟨(y223), (wrap64 (x16_8 + 1)), (by first | rfl | (simp; done) | (simp [*]; done)), H', ⟨by have := HJ5.out; have := HK2.out; have := HJ37.out; have := HJ51.out; have := HK5.out; have := HJ56.out; have := HJ72.out; have := HK8.out; omega⟩, ⟨by (with_reducible repeat (first | apply Kd.R_alloc | apply Kd.R_drewN | apply Kd.R_drew)); exact Kd.R_mono HO_9.out (fun _ hk => hk.2)⟩, ⟨by (with_reducible repeat (first | apply Kd.R_alloc | apply Kd.R_drewN | apply Kd.R_drew)); exact HO_15.out⟩, ⟨by repeat (first | (with_reducible first | exact HB.out | apply below_alloc | apply pw_below_drewN | apply below_drew1) | exact HB.out)⟩⟩
                                                            · rw [if_neg c92] at H
                                                              exact absurd H (by simp)
                                                          · rw [if_neg c91] at H
                                                            exact absurd H (by simp)
                                                        · rw [if_neg c90] at H
                                                          have c90b0 : decide (x16_8 < (l1.length : Int)) = false := decide_eq_false c90
                                                          clear c90
                                                          have H' := Aside0.mk H
                                                          clear H
                                                          go_wp2
                                                          go_roundg k8
                                                          case measure => have := HJ5.out; have := HK2.out; have := HJ37.out; have := HJ51.out; have := HK5.out; have := HJ56.out; have := HJ72.out; have := HK8.out; omega
                                                          case rel => exact ⟨(x15_8), (wrap64 (x16_8 + 1)), (by first | rfl | (simp; done) | (simp [*]; done)), H', ⟨by have := HJ5.out; have := HK2.out; have := HJ37.out; have := HJ51.out; have := HK5.out; have := HJ56.out; have := HJ72.out; have := HK8.out; omega⟩, ⟨by (with_reducible repeat (first | apply Kd.R_alloc | apply Kd.R_drewN | apply Kd.R_drew)); exact HO_9.out⟩, ⟨by (with_reducible repeat (first | apply Kd.R_alloc | apply Kd.R_drewN | apply Kd.R_drew)); exact HO_15.out⟩, ⟨by repeat (first | (with_reducible first | exact HB.out | apply below_alloc | apply pw_below_drewN | apply below_drew1) | exact HB.out)⟩⟩
                                                      · rw [if_neg c89] at H
                                                        have c89b0 : decide (x16_8 < (l0.length : Int)) = false := decide_eq_false c89
                                                        clear c89
                                                        by_cases c96 : 0 ≤ (l0.length : Int)
                                                        · rw [if_pos c96] at H
                                                          have c96b0 := eq_true c96
                                                          have c96b1 : decide (0 ≤ (l0.length : Int)) = true := decide_eq_true c96
                                                          clear c96
                                                          by_cases c97 : ((l0.length : Int) : Int).toNat ≤ 281474976710656
                                                          · rw [if_pos c97] at H
                                                            have c97b0 := eq_true c97
                                                            have c97b1 : decide (((l0.length : Int) : Int).toNat ≤ 281474976710656) = true := decide_eq_true c97
                                                            clear c97
                                                            obtain ⟨y224, hy224⟩ : ∃ y_ : List Int, y_ = (List.replicate ((l0.length : Int) : Int).toNat 0) := ⟨_, rfl⟩
                                                            replace H : (garnerlaw02_CrcTells.l3 k8 l0 x9_2 x15_8 y224 0) = some r := by first | (rw [hy224]; with_reducible exact H) | (have H2_ := (Option.bind_some _ _).symm.trans H; rw [hy224]; with_reducible exact H2_) | (have H2_ := (Option.bind_some _ _).symm.trans H; with_reducible exact H2_) | with_reducible exact H | (rw [hy224]; exact H) | exact H
                                                            have Ny224 := Aside0.mk hy224
                                                            clear hy224
                                                            have H' := Aside0.mk H
                                                            clear H
                                                            go_wp2_with (first | ((with_reducible refine gate_dst (N := 163) rfl ?_); (try (refine gate_guard (by rfl) ?_; dsimp only)); refine Kd.R_make (Kd.int .u8) _ 5 rfl (N := 163) rfl 24 _ _ rfl (l0.length : Int) rfl rfl Try.underlying24 (.int .u8 0) 1 info5 rfl (by decide) (by omega) 0 (ok := fun _ => True) (okp := fun _ => True) rfl (fun _ hk => hk) trivial (of_decide_eq_true (by first | (with_reducible assumption) | assumption)) (Nat.le_trans (Nat.mul_le_mul_right _ (of_decide_eq_true (by first | (with_reducible assumption) | assumption) : (l0.length : Int).toNat ≤ 281474976710656)) (by omega)) (Below.refl _ _) (Nat.le_refl _) ?_; intro v225 w98 ho99 hb hg_ hnew_; clear hg_ hnew_; (first | rw [← Ny224.out] at ho99 | (simp only [Int.reduceToNat] at ho99; rw [← Ny224.out] at ho99)); have n0_ := Aside0.mk (Kd.R_elder' (by (with_reducible repeat (first | apply Kd.R_alloc | apply Kd.R_drewN | apply Kd.R_drew)); exact HO_9.out) (Kd.R_base ho99) hb); have n1_ := Aside0.mk (Kd.R_elder' (by (with_reducible repeat (first | apply Kd.R_alloc | apply Kd.R_drewN | apply Kd.R_drew)); exact HO_15.out) (Kd.R_base ho99) hb); have n2_ := Aside0.mk (Kd.R_lower (Kd.R_new' (Kd.R_new' ho99 (Kd.R_lt (by (with_reducible repeat (first | apply Kd.R_alloc | apply Kd.R_drewN | apply Kd.R_drew)); exact HO_9.out))) (Kd.R_lt (by (with_reducible repeat (first | apply Kd.R_alloc | apply Kd.R_drewN | apply Kd.R_drew)); exact HO_15.out))) (below_size (by repeat (first | (with_reducible first | exact HB.out | apply below_alloc | apply pw_below_drewN | apply below_drew1) | exact HB.out)))); have n3_ := Aside0.mk (below_step (by repeat (first | (with_reducible first | exact HB.out | apply below_alloc | apply pw_below_drewN | apply below_drew1) | exact HB.out)) hb); clear HO_9; clear HO_15; clear HB; have HO_9 := n0_; have HO_15 := n1_; have HO226 := n2_; have HB := n3_; clear n0_ n1_ n2_ n3_; clear hb ho99))
                                                            go_loopg [18] k8 (fun kq v18 w' => ∃ (x17_9 : List Int) (x18_9 : Int), v18 = .int .i64 x18_9 ∧ Aside0 (garnerlaw02_CrcTells.l3 kq l0 x9_2 x15_8 x17_9 x18_9 = some r) ∧ Aside0 (kq ≤ k8) ∧ Aside0 (Kd.R (Kd.int .u8) 5 w' w.heap.size (fun k_ => some k_ ≠ (v220 : Value).ownBlock ∧ some k_ ≠ (v225 : Value).ownBlock) v201 x9_2) ∧ Aside0 (Kd.R (Kd.int .u8) 5 w' w.heap.size (fun k_ => some k_ ≠ (v201 : Value).ownBlock ∧ some k_ ≠ (v225 : Value).ownBlock) v220 x15_8) ∧ Aside0 (Kd.R (Kd.int .u8) 5 w' w.heap.size (fun k_ => some k_ ≠ (v201 : Value).ownBlock ∧ some k_ ≠ (v220 : Value).ownBlock) v225 x17_9) ∧ Aside0 (Below w.heap.size w w'))
                                                            case atStart => exact ⟨(y224), (0), (by first | rfl | (simp; done) | (simp [*]; done)), H', ⟨Nat.le_refl _⟩, ⟨by (with_reducible repeat (first | apply Kd.R_alloc | apply Kd.R_drewN | apply Kd.R_drew)); exact HO_9.out⟩, ⟨by (with_reducible repeat (first | apply Kd.R_alloc | apply Kd.R_drewN | apply Kd.R_drew)); exact HO_15.out⟩, ⟨by (with_reducible repeat (first | apply Kd.R_alloc | apply Kd.R_drewN | apply Kd.R_drew)); exact Kd.R_mono HO226.out (fun _ hk => ⟨hk.1.2, hk.2⟩)⟩, ⟨by repeat (first | (with_reducible first | exact HB.out | apply below_alloc | apply pw_below_drewN | apply below_drew1) | exact HB.out)⟩⟩
                                                            case round => as_aux_lemma =>
                                                              clear H'
                                                              try clear c1
                                                              try clear c2
                                                              try clear p2
                                                              try clear q2
                                                              try clear hx2
                                                              try clear c3
                                                              try clear p3
                                                              try clear q3
                                                              try clear hx3
                                                              try clear c4
                                                              try clear hcv4
                                                              try clear c5
                                                              try clear c6
                                                              try clear p6
                                                              try clear q6
                                                              try clear hx6
                                                              try clear hf6
                                                              try clear c7
                                                              try clear c7b0
                                                              try clear c7b1
                                                              try clear c7b2
                                                              try clear hcv7
                                                              try clear c8
                                                              try clear hcv8
                                                              try clear c9
                                                              try clear p9
                                                              try clear q9
                                                              try clear hx9
                                                              try clear hf9
                                                              try clear c11
                                                              try clear c15
                                                              try clear c15b0
                                                              try clear c16
                                                              try clear c16b0
                                                              try clear c16b1
                                                              try clear c17
                                                              try clear c17b0
                                                              try clear c19
                                                              try clear c19b0
                                                              try clear c20
                                                              try clear c20b0
                                                              try clear p20
                                                              try clear q20
                                                              try clear hx20
                                                              try clear p21
                                                              try clear q21
                                                              try clear hx21
                                                              try clear c22
                                                              try clear c22b0
                                                              try clear c22b1
                                                              try clear p22
                                                              try clear q22
                                                              try clear hx22
                                                              try clear p24
                                                              try clear q24
                                                              try clear hx24
                                                              try clear hf24
                                                              try clear c29
                                                              try clear c29b0
                                                              try clear c30
                                                              try clear c30b0
                                                              try clear c32
                                                              try clear c32b0
                                                              try clear c32b1
                                                              try clear p34
                                                              try clear q34
                                                              try clear hx34
                                                              try clear hf34
                                                              try clear c39
                                                              try clear c39b0
                                                              try clear c39b1
                                                              try clear hcv40
                                                              try clear hcv41
                                                              try clear hcv44
                                                              try clear hcv45
                                                              try clear c49
                                                              try clear c50
                                                              try clear c51
                                                              try clear c51b0
                                                              try clear c51b1
                                                              try clear c56
                                                              try clear c56b0
                                                              try clear c58
                                                              try clear c58b0
                                                              try clear c59
                                                              try clear c60
                                                              try clear c60b0
                                                              try clear c60b1
                                                              try clear c62
                                                              try clear c62b0
                                                              try clear c62b1
                                                              try clear c64
                                                              try clear c64b0
                                                              try clear p64
                                                              try clear c65
                                                              try clear c65b0
                                                              try clear c67
                                                              try clear c67b0
                                                              try clear c67b1
                                                              try clear p69
                                                              try clear q69
                                                              try clear hx69
                                                              try clear hf69
                                                              try clear c74
                                                              try clear c74b0
                                                              try clear c74b1
                                                              try clear hcv75
                                                              try clear hcv76
                                                              try clear hcv79
                                                              try clear hcv80
                                                              try clear c84
                                                              try clear c85
                                                              try clear c85b0
                                                              try clear c85b1
                                                              try clear c86
                                                              try clear c86b0
                                                              try clear c86b1
                                                              try clear c89
                                                              try clear c89b0
                                                              try clear c90
                                                              try clear c90b0
                                                              try clear c91
                                                              try clear c91b0
                                                              try clear c92
                                                              try clear c92b0
                                                              try clear p93
                                                              try clear q93
                                                              try clear hx93
                                                              try clear hf93
                                                              try clear c96
                                                              try clear c96b0
                                                              try clear c96b1
                                                              try clear c97
                                                              try clear c97b0
                                                              try clear c97b1
                                                              try clear hx203_0
                                                              try clear hx205_0
                                                              try clear hx215_0
                                                              try clear hx222_0
                                                              try clear hx24_0
                                                              try clear hx34_0
                                                              try clear hx69_0
                                                              try clear hx93_0
                                                              try clear p2
                                                              try clear p20
                                                              try clear p203
                                                              try clear p205
                                                              try clear p21
                                                              try clear p215
                                                              try clear p222
                                                              try clear p24
                                                              try clear p3
                                                              try clear p34
                                                              try clear p6
                                                              try clear p64
                                                              try clear p69
                                                              try clear p93
                                                              try clear q2
                                                              try clear q20
                                                              try clear q203
                                                              try clear q205
                                                              try clear q21
                                                              try clear q215
                                                              try clear q222
                                                              try clear q24
                                                              try clear q3
                                                              try clear q34
                                                              try clear q6
                                                              try clear q69
                                                              try clear q93
                                                              obtain ⟨x17_9, x18_9, rfl, HA, HK9, HO_9, HO_15, HO_17, HB⟩ := hrel
                                                              cases gk with
                                                              | zero => exact absurd HA.out (by simp [garnerlaw02_CrcTells.l3])
                                                              | succ k9 =>
                                                                have H := HA.out
                                                                clear HA
                                                                simp only [garnerlaw02_CrcTells.l3] at H
                                                                by_cases c100 : x18_9 < (l0.length : Int)
                                                                · rw [if_pos c100] at H
                                                                  have c100b0 : decide (x18_9 < (l0.length : Int)) = true := decide_eq_true c100
                                                                  clear c100
                                                                  by_cases c101 : 0 ≤ x18_9
                                                                  · rw [if_pos c101] at H
                                                                    have c101b0 : decide (0 ≤ x18_9) = true := decide_eq_true c101
                                                                    clear c101
                                                                    by_cases c102 : x18_9 < (x9_2.length : Int)
                                                                    · rw [if_pos c102] at H
                                                                      have c102b0 : decide (x18_9 < (x9_2.length : Int)) = true := decide_eq_true c102
                                                                      clear c102
                                                                      by_cases c103 : x18_9 < (x15_8.length : Int)
                                                                      · rw [if_pos c103] at H
                                                                        have c103b0 : decide (x18_9 < (x15_8.length : Int)) = true := decide_eq_true c103
                                                                        clear c103
                                                                        by_cases c104 : x18_9 < (x17_9.length : Int)
                                                                        · rw [if_pos c104] at H
                                                                          have c104b0 : decide (x18_9 < (x17_9.length : Int)) = true := decide_eq_true c104
                                                                          clear c104
                                                                          obtain ⟨y230, hy230⟩ : ∃ y_ : List Int, y_ = (x17_9.set (x18_9 : Int).toNat (Go.bits .xor .u8 (Go.bits .xor .u8 (rd l0 x18_9) (rd x9_2 x18_9)) (rd x15_8 x18_9))) := ⟨_, rfl⟩
                                                                          replace H : (garnerlaw02_CrcTells.l3 k9 l0 x9_2 x15_8 y230 (wrap64 (x18_9 + 1))) = some r := by first | (rw [hy230]; with_reducible exact H) | (have H2_ := (Option.bind_some _ _).symm.trans H; rw [hy230]; with_reducible exact H2_) | (have H2_ := (Option.bind_some _ _).symm.trans H; with_reducible exact H2_) | with_reducible exact H | (rw [hy230]; exact H) | exact H
                                                                          have Ny230 := Aside0.mk hy230
                                                                          clear hy230
                                                                          have H' := Aside0.mk H
                                                                          clear H
                                                                          try go_wp2
                                                                          have n0_ := Aside0.mk (Kd.R_drew HO_9.out)
                                                                          have n1_ := Aside0.mk (Kd.R_drew HO_15.out)
                                                                          have n2_ := Aside0.mk (Kd.R_drew HO_17.out)
                                                                          have n3_ := Aside0.mk (below_drew1 HB.out)
                                                                          clear HO_9
                                                                          clear HO_15
                                                                          clear HO_17
                                                                          clear HB
                                                                          have HO_9 := n0_
                                                                          have HO_15 := n1_
                                                                          have HO_17 := n2_
                                                                          have HB := n3_
                                                                          clear n0_ n1_ n2_ n3_
                                                                          have p227 : 0 ≤ (x18_9 : Int) := of_decide_eq_true (by first | (with_reducible assumption) | assumption)
                                                                          have q227 : x18_9 < (l0.length : Int) := of_decide_eq_true (by first | (with_reducible assumption) | assumption)
                                                                          obtain ⟨ad227, e227, hx227_0⟩ := Kd.at_int HR0.out x18_9 p227 q227
                                                                          have hw227_0 := hx227_0
                                                                          cases e227
                                                                          replace hx227_0 := (HB.out.cell (World.block_lt_of_cell? w _ hx227_0)).trans hx227_0
                                                                          replace p227 := eq_true p227
                                                                          replace q227 := eq_true q227
                                                                          (try (have q227d := q227; simp only [List.length_drop, List.length_take] at q227d))
                                                                          obtain ⟨Ao107, co107, eo107⟩ := Kd.R_slice HO_9.out
                                                                          (first | subst eo107 | (injection eo107 with f1_ f2_ f3_; have f4_ := f1_.symm; have f5_ := f3_.symm; clear f1_ f2_ f3_; subst f4_; subst f5_))
                                                                          have p228 : 0 ≤ (x18_9 : Int) := of_decide_eq_true (by first | (with_reducible assumption) | assumption)
                                                                          have q228 : x18_9 < (x9_2.length : Int) := of_decide_eq_true (by first | (with_reducible assumption) | assumption)
                                                                          obtain ⟨ad228, e228, hx228_0⟩ := Kd.at_int (Kd.R_reads' HO_9.out).2.2 x18_9 p228 q228
                                                                          cases e228
                                                                          replace p228 := eq_true p228
                                                                          replace q228 := eq_true q228
                                                                          (try (have q228d := q228; simp only [List.length_drop, List.length_take] at q228d))
                                                                          obtain ⟨Ao108, co108, eo108⟩ := Kd.R_slice HO_15.out
                                                                          (first | subst eo108 | (injection eo108 with f1_ f2_ f3_; have f4_ := f1_.symm; have f5_ := f3_.symm; clear f1_ f2_ f3_; subst f4_; subst f5_))
                                                                          have p229 : 0 ≤ (x18_9 : Int) := of_decide_eq_true (by first | (with_reducible assumption) | assumption)
                                                                          have q229 : x18_9 < (x15_8.length : Int) := of_decide_eq_true (by first | (with_reducible assumption) | assumption)
                                                                          obtain ⟨ad229, e229, hx229_0⟩ := Kd.at_int (Kd.R_reads' HO_15.out).2.2 x18_9 p229 q229
                                                                          cases e229
                                                                          replace p229 := eq_true p229
                                                                          replace q229 := eq_true q229
                                                                          (try (have q229d := q229; simp only [List.length_drop, List.length_take] at q229d))
                                                                          have p105 : 0 ≤ (x18_9 : Int) := of_decide_eq_true (by first | (with_reducible assumption) | assumption)
                                                                          have q105 : (x18_9 : Int) < ((x17_9.length : Int) : Int) := of_decide_eq_true (by first | (with_reducible assumption) | assumption)
                                                                          obtain ⟨go105, co105, eo105, gb105, gl105, cl105, HG105⟩ := Kd.R_form HO_17.out (by omega)
                                                                          (first | cases eo105 | (injection eo105 with ea_ en_ ec_; (first | subst ea_ | (injection ea_ with ea_; subst ea_)); subst ec_; clear en_))
                                                                          have GB105 := Aside0.mk gb105
                                                                          have GG105 := Aside0.mk HG105
                                                                          clear gb105 gl105 HG105
                                                                          obtain ⟨hx105_0, hf105_0⟩ := Kd.R_celln 0 HO_17.out (x18_9 : Int) p105 q105
                                                                          replace p105 := eq_true p105
                                                                          replace q105 := eq_true q105
                                                                          (try (have q105d := q105; simp only [List.length_drop, List.length_take] at q105d))
                                                                          have HP109 := Kd.R_putn HO_17.out (x18_9 : Int) (Go.bits .xor .u8 (Go.bits .xor .u8 (rd l0 x18_9) (rd x9_2 x18_9)) (rd x15_8 x18_9))
                                                                          rw [← Ny230.out] at HP109
                                                                          have HQ109 := Aside0.mk HP109
                                                                          clear HP109
                                                                          refine start_ (n := 18) (S := fun w' => w'.cell? (ad227.add (x18_9).toNat) = some (.int .u8 (rd l0 x18_9)) ∧ w'.cell? (ad228.add (x18_9).toNat) = some (.int .u8 (rd x9_2 x18_9)) ∧ w'.cell? (ad229.add (x18_9).toNat) = some (.int .u8 (rd x15_8 x18_9))) (ds := [17]) #[false, false, false, false, false, false, false, false, false, false, false, false, false, false, false, false, false, false] (by kernel_rfl) rfl rfl ⟨((HB.out.cell (World.block_lt_of_cell? w _ hw227_0)).trans hw227_0), hx228_0, hx229_0⟩ (fun hHeld => ?_); refine with_tabW garnerlaw02_CrcTells.tab35 garnerlaw02_CrcTells.bits35 (fun HT_ HW_ => ?_)
                                                                          generalize wr.drew = w106 at HO_9 HO_15 HO_17 HB GG105 HQ109 hf105_0 hx105_0 hx227_0 hx228_0 hx229_0 hHeld ⊢
                                                                          refine pure_ (i := 0) (N := some 170) (v := ?_) (a' := ?_) #[true, false, false, false, false, false, false, false, false, false, false, false, false, false, false, false, false, false] rfl rfl (any_of HT_.out (by kernel_rfl)) (fun _ _ _ h => h) (Or.inl ⟨by rfl, ?_⟩) ?_ ?_
                                                                          rotate_left
                                                                          · intro w'
                                                                            go_simp
                                                                            with_reducible rfl
                                                                          rotate_left
                                                                          · simp only [Act.put, List.setIfInBounds_toArray, List.set_cons_zero, List.set_cons_succ, i64_w, i32_w]
                                                                            rfl
                                                                          refine pure_ (i := 1) (N := some 171) (v := ?_) (a' := ?_) #[true, true, false, false, false, false, false, false, false, false, false, false, false, false, false, false, false, false] rfl rfl (any_of HT_.out (by kernel_rfl)) (fun _ _ _ h => h) (Or.inl ⟨by rfl, ?_⟩) ?_ ?_
                                                                          rotate_left
                                                                          · intro w'
                                                                            go_simp
                                                                            with_reducible rfl
                                                                          rotate_left
                                                                          · simp only [Act.put, List.setIfInBounds_toArray, List.set_cons_zero, List.set_cons_succ, i64_w, i32_w]
                                                                            rfl
                                                                          refine pure_ (i := 2) (N := some 172) (v := ?_) (a' := ?_) #[true, true, true, false, false, false, false, false, false, false, false, false, false, false, false, false, false, false] rfl rfl (any_of HT_.out (by kernel_rfl)) (fun _ _ _ h => h) (Or.inl ⟨by rfl, ?_⟩) ?_ ?_
                                                                          rotate_left
                                                                          · intro w'
                                                                            go_simp
                                                                            with_reducible rfl
                                                                          rotate_left
                                                                          · simp only [Act.put, List.setIfInBounds_toArray, List.set_cons_zero, List.set_cons_succ, i64_w, i32_w]
                                                                            rfl
                                                                          refine pure_ (i := 3) (N := some 173) (v := ?_) (a' := ?_) #[true, true, true, true, false, false, false, false, false, false, false, false, false, false, false, false, false, false] rfl rfl (any_of HT_.out (by kernel_rfl)) (fun _ _ _ h => h) (Or.inl ⟨by rfl, ?_⟩) ?_ ?_
                                                                          rotate_left
                                                                          · intro w'
                                                                            go_simp
                                                                            with_reducible rfl
                                                                          rotate_left
                                                                          · simp only [Act.put, List.setIfInBounds_toArray, List.set_cons_zero, List.set_cons_succ, i64_w, i32_w]
                                                                            rfl
                                                                          refine pure_ (i := 4) (N := some 174) (v := ?_) (a' := ?_) #[true, true, true, true, true, false, false, false, false, false, false, false, false, false, false, false, false, false] rfl rfl (any_of HT_.out (by kernel_rfl)) (fun _ _ _ h => h) (Or.inl ⟨by rfl, ?_⟩) ?_ ?_
                                                                          rotate_left
                                                                          · intro w'
                                                                            go_simp
                                                                            with_reducible rfl
                                                                          rotate_left
                                                                          · simp only [Act.put, List.setIfInBounds_toArray, List.set_cons_zero, List.set_cons_succ, i64_w, i32_w]
                                                                            rfl
                                                                          refine pure_ (i := 6) (N := some 176) (v := ?_) (a' := ?_) #[true, true, true, true, true, false, true, false, false, false, false, false, false, false, false, false, false, false] rfl rfl (any_of HT_.out (by kernel_rfl)) (fun _ _ _ h => h) (Or.inl ⟨by rfl, ?_⟩) ?_ ?_
                                                                          rotate_left
                                                                          · intro w'
                                                                            go_simp
                                                                            with_reducible rfl
                                                                          rotate_left
                                                                          · simp only [Act.put, List.setIfInBounds_toArray, List.set_cons_zero, List.set_cons_succ, i64_w, i32_w]
                                                                            rfl
                                                                          refine pure_ (i := 7) (N := some 177) (v := ?_) (a' := ?_) #[true, true, true, true, true, false, true, true, false, false, false, false, false, false, false, false, false, false] rfl rfl (any_of HT_.out (by kernel_rfl)) (fun _ _ _ h => h) (Or.inl ⟨by rfl, ?_⟩) ?_ ?_
                                                                          rotate_left
                                                                          · intro w'
                                                                            go_simp
                                                                            with_reducible rfl
                                                                          rotate_left
                                                                          · simp only [Act.put, List.setIfInBounds_toArray, List.set_cons_zero, List.set_cons_succ, i64_w, i32_w]
                                                                            rfl
                                                                          refine pure_ (i := 8) (N := some 178) (v := ?_) (a' := ?_) #[true, true, true, true, true, false, true, true, true, false, false, false, false, false, false, false, false, false] rfl rfl (any_of HT_.out (by kernel_rfl)) (fun _ _ _ h => h) (Or.inl ⟨by rfl, ?_⟩) ?_ ?_
                                                                          rotate_left
                                                                          · intro w'
                                                                            go_simp
                                                                            with_reducible rfl
                                                                          rotate_left
                                                                          · simp only [Act.put, List.setIfInBounds_toArray, List.set_cons_zero, List.set_cons_succ, i64_w, i32_w]
                                                                            rfl
                                                                          refine pure_ (i := 11) (N := some 181) (v := ?_) (a' := ?_) #[true, true, true, true, true, false, true, true, true, false, false, true, false, false, false, false, false, false] rfl rfl (any_of HT_.out (by kernel_rfl)) (fun _ _ _ h => h) (Or.inl ⟨by rfl, ?_⟩) ?_ ?_
                                                                          rotate_left
                                                                          · intro w'
                                                                            go_simp
                                                                            with_reducible rfl
                                                                          rotate_left
                                                                          · simp only [Act.put, List.setIfInBounds_toArray, List.set_cons_zero, List.set_cons_succ, i64_w, i32_w]
                                                                            rfl
                                                                          refine pure_ (i := 12) (N := some 182) (v := ?_) (a' := ?_) #[true, true, true, true, true, false, true, true, true, false, false, true, true, false, false, false, false, false] rfl rfl (any_of HT_.out (by kernel_rfl)) (fun _ _ _ h => h) (Or.inl ⟨by rfl, ?_⟩) ?_ ?_
                                                                          rotate_left
                                                                          · intro w'
                                                                            go_simp
                                                                            with_reducible rfl
                                                                          rotate_left
                                                                          · simp only [Act.put, List.setIfInBounds_toArray, List.set_cons_zero, List.set_cons_succ, i64_w, i32_w]
                                                                            rfl
                                                                          refine pure_ (i := 13) (N := some 183) (v := ?_) (a' := ?_) #[true, true, true, true, true, false, true, true, true, false, false, true, true, true, false, false, false, false] rfl rfl (any_of HT_.out (by kernel_rfl)) (fun _ _ _ h => h) (Or.inl ⟨by rfl, ?_⟩) ?_ ?_
                                                                          rotate_left
                                                                          · intro w'
                                                                            go_simp
                                                                            with_reducible rfl
                                                                          rotate_left
                                                                          · simp only [Act.put, List.setIfInBounds_toArray, List.set_cons_zero, List.set_cons_succ, i64_w, i32_w]
                                                                            rfl
                                                                          refine take_ (i := 5) (N := some 175) (v := ?_) (a' := ?_) #[true, true, true, true, true, true, true, true, true, false, false, true, true, true, false, false, false, false] rfl rfl (take_ofW HT_.out HW_.out (by kernel_rfl)) (fun _ _ _ h => h) (Or.inl ⟨by rfl, ?_⟩) hHeld ?_ ?_
                                                                          rotate_left
                                                                          · rintro w' ⟨s0, s1, s2⟩
                                                                            go_simp
                                                                            with_reducible rfl
                                                                          rotate_left
                                                                          · simp only [Act.put, List.setIfInBounds_toArray, List.set_cons_zero, List.set_cons_succ, i64_w, i32_w]
                                                                            rfl
                                                                          refine take_ (i := 9) (N := some 179) (v := ?_) (a' := ?_) #[true, true, true, true, true, true, true, true, true, true, false, true, true, true, false, false, false, false] rfl rfl (take_ofW HT_.out HW_.out (by kernel_rfl)) (fun _ _ _ h => h) (Or.inl ⟨by rfl, ?_⟩) hHeld ?_ ?_
                                                                          rotate_left
                                                                          · rintro w' ⟨s0, s1, s2⟩
                                                                            go_simp
                                                                            with_reducible rfl
                                                                          rotate_left
                                                                          · simp only [Act.put, List.setIfInBounds_toArray, List.set_cons_zero, List.set_cons_succ, i64_w, i32_w]
                                                                            rfl
                                                                          refine pure_ (i := 10) (N := some 180) (v := ?_) (a' := ?_) #[true, true, true, true, true, true, true, true, true, true, true, true, true, true, false, false, false, false] rfl rfl (any_of HT_.out (by kernel_rfl)) (fun _ _ _ h => h) (Or.inl ⟨by rfl, ?_⟩) ?_ ?_
                                                                          rotate_left
                                                                          · intro w'
                                                                            go_simp
                                                                            with_reducible rfl
                                                                          rotate_left
                                                                          · simp only [Act.put, List.setIfInBounds_toArray, List.set_cons_zero, List.set_cons_succ, i64_w, i32_w]
                                                                            rfl
                                                                          refine take_ (i := 14) (N := some 184) (v := ?_) (a' := ?_) #[true, true, true, true, true, true, true, true, true, true, true, true, true, true, true, false, false, false] rfl rfl (take_ofW HT_.out HW_.out (by kernel_rfl)) (fun _ _ _ h => h) (Or.inl ⟨by rfl, ?_⟩) hHeld ?_ ?_
                                                                          rotate_left
                                                                          · rintro w' ⟨s0, s1, s2⟩
                                                                            go_simp
                                                                            with_reducible rfl
                                                                          rotate_left
                                                                          · simp only [Act.put, List.setIfInBounds_toArray, List.set_cons_zero, List.set_cons_succ, i64_w, i32_w]
                                                                            rfl
                                                                          refine pure_ (i := 15) (N := some 185) (v := ?_) (a' := ?_) #[true, true, true, true, true, true, true, true, true, true, true, true, true, true, true, true, false, false] rfl rfl (any_of HT_.out (by kernel_rfl)) (fun _ _ _ h => h) (Or.inl ⟨by rfl, ?_⟩) ?_ ?_
                                                                          rotate_left
                                                                          · intro w'
                                                                            go_simp
                                                                            with_reducible rfl
                                                                          rotate_left
                                                                          · simp only [Act.put, List.setIfInBounds_toArray, List.set_cons_zero, List.set_cons_succ, i64_w, i32_w]
                                                                            rfl
                                                                          refine pure_ (i := 16) (N := some 186) (v := ?_) (a' := ?_) #[true, true, true, true, true, true, true, true, true, true, true, true, true, true, true, true, true, false] rfl rfl (any_of HT_.out (by kernel_rfl)) (fun _ _ _ h => h) (Or.inl ⟨by rfl, ?_⟩) ?_ ?_
                                                                          rotate_left
                                                                          · intro w'
                                                                            go_simp
                                                                            with_reducible rfl
                                                                          rotate_left
                                                                          · simp only [Act.put, List.setIfInBounds_toArray, List.set_cons_zero, List.set_cons_succ, i64_w, i32_w]
                                                                            rfl
                                                                          refine last_ (i := 17) (N := none) #[true, true, true, true, true, true, true, true, true, true, true, true, true, true, true, true, true, true] rfl rfl (one_of HT_.out (by kernel_rfl)) (by decide) (fun K hK => ?_)
                                                                          refine skip_ (w1 := ?_) (by rfl) rfl ?_ ?_
                                                                          rotate_left
                                                                          · go_simp
                                                                            rfl
                                                                          refine hK.out _ _ ?_
                                                                          clear hK K
                                                                          refine done_ (done_of HT_.out (by kernel_rfl)) ?_
                                                                          try go_wp2
                                                                          go_roundg k9
                                                                          case measure => have := HJ5.out; have := HK2.out; have := HJ37.out; have := HJ51.out; have := HK5.out; have := HJ56.out; have := HJ72.out; have := HK8.out; have := HK9.out; omega
                                                                          case rel => exact ⟨(y230), (wrap64 (x18_9 + 1)), (by first | rfl | (simp; done) | (simp [*]; done)), H', ⟨by have := HJ5.out; have := HK2.out; have := HJ37.out; have := HJ51.out; have := HK5.out; have := HJ56.out; have := HJ72.out; have := HK8.out; have := HK9.out; omega⟩, ⟨by (with_reducible repeat (first | apply Kd.R_alloc | apply Kd.R_drewN | apply Kd.R_drew)); exact Kd.R_mono (Kd.R_far (p := ⟨go105, (x18_9 : Int).toNat, none⟩) (Kd.R_mono HO_9.out (fun k_ hk => (⟨hk, fun e_ => hk.2 (by rw [e_]; rfl)⟩ : _ ∧ k_ ≠ go105))) (fun _ hk => hk.2) (.int .u8 (Go.bits .xor .u8 (Go.bits .xor .u8 (rd l0 x18_9) (rd x9_2 x18_9)) (rd x15_8 x18_9)))) (fun _ hk => ⟨hk.1.1, hk.1.2⟩)⟩, ⟨by (with_reducible repeat (first | apply Kd.R_alloc | apply Kd.R_drewN | apply Kd.R_drew)); exact Kd.R_mono (Kd.R_far (p := ⟨go105, (x18_9 : Int).toNat, none⟩) (Kd.R_mono HO_15.out (fun k_ hk => (⟨hk, fun e_ => hk.2 (by rw [e_]; rfl)⟩ : _ ∧ k_ ≠ go105))) (fun _ hk => hk.2) (.int .u8 (Go.bits .xor .u8 (Go.bits .xor .u8 (rd l0 x18_9) (rd x9_2 x18_9)) (rd x15_8 x18_9)))) (fun _ hk => ⟨hk.1.1, hk.1.2⟩)⟩, ⟨by (with_reducible repeat (first | apply Kd.R_alloc | apply Kd.R_drewN | apply Kd.R_drew)); exact HQ109.out⟩, ⟨by repeat (first | (with_reducible first | exact HB.out | apply below_alloc | apply pw_below_drewN | apply below_drew1 | refine below_set ?_ GB105.out) | exact HB.out)⟩⟩
                                                                        · rw [if_neg c104] at H
                                                                          exact absurd H (by simp)
                                                                      · rw [if_neg c103] at H
                                                                        exact absurd H (by simp)
                                                                    · rw [if_neg c102] at H
                                                                      exact absurd H (by simp)
                                                                  · rw [if_neg c101] at H
                                                                    exact absurd H (by simp)
                                                                · rw [if_neg c100] at H
                                                                  have c100b0 : decide (x18_9 < (l0.length : Int)) = false := decide_eq_false c100
                                                                  clear c100
                                                                  replace H := Option.bind_eq_some_iff.mp H
                                                                  obtain ⟨t231, A1100, H⟩ := H
                                                                  replace H : ((crc_Sum.f 5 [x9_2]).bind fun t232 => ((crc_Sum.f 5 [x15_8]).bind fun t233 => ((crc_Sum.f 5 [x17_9]).bind fun t234 => (if (Go.bits .xor .u32 (Go.bits .xor .u32 t231 t232) t233) = t234 then ((garnerlaw02_known.f k9).bind fun t235 => (some t235)) else (none))))) = some r := H
                                                                  have A110 := Aside0.mk A1100
                                                                  clear A1100
                                                                  replace H := Option.bind_eq_some_iff.mp H
                                                                  obtain ⟨t232, A1110, H⟩ := H
                                                                  replace H : ((crc_Sum.f 5 [x15_8]).bind fun t233 => ((crc_Sum.f 5 [x17_9]).bind fun t234 => (if (Go.bits .xor .u32 (Go.bits .xor .u32 t231 t232) t233) = t234 then ((garnerlaw02_known.f k9).bind fun t235 => (some t235)) else (none)))) = some r := H
                                                                  have A111 := Aside0.mk A1110
                                                                  clear A1110
                                                                  replace H := Option.bind_eq_some_iff.mp H
                                                                  obtain ⟨t233, A1120, H⟩ := H
                                                                  replace H : ((crc_Sum.f 5 [x17_9]).bind fun t234 => (if (Go.bits .xor .u32 (Go.bits .xor .u32 t231 t232) t233) = t234 then ((garnerlaw02_known.f k9).bind fun t235 => (some t235)) else (none))) = some r := H
                                                                  have A112 := Aside0.mk A1120
                                                                  clear A1120
                                                                  replace H := Option.bind_eq_some_iff.mp H
                                                                  obtain ⟨t234, A1130, H⟩ := H
                                                                  replace H : (if (Go.bits .xor .u32 (Go.bits .xor .u32 t231 t232) t233) = t234 then ((garnerlaw02_known.f k9).bind fun t235 => (some t235)) else (none)) = some r := H
                                                                  have A113 := Aside0.mk A1130
                                                                  clear A1130
                                                                  by_cases c114 : (Go.bits .xor .u32 (Go.bits .xor .u32 t231 t232) t233) = t234
                                                                  · rw [if_pos c114] at H
                                                                    have c114b0 : ((Go.bits .xor .u32 (Go.bits .xor .u32 t231 t232) t233) == t234) = true := beq_iff_eq.mpr c114
                                                                    have c114b1 : ((Go.bits .xor .u32 (Go.bits .xor .u32 t231 t232) t233) != t234) = false := bne_eq_false_iff_eq.mpr c114
                                                                    clear c114
                                                                    replace H := Option.bind_eq_some_iff.mp H
                                                                    obtain ⟨t235, A1150, H⟩ := H
                                                                    replace H : (some t235) = some r := H
                                                                    have A115 := Aside0.mk A1150
                                                                    clear A1150
                                                                    obtain rfl := Option.some.inj H
                                                                    go_wp2_with (first | (go_at_call 8; (with_reducible refine (tsum rfl A110.out ?side1 ?side2).mono ?_); (case side1 => repeat (first | exact (Kd.C_below HR0.out HB.out) | (with_reducible refine Kd.C_alloc ?_ _) | (with_reducible refine Kd.C_drewN ?_ _) | (with_reducible refine Kd.C_drew ?_))); (case side2 => exact HC0.out); rintro e w116 ⟨rfl, hb⟩; have n0_ := Aside0.mk (Kd.R_below (by (with_reducible repeat (first | apply Kd.R_alloc | apply Kd.R_drewN | apply Kd.R_drew)); exact HO_9.out) hb); have n1_ := Aside0.mk (Kd.R_below (by (with_reducible repeat (first | apply Kd.R_alloc | apply Kd.R_drewN | apply Kd.R_drew)); exact HO_15.out) hb); have n2_ := Aside0.mk (Kd.R_below (by (with_reducible repeat (first | apply Kd.R_alloc | apply Kd.R_drewN | apply Kd.R_drew)); exact HO_17.out) hb); have n3_ := Aside0.mk (below_step (by repeat (first | (with_reducible first | exact HB.out | apply below_alloc | apply pw_below_drewN | apply below_drew1) | exact HB.out)) hb); clear HO_9; clear HO_15; clear HO_17; clear HB; have HO_9 := n0_; have HO_15 := n1_; have HO_17 := n2_; have HB := n3_; clear n0_ n1_ n2_ n3_; (try clear hb); (try clear hb2); (try clear hk); (try clear hi); obtain ⟨Ao117, co117, eo117⟩ := Kd.R_slice HO_9.out; subst eo117) | (go_at_call 8; (with_reducible refine (tsum rfl A111.out ?side1 ?side2).mono ?_); (case side1 => repeat (first | exact (Kd.R_reads' HO_9.out).2.2 | (with_reducible refine Kd.C_alloc ?_ _) | (with_reducible refine Kd.C_drewN ?_ _) | (with_reducible refine Kd.C_drew ?_))); (case side2 => exact (Kd.R_reads' HO_9.out).2.1); rintro e w118 ⟨rfl, hb⟩; have n0_ := Aside0.mk (Kd.R_below (by (with_reducible repeat (first | apply Kd.R_alloc | apply Kd.R_drewN | apply Kd.R_drew)); exact HO_9.out) hb); have n1_ := Aside0.mk (Kd.R_below (by (with_reducible repeat (first | apply Kd.R_alloc | apply Kd.R_drewN | apply Kd.R_drew)); exact HO_15.out) hb); have n2_ := Aside0.mk (Kd.R_below (by (with_reducible repeat (first | apply Kd.R_alloc | apply Kd.R_drewN | apply Kd.R_drew)); exact HO_17.out) hb); have n3_ := Aside0.mk (below_step (by repeat (first | (with_reducible first | exact HB.out | apply below_alloc | apply pw_below_drewN | apply below_drew1) | exact HB.out)) hb); clear HO_9; clear HO_15; clear HO_17; clear HB; have HO_9 := n0_; have HO_15 := n1_; have HO_17 := n2_; have HB := n3_; clear n0_ n1_ n2_ n3_; (try clear hb); (try clear hb2); (try clear hk); (try clear hi); obtain ⟨Ao119, co119, eo119⟩ := Kd.R_slice HO_15.out; subst eo119) | (go_at_call 8; (with_reducible refine (tsum rfl A112.out ?side1 ?side2).mono ?_); (case side1 => repeat (first | exact (Kd.R_reads' HO_15.out).2.2 | (with_reducible refine Kd.C_alloc ?_ _) | (with_reducible refine Kd.C_drewN ?_ _) | (with_reducible refine Kd.C_drew ?_))); (case side2 => exact (Kd.R_reads' HO_15.out).2.1); rintro e w120 ⟨rfl, hb⟩; have n0_ := Aside0.mk (Kd.R_below (by (with_reducible repeat (first | apply Kd.R_alloc | apply Kd.R_drewN | apply Kd.R_drew)); exact HO_9.out) hb); have n1_ := Aside0.mk (Kd.R_below (by (with_reducible repeat (first | apply Kd.R_alloc | apply Kd.R_drewN | apply Kd.R_drew)); exact HO_15.out) hb); have n2_ := Aside0.mk (Kd.R_below (by (with_reducible repeat (first | apply Kd.R_alloc | apply Kd.R_drewN | apply Kd.R_drew)); exact HO_17.out) hb); have n3_ := Aside0.mk (below_step (by repeat (first | (with_reducible first | exact HB.out | apply below_alloc | apply pw_below_drewN | apply below_drew1) | exact HB.out)) hb); clear HO_9; clear HO_15; clear HO_17; clear HB; have HO_9 := n0_; have HO_15 := n1_; have HO_17 := n2_; have HB := n3_; clear n0_ n1_ n2_ n3_; (try clear hb); (try clear hb2); (try clear hk); (try clear hi); obtain ⟨Ao121, co121, eo121⟩ := Kd.R_slice HO_17.out; subst eo121) | (go_at_call 8; (with_reducible refine (tsum rfl A113.out ?side1 ?side2).mono ?_); (case side1 => repeat (first | exact (Kd.R_reads' HO_17.out).2.2 | (with_reducible refine Kd.C_alloc ?_ _) | (with_reducible refine Kd.C_drewN ?_ _) | (with_reducible refine Kd.C_drew ?_))); (case side2 => exact (Kd.R_reads' HO_17.out).2.1); rintro e w122 ⟨rfl, hb⟩; have n0_ := Aside0.mk (Kd.R_below (by (with_reducible repeat (first | apply Kd.R_alloc | apply Kd.R_drewN | apply Kd.R_drew)); exact HO_9.out) hb); have n1_ := Aside0.mk (Kd.R_below (by (with_reducible repeat (first | apply Kd.R_alloc | apply Kd.R_drewN | apply Kd.R_drew)); exact HO_15.out) hb); have n2_ := Aside0.mk (Kd.R_below (by (with_reducible repeat (first | apply Kd.R_alloc | apply Kd.R_drewN | apply Kd.R_drew)); exact HO_17.out) hb); have n3_ := Aside0.mk (below_step (by repeat (first | (with_reducible first | exact HB.out | apply below_alloc | apply pw_below_drewN | apply below_drew1) | exact HB.out)) hb); clear HO_9; clear HO_15; clear HO_17; clear HB; have HO_9 := n0_; have HO_15 := n1_; have HO_17 := n2_; have HB := n3_; clear n0_ n1_ n2_ n3_; (try clear hb); (try clear hb2); (try clear hk); (try clear hi)) | (go_at_call 7; (with_reducible refine (garnerlaw02_known.calls k9  t235 _ A115.out).mono ?_); rintro e w123 ⟨rfl, hb⟩; have n0_ := Aside0.mk (Kd.R_below (by (with_reducible repeat (first | apply Kd.R_alloc | apply Kd.R_drewN | apply Kd.R_drew)); exact HO_9.out) hb); have n1_ := Aside0.mk (Kd.R_below (by (with_reducible repeat (first | apply Kd.R_alloc | apply Kd.R_drewN | apply Kd.R_drew)); exact HO_15.out) hb); have n2_ := Aside0.mk (Kd.R_below (by (with_reducible repeat (first | apply Kd.R_alloc | apply Kd.R_drewN | apply Kd.R_drew)); exact HO_17.out) hb); have n3_ := Aside0.mk (below_step (by repeat (first | (with_reducible first | exact HB.out | apply below_alloc | apply pw_below_drewN | apply below_drew1) | exact HB.out)) hb); clear HO_9; clear HO_15; clear HO_17; clear HB; have HO_9 := n0_; have HO_15 := n1_; have HO_17 := n2_; have HB := n3_; clear n0_ n1_ n2_ n3_; (try clear hb); (try clear hb2); (try clear hk); (try clear hi)))
                                                                    go_ret
                                                                    exact ⟨by first | rfl | (simp [errW_none, errW_some] <;> rfl) | (simp [*, errW_none, errW_some] <;> rfl), below_step HZ.out (by repeat (first | (with_reducible first | exact HB.out | apply below_alloc | apply pw_below_drewN | apply below_drew1) | exact HB.out))⟩
                                                                  · rw [if_neg c114] at H
                                                                    exact absurd H (by simp)
                                                          · rw [if_neg c97] at H
                                                            exact absurd H (by simp)
                                                        · rw [if_neg c96] at H
                                                          exact absurd H (by simp)
                                                · rw [if_neg c86] at H
                                                  exact absurd H (by simp)
                                              · rw [if_neg c85] at H
                                                exact absurd H (by simp)
                      · rw [if_neg c50] at H
                        exact absurd H (by simp)
        · rw [if_neg c11] at H
          exact absurd H (by simp)

end Go.Proofs.Ytajkjngngaobpaa.HS
