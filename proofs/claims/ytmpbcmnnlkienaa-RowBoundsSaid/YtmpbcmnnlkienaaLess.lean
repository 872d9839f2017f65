import Derived.Test.YtmpbcmnnlkienaaHSx0
import Derived.Lib.BytesEntry








import Derived.OwnWalkIn
import Derived.TacticsInMore
import Derived.LoopNIn
import Derived.LoopIn
import Derived.StillTailTactics
import Derived.Laws.Cover1
import Derived.Test.YtmpbcmnnlkienaaRd
namespace Go.Proofs.Ytmpbcmnnlkienaa.HS
open Go.RowKit Go.Proofs.YtmpbcmnnlkienaaW.PrintWords Go.Proofs.YtmpbcmnnlkienaaW.PrintLast Go.Proofs.YtmpbcmnnlkienaaW.PrintMore
set_option linter.unusedVariables false
set_option linter.unusedSimpArgs false
def garnerlaw13_less.f (l0 : List Int) (l1 : List Int) : Option (Int) := if (Op.bytesLess ((strOfNums l0).toList) ((strOfNums l1).toList)) = true then (some (-1)) else (if (Op.bytesLess ((strOfNums l1).toList) ((strOfNums l0).toList)) = true then (some 1) else (some 0))
theorem bytesLess_gt : ∀ x y : List UInt8, (!(Op.bytesLess x y || x == y)) = Op.bytesLess y x
  | [], [] => rfl
  | [], b :: y => by simp [Op.bytesLess]
  | a :: x, [] => by simp [Op.bytesLess]
  | a :: x, b :: y => by
    have ih := bytesLess_gt x y
    simp only [Op.bytesLess]
    rw [← ih]
    by_cases h1 : a < b
    · have h2 : ¬ b < a := fun h => by have := UInt8.lt_trans h1 h; exact UInt8.lt_irrefl _ this
      have h3 : ¬ b = a := fun e => by subst e; exact UInt8.lt_irrefl _ h1
      simp [h1, h2, h3]
    · by_cases h2 : a = b
      · subst h2
        simp [h1]
      · have h3 : b < a := by
          rcases UInt8.lt_or_lt_of_ne h2 with h | h
          · exact absurd h h1
          · exact h
        have h4 : ¬ b = a := fun e => h2 e.symm
        simp [h1, h2, h3, h4]
set_option maxHeartbeats 8000000 in
set_option maxRecDepth 100000 in
theorem garnerlaw13_less.calls (A0 : Option Addr) (c0 : Nat) (l0 : List Int) (A1 : Option Addr) (c1 : Nat) (l1 : List Int) (r : Int) (w : World) (hr0 : Kd.C (Kd.int .u8) w A0 l0.length l0) (hc0 : l0.length ≤ c0) (hr1 : Kd.C (Kd.int .u8) w A1 l1.length l1) (hc1 : l1.length ≤ c1) (h : garnerlaw13_less.f l0 l1 = some r) :
    Calls Try.prog 35 #[.slice A0 l0.length c0, .slice A1 l1.length c1] w fun e w' => e = .returned (.int .i64 r) ∧ Drawn0 w w' := by
  have HR0 := Aside0.mk hr0
  have HC0 := Aside0.mk hc0
  clear hr0 hc0
  have HR1 := Aside0.mk hr1
  have HC1 := Aside0.mk hc1
  clear hr1 hc1
  have H := h
  unfold garnerlaw13_less.f at H
  clear h
  have hcv4 := fun c0 => Kd.C_string (P := Try.prog) (A := A0) (c := c0) Try.underlying22 Try.underlying5 Try.underlying9 HR0.out
  have hcv5 := fun c1 => Kd.C_string (P := Try.prog) (A := A1) (c := c1) Try.underlying22 Try.underlying5 Try.underlying9 HR1.out
  by_cases c3 : (Op.bytesLess ((strOfNums l0).toList) ((strOfNums l1).toList)) = true
  · rw [if_pos c3] at H
    obtain rfl := Option.some.inj H
    go_enter Try.func35, Try.ntmps35
    go_wp2
    go_ret
    exact ⟨rfl, Drawn0.refl _⟩
  · rw [if_neg c3] at H
    replace c3 : (Op.bytesLess ((strOfNums l0).toList) ((strOfNums l1).toList)) = false := by simpa using c3
    have hgt := bytesLess_gt (strOfNums l0).toList (strOfNums l1).toList
    rw [c3, Bool.false_or] at hgt
    by_cases c6 : (Op.bytesLess ((strOfNums l1).toList) ((strOfNums l0).toList)) = true
    · rw [if_pos c6] at H
      rw [c6] at hgt
      have hne : ((strOfNums l0).toList == (strOfNums l1).toList) = false := by simpa using hgt
      clear hgt
      obtain rfl := Option.some.inj H
      go_enter Try.func35, Try.ntmps35
      go_wp2
      go_ret
      exact ⟨rfl, Drawn0.refl _⟩
    · rw [if_neg c6] at H
      replace c6 : (Op.bytesLess ((strOfNums l1).toList) ((strOfNums l0).toList)) = false := by simpa using c6
      rw [c6] at hgt
      have heq : ((strOfNums l0).toList == (strOfNums l1).toList) = true := by simpa using hgt
      clear hgt
      obtain rfl := Option.some.inj H
      go_enter Try.func35, Try.ntmps35
      go_wp2
      go_ret
      exact ⟨rfl, Drawn0.refl _⟩

end Go.Proofs.Ytmpbcmnnlkienaa.HS
