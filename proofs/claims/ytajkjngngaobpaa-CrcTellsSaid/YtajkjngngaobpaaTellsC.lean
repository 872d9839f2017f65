/- The law CrcTells: its call. -/
import Derived.Test.YtajkjngngaobpaaTellsB
import Derived.Test.YtajkjngngaobpaaOpen
import Derived.Test.YtajkjngngaobpaaU64
namespace Go.Proofs.Ytajkjngngaobpaa.Pure
open Go.RowKit Go.Proofs.Ytajkjngngaobpaa.HS Go.Proofs.Ytajkjngngaobpaa Go.Proofs.YtajkjngngaobpaaW.PrintWords Go.Proofs.YtajkjngngaobpaaW.PrintLast Go.Proofs.YtajkjngngaobpaaW.PrintMore
set_option linter.unusedVariables false
theorem byt_of_wf {l : List Int} (h : Opn.wfL (Opn.wfI .u8) l) : BytI l := fun x hx => by
  have h1 := h.2 x hx
  unfold Opn.wfI Lit.wf at h1
  simp at h1
  have e1 : IntKind.u8.min = 0 := by decide
  have e2 : IntKind.u8.max = 255 := by decide
  omega
def avOf (a b c : Int) (i : Int) : Int := if i = 0 then a else if i = 1 then b else c
theorem tells_wf (A0 : Option Addr) (c0 : Nat) (l0 : List Int) (A1 : Option Addr) (c1 : Nat) (l1 : List Int) (a b c u : Int) (w : World) (hC0 : Kd.C (Kd.int .u8) w A0 l0.length l0) (hc0 : l0.length ≤ c0) (hC1 : Kd.C (Kd.int .u8) w A1 l1.length l1) (hc1 : l1.length ≤ c1) (hw0 : Opn.wfL (Opn.wfI .u8) l0) (hw1 : Opn.wfL (Opn.wfI .u8) l1) (hu : (Lit.int .u32 u).wf = true) :
    Calls Try.prog 6 #[.agg #[.slice A0 l0.length c0, .slice A1 l1.length c1], .agg #[.int .i64 a, .int .i64 b, .int .i64 c], .int .u32 u] w fun e w' => e = .returned (.bool true) ∧ Below w.heap.size w w' := by
  have u0 : 0 ≤ u := by
    unfold Lit.wf at hu
    simp at hu
    have e1 : IntKind.u32.min = 0 := by decide
    omega
  obtain ⟨k, h⟩ := CrcTells l0 l1 a (avOf a b c) u (byt_of_wf hw0) (byt_of_wf hw1) u0
  have e0 : avOf a b c 0 = a := by unfold avOf; rw [if_pos rfl]
  have e1 : avOf a b c 1 = b := by unfold avOf; rw [if_neg (by decide), if_pos rfl]
  have e2 : avOf a b c 2 = c := by unfold avOf; rw [if_neg (by decide), if_neg (by decide)]
  have h2 := garnerlaw02_CrcTells.calls k A0 c0 l0 A1 c1 l1 a (avOf a b c) e0 u true w hC0 hc0 hC1 hc1 h
  rw [e1, e2] at h2
  exact h2
end Go.Proofs.Ytajkjngngaobpaa.Pure
