/- The law WireReads' call, of what its row reads. -/
import Derived.Test.YtmghnbdbhdljjaaWd
import Derived.Test.YtmghnbdbhdljjaaOpu
namespace Go.Proofs.Ytmghnbdbhdljjaa.Sp
open Go.RowKit Go.Proofs.YtmghnbdbhdljjaaW.PrintWords Go.Proofs.YtmghnbdbhdljjaaW.PrintLast Go.Proofs.YtmghnbdbhdljjaaW.PrintMore Go.Proofs.Ytmghnbdbhdljjaa.HS
set_option linter.unusedVariables false
theorem call (l0 : List Int) (A0 : Option Addr) (c0 : Nat) (l1 : List (Int × Int)) (A1 : Option Addr) (c1 : Nat) (W : World) {z0 z1 : Nat}
    (hC0 : Kd.C (Kd.int .u8) W A0 l0.length l0) (hc0 : l0.length ≤ c0) (hw0 : Opn.wfL (Opn.wfI .u8) l0) (hz0 : Opn.bkL Opn.bk1 l0 ≤ z0)
    (hC1 : Kd.C (Kd.pair (Kd.int .i64) (Kd.int .i64)) W A1 l1.length l1) (hc1 : l1.length ≤ c1) (hw1 : Opn.wfL (fun v : Int × Int => Opn.wfI .i64 v.1 ∧ Opn.wfI .i64 v.2) l1) (hb : z0 + z1 ≤ 1048576) :
    Calls Try.prog 6 #[.slice A0 l0.length c0, .slice A1 l1.length c1] W fun e w' => e = .returned (.bool true) ∧ Below W.heap.size W w' := by
  have e1 : Opn.bkL Opn.bk1 l0 = l0.length + 1 := congrArg (· + 1) (Opn.sumOf_length l0)
  refine reads_walk A0 c0 l0 A1 c1 l1 W hC0 hc0 (fun x hx => ?_) (by omega) hC1 hc1 (fun o ho => ?_)
  · have := hw0.2 x hx
    simp [Opn.wfI, Lit.wf, IntKind.min, IntKind.max, IntKind.signed, IntKind.bits] at this
    omega
  · have := (hw1.2 o ho).2
    simp [Opn.wfI, Lit.wf, IntKind.min, IntKind.max, IntKind.signed, IntKind.bits] at this
    omega
end Go.Proofs.Ytmghnbdbhdljjaa.Sp
