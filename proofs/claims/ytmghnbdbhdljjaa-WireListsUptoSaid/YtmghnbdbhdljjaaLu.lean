/- The law WireLists' call, of what its row reads. -/
import Derived.Test.YtmghnbdbhdljjaaLt
import Derived.Test.YtmghnbdbhdljjaaOpu
namespace Go.Proofs.Ytmghnbdbhdljjaa.Li
open Go.RowKit Go.Proofs.YtmghnbdbhdljjaaW.PrintWords Go.Proofs.YtmghnbdbhdljjaaW.PrintLast Go.Proofs.YtmghnbdbhdljjaaW.PrintMore Go.Proofs.Ytmghnbdbhdljjaa.HS
set_option linter.unusedVariables false
theorem call (l0 : List (Int × Int)) (A0 : Option Addr) (c0 : Nat) (n1 : Int) (W : World) {z0 z1 : Nat}
    (hC0 : Kd.C (Kd.pair (Kd.int .u64) (Kd.int .u64)) W A0 l0.length l0) (hc0 : l0.length ≤ c0) (hw0 : Opn.wfL (fun v : Int × Int => Opn.wfI .u64 v.1 ∧ Opn.wfI .u64 v.2) l0) (hz0 : Opn.bkL (fun v : Int × Int => Opn.bk1 v.1 + Opn.bk1 v.2 + 1) l0 ≤ z0) (hb : z0 + z1 ≤ 1048576) :
    Calls Try.prog 5 #[.slice A0 l0.length c0, .int .i64 n1] W fun e w' => e = .returned (.bool true) ∧ Below W.heap.size W w' := by
  refine lists_walk A0 c0 l0 n1 W hC0 hc0 (fun p hp => ?_) ?_
  · have := hw0.2 p hp
    simp [Opn.wfI, Lit.wf, IntKind.min, IntKind.max, IntKind.signed, IntKind.bits] at this
    unfold U
    omega
  · have h1 := Opn.length_le_sumOf (b := fun v : Int × Int => Opn.bk1 v.1 + Opn.bk1 v.2 + 1) (fun x => by omega) l0
    unfold Opn.bkL at hz0
    omega
end Go.Proofs.Ytmghnbdbhdljjaa.Li
