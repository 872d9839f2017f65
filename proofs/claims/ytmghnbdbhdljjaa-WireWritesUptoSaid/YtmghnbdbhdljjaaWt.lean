/- The law WireWrites' call, of what its row reads. -/
import Derived.Test.YtmghnbdbhdljjaaWq
import Derived.Test.YtmghnbdbhdljjaaOpu
namespace Go.Proofs.Ytmghnbdbhdljjaa.Wq
open Go.RowKit Go.Proofs.YtmghnbdbhdljjaaW.PrintWords Go.Proofs.YtmghnbdbhdljjaaW.PrintLast Go.Proofs.YtmghnbdbhdljjaaW.PrintMore Go.Proofs.Ytmghnbdbhdljjaa.HS
set_option linter.unusedVariables false
theorem rows_bulk (l : List (List Int)) : l.flatten.length + l.length ≤ Opn.sumOf (Opn.bkL Opn.bk1) l := by
  induction l with
  | nil => simp [Opn.sumOf]
  | cons x l ih =>
    have h : Opn.bkL Opn.bk1 x = x.length + 1 := congrArg (· + 1) (Opn.sumOf_length x)
    rw [Opn.sumOf_cons, h, List.flatten_cons, List.length_append, List.length_cons]
    omega
theorem call (x0 : Int × Int × Bool × List Int) (cs0 : Array Value) (l1 : List (List Int)) (A1 : Option Addr) (c1 : Nat) (W : World) {z0 z1 : Nat}
    (hK0 : (Kd.pair (Kd.int .u64) (Kd.pair (Kd.int .i64) (Kd.pair Kd.bool (Kd.slice 5 (Kd.int .u8))))).K W x0 cs0.toList)
    (hw0 : Opn.wfI .u64 x0.1 ∧ Opn.wfI .i64 x0.2.1 ∧ Opn.wfB x0.2.2.1 ∧ Opn.wfL (Opn.wfI .u8) x0.2.2.2)
    (hz0 : Opn.bk1 x0.1 + (Opn.bk1 x0.2.1 + (Opn.bk1 x0.2.2.1 + Opn.bkL Opn.bk1 x0.2.2.2)) + 1 ≤ z0)
    (hC1 : Kd.C (Kd.slice 5 (Kd.int .u8)) W A1 l1.length l1) (hc1 : l1.length ≤ c1) (hw1 : Opn.wfL (Opn.wfL (Opn.wfI .u8)) l1) (hz1 : Opn.bkL (Opn.bkL Opn.bk1) l1 ≤ z1) (hb : z0 + z1 ≤ 1048576) :
    Calls Try.prog 3 #[.agg cs0, .slice A1 l1.length c1] W fun e w' => e = .returned (.bool true) ∧ Below W.heap.size W w' := by
  obtain ⟨N, S, F, l⟩ := x0
  obtain ⟨cs⟩ := cs0
  obtain ⟨q0, q1, rfl, rfl, q2, q3, rfl, rfl, q4, q5, rfl, rfl, ⟨A, c, rfl, hc, hC⟩⟩ := hK0
  obtain ⟨wN, wS, -, hl, wl⟩ := hw0
  have e1 : Opn.bkL Opn.bk1 l = l.length + 1 := congrArg (· + 1) (Opn.sumOf_length l)
  have e2 : l1.flatten.length + l1.length + 1 ≤ z1 := Nat.le_trans (Nat.succ_le_succ (rows_bulk l1)) hz1
  simp only [Opn.bk1] at hz0
  simp only [e1] at hz0
  simp [Opn.wfI, Lit.wf, IntKind.min, IntKind.max, IntKind.signed, IntKind.bits] at wN wS
  obtain ⟨n, rfl⟩ := Int.eq_ofNat_of_zero_le (show 0 ≤ N by omega)
  obtain ⟨k, hk⟩ := proved n S F l l1 (by omega) (by omega) (by omega) (by omega) (by omega) (by omega)
  exact HS.gW.calls k _ _ _ A c l A1 c1 l1 true W hC hc hC1 hc1 hk
end Go.Proofs.Ytmghnbdbhdljjaa.Wq
