/- The law WireLists: whatever the input (what is read is of bulk at most 1048576), its call answers true, and the input reads as it did. -/
import Derived.Test.YtmghnbdbhdljjaaRows
import Derived.Test.YtmghnbdbhdljjaaLu
import Derived.Test.YtmghnbdbhdljjaaOpu
import Derived.Test.YtmghnbdbhdljjaaOpu
import Derived.Lib.SmallJoins
import Derived.WalkKit
import Derived.ProofKit
import Derived.OpenShut
import Derived.ShutString
import Derived.ChangeOld
import Derived.Below
import Derived.SizedLaws
import Derived.JoinedCond
namespace Go.Proofs.Ytmghnbdbhdljjaa.wireLists
open Go.ChangeShapes Go.WideShapes Go.ChangeAt Go.RowKit
open Go.ChangeMaps (open_string shut_string)
open Go.Joins HS Go.Proofs.YtmghnbdbhdljjaaW.PrintWords
set_option linter.unusedVariables false
theorem own : ownKnob Try.prog.godebug = none := by kernel_rfl
theorem laidOut : laidOutB Try.prog = true := by kernel_rfl
theorem op_22 : Opn.Opens Try.prog (Kd.int .u64) 22 (Opn.wfI .u64) Opn.bk1 := Opn.opens_int' (by first | exact Try.underlying22 | kernel_rfl)
theorem op_51 : Opn.Opens Try.prog (Kd.pair (Kd.int .u64) (Kd.int .u64)) 51 (fun v => (Opn.wfI .u64) v.1 ∧ (Opn.wfI .u64) v.2) (fun v => Opn.bk1 v.1 + Opn.bk1 v.2 + 1) := Opn.opens_array2 (by first | exact Try.underlying51 | kernel_rfl) (by kernel_rfl) (by kernel_rfl) op_22
theorem op_50 : Opn.Opens Try.prog (Kd.slice 51 (Kd.pair (Kd.int .u64) (Kd.int .u64))) 50 (Opn.wfL (fun v => (Opn.wfI .u64) v.1 ∧ (Opn.wfI .u64) v.2)) (Opn.bkL (fun v => Opn.bk1 v.1 + Opn.bk1 v.2 + 1)) := Opn.opens_slice' (by first | exact Try.underlying50 | kernel_rfl) (by kernel_rfl) op_51
theorem op_3 : Opn.Opens Try.prog (Kd.int .i64) 3 (Opn.wfI .i64) Opn.bk1 := Opn.opens_int' (by first | exact Try.underlying3 | kernel_rfl)
set_option maxRecDepth 100000 in
theorem lifted (os : Os) (started : os.Started) (H : Type) (enc : TypeId × Value → H) (F : Stop.Interp) :
    ReturnsInHanded {} Try.checked os 5 .any ((Rows.OpenSpec.upto Rows.wireListsSpec).pre6 enc Try.prog Try.f5 Rows.wireListsUptoRow.domain false) (((Rows.OpenSpec.upto Rows.wireListsSpec).at F).post enc Try.prog Try.f5 false true false false) := by
  refine returnsInHanded_of_cond (C := Try.checked) (s := Rows.OpenSpec.upto Rows.wireListsSpec) (k := Rows.uptoSmall) rfl own started (by kernel_rfl) Try.func5
    (OpenSpec.witness (enc := enc) (C := Try.checked) (s := Rows.OpenSpec.upto Rows.wireListsSpec) (k := Rows.uptoSmall) rfl false ⟨#[], #[.slice none 0 0, .int .i64 0], []⟩ 8 (by kernel_rfl) (by kernel_rfl) (by kernel_rfl)
      (x := ([.nil, .lit (.int .i64 0)], [], [])) (by kernel_rfl) rfl (by kernel_rfl)) ?_
  intro W base args ds gs before hval0 hW hcnd hk _
  have hval : ∀ (j : Nat) t v, Try.f5.params[j]? = some t → args[j]? = some v → Value.okWide Try.prog W .any base t v := hval0
  have hW' := hW
  obtain ⟨p, q, hA0, hV, rfl, hfz, hnd⟩ := hW
  have hA : DataW.TrodAll enc Try.prog W 0 (fun _ => true) true Try.f5.params.toList args.toList ds p := hA0
  rw [Try.params5] at hA hval
  obtain ⟨v0, vs0, d0, ds0, p0, q0, hargs, rfl, rfl, h0, r0⟩ := trodAll_cons hA
  obtain ⟨v1, vs1, d1, ds1, p1, q1, rfl, rfl, rfl, h1, r1⟩ := trodAll_cons r0
  obtain ⟨rfl, rfl, rfl⟩ := trodAll_nil r1
  obtain rfl : args = #[v0, v1] := by cases args; simp_all
  obtain ⟨rfl, rfl⟩ := trodVars_none hV
  have hbulk0 := Opn.bulk_bound hk
  simp only [List.append_nil, Rows.uptoBulkAll] at hbulk0
  have k0 := h0
  have lt0 : ∀ x ∈ p0, x.block < W.heap.size := by obtain ⟨m, hm⟩ := k0; exact DataW.trod_lt m _ _ _ hm
  obtain ⟨z0, ez0⟩ : ∃ z, z = Rows.uptoBulk d0 := ⟨_, rfl⟩
  obtain ⟨a0, len0, cap0, rfl⟩ := okWide_slice (by first | exact Try.underlying50 | kernel_rfl) (hval 0 50 v0 rfl rfl)
  obtain ⟨fuel0, hf0⟩ := h0
  obtain ⟨l0, ⟨A0, c0, hcs0, hc0, hC0⟩, hw0, hz0⟩ := op_50 _ _ _ _ _ _ _ _ _ hf0
  rw [← ez0] at hz0
  simp only [Value.cells, List.cons.injEq, Value.slice.injEq, and_true] at hcs0
  obtain ⟨rfl, rfl, rfl⟩ := hcs0
  have k1 := h1
  have lt1 : ∀ x ∈ p1, x.block < W.heap.size := by obtain ⟨m, hm⟩ := k1; exact DataW.trod_lt m _ _ _ hm
  obtain ⟨z1, ez1⟩ : ∃ z, z = Rows.uptoBulk d1 := ⟨_, rfl⟩
  have hz1 : 1 ≤ z1 := ez1 ▸ Opn.bulk_one_le _
  obtain ⟨n1, rfl, rfl, rfl, wn1⟩ := open_int (by first | exact Try.underlying3 | kernel_rfl) (hval 1 3 v1 rfl rfl) h1
  have hbulk : z0 + z1 ≤ 1048576 := by omega
  clear hA0 hval0
  refine (Li.call l0 _ _ n1 W hC0 hc0 hw0 hz0 hbulk).mono fun e W' ⟨he, bel⟩ => ?_
  subst he
  exact ⟨_, rfl, _, _, _, [], _, [], hW', trodAll_mk1 (shut_bool Try.underlying4 _), (trodAll_cons_mk (Below.trod laidOut (by kernel_rfl) (of_decide_eq_true (by kernel_rfl)) k0 bel lt0) (trodAll_cons_mk (Below.trod laidOut (by kernel_rfl) (of_decide_eq_true (by kernel_rfl)) k1 bel lt1) trodAll_mk0)), rfl, bel.frame _, fun h => by cases h⟩
theorem over : Rows.wireListsUptoRow.holds Try.pinned (Rows.OpenSpec.upto Rows.wireListsSpec) :=
  OpenClaim.holds_of_cond 5 Try.f5 rfl rfl rfl rfl rfl rfl rfl ⟨rfl, rfl, rfl, rfl, rfl⟩ rfl rfl rfl rfl rfl (by kernel_rfl) Try.func5 (by kernel_rfl)
    (of_decide_eq_true (by kernel_rfl)) (by unfold Func.isWrapper; first | (rw [if_pos (by decide +kernel)]; kernel_rfl) | (rw [if_neg (by decide +kernel)]; exact ⟨rfl, rfl⟩))
    (fun os started H enc _ F => lifted os started H enc F)
theorem proved : Rows.WireListsUptoSaid := over
#print axioms proved
end Go.Proofs.Ytmghnbdbhdljjaa.wireLists
namespace Go.Proofs.Ytmghnbdbhdljjaa
/-- The row, under a short name, for the claim. -/
theorem wireLists_holds : Rows.WireListsUptoSaid := wireLists.proved
end Go.Proofs.Ytmghnbdbhdljjaa
