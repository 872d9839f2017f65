/- The law WireReads: whatever the input (what is read is of bulk at most 1048576), its call answers true, and the input reads as it did. -/
import Derived.Test.YtmghnbdbhdljjaaRows
import Derived.Test.YtmghnbdbhdljjaaWu
import Derived.Test.YtmghnbdbhdljjaaOpu
import Derived.Test.YtmghnbdbhdljjaaOpu
import Derived.Lib.SmallJoins
import Derived.WalkKit
import Derived.ProofKit
import Derived.OpenShut
import Derived.ShutString
import Derived.ChangeOld
import Derived.Below
import Derived.SizedLaws
import Derived.JoinedCond
namespace Go.Proofs.Ytmghnbdbhdljjaa.wireReads
open Go.ChangeShapes Go.WideShapes Go.ChangeAt Go.RowKit
open Go.ChangeMaps (open_string shut_string)
open Go.Joins HS Go.Proofs.YtmghnbdbhdljjaaW.PrintWords
set_option linter.unusedVariables false
theorem own : ownKnob Try.prog.godebug = none := by kernel_rfl
theorem laidOut : laidOutB Try.prog = true := by kernel_rfl
theorem op_5 : Opn.Opens Try.prog (Kd.int .u8) 5 (Opn.wfI .u8) Opn.bk1 := Opn.opens_int' (by first | exact Try.underlying5 | kernel_rfl)
theorem op_23 : Opn.Opens Try.prog (Kd.slice 5 (Kd.int .u8)) 23 (Opn.wfL (Opn.wfI .u8)) (Opn.bkL Opn.bk1) := Opn.opens_slice' (by first | exact Try.underlying23 | kernel_rfl) (by kernel_rfl) op_5
theorem op_3 : Opn.Opens Try.prog (Kd.int .i64) 3 (Opn.wfI .i64) Opn.bk1 := Opn.opens_int' (by first | exact Try.underlying3 | kernel_rfl)
theorem op_64 : Opn.Opens Try.prog (Kd.pair (Kd.int .i64) (Kd.int .i64)) 64 (fun v => (Opn.wfI .i64) v.1 ∧ (Opn.wfI .i64) v.2) (fun v => (fun v => Opn.bk1 v.1 + Opn.bk1 v.2) v + 1) := Opn.opens_struct (by first | exact Try.underlying64 | kernel_rfl) (by kernel_rfl) (Opn.opensF_cons (by kernel_rfl) rfl op_3 (Opn.opensF_one (by kernel_rfl) rfl op_3))
theorem op_58 : Opn.Opens Try.prog (Kd.slice 64 (Kd.pair (Kd.int .i64) (Kd.int .i64))) 58 (Opn.wfL (fun v => (Opn.wfI .i64) v.1 ∧ (Opn.wfI .i64) v.2)) (Opn.bkL (fun v => (fun v => Opn.bk1 v.1 + Opn.bk1 v.2) v + 1)) := Opn.opens_slice' (by first | exact Try.underlying58 | kernel_rfl) (by kernel_rfl) op_64
set_option maxRecDepth 100000 in
theorem lifted (os : Os) (started : os.Started) (H : Type) (enc : TypeId × Value → H) (F : Stop.Interp) :
    ReturnsInHanded {} Try.checked os 6 .any ((Rows.OpenSpec.upto Rows.wireReadsSpec).pre6 enc Try.prog Try.f6 Rows.wireReadsUptoRow.domain false) (((Rows.OpenSpec.upto Rows.wireReadsSpec).at F).post enc Try.prog Try.f6 false true false false) := by
  refine returnsInHanded_of_cond (C := Try.checked) (s := Rows.OpenSpec.upto Rows.wireReadsSpec) (k := Rows.uptoSmall) rfl own started (by kernel_rfl) Try.func6
    (OpenSpec.witness (enc := enc) (C := Try.checked) (s := Rows.OpenSpec.upto Rows.wireReadsSpec) (k := Rows.uptoSmall) rfl false ⟨#[], #[.slice none 0 0, .slice none 0 0], []⟩ 8 (by kernel_rfl) (by kernel_rfl) (by kernel_rfl)
      (x := ([.nil, .nil], [], [])) (by kernel_rfl) rfl (by kernel_rfl)) ?_
  intro W base args ds gs before hval0 hW hcnd hk _
  have hval : ∀ (j : Nat) t v, Try.f6.params[j]? = some t → args[j]? = some v → Value.okWide Try.prog W .any base t v := hval0
  have hW' := hW
  obtain ⟨p, q, hA0, hV, rfl, hfz, hnd⟩ := hW
  have hA : DataW.TrodAll enc Try.prog W 0 (fun _ => true) true Try.f6.params.toList args.toList ds p := hA0
  rw [Try.params6] at hA hval
  obtain ⟨v0, vs0, d0, ds0, p0, q0, hargs, rfl, rfl, h0, r0⟩ := trodAll_cons hA
  obtain ⟨v1, vs1, d1, ds1, p1, q1, rfl, rfl, rfl, h1, r1⟩ := trodAll_cons r0
  obtain ⟨rfl, rfl, rfl⟩ := trodAll_nil r1
  obtain rfl : args = #[v0, v1] := by cases args; simp_all
  obtain ⟨rfl, rfl⟩ := trodVars_none hV
  have hbulk0 := Opn.bulk_bound hk
  simp only [List.append_nil, Rows.uptoBulkAll] at hbulk0
  have k0 := h0
  have lt0 : ∀ x ∈ p0, x.block < W.heap.size := by obtain ⟨m, hm⟩ := k0; exact DataW.trod_lt m _ _ _ hm
  obtain ⟨z0, ez0⟩ : ∃ z, z = Rows.uptoBulk d0 := ⟨_, rfl⟩
  obtain ⟨a0, len0, cap0, rfl⟩ := okWide_slice (by first | exact Try.underlying23 | kernel_rfl) (hval 0 23 v0 rfl rfl)
  obtain ⟨fuel0, hf0⟩ := h0
  obtain ⟨l0, ⟨A0, c0, hcs0, hc0, hC0⟩, hw0, hz0⟩ := op_23 _ _ _ _ _ _ _ _ _ hf0
  rw [← ez0] at hz0
  simp only [Value.cells, List.cons.injEq, Value.slice.injEq, and_true] at hcs0
  obtain ⟨rfl, rfl, rfl⟩ := hcs0
  have k1 := h1
  have lt1 : ∀ x ∈ p1, x.block < W.heap.size := by obtain ⟨m, hm⟩ := k1; exact DataW.trod_lt m _ _ _ hm
  obtain ⟨z1, ez1⟩ : ∃ z, z = Rows.uptoBulk d1 := ⟨_, rfl⟩
  obtain ⟨a1, len1, cap1, rfl⟩ := okWide_slice (by first | exact Try.underlying58 | kernel_rfl) (hval 1 58 v1 rfl rfl)
  obtain ⟨fuel1, hf1⟩ := h1
  obtain ⟨l1, ⟨A1, c1, hcs1, hc1, hC1⟩, hw1, hz1⟩ := op_58 _ _ _ _ _ _ _ _ _ hf1
  rw [← ez1] at hz1
  simp only [Value.cells, List.cons.injEq, Value.slice.injEq, and_true] at hcs1
  obtain ⟨rfl, rfl, rfl⟩ := hcs1
  have hbulk : z0 + z1 ≤ 1048576 := by omega
  clear hA0 hval0
  refine (Sp.call l0 _ _ l1 _ _ W hC0 hc0 hw0 hz0 hC1 hc1 hw1 hbulk).mono fun e W' ⟨he, bel⟩ => ?_
  subst he
  exact ⟨_, rfl, _, _, _, [], _, [], hW', trodAll_mk1 (shut_bool Try.underlying4 _), (trodAll_cons_mk (Below.trod laidOut (by kernel_rfl) (of_decide_eq_true (by kernel_rfl)) k0 bel lt0) (trodAll_cons_mk (Below.trod laidOut (by kernel_rfl) (of_decide_eq_true (by kernel_rfl)) k1 bel lt1) trodAll_mk0)), rfl, bel.frame _, fun h => by cases h⟩
theorem over : Rows.wireReadsUptoRow.holds Try.pinned (Rows.OpenSpec.upto Rows.wireReadsSpec) :=
  OpenClaim.holds_of_cond 6 Try.f6 rfl rfl rfl rfl rfl rfl rfl ⟨rfl, rfl, rfl, rfl, rfl⟩ rfl rfl rfl rfl rfl (by kernel_rfl) Try.func6 (by kernel_rfl)
    (of_decide_eq_true (by kernel_rfl)) (by unfold Func.isWrapper; first | (rw [if_pos (by decide +kernel)]; kernel_rfl) | (rw [if_neg (by decide +kernel)]; exact ⟨rfl, rfl⟩))
    (fun os started H enc _ F => lifted os started H enc F)
theorem proved : Rows.WireReadsUptoSaid := over
#print axioms proved
end Go.Proofs.Ytmghnbdbhdljjaa.wireReads
namespace Go.Proofs.Ytmghnbdbhdljjaa
/-- The row, under a short name, for the claim. -/
theorem wireReads_holds : Rows.WireReadsUptoSaid := wireReads.proved
end Go.Proofs.Ytmghnbdbhdljjaa
