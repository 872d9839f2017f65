/- The law WireWrites: whatever the input (what is read is of bulk at most 1048576), its call answers true, and the input reads as it did. -/
import Derived.Test.YtmghnbdbhdljjaaRows
import Derived.Test.YtmghnbdbhdljjaaWt
import Derived.Test.YtmghnbdbhdljjaaOpu
import Derived.Test.YtmghnbdbhdljjaaOpu
import Derived.Lib.SmallJoins
import Derived.WalkKit
import Derived.ProofKit
import Derived.OpenShut
import Derived.ShutString
import Derived.ChangeOld
import Derived.Below
import Derived.SizedLaws
import Derived.JoinedCond
namespace Go.Proofs.Ytmghnbdbhdljjaa.wireWrites
open Go.ChangeShapes Go.WideShapes Go.ChangeAt Go.RowKit
open Go.ChangeMaps (open_string shut_string)
open Go.Joins HS Go.Proofs.YtmghnbdbhdljjaaW.PrintWords
set_option linter.unusedVariables false
theorem own : ownKnob Try.prog.godebug = none := by kernel_rfl
theorem laidOut : laidOutB Try.prog = true := by kernel_rfl
theorem op_22 : Opn.Opens Try.prog (Kd.int .u64) 22 (Opn.wfI .u64) Opn.bk1 := Opn.opens_int' (by first | exact Try.underlying22 | kernel_rfl)
theorem op_2 : Opn.Opens Try.prog (Kd.int .i64) 2 (Opn.wfI .i64) Opn.bk1 := Opn.opens_int' (by first | exact Try.underlying2 | kernel_rfl)
theorem op_4 : Opn.Opens Try.prog Kd.bool 4 Opn.wfB Opn.bk1 := Opn.opens_bool' (by first | exact Try.underlying4 | kernel_rfl)
theorem op_5 : Opn.Opens Try.prog (Kd.int .u8) 5 (Opn.wfI .u8) Opn.bk1 := Opn.opens_int' (by first | exact Try.underlying5 | kernel_rfl)
theorem op_23 : Opn.Opens Try.prog (Kd.slice 5 (Kd.int .u8)) 23 (Opn.wfL (Opn.wfI .u8)) (Opn.bkL Opn.bk1) := Opn.opens_slice' (by first | exact Try.underlying23 | kernel_rfl) (by kernel_rfl) op_5
theorem op_25 : Opn.Opens Try.prog (Kd.pair (Kd.int .u64) (Kd.pair (Kd.int .i64) (Kd.pair Kd.bool (Kd.slice 5 (Kd.int .u8))))) 25 (fun v => (Opn.wfI .u64) v.1 ∧ (fun v => (Opn.wfI .i64) v.1 ∧ (fun v => Opn.wfB v.1 ∧ (Opn.wfL (Opn.wfI .u8)) v.2) v.2) v.2) (fun v => (fun v => Opn.bk1 v.1 + (fun v => Opn.bk1 v.1 + (fun v => Opn.bk1 v.1 + (Opn.bkL Opn.bk1) v.2) v.2) v.2) v + 1) := Opn.opens_struct (by first | exact Try.underlying25 | kernel_rfl) (by kernel_rfl) (Opn.opensF_cons (by kernel_rfl) rfl op_22 (Opn.opensF_cons (by kernel_rfl) rfl op_2 (Opn.opensF_cons (by kernel_rfl) rfl op_4 (Opn.opensF_one (by kernel_rfl) rfl op_23))))
theorem op_26 : Opn.Opens Try.prog (Kd.slice 23 (Kd.slice 5 (Kd.int .u8))) 26 (Opn.wfL (Opn.wfL (Opn.wfI .u8))) (Opn.bkL (Opn.bkL Opn.bk1)) := Opn.opens_slice' (by first | exact Try.underlying26 | kernel_rfl) (by kernel_rfl) op_23
set_option maxRecDepth 100000 in
theorem lifted (os : Os) (started : os.Started) (H : Type) (enc : TypeId × Value → H) (F : Stop.Interp) :
    ReturnsInHanded {} Try.checked os 3 .any ((Rows.OpenSpec.upto Rows.wireWritesSpec).pre6 enc Try.prog Try.f3 Rows.wireWritesUptoRow.domain false) (((Rows.OpenSpec.upto Rows.wireWritesSpec).at F).post enc Try.prog Try.f3 false true false false) := by
  refine returnsInHanded_of_cond (C := Try.checked) (s := Rows.OpenSpec.upto Rows.wireWritesSpec) (k := Rows.uptoSmall) rfl own started (by kernel_rfl) Try.func3
    (OpenSpec.witness (enc := enc) (C := Try.checked) (s := Rows.OpenSpec.upto Rows.wireWritesSpec) (k := Rows.uptoSmall) rfl false ⟨#[], #[.agg #[.int .u64 0, .int .i64 0, .bool false, .slice none 0 0], .slice none 0 0], []⟩ 8 (by kernel_rfl) (by kernel_rfl) (by kernel_rfl)
      (x := ([.agg [.lit (.int .u64 0), .lit (.int .i64 0), .lit (.bool false), .nil], .nil], [], [])) (by kernel_rfl) rfl (by kernel_rfl)) ?_
  intro W base args ds gs before hval0 hW hcnd hk _
  have hval : ∀ (j : Nat) t v, Try.f3.params[j]? = some t → args[j]? = some v → Value.okWide Try.prog W .any base t v := hval0
  have hW' := hW
  obtain ⟨p, q, hA0, hV, rfl, hfz, hnd⟩ := hW
  have hA : DataW.TrodAll enc Try.prog W 0 (fun _ => true) true Try.f3.params.toList args.toList ds p := hA0
  rw [Try.params3] at hA hval
  obtain ⟨v0, vs0, d0, ds0, p0, q0, hargs, rfl, rfl, h0, r0⟩ := trodAll_cons hA
  obtain ⟨v1, vs1, d1, ds1, p1, q1, rfl, rfl, rfl, h1, r1⟩ := trodAll_cons r0
  obtain ⟨rfl, rfl, rfl⟩ := trodAll_nil r1
  obtain rfl : args = #[v0, v1] := by cases args; simp_all
  obtain ⟨rfl, rfl⟩ := trodVars_none hV
  have hbulk0 := Opn.bulk_bound hk
  simp only [List.append_nil, Rows.uptoBulkAll] at hbulk0
  have k0 := h0
  have lt0 : ∀ x ∈ p0, x.block < W.heap.size := by obtain ⟨m, hm⟩ := k0; exact DataW.trod_lt m _ _ _ hm
  obtain ⟨z0, ez0⟩ : ∃ z, z = Rows.uptoBulk d0 := ⟨_, rfl⟩
  obtain ⟨cs0, rfl⟩ := Opn.okWide_agg (hval 0 25 v0 rfl rfl) (ht := (by first | exact Try.underlying25 | kernel_rfl)) (by first | exact Or.inl ⟨_, rfl⟩ | exact Or.inr ⟨_, _, rfl⟩)
  obtain ⟨fuel0, hf0⟩ := h0
  obtain ⟨x0, hK0, hw0, hz0⟩ := op_25 _ _ _ _ _ _ _ _ _ hf0
  rw [← ez0] at hz0
  have k1 := h1
  have lt1 : ∀ x ∈ p1, x.block < W.heap.size := by obtain ⟨m, hm⟩ := k1; exact DataW.trod_lt m _ _ _ hm
  obtain ⟨z1, ez1⟩ : ∃ z, z = Rows.uptoBulk d1 := ⟨_, rfl⟩
  obtain ⟨a1, len1, cap1, rfl⟩ := okWide_slice (by first | exact Try.underlying26 | kernel_rfl) (hval 1 26 v1 rfl rfl)
  obtain ⟨fuel1, hf1⟩ := h1
  obtain ⟨l1, ⟨A1, c1, hcs1, hc1, hC1⟩, hw1, hz1⟩ := op_26 _ _ _ _ _ _ _ _ _ hf1
  rw [← ez1] at hz1
  simp only [Value.cells, List.cons.injEq, Value.slice.injEq, and_true] at hcs1
  obtain ⟨rfl, rfl, rfl⟩ := hcs1
  have hbulk : z0 + z1 ≤ 1048576 := by omega
  clear hA0 hval0
  refine (Wq.call x0 cs0 l1 _ _ W hK0 hw0 hz0 hC1 hc1 hw1 hz1 hbulk).mono fun e W' ⟨he, bel⟩ => ?_
  subst he
  exact ⟨_, rfl, _, _, _, [], _, [], hW', trodAll_mk1 (shut_bool Try.underlying4 _), (trodAll_cons_mk (Below.trod laidOut (by kernel_rfl) (of_decide_eq_true (by kernel_rfl)) k0 bel lt0) (trodAll_cons_mk (Below.trod laidOut (by kernel_rfl) (of_decide_eq_true (by kernel_rfl)) k1 bel lt1) trodAll_mk0)), rfl, bel.frame _, fun h => by cases h⟩
theorem over : Rows.wireWritesUptoRow.holds Try.pinned (Rows.OpenSpec.upto Rows.wireWritesSpec) :=
  OpenClaim.holds_of_cond 3 Try.f3 rfl rfl rfl rfl rfl rfl rfl ⟨rfl, rfl, rfl, rfl, rfl⟩ rfl rfl rfl rfl rfl (by kernel_rfl) Try.func3 (by kernel_rfl)
    (of_decide_eq_true (by kernel_rfl)) (by unfold Func.isWrapper; first | (rw [if_pos (by decide +kernel)]; kernel_rfl) | (rw [if_neg (by decide +kernel)]; exact ⟨rfl, rfl⟩))
    (fun os started H enc _ F => lifted os started H enc F)
theorem proved : Rows.WireWritesUptoSaid := over
#print axioms proved
end Go.Proofs.Ytmghnbdbhdljjaa.wireWrites
namespace Go.Proofs.Ytmghnbdbhdljjaa
/-- The row, under a short name, for the claim. -/
theorem wireWrites_holds : Rows.WireWritesUptoSaid := wireWrites.proved
end Go.Proofs.Ytmghnbdbhdljjaa
