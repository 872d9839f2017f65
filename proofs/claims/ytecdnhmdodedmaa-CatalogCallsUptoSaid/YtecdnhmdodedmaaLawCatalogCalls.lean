/- The law CatalogCalls: whatever the input (what is read is of bulk at most 1048576), its call answers true, and the input reads as it did. -/
import Derived.Test.YtecdnhmdodedmaaRows
import Derived.Test.YtecdnhmdodedmaaCy
import Derived.Test.YtecdnhmdodedmaaOpu
import Derived.Lib.SmallJoins
import Derived.WalkKit
import Derived.ProofKit
import Derived.OpenShut
import Derived.ShutString
import Derived.ChangeOld
import Derived.Below
import Derived.SizedLaws
import Derived.JoinedCond
namespace Go.Proofs.Ytecdnhmdodedmaa.catalogCalls
open Go.ChangeShapes Go.WideShapes Go.ChangeAt Go.RowKit
open Go.ChangeMaps (open_string shut_string)
open Go.Joins HS Go.Proofs.YtecdnhmdodedmaaW.PrintWords
set_option linter.unusedVariables false
theorem own : ownKnob Try.prog.godebug = none := by kernel_rfl
theorem laidOut : laidOutB Try.prog = true := by kernel_rfl
theorem op_3 : Opn.Opens Try.prog (Kd.int .i64) 3 (Opn.wfI .i64) Opn.bk1 := Opn.opens_int' (by first | exact Try.underlying3 | kernel_rfl)
theorem op_22 : Opn.Opens Try.prog (Kd.slice 3 (Kd.int .i64)) 22 (Opn.wfL (Opn.wfI .i64)) (Opn.bkL Opn.bk1) := Opn.opens_slice' (by first | exact Try.underlying22 | kernel_rfl) (by kernel_rfl) op_3
theorem op_24 : Opn.Opens Try.prog (Kd.pair (Kd.int .i64) (Kd.pair (Kd.int .i64) (Kd.pair (Kd.int .i64) (Kd.pair (Kd.int .i64) (Kd.pair (Kd.int .i64) (Kd.pair (Kd.int .i64) (Kd.slice 3 (Kd.int .i64)))))))) 24 (fun v => (Opn.wfI .i64) v.1 ∧ (fun v => (Opn.wfI .i64) v.1 ∧ (fun v => (Opn.wfI .i64) v.1 ∧ (fun v => (Opn.wfI .i64) v.1 ∧ (fun v => (Opn.wfI .i64) v.1 ∧ (fun v => (Opn.wfI .i64) v.1 ∧ (Opn.wfL (Opn.wfI .i64)) v.2) v.2) v.2) v.2) v.2) v.2) (fun v => (fun v => Opn.bk1 v.1 + (fun v => Opn.bk1 v.1 + (fun v => Opn.bk1 v.1 + (fun v => Opn.bk1 v.1 + (fun v => Opn.bk1 v.1 + (fun v => Opn.bk1 v.1 + (Opn.bkL Opn.bk1) v.2) v.2) v.2) v.2) v.2) v.2) v + 1) := Opn.opens_struct (by first | exact Try.underlying24 | kernel_rfl) (by kernel_rfl) (Opn.opensF_cons (by kernel_rfl) rfl op_3 (Opn.opensF_cons (by kernel_rfl) rfl op_3 (Opn.opensF_cons (by kernel_rfl) rfl op_3 (Opn.opensF_cons (by kernel_rfl) rfl op_3 (Opn.opensF_cons (by kernel_rfl) rfl op_3 (Opn.opensF_cons (by kernel_rfl) rfl op_3 (Opn.opensF_one (by kernel_rfl) rfl op_22)))))))
theorem op_78 : Opn.Opens Try.prog (Kd.int .i64) 78 (Opn.wfI .i64) Opn.bk1 := Opn.opens_int' (by first | exact Try.underlying78 | kernel_rfl)
theorem op_5 : Opn.Opens Try.prog (Kd.int .u8) 5 (Opn.wfI .u8) Opn.bk1 := Opn.opens_int' (by first | exact Try.underlying5 | kernel_rfl)
theorem op_42 : Opn.Opens Try.prog (Kd.slice 5 (Kd.int .u8)) 42 (Opn.wfL (Opn.wfI .u8)) (Opn.bkL Opn.bk1) := Opn.opens_slice' (by first | exact Try.underlying42 | kernel_rfl) (by kernel_rfl) op_5
theorem op_44 : Opn.Opens Try.prog (Kd.slice 42 (Kd.slice 5 (Kd.int .u8))) 44 (Opn.wfL (Opn.wfL (Opn.wfI .u8))) (Opn.bkL (Opn.bkL Opn.bk1)) := Opn.opens_slice' (by first | exact Try.underlying44 | kernel_rfl) (by kernel_rfl) op_42
theorem op_80 : Opn.Opens Try.prog (Kd.pair (Kd.int .i64) (Kd.pair (Kd.int .i64) (Kd.pair (Kd.int .i64) (Kd.pair (Kd.slice 5 (Kd.int .u8)) (Kd.pair (Kd.slice 5 (Kd.int .u8)) (Kd.pair (Kd.int .i64) (Kd.slice 42 (Kd.slice 5 (Kd.int .u8))))))))) 80 (fun v => (Opn.wfI .i64) v.1 ∧ (fun v => (Opn.wfI .i64) v.1 ∧ (fun v => (Opn.wfI .i64) v.1 ∧ (fun v => (Opn.wfL (Opn.wfI .u8)) v.1 ∧ (fun v => (Opn.wfL (Opn.wfI .u8)) v.1 ∧ (fun v => (Opn.wfI .i64) v.1 ∧ (Opn.wfL (Opn.wfL (Opn.wfI .u8))) v.2) v.2) v.2) v.2) v.2) v.2) (fun v => (fun v => Opn.bk1 v.1 + (fun v => Opn.bk1 v.1 + (fun v => Opn.bk1 v.1 + (fun v => (Opn.bkL Opn.bk1) v.1 + (fun v => (Opn.bkL Opn.bk1) v.1 + (fun v => Opn.bk1 v.1 + (Opn.bkL (Opn.bkL Opn.bk1)) v.2) v.2) v.2) v.2) v.2) v.2) v + 1) := Opn.opens_struct (by first | exact Try.underlying80 | kernel_rfl) (by kernel_rfl) (Opn.opensF_cons (by kernel_rfl) rfl op_78 (Opn.opensF_cons (by kernel_rfl) rfl op_3 (Opn.opensF_cons (by kernel_rfl) rfl op_3 (Opn.opensF_cons (by kernel_rfl) rfl op_42 (Opn.opensF_cons (by kernel_rfl) rfl op_42 (Opn.opensF_cons (by kernel_rfl) rfl op_3 (Opn.opensF_one (by kernel_rfl) rfl op_44)))))))
theorem op_72 : Opn.Opens Try.prog (Kd.slice 80 (Kd.pair (Kd.int .i64) (Kd.pair (Kd.int .i64) (Kd.pair (Kd.int .i64) (Kd.pair (Kd.slice 5 (Kd.int .u8)) (Kd.pair (Kd.slice 5 (Kd.int .u8)) (Kd.pair (Kd.int .i64) (Kd.slice 42 (Kd.slice 5 (Kd.int .u8)))))))))) 72 (Opn.wfL (fun v => (Opn.wfI .i64) v.1 ∧ (fun v => (Opn.wfI .i64) v.1 ∧ (fun v => (Opn.wfI .i64) v.1 ∧ (fun v => (Opn.wfL (Opn.wfI .u8)) v.1 ∧ (fun v => (Opn.wfL (Opn.wfI .u8)) v.1 ∧ (fun v => (Opn.wfI .i64) v.1 ∧ (Opn.wfL (Opn.wfL (Opn.wfI .u8))) v.2) v.2) v.2) v.2) v.2) v.2)) (Opn.bkL (fun v => (fun v => Opn.bk1 v.1 + (fun v => Opn.bk1 v.1 + (fun v => Opn.bk1 v.1 + (fun v => (Opn.bkL Opn.bk1) v.1 + (fun v => (Opn.bkL Opn.bk1) v.1 + (fun v => Opn.bk1 v.1 + (Opn.bkL (Opn.bkL Opn.bk1)) v.2) v.2) v.2) v.2) v.2) v.2) v + 1)) := Opn.opens_slice' (by first | exact Try.underlying72 | kernel_rfl) (by kernel_rfl) op_80
theorem op_4 : Opn.Opens Try.prog Kd.bool 4 Opn.wfB Opn.bk1 := Opn.opens_bool' (by first | exact Try.underlying4 | kernel_rfl)
theorem op_74 : Opn.Opens Try.prog (Kd.pair (Kd.slice 80 (Kd.pair (Kd.int .i64) (Kd.pair (Kd.int .i64) (Kd.pair (Kd.int .i64) (Kd.pair (Kd.slice 5 (Kd.int .u8)) (Kd.pair (Kd.slice 5 (Kd.int .u8)) (Kd.pair (Kd.int .i64) (Kd.slice 42 (Kd.slice 5 (Kd.int .u8)))))))))) (Kd.pair Kd.bool Kd.bool)) 74 (fun v => (Opn.wfL (fun v => (Opn.wfI .i64) v.1 ∧ (fun v => (Opn.wfI .i64) v.1 ∧ (fun v => (Opn.wfI .i64) v.1 ∧ (fun v => (Opn.wfL (Opn.wfI .u8)) v.1 ∧ (fun v => (Opn.wfL (Opn.wfI .u8)) v.1 ∧ (fun v => (Opn.wfI .i64) v.1 ∧ (Opn.wfL (Opn.wfL (Opn.wfI .u8))) v.2) v.2) v.2) v.2) v.2) v.2)) v.1 ∧ (fun v => Opn.wfB v.1 ∧ Opn.wfB v.2) v.2) (fun v => (fun v => (Opn.bkL (fun v => (fun v => Opn.bk1 v.1 + (fun v => Opn.bk1 v.1 + (fun v => Opn.bk1 v.1 + (fun v => (Opn.bkL Opn.bk1) v.1 + (fun v => (Opn.bkL Opn.bk1) v.1 + (fun v => Opn.bk1 v.1 + (Opn.bkL (Opn.bkL Opn.bk1)) v.2) v.2) v.2) v.2) v.2) v.2) v + 1)) v.1 + (fun v => Opn.bk1 v.1 + Opn.bk1 v.2) v.2) v + 1) := Opn.opens_struct (by first | exact Try.underlying74 | kernel_rfl) (by kernel_rfl) (Opn.opensF_cons (by kernel_rfl) rfl op_72 (Opn.opensF_cons (by kernel_rfl) rfl op_4 (Opn.opensF_one (by kernel_rfl) rfl op_4)))
theorem op_69 : Opn.Opens Try.prog (Kd.slice 74 (Kd.pair (Kd.slice 80 (Kd.pair (Kd.int .i64) (Kd.pair (Kd.int .i64) (Kd.pair (Kd.int .i64) (Kd.pair (Kd.slice 5 (Kd.int .u8)) (Kd.pair (Kd.slice 5 (Kd.int .u8)) (Kd.pair (Kd.int .i64) (Kd.slice 42 (Kd.slice 5 (Kd.int .u8)))))))))) (Kd.pair Kd.bool Kd.bool))) 69 (Opn.wfL (fun v => (Opn.wfL (fun v => (Opn.wfI .i64) v.1 ∧ (fun v => (Opn.wfI .i64) v.1 ∧ (fun v => (Opn.wfI .i64) v.1 ∧ (fun v => (Opn.wfL (Opn.wfI .u8)) v.1 ∧ (fun v => (Opn.wfL (Opn.wfI .u8)) v.1 ∧ (fun v => (Opn.wfI .i64) v.1 ∧ (Opn.wfL (Opn.wfL (Opn.wfI .u8))) v.2) v.2) v.2) v.2) v.2) v.2)) v.1 ∧ (fun v => Opn.wfB v.1 ∧ Opn.wfB v.2) v.2)) (Opn.bkL (fun v => (fun v => (Opn.bkL (fun v => (fun v => Opn.bk1 v.1 + (fun v => Opn.bk1 v.1 + (fun v => Opn.bk1 v.1 + (fun v => (Opn.bkL Opn.bk1) v.1 + (fun v => (Opn.bkL Opn.bk1) v.1 + (fun v => Opn.bk1 v.1 + (Opn.bkL (Opn.bkL Opn.bk1)) v.2) v.2) v.2) v.2) v.2) v.2) v + 1)) v.1 + (fun v => Opn.bk1 v.1 + Opn.bk1 v.2) v.2) v + 1)) := Opn.opens_slice' (by first | exact Try.underlying69 | kernel_rfl) (by kernel_rfl) op_74
theorem op_67 : Opn.Opens Try.prog (Kd.slice 69 (Kd.slice 74 (Kd.pair (Kd.slice 80 (Kd.pair (Kd.int .i64) (Kd.pair (Kd.int .i64) (Kd.pair (Kd.int .i64) (Kd.pair (Kd.slice 5 (Kd.int .u8)) (Kd.pair (Kd.slice 5 (Kd.int .u8)) (Kd.pair (Kd.int .i64) (Kd.slice 42 (Kd.slice 5 (Kd.int .u8)))))))))) (Kd.pair Kd.bool Kd.bool)))) 67 (Opn.wfL (Opn.wfL (fun v => (Opn.wfL (fun v => (Opn.wfI .i64) v.1 ∧ (fun v => (Opn.wfI .i64) v.1 ∧ (fun v => (Opn.wfI .i64) v.1 ∧ (fun v => (Opn.wfL (Opn.wfI .u8)) v.1 ∧ (fun v => (Opn.wfL (Opn.wfI .u8)) v.1 ∧ (fun v => (Opn.wfI .i64) v.1 ∧ (Opn.wfL (Opn.wfL (Opn.wfI .u8))) v.2) v.2) v.2) v.2) v.2) v.2)) v.1 ∧ (fun v => Opn.wfB v.1 ∧ Opn.wfB v.2) v.2))) (Opn.bkL (Opn.bkL (fun v => (fun v => (Opn.bkL (fun v => (fun v => Opn.bk1 v.1 + (fun v => Opn.bk1 v.1 + (fun v => Opn.bk1 v.1 + (fun v => (Opn.bkL Opn.bk1) v.1 + (fun v => (Opn.bkL Opn.bk1) v.1 + (fun v => Opn.bk1 v.1 + (Opn.bkL (Opn.bkL Opn.bk1)) v.2) v.2) v.2) v.2) v.2) v.2) v + 1)) v.1 + (fun v => Opn.bk1 v.1 + Opn.bk1 v.2) v.2) v + 1))) := Opn.opens_slice' (by first | exact Try.underlying67 | kernel_rfl) (by kernel_rfl) op_69
set_option maxRecDepth 100000 in
theorem lifted (os : Os) (started : os.Started) (H : Type) (enc : TypeId × Value → H) (F : Stop.Interp) :
    ReturnsInHanded {} Try.checked os 6 .any ((Rows.OpenSpec.upto Rows.catalogCallsSpec).pre6 enc Try.prog Try.f6 Rows.catalogCallsUptoRow.domain false) (((Rows.OpenSpec.upto Rows.catalogCallsSpec).at F).post enc Try.prog Try.f6 false true false false) := by
  refine returnsInHanded_of_cond (C := Try.checked) (s := Rows.OpenSpec.upto Rows.catalogCallsSpec) (k := Rows.uptoSmall) rfl own started (by kernel_rfl) Try.func6
    (OpenSpec.witness (enc := enc) (C := Try.checked) (s := Rows.OpenSpec.upto Rows.catalogCallsSpec) (k := Rows.uptoSmall) rfl false ⟨#[], #[.agg #[.int .i64 0, .int .i64 0, .int .i64 0, .int .i64 0, .int .i64 0, .int .i64 0, .slice none 0 0], .slice none 0 0], []⟩ 8 (by kernel_rfl) (by kernel_rfl) (by kernel_rfl)
      (x := ([.agg [.lit (.int .i64 0), .lit (.int .i64 0), .lit (.int .i64 0), .lit (.int .i64 0), .lit (.int .i64 0), .lit (.int .i64 0), .nil], .nil], [], [])) (by kernel_rfl) rfl (by kernel_rfl)) ?_
  intro W base args ds gs before hval0 hW hcnd hk _
  have hval : ∀ (j : Nat) t v, Try.f6.params[j]? = some t → args[j]? = some v → Value.okWide Try.prog W .any base t v := hval0
  have hW' := hW
  obtain ⟨p, q, hA0, hV, rfl, hfz, hnd⟩ := hW
  have hA : DataW.TrodAll enc Try.prog W 0 (fun _ => true) true Try.f6.params.toList args.toList ds p := hA0
  rw [Try.params6] at hA hval
  obtain ⟨v0, vs0, d0, ds0, p0, q0, hargs, rfl, rfl, h0, r0⟩ := trodAll_cons hA
  obtain ⟨v1, vs1, d1, ds1, p1, q1, rfl, rfl, rfl, h1, r1⟩ := trodAll_cons r0
  obtain ⟨rfl, rfl, rfl⟩ := trodAll_nil r1
  obtain rfl : args = #[v0, v1] := by cases args; simp_all
  obtain ⟨rfl, rfl⟩ := trodVars_none hV
  have hbulk0 := Opn.bulk_bound hk
  simp only [List.append_nil, Rows.uptoBulkAll] at hbulk0
  have k0 := h0
  have lt0 : ∀ x ∈ p0, x.block < W.heap.size := by obtain ⟨m, hm⟩ := k0; exact DataW.trod_lt m _ _ _ hm
  obtain ⟨z0, ez0⟩ : ∃ z, z = Rows.uptoBulk d0 := ⟨_, rfl⟩
  obtain ⟨cs0, rfl⟩ := Opn.okWide_agg (hval 0 24 v0 rfl rfl) (ht := (by first | exact Try.underlying24 | kernel_rfl)) (by first | exact Or.inl ⟨_, rfl⟩ | exact Or.inr ⟨_, _, rfl⟩)
  obtain ⟨fuel0, hf0⟩ := h0
  obtain ⟨x0, hK0, hw0, hz0⟩ := op_24 _ _ _ _ _ _ _ _ _ hf0
  rw [← ez0] at hz0
  have k1 := h1
  have lt1 : ∀ x ∈ p1, x.block < W.heap.size := by obtain ⟨m, hm⟩ := k1; exact DataW.trod_lt m _ _ _ hm
  obtain ⟨z1, ez1⟩ : ∃ z, z = Rows.uptoBulk d1 := ⟨_, rfl⟩
  obtain ⟨a1, len1, cap1, rfl⟩ := okWide_slice (by first | exact Try.underlying67 | kernel_rfl) (hval 1 67 v1 rfl rfl)
  obtain ⟨fuel1, hf1⟩ := h1
  obtain ⟨l1, ⟨A1, c1, hcs1, hc1, hC1⟩, hw1, hz1⟩ := op_67 _ _ _ _ _ _ _ _ _ hf1
  rw [← ez1] at hz1
  simp only [Value.cells, List.cons.injEq, Value.slice.injEq, and_true] at hcs1
  obtain ⟨rfl, rfl, rfl⟩ := hcs1
  have hbulk : z0 + z1 ≤ 1048576 := by omega
  clear hA0 hval0
  refine (Ch.calls_law x0 cs0 l1 _ _ W hK0 (by have h := hz0; have h2 : Opn.bkL Opn.bk1 x0.2.2.2.2.2.2 = x0.2.2.2.2.2.2.length + 1 := congrArg (· + 1) (Opn.sumOf_length _); dsimp only at h; omega) hC1 hc1 (Nat.le_trans hz1 (by omega))).mono fun e W' ⟨he, bel⟩ => ?_
  subst he
  exact ⟨_, rfl, _, _, _, [], _, [], hW', trodAll_mk1 (shut_bool Try.underlying4 _), (trodAll_cons_mk (Below.trod laidOut (by kernel_rfl) (of_decide_eq_true (by kernel_rfl)) k0 bel lt0) (trodAll_cons_mk (Below.trod laidOut (by kernel_rfl) (of_decide_eq_true (by kernel_rfl)) k1 bel lt1) trodAll_mk0)), rfl, bel.frame _, fun h => by cases h⟩
theorem over : Rows.catalogCallsUptoRow.holds Try.pinned (Rows.OpenSpec.upto Rows.catalogCallsSpec) :=
  OpenClaim.holds_of_cond 6 Try.f6 rfl rfl rfl rfl rfl rfl rfl ⟨rfl, rfl, rfl, rfl, rfl⟩ rfl rfl rfl rfl rfl (by kernel_rfl) Try.func6 (by kernel_rfl)
    (of_decide_eq_true (by kernel_rfl)) (by unfold Func.isWrapper; first | (rw [if_pos (by decide +kernel)]; kernel_rfl) | (rw [if_neg (by decide +kernel)]; exact ⟨rfl, rfl⟩))
    (fun os started H enc _ F => lifted os started H enc F)
theorem proved : Rows.CatalogCallsUptoSaid := over
#print axioms proved
end Go.Proofs.Ytecdnhmdodedmaa.catalogCalls
namespace Go.Proofs.Ytecdnhmdodedmaa
/-- The row, under a short name, for the claim. -/
theorem catalogCalls_holds : Rows.CatalogCallsUptoSaid := catalogCalls.proved
end Go.Proofs.Ytecdnhmdodedmaa
