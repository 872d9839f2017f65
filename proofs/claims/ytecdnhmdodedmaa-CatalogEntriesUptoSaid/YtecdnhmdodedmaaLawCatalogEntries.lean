/- The law CatalogEntries: whatever the input (what is read is of bulk at most 1048576), its call answers true, and the input reads as it did. -/
import Derived.Test.YtecdnhmdodedmaaRows
import Derived.Test.YtecdnhmdodedmaaCs
import Derived.Test.YtecdnhmdodedmaaOpu
import Derived.Lib.SmallJoins
import Derived.WalkKit
import Derived.ProofKit
import Derived.OpenShut
import Derived.ShutString
import Derived.ChangeOld
import Derived.Below
import Derived.SizedLaws
import Derived.JoinedCond
namespace Go.Proofs.Ytecdnhmdodedmaa.catalogEntries
open Go.ChangeShapes Go.WideShapes Go.ChangeAt Go.RowKit
open Go.ChangeMaps (open_string shut_string)
open Go.Joins HS Go.Proofs.YtecdnhmdodedmaaW.PrintWords
set_option linter.unusedVariables false
theorem own : ownKnob Try.prog.godebug = none := by kernel_rfl
theorem laidOut : laidOutB Try.prog = true := by kernel_rfl
theorem op_3 : Opn.Opens Try.prog (Kd.int .i64) 3 (Opn.wfI .i64) Opn.bk1 := Opn.opens_int' (by first | exact Try.underlying3 | kernel_rfl)
theorem op_22 : Opn.Opens Try.prog (Kd.slice 3 (Kd.int .i64)) 22 (Opn.wfL (Opn.wfI .i64)) (Opn.bkL Opn.bk1) := Opn.opens_slice' (by first | exact Try.underlying22 | kernel_rfl) (by kernel_rfl) op_3
theorem op_24 : Opn.Opens Try.prog (Kd.pair (Kd.int .i64) (Kd.pair (Kd.int .i64) (Kd.pair (Kd.int .i64) (Kd.pair (Kd.int .i64) (Kd.pair (Kd.int .i64) (Kd.pair (Kd.int .i64) (Kd.slice 3 (Kd.int .i64)))))))) 24 (fun v => (Opn.wfI .i64) v.1 ∧ (fun v => (Opn.wfI .i64) v.1 ∧ (fun v => (Opn.wfI .i64) v.1 ∧ (fun v => (Opn.wfI .i64) v.1 ∧ (fun v => (Opn.wfI .i64) v.1 ∧ (fun v => (Opn.wfI .i64) v.1 ∧ (Opn.wfL (Opn.wfI .i64)) v.2) v.2) v.2) v.2) v.2) v.2) (fun v => (fun v => Opn.bk1 v.1 + (fun v => Opn.bk1 v.1 + (fun v => Opn.bk1 v.1 + (fun v => Opn.bk1 v.1 + (fun v => Opn.bk1 v.1 + (fun v => Opn.bk1 v.1 + (Opn.bkL Opn.bk1) v.2) v.2) v.2) v.2) v.2) v.2) v + 1) := Opn.opens_struct (by first | exact Try.underlying24 | kernel_rfl) (by kernel_rfl) (Opn.opensF_cons (by kernel_rfl) rfl op_3 (Opn.opensF_cons (by kernel_rfl) rfl op_3 (Opn.opensF_cons (by kernel_rfl) rfl op_3 (Opn.opensF_cons (by kernel_rfl) rfl op_3 (Opn.opensF_cons (by kernel_rfl) rfl op_3 (Opn.opensF_cons (by kernel_rfl) rfl op_3 (Opn.opensF_one (by kernel_rfl) rfl op_22)))))))
theorem op_5 : Opn.Opens Try.prog (Kd.int .u8) 5 (Opn.wfI .u8) Opn.bk1 := Opn.opens_int' (by first | exact Try.underlying5 | kernel_rfl)
theorem op_42 : Opn.Opens Try.prog (Kd.slice 5 (Kd.int .u8)) 42 (Opn.wfL (Opn.wfI .u8)) (Opn.bkL Opn.bk1) := Opn.opens_slice' (by first | exact Try.underlying42 | kernel_rfl) (by kernel_rfl) op_5
theorem op_44 : Opn.Opens Try.prog (Kd.slice 42 (Kd.slice 5 (Kd.int .u8))) 44 (Opn.wfL (Opn.wfL (Opn.wfI .u8))) (Opn.bkL (Opn.bkL Opn.bk1)) := Opn.opens_slice' (by first | exact Try.underlying44 | kernel_rfl) (by kernel_rfl) op_42
set_option maxRecDepth 100000 in
theorem lifted (os : Os) (started : os.Started) (H : Type) (enc : TypeId × Value → H) (F : Stop.Interp) :
    ReturnsInHanded {} Try.checked os 4 .any ((Rows.OpenSpec.upto Rows.catalogEntriesSpec).pre6 enc Try.prog Try.f4 Rows.catalogEntriesUptoRow.domain false) (((Rows.OpenSpec.upto Rows.catalogEntriesSpec).at F).post enc Try.prog Try.f4 false true false false) := by
  refine returnsInHanded_of_cond (C := Try.checked) (s := Rows.OpenSpec.upto Rows.catalogEntriesSpec) (k := Rows.uptoSmall) rfl own started (by kernel_rfl) Try.func4
    (OpenSpec.witness (enc := enc) (C := Try.checked) (s := Rows.OpenSpec.upto Rows.catalogEntriesSpec) (k := Rows.uptoSmall) rfl false ⟨#[], #[.agg #[.int .i64 0, .int .i64 0, .int .i64 0, .int .i64 0, .int .i64 0, .int .i64 0, .slice none 0 0], .int .i64 0, .slice none 0 0, .slice none 0 0, .slice none 0 0], []⟩ 8 (by kernel_rfl) (by kernel_rfl) (by kernel_rfl)
      (x := ([.agg [.lit (.int .i64 0), .lit (.int .i64 0), .lit (.int .i64 0), .lit (.int .i64 0), .lit (.int .i64 0), .lit (.int .i64 0), .nil], .lit (.int .i64 0), .nil, .nil, .nil], [], [])) (by kernel_rfl) rfl (by kernel_rfl)) ?_
  intro W base args ds gs before hval0 hW hcnd hk _
  have hval : ∀ (j : Nat) t v, Try.f4.params[j]? = some t → args[j]? = some v → Value.okWide Try.prog W .any base t v := hval0
  have hW' := hW
  obtain ⟨p, q, hA0, hV, rfl, hfz, hnd⟩ := hW
  have hA : DataW.TrodAll enc Try.prog W 0 (fun _ => true) true Try.f4.params.toList args.toList ds p := hA0
  rw [Try.params4] at hA hval
  obtain ⟨v0, vs0, d0, ds0, p0, q0, hargs, rfl, rfl, h0, r0⟩ := trodAll_cons hA
  obtain ⟨v1, vs1, d1, ds1, p1, q1, rfl, rfl, rfl, h1, r1⟩ := trodAll_cons r0
  obtain ⟨v2, vs2, d2, ds2, p2, q2, rfl, rfl, rfl, h2, r2⟩ := trodAll_cons r1
  obtain ⟨v3, vs3, d3, ds3, p3, q3, rfl, rfl, rfl, h3, r3⟩ := trodAll_cons r2
  obtain ⟨v4, vs4, d4, ds4, p4, q4, rfl, rfl, rfl, h4, r4⟩ := trodAll_cons r3
  obtain ⟨rfl, rfl, rfl⟩ := trodAll_nil r4
  obtain rfl : args = #[v0, v1, v2, v3, v4] := by cases args; simp_all
  obtain ⟨rfl, rfl⟩ := trodVars_none hV
  have hbulk0 := Opn.bulk_bound hk
  simp only [List.append_nil, Rows.uptoBulkAll] at hbulk0
  have k0 := h0
  have lt0 : ∀ x ∈ p0, x.block < W.heap.size := by obtain ⟨m, hm⟩ := k0; exact DataW.trod_lt m _ _ _ hm
  obtain ⟨z0, ez0⟩ : ∃ z, z = Rows.uptoBulk d0 := ⟨_, rfl⟩
  obtain ⟨cs0, rfl⟩ := Opn.okWide_agg (hval 0 24 v0 rfl rfl) (ht := (by first | exact Try.underlying24 | kernel_rfl)) (by first | exact Or.inl ⟨_, rfl⟩ | exact Or.inr ⟨_, _, rfl⟩)
  obtain ⟨fuel0, hf0⟩ := h0
  obtain ⟨x0, hK0, hw0, hz0⟩ := op_24 _ _ _ _ _ _ _ _ _ hf0
  rw [← ez0] at hz0
  have k1 := h1
  have lt1 : ∀ x ∈ p1, x.block < W.heap.size := by obtain ⟨m, hm⟩ := k1; exact DataW.trod_lt m _ _ _ hm
  obtain ⟨z1, ez1⟩ : ∃ z, z = Rows.uptoBulk d1 := ⟨_, rfl⟩
  have hz1 : 1 ≤ z1 := ez1 ▸ Opn.bulk_one_le _
  obtain ⟨n1, rfl, rfl, rfl, wn1⟩ := open_int (by first | exact Try.underlying3 | kernel_rfl) (hval 1 3 v1 rfl rfl) h1
  have k2 := h2
  have lt2 : ∀ x ∈ p2, x.block < W.heap.size := by obtain ⟨m, hm⟩ := k2; exact DataW.trod_lt m _ _ _ hm
  obtain ⟨z2, ez2⟩ : ∃ z, z = Rows.uptoBulk d2 := ⟨_, rfl⟩
  obtain ⟨a2, len2, cap2, rfl⟩ := okWide_slice (by first | exact Try.underlying42 | kernel_rfl) (hval 2 42 v2 rfl rfl)
  obtain ⟨fuel2, hf2⟩ := h2
  obtain ⟨l2, ⟨A2, c2, hcs2, hc2, hC2⟩, hw2, hz2⟩ := op_42 _ _ _ _ _ _ _ _ _ hf2
  rw [← ez2] at hz2
  simp only [Value.cells, List.cons.injEq, Value.slice.injEq, and_true] at hcs2
  obtain ⟨rfl, rfl, rfl⟩ := hcs2
  have k3 := h3
  have lt3 : ∀ x ∈ p3, x.block < W.heap.size := by obtain ⟨m, hm⟩ := k3; exact DataW.trod_lt m _ _ _ hm
  obtain ⟨z3, ez3⟩ : ∃ z, z = Rows.uptoBulk d3 := ⟨_, rfl⟩
  obtain ⟨a3, len3, cap3, rfl⟩ := okWide_slice (by first | exact Try.underlying44 | kernel_rfl) (hval 3 44 v3 rfl rfl)
  obtain ⟨fuel3, hf3⟩ := h3
  obtain ⟨l3, ⟨A3, c3, hcs3, hc3, hC3⟩, hw3, hz3⟩ := op_44 _ _ _ _ _ _ _ _ _ hf3
  rw [← ez3] at hz3
  simp only [Value.cells, List.cons.injEq, Value.slice.injEq, and_true] at hcs3
  obtain ⟨rfl, rfl, rfl⟩ := hcs3
  have k4 := h4
  have lt4 : ∀ x ∈ p4, x.block < W.heap.size := by obtain ⟨m, hm⟩ := k4; exact DataW.trod_lt m _ _ _ hm
  obtain ⟨z4, ez4⟩ : ∃ z, z = Rows.uptoBulk d4 := ⟨_, rfl⟩
  obtain ⟨a4, len4, cap4, rfl⟩ := okWide_slice (by first | exact Try.underlying44 | kernel_rfl) (hval 4 44 v4 rfl rfl)
  obtain ⟨fuel4, hf4⟩ := h4
  obtain ⟨l4, ⟨A4, c4, hcs4, hc4, hC4⟩, hw4, hz4⟩ := op_44 _ _ _ _ _ _ _ _ _ hf4
  rw [← ez4] at hz4
  simp only [Value.cells, List.cons.injEq, Value.slice.injEq, and_true] at hcs4
  obtain ⟨rfl, rfl, rfl⟩ := hcs4
  have hbulk : z0 + z1 + z2 + z3 + z4 ≤ 1048576 := by omega
  clear hA0 hval0
  refine (Ch.entries_law x0 cs0 n1 _ _ l2 _ _ l3 _ _ l4 W hK0 (by have h := hz0; have h2 : Opn.bkL Opn.bk1 x0.2.2.2.2.2.2 = x0.2.2.2.2.2.2.length + 1 := congrArg (· + 1) (Opn.sumOf_length _); dsimp only at h; omega) hC2 hc2 (by have h2 : Opn.bkL Opn.bk1 l2 = l2.length + 1 := congrArg (· + 1) (Opn.sumOf_length _); omega) hC3 hc3 (by omega) hC4 hc4 (by omega)).mono fun e W' ⟨he, bel⟩ => ?_
  subst he
  exact ⟨_, rfl, _, _, _, [], _, [], hW', trodAll_mk1 (shut_bool Try.underlying4 _), (trodAll_cons_mk (Below.trod laidOut (by kernel_rfl) (of_decide_eq_true (by kernel_rfl)) k0 bel lt0) (trodAll_cons_mk (Below.trod laidOut (by kernel_rfl) (of_decide_eq_true (by kernel_rfl)) k1 bel lt1) (trodAll_cons_mk (Below.trod laidOut (by kernel_rfl) (of_decide_eq_true (by kernel_rfl)) k2 bel lt2) (trodAll_cons_mk (Below.trod laidOut (by kernel_rfl) (of_decide_eq_true (by kernel_rfl)) k3 bel lt3) (trodAll_cons_mk (Below.trod laidOut (by kernel_rfl) (of_decide_eq_true (by kernel_rfl)) k4 bel lt4) trodAll_mk0))))), rfl, bel.frame _, fun h => by cases h⟩
theorem over : Rows.catalogEntriesUptoRow.holds Try.pinned (Rows.OpenSpec.upto Rows.catalogEntriesSpec) :=
  OpenClaim.holds_of_cond 4 Try.f4 rfl rfl rfl rfl rfl rfl rfl ⟨rfl, rfl, rfl, rfl, rfl⟩ rfl rfl rfl rfl rfl (by kernel_rfl) Try.func4 (by kernel_rfl)
    (of_decide_eq_true (by kernel_rfl)) (by unfold Func.isWrapper; first | (rw [if_pos (by decide +kernel)]; kernel_rfl) | (rw [if_neg (by decide +kernel)]; exact ⟨rfl, rfl⟩))
    (fun os started H enc _ F => lifted os started H enc F)
theorem proved : Rows.CatalogEntriesUptoSaid := over
#print axioms proved
end Go.Proofs.Ytecdnhmdodedmaa.catalogEntries
namespace Go.Proofs.Ytecdnhmdodedmaa
/-- The row, under a short name, for the claim. -/
theorem catalogEntries_holds : Rows.CatalogEntriesUptoSaid := catalogEntries.proved
end Go.Proofs.Ytecdnhmdodedmaa
