/- The law RowBack: whatever the input, its call answers true, and the input reads as it did. -/
import Derived.Test.YtmpbcmnnlkienaaRows
import Derived.Test.YtmpbcmnnlkienaaBack
import Derived.Test.YtmpbcmnnlkienaaOpen
import Derived.Test.YtmpbcmnnlkienaaSized
import Derived.Lib.SmallJoins
import Derived.WalkKit
import Derived.ProofKit
import Derived.OpenShut
import Derived.ShutString
import Derived.ChangeOld
import Derived.Below
import Derived.SizedLaws
import Derived.JoinedCond
namespace Go.Proofs.Ytmpbcmnnlkienaa.rowBack
open Go.ChangeShapes Go.WideShapes Go.ChangeAt Go.RowKit
open Go.ChangeMaps (open_string shut_string)
open Go.Joins HS Go.Proofs.YtmpbcmnnlkienaaW.PrintWords
set_option linter.unusedVariables false
theorem own : ownKnob Try.prog.godebug = none := by kernel_rfl
theorem laidOut : laidOutB Try.prog = true := by kernel_rfl
theorem op_int_u8_5 : Opn.Opens Try.prog (Kd.int .u8) 5 (Opn.wfI .u8) Opn.bk1 := Opn.opens_int' Try.underlying5
theorem op_ints_u8_22 : Opn.Opens Try.prog (Kd.slice 5 (Kd.int .u8)) 22 (Opn.wfL (Opn.wfI .u8)) (Opn.bkL Opn.bk1) := Opn.opens_slice' Try.underlying22 (by kernel_rfl) op_int_u8_5
theorem op_rows_38 : Opn.Opens Try.prog (Kd.slice 22 (Kd.slice 5 (Kd.int .u8))) 38 (Opn.wfL (Opn.wfL (Opn.wfI .u8))) (Opn.bkL (Opn.bkL Opn.bk1)) := Opn.opens_slice' Try.underlying38 (by kernel_rfl) op_ints_u8_22
theorem open_agg2_58 {H : Type} {enc : TypeId × Value → H} {w : World} {base b0 : Nat} {sp : Nat → Bool} {held : Bool} {r : Reach} {v : Value} {d : DataW H} {p : List MemPlace}
    (hv : Value.okWide Try.prog w r b0 58 v) (h : DataW.Trod enc Try.prog w base sp held 58 v d p) :
    ∃ (A0 A1 : Option Addr) (c0 c1 : Nat) (l0 l1 : List Int), v = .agg #[.slice A0 l0.length c0, .slice A1 l1.length c1] ∧ (l0.length ≤ c0 ∧ Kd.C (Kd.int .u8) w A0 l0.length l0 ∧ Opn.wfL (Opn.wfI .u8) l0) ∧ (l1.length ≤ c1 ∧ Kd.C (Kd.int .u8) w A1 l1.length l1 ∧ Opn.wfL (Opn.wfI .u8) l1) := by
  simp only [Value.okWide, Try.underlying58] at hv
  obtain ⟨cs, rfl, h2, _⟩ := hv
  obtain ⟨a, b, rfl⟩ : ∃ a b, cs = #[a, b] := by
    obtain ⟨l⟩ := cs
    match l, h2.trans (by kernel_rfl : _ = 2) with
    | [a, b], _ => exact ⟨a, b, rfl⟩
  obtain ⟨fuel, hf⟩ := h
  cases fuel with
  | zero => simp [DataW.trod] at hf
  | succ m =>
    rw [DataW.trod_step] at hf
    unfold DataW.trodStep at hf
    simp only [Try.underlying58, Value.cells] at hf
    rw [if_pos (by simp; kernel_rfl)] at hf
    simp only [Option.map_eq_some_iff] at hf
    obtain ⟨ys, hy, e1⟩ := hf
    simp only [show Try.prog.cellsOf 22 = 1 from by kernel_rfl, show List.range 2 = [0, 1] from rfl, List.mapM_cons, List.mapM_nil, bind, Option.bind_eq_some_iff, pure] at hy
    obtain ⟨y0, h0, ys1, ⟨y1, h1, ys2, _, _⟩, _⟩ := hy
    simp at h0 h1
    obtain ⟨l0, ⟨A0, c0, q0, k0, C0⟩, w0, _⟩ := op_ints_u8_22 _ _ _ _ _ _ _ _ _ h0
    obtain ⟨l1, ⟨A1, c1, q1, k1, C1⟩, w1, _⟩ := op_ints_u8_22 _ _ _ _ _ _ _ _ _ h1
    simp only [List.cons.injEq, and_true] at q0 q1
    subst q0 q1
    exact ⟨A0, A1, c0, c1, l0, l1, rfl, ⟨k0, C0, w0⟩, ⟨k1, C1, w1⟩⟩
set_option maxRecDepth 100000 in
theorem lifted (os : Os) (started : os.Started) (H : Type) (enc : TypeId × Value → H) :
    ReturnsInHanded {} Try.checked os 8 .any (Rows.rowBackSpec.pre6 enc Try.prog Try.f8 Rows.rowBackRow.domain false) (Rows.rowBackSpec.post enc Try.prog Try.f8 false true false false) := by
  refine returnsInHanded_of_change_sized (C := Try.checked) own started (by kernel_rfl) Try.func8
    (ChangeSpec.witness6 (enc := enc) (C := Try.checked) false ⟨#[], #[.slice none 0 0, .agg #[.slice none 0 0, .slice none 0 0], .agg #[.slice none 0 0, .slice none 0 0], .slice none 0 0], []⟩ 8 (by kernel_rfl) (by kernel_rfl) (by kernel_rfl) (by kernel_rfl)) ?_
  intro W base args ds gs before hval0 hW hcnd hsz0 _
  have hsz : (DataW.weightsEach Try.prog (Try.f8.params.toList ++ Rows.rowBackSpec.plain.varTypes Try.prog) (ds ++ gs)).all (· ≤ reachBytes) = true := hsz0
  have hval : ∀ (j : Nat) t v, Try.f8.params[j]? = some t → args[j]? = some v → Value.okWide Try.prog W .any base t v := hval0
  have hW' := hW
  obtain ⟨p, q, hA0, hV, rfl, hfz, hnd⟩ := hW
  have hA : DataW.TrodAll enc Try.prog W 0 (fun _ => true) true Try.f8.params.toList args.toList ds p := hA0
  rw [Try.params8] at hA hval hsz
  obtain ⟨v0, vs0, d0, ds0, p0, q0, hargs, rfl, rfl, h0, r0⟩ := trodAll_cons hA
  obtain ⟨v1, vs1, d1, ds1, p1, q1, rfl, rfl, rfl, h1, r1⟩ := trodAll_cons r0
  obtain ⟨v2, vs2, d2, ds2, p2, q2, rfl, rfl, rfl, h2, r2⟩ := trodAll_cons r1
  obtain ⟨v3, vs3, d3, ds3, p3, q3, rfl, rfl, rfl, h3, r3⟩ := trodAll_cons r2
  obtain ⟨rfl, rfl, rfl⟩ := trodAll_nil r3
  obtain rfl : args = #[v0, v1, v2, v3] := by cases args; simp_all
  obtain ⟨rfl, rfl⟩ := trodVars_none hV
  obtain ⟨a0, len0, cap0, rfl⟩ := okWide_slice Try.underlying38 (hval 0 38 v0 rfl rfl)
  have k0 := h0
  have lt0 : ∀ x ∈ p0, x.block < W.heap.size := by obtain ⟨m, hm⟩ := k0; exact DataW.trod_lt m _ _ _ hm
  have y0 := Opn.sized_any hsz (j := 0) (t := 38) rfl rfl Try.underlying38 (B := 24) (by kernel_rfl) h0
  obtain ⟨fuel0, hf0⟩ := h0
  obtain ⟨l0, ⟨A0, c0, hcs0, hc0, hC0⟩, ⟨hl0, hw0⟩, hb0⟩ := op_rows_38 _ _ _ _ _ _ _ _ _ hf0
  simp only [Value.cells, List.cons.injEq, Value.slice.injEq, and_true] at hcs0
  obtain ⟨rfl, rfl, rfl⟩ := hcs0
  have k1 := h1
  have lt1 : ∀ x ∈ p1, x.block < W.heap.size := by obtain ⟨m, hm⟩ := k1; exact DataW.trod_lt m _ _ _ hm
  obtain ⟨A1a, A1b, c1a, c1b, l1a, l1b, rfl, ⟨hc1a, hC1a, hw1a⟩, ⟨hc1b, hC1b, hw1b⟩⟩ := open_agg2_58 (hval 1 58 v1 rfl rfl) h1
  have k2 := h2
  have lt2 : ∀ x ∈ p2, x.block < W.heap.size := by obtain ⟨m, hm⟩ := k2; exact DataW.trod_lt m _ _ _ hm
  obtain ⟨A2a, A2b, c2a, c2b, l2a, l2b, rfl, ⟨hc2a, hC2a, hw2a⟩, ⟨hc2b, hC2b, hw2b⟩⟩ := open_agg2_58 (hval 2 58 v2 rfl rfl) h2
  obtain ⟨a3, len3, cap3, rfl⟩ := okWide_slice Try.underlying22 (hval 3 22 v3 rfl rfl)
  have k3 := h3
  have lt3 : ∀ x ∈ p3, x.block < W.heap.size := by obtain ⟨m, hm⟩ := k3; exact DataW.trod_lt m _ _ _ hm
  have y3 := Opn.sized_any hsz (j := 3) (t := 22) rfl rfl Try.underlying22 (B := 1) (by kernel_rfl) h3
  obtain ⟨fuel3, hf3⟩ := h3
  obtain ⟨l3, ⟨A3, c3, hcs3, hc3, hC3⟩, ⟨hl3, hw3⟩, hb3⟩ := op_ints_u8_22 _ _ _ _ _ _ _ _ _ hf3
  simp only [Value.cells, List.cons.injEq, Value.slice.injEq, and_true] at hcs3
  obtain ⟨rfl, rfl, rfl⟩ := hcs3
  clear hA0 hval0 hsz0 hsz
  obtain ⟨k, h⟩ := (⟨0, trivial⟩ : ∃ k : Nat, True)
  refine (Of.back_walk _ _ _ _ _ _ _ _ _ _ _ _ l0 l3 l1a l1b l2a l2b W ⟨hC0, hc0, hC3, hc3, hC1a, hc1a, hC1b, hc1b, hC2a, hc2a, hC2b, hc2b, fun f hf => Pure.byt_wf (hw0 f hf).2, Pure.byt_wf hw3, Pure.byt_wf hw1a.2, Pure.byt_wf hw1b.2, Pure.byt_wf hw2a.2, Pure.byt_wf hw2b.2, by omega⟩).mono fun e W' ⟨he, bel⟩ => ?_
  subst he
  exact ⟨_, rfl, _, _, _, [], _, [], hW', trodAll_mk1 (shut_bool Try.underlying4 _), (trodAll_cons_mk (Below.trod laidOut (by kernel_rfl) (of_decide_eq_true (by kernel_rfl)) k0 bel lt0) (trodAll_cons_mk (Below.trod laidOut (by kernel_rfl) (of_decide_eq_true (by kernel_rfl)) k1 bel lt1) (trodAll_cons_mk (Below.trod laidOut (by kernel_rfl) (of_decide_eq_true (by kernel_rfl)) k2 bel lt2) (trodAll_cons_mk (Below.trod laidOut (by kernel_rfl) (of_decide_eq_true (by kernel_rfl)) k3 bel lt3) trodAll_mk0)))), rfl, bel.frame _, fun h => by cases h⟩
theorem over : Rows.rowBackRow.holds Try.pinned (OpenSpec.ofChange Rows.rowBackSpec) :=
  OpenClaim.holds_of_wide 8 Try.f8 rfl rfl rfl rfl rfl rfl rfl ⟨rfl, rfl, rfl, rfl, rfl⟩ rfl rfl rfl rfl rfl (by kernel_rfl) Try.func8 (by kernel_rfl)
    (of_decide_eq_true (by kernel_rfl)) (by unfold Func.isWrapper; first | (rw [if_pos (by decide +kernel)]; kernel_rfl) | (rw [if_neg (by decide +kernel)]; exact ⟨rfl, rfl⟩))
    (fun os started H enc _ => lifted os started H enc)
theorem proved : Rows.RowBackSaid := over
#print axioms proved
end Go.Proofs.Ytmpbcmnnlkienaa.rowBack
namespace Go.Proofs.Ytmpbcmnnlkienaa
/-- The row, under a short name, for the claim. -/
theorem rowBack_holds : Rows.RowBackSaid := rowBack.proved
end Go.Proofs.Ytmpbcmnnlkienaa
