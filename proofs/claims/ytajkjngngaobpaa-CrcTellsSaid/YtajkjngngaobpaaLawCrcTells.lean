/- The law CrcTells: whatever the input, its call answers true, and the input reads as it did. -/
import Derived.Test.YtajkjngngaobpaaRows
import Derived.Test.YtajkjngngaobpaaTellsC
import Derived.Test.YtajkjngngaobpaaOpen
import Derived.Test.YtajkjngngaobpaaSized
import Derived.Lib.SmallJoins
import Derived.WalkKit
import Derived.ProofKit
import Derived.OpenShut
import Derived.ShutString
import Derived.ChangeOld
import Derived.Below
import Derived.SizedLaws
import Derived.JoinedCond
namespace Go.Proofs.Ytajkjngngaobpaa.crcTells
open Go.ChangeShapes Go.WideShapes Go.ChangeAt Go.RowKit
open Go.ChangeMaps (open_string shut_string)
open Go.Joins HS Go.Proofs.YtajkjngngaobpaaW.PrintWords
set_option linter.unusedVariables false
theorem own : ownKnob Try.prog.godebug = none := by kernel_rfl
theorem laidOut : laidOutB Try.prog = true := by kernel_rfl
theorem op_int_u8_5 : Opn.Opens Try.prog (Kd.int .u8) 5 (Opn.wfI .u8) Opn.bk1 := Opn.opens_int' Try.underlying5
theorem op_ints_u8_24 : Opn.Opens Try.prog (Kd.slice 5 (Kd.int .u8)) 24 (Opn.wfL (Opn.wfI .u8)) (Opn.bkL Opn.bk1) := Opn.opens_slice' Try.underlying24 (by kernel_rfl) op_int_u8_5
theorem open_agg2_35 {H : Type} {enc : TypeId × Value → H} {w : World} {base b0 : Nat} {sp : Nat → Bool} {held : Bool} {r : Reach} {v : Value} {d : DataW H} {p : List MemPlace}
    (hv : Value.okWide Try.prog w r b0 35 v) (h : DataW.Trod enc Try.prog w base sp held 35 v d p) :
    ∃ (A0 A1 : Option Addr) (c0 c1 : Nat) (l0 l1 : List Int), v = .agg #[.slice A0 l0.length c0, .slice A1 l1.length c1] ∧ (l0.length ≤ c0 ∧ Kd.C (Kd.int .u8) w A0 l0.length l0 ∧ Opn.wfL (Opn.wfI .u8) l0) ∧ (l1.length ≤ c1 ∧ Kd.C (Kd.int .u8) w A1 l1.length l1 ∧ Opn.wfL (Opn.wfI .u8) l1) := by
  simp only [Value.okWide, Try.underlying35] at hv
  obtain ⟨cs, rfl, h2, _⟩ := hv
  obtain ⟨a, b, rfl⟩ : ∃ a b, cs = #[a, b] := by
    obtain ⟨l⟩ := cs
    match l, h2.trans (by kernel_rfl : _ = 2) with
    | [a, b], _ => exact ⟨a, b, rfl⟩
  obtain ⟨fuel, hf⟩ := h
  cases fuel with
  | zero => simp [DataW.trod] at hf
  | succ m =>
    rw [DataW.trod_step] at hf
    unfold DataW.trodStep at hf
    simp only [Try.underlying35, Value.cells] at hf
    rw [if_pos (by simp; kernel_rfl)] at hf
    simp only [Option.map_eq_some_iff] at hf
    obtain ⟨ys, hy, e1⟩ := hf
    simp only [show Try.prog.cellsOf 24 = 1 from by kernel_rfl, show List.range 2 = [0, 1] from rfl, List.mapM_cons, List.mapM_nil, bind, Option.bind_eq_some_iff, pure] at hy
    obtain ⟨y0, h0, ys1, ⟨y1, h1, ys2, _, _⟩, _⟩ := hy
    simp at h0 h1
    obtain ⟨l0, ⟨A0, c0, q0, k0, C0⟩, w0, _⟩ := op_ints_u8_24 _ _ _ _ _ _ _ _ _ h0
    obtain ⟨l1, ⟨A1, c1, q1, k1, C1⟩, w1, _⟩ := op_ints_u8_24 _ _ _ _ _ _ _ _ _ h1
    simp only [List.cons.injEq, and_true] at q0 q1
    subst q0 q1
    exact ⟨A0, A1, c0, c1, l0, l1, rfl, ⟨k0, C0, w0⟩, ⟨k1, C1, w1⟩⟩
set_option maxRecDepth 100000 in
theorem open_agg3i_36 {H : Type} {enc : TypeId × Value → H} {w : World} {base b0 : Nat} {sp : Nat → Bool} {held : Bool} {r : Reach} {v : Value} {d : DataW H} {p : List MemPlace}
    (hv : Value.okWide Try.prog w r b0 36 v) (h : DataW.Trod enc Try.prog w base sp held 36 v d p) :
    ∃ a b c : Int, v = .agg #[.int .i64 a, .int .i64 b, .int .i64 c] ∧ (Lit.int .i64 a).wf = true ∧ (Lit.int .i64 b).wf = true ∧ (Lit.int .i64 c).wf = true := by
  simp only [Value.okWide, Try.underlying36] at hv
  obtain ⟨cs, rfl, h2, _⟩ := hv
  obtain ⟨a, b, c, rfl⟩ : ∃ a b c, cs = #[a, b, c] := by
    obtain ⟨l⟩ := cs
    match l, h2.trans (by kernel_rfl : _ = 3) with
    | [a, b, c], _ => exact ⟨a, b, c, rfl⟩
  obtain ⟨fuel, hf⟩ := h
  cases fuel with
  | zero => simp [DataW.trod] at hf
  | succ m =>
    rw [DataW.trod_step] at hf
    unfold DataW.trodStep at hf
    simp only [Try.underlying36, Value.cells] at hf
    rw [if_pos (by simp; kernel_rfl)] at hf
    simp only [Option.map_eq_some_iff] at hf
    obtain ⟨ys, hy, e1⟩ := hf
    simp only [show Try.prog.cellsOf 3 = 1 from by kernel_rfl, show List.range 3 = [0, 1, 2] from rfl, List.mapM_cons, List.mapM_nil, bind, Option.bind_eq_some_iff, pure] at hy
    obtain ⟨y0, h10, ys0, ⟨y1, h11, ys1, ⟨y2, h12, ys2, _, _⟩, _⟩, _⟩ := hy
    simp at h10 h11 h12
    obtain ⟨z0, e20, -, f0⟩ := DataW.trod_int Try.underlying3 h10
    simp at e20
    subst e20
    obtain ⟨z1, e21, -, f1⟩ := DataW.trod_int Try.underlying3 h11
    simp at e21
    subst e21
    obtain ⟨z2, e22, -, f2⟩ := DataW.trod_int Try.underlying3 h12
    simp at e22
    subst e22
    exact ⟨z0, z1, z2, rfl, f0, f1, f2⟩
set_option maxRecDepth 100000 in
theorem lifted (os : Os) (started : os.Started) (H : Type) (enc : TypeId × Value → H) :
    ReturnsInHanded {} Try.checked os 6 .any (Rows.crcTellsSpec.pre6 enc Try.prog Try.f6 Rows.crcTellsRow.domain false) (Rows.crcTellsSpec.post enc Try.prog Try.f6 false true false false) := by
  refine returnsInHanded_of_change_sized (C := Try.checked) own started (by kernel_rfl) Try.func6
    (ChangeSpec.witness6 (enc := enc) (C := Try.checked) false ⟨#[], #[.agg #[.slice none 0 0, .slice none 0 0], .agg #[.int .i64 0, .int .i64 0, .int .i64 0], .int .u32 0], []⟩ 8 (by kernel_rfl) (by kernel_rfl) (by kernel_rfl) (by kernel_rfl)) ?_
  intro W base args ds gs before hval0 hW hcnd hsz0 _
  have hsz : (DataW.weightsEach Try.prog (Try.f6.params.toList ++ Rows.crcTellsSpec.plain.varTypes Try.prog) (ds ++ gs)).all (· ≤ reachBytes) = true := hsz0
  have hval : ∀ (j : Nat) t v, Try.f6.params[j]? = some t → args[j]? = some v → Value.okWide Try.prog W .any base t v := hval0
  have hW' := hW
  obtain ⟨p, q, hA0, hV, rfl, hfz, hnd⟩ := hW
  have hA : DataW.TrodAll enc Try.prog W 0 (fun _ => true) true Try.f6.params.toList args.toList ds p := hA0
  rw [Try.params6] at hA hval hsz
  obtain ⟨v0, vs0, d0, ds0, p0, q0, hargs, rfl, rfl, h0, r0⟩ := trodAll_cons hA
  obtain ⟨v1, vs1, d1, ds1, p1, q1, rfl, rfl, rfl, h1, r1⟩ := trodAll_cons r0
  obtain ⟨v2, vs2, d2, ds2, p2, q2, rfl, rfl, rfl, h2, r2⟩ := trodAll_cons r1
  obtain ⟨rfl, rfl, rfl⟩ := trodAll_nil r2
  obtain rfl : args = #[v0, v1, v2] := by cases args; simp_all
  obtain ⟨rfl, rfl⟩ := trodVars_none hV
  have k0 := h0
  have lt0 : ∀ x ∈ p0, x.block < W.heap.size := by obtain ⟨m, hm⟩ := k0; exact DataW.trod_lt m _ _ _ hm
  obtain ⟨A0a, A0b, c0a, c0b, l0a, l0b, rfl, ⟨hc0a, hC0a, hw0a⟩, ⟨hc0b, hC0b, hw0b⟩⟩ := open_agg2_35 (hval 0 35 v0 rfl rfl) h0
  have k1 := h1
  have lt1 : ∀ x ∈ p1, x.block < W.heap.size := by obtain ⟨m, hm⟩ := k1; exact DataW.trod_lt m _ _ _ hm
  obtain ⟨n1_0, n1_1, n1_2, rfl, wn1_0, wn1_1, wn1_2⟩ := open_agg3i_36 (hval 1 36 v1 rfl rfl) h1
  have k2 := h2
  have lt2 : ∀ x ∈ p2, x.block < W.heap.size := by obtain ⟨m, hm⟩ := k2; exact DataW.trod_lt m _ _ _ hm
  obtain ⟨n2, rfl, rfl, rfl, wn2⟩ := open_int Try.underlying23 (hval 2 23 v2 rfl rfl) h2
  clear hA0 hval0 hsz0 hsz
  obtain ⟨k, h⟩ := (⟨0, rfl⟩ : ∃ k : Nat, k = 0)
  refine (Pure.tells_wf A0a c0a l0a A0b c0b l0b n1_0 n1_1 n1_2 n2 W hC0a hc0a hC0b hc0b hw0a hw0b wn2).mono fun e W' ⟨he, bel⟩ => ?_
  subst he
  exact ⟨_, rfl, _, _, _, [], _, [], hW', trodAll_mk1 (shut_bool Try.underlying4 _), (trodAll_cons_mk (Below.trod laidOut (by kernel_rfl) (of_decide_eq_true (by kernel_rfl)) k0 bel lt0) (trodAll_cons_mk (Below.trod laidOut (by kernel_rfl) (of_decide_eq_true (by kernel_rfl)) k1 bel lt1) (trodAll_cons_mk (Below.trod laidOut (by kernel_rfl) (of_decide_eq_true (by kernel_rfl)) k2 bel lt2) trodAll_mk0))), rfl, bel.frame _, fun h => by cases h⟩
theorem over : Rows.crcTellsRow.holds Try.pinned (OpenSpec.ofChange Rows.crcTellsSpec) :=
  OpenClaim.holds_of_wide 6 Try.f6 rfl rfl rfl rfl rfl rfl rfl ⟨rfl, rfl, rfl, rfl, rfl⟩ rfl rfl rfl rfl rfl (by kernel_rfl) Try.func6 (by kernel_rfl)
    (of_decide_eq_true (by kernel_rfl)) (by unfold Func.isWrapper; first | (rw [if_pos (by decide +kernel)]; kernel_rfl) | (rw [if_neg (by decide +kernel)]; exact ⟨rfl, rfl⟩))
    (fun os started H enc _ => lifted os started H enc)
theorem proved : Rows.CrcTellsSaid := over
#print axioms proved
end Go.Proofs.Ytajkjngngaobpaa.crcTells
namespace Go.Proofs.Ytajkjngngaobpaa
/-- The row, under a short name, for the claim. -/
theorem crcTells_holds : Rows.CrcTellsSaid := crcTells.proved
end Go.Proofs.Ytajkjngngaobpaa
