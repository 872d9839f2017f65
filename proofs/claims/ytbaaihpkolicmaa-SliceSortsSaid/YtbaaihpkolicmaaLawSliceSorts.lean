/- The law SliceSorts: slices are compared as an order, each is as itself alone, two the one way or the other, three in a row: its call answers true, for any three slices. -/
import Derived.Test.YtbaaihpkolicmaaRows
import Derived.Test.YtbaaihpkolicmaaHSx4
import Derived.Test.YtbaaihpkolicmaaPureSliceSorts
import Derived.Lib.SmallJoins
import Derived.WalkKit
import Derived.ProofKit
import Derived.OpenShut
import Derived.ShutString
import Derived.ChangeOld
import Derived.Below
import Derived.SizedLaws
import Derived.Test.YtbaaihpkolicmaaWSized
namespace Go.Proofs.Ytbaaihpkolicmaa.sliceSorts
open Go.ChangeShapes Go.WideShapes Go.ChangeAt Go.RowKit
open Go.ChangeMaps (open_string shut_string)
open Go.Joins HS Go.Proofs.YtbaaihpkolicmaaW.PrintWords
set_option linter.unusedVariables false
theorem own : ownKnob Try.prog.godebug = none := by kernel_rfl
theorem laidOut : laidOutB Try.prog = true := by kernel_rfl
theorem arr6 {α : Type} (xs : Array α) (h : xs.size = 6) : ∃ a b c d e f, xs = #[a, b, c, d, e, f] := by
  obtain ⟨l⟩ := xs
  match l, h with
  | [a, b, c, d, e, f], _ => exact ⟨a, b, c, d, e, f, rfl⟩
theorem open26 {H : Type} {enc : TypeId × Value → H} {w : World} {base : Nat} {sp : Bool} {held : TypeId → Bool} {n : Nat} {a b : Value} {x : DataW H × List MemPlace}
    (h : DataW.trod enc Try.prog w base held sp n 26 [a, b] = some x) : ∃ i j, a = .int .u64 i ∧ b = .int .i64 j := by
  obtain ⟨y0, y1, m, _, _, h0, h1⟩ := trod_struct2 Try.underlying26 h
  simp only [show Try.prog.cellsOf 24 = 1 from by kernel_rfl, show Try.prog.cellsOf 3 = 1 from by kernel_rfl, List.drop_zero, List.drop_succ_cons, List.take_succ_cons, List.take_zero] at h0 h1
  obtain ⟨n0, e0, rfl, f0⟩ := DataW.trod_int Try.underlying24 h0
  obtain ⟨n1, e1, rfl, f1⟩ := DataW.trod_int Try.underlying3 h1
  simp at e0 e1
  exact ⟨n0, n1, e0, e1⟩
theorem open46 {H : Type} {enc : TypeId × Value → H} {w : World} {base b0 : Nat} {sp : Bool} {held : TypeId → Bool} {r : Reach} {v : Value} {d : DataW H} {p : List MemPlace}
    (hv : Value.okWide Try.prog w r b0 46 v) (h : DataW.Trod enc Try.prog w base held sp 46 v d p) :
    ∃ X Y : Nat → Int, v = .agg #[.int .u64 (X 0), .int .i64 (Y 0), .int .u64 (X 1), .int .i64 (Y 1), .int .u64 (X 2), .int .i64 (Y 2)] := by
  simp only [Value.okWide, Try.underlying46] at hv
  obtain ⟨cs, rfl, h2, _⟩ := hv
  obtain ⟨a, b, c, d', e, f, rfl⟩ := arr6 cs (h2.trans (by kernel_rfl))
  obtain ⟨fuel, hf⟩ := h
  cases fuel with
  | zero => simp [DataW.trod] at hf
  | succ m =>
    rw [DataW.trod_step] at hf
    unfold DataW.trodStep at hf
    simp only [Try.underlying46, Value.cells] at hf
    rw [if_pos (by simp; kernel_rfl)] at hf
    simp only [Option.map_eq_some_iff] at hf
    obtain ⟨ys, hy, e1⟩ := hf
    simp only [show Try.prog.cellsOf 26 = 2 from by kernel_rfl, show List.range 3 = [0, 1, 2] from rfl, List.mapM_cons, List.mapM_nil, bind, Option.bind_eq_some_iff, pure] at hy
    obtain ⟨y0, h0, ys1, ⟨y1, h1, ys2, ⟨y2, h3, ys3, _, _⟩, _⟩, _⟩ := hy
    simp at h0 h1 h3
    obtain ⟨i0, j0, rfl, rfl⟩ := open26 h0
    obtain ⟨i1, j1, rfl, rfl⟩ := open26 h1
    obtain ⟨i2, j2, rfl, rfl⟩ := open26 h3
    exact ⟨fun n => if n = 0 then i0 else if n = 1 then i1 else i2, fun n => if n = 0 then j0 else if n = 1 then j1 else j2, rfl⟩
set_option maxRecDepth 100000 in
theorem lifted (os : Os) (started : os.Started) (H : Type) (enc : TypeId × Value → H) :
    ReturnsInHanded {} Try.checked os 5 .any (Rows.sliceSortsSpec.pre6 enc Try.prog Try.f5 Rows.sliceSortsRow.domain false) (Rows.sliceSortsSpec.post enc Try.prog Try.f5 false true false false) := by
  refine returnsInHanded_of_change_sized (C := Try.checked) own started (by kernel_rfl) Try.func5
    (ChangeSpec.witness6 (enc := enc) (C := Try.checked) false ⟨#[], #[.agg #[.int .u64 0, .int .i64 0, .int .u64 0, .int .i64 0, .int .u64 0, .int .i64 0]], []⟩ 8 (by kernel_rfl) (by kernel_rfl) (by kernel_rfl) (by kernel_rfl)) ?_
  intro W base args ds gs before hval0 hW hcnd hsz0 _
  have hsz : (DataW.weightsEach Try.prog (Try.f5.params.toList ++ Rows.sliceSortsSpec.plain.varTypes Try.prog) (ds ++ gs)).all (· ≤ reachBytes) = true := hsz0
  have hval : ∀ (j : Nat) t v, Try.f5.params[j]? = some t → args[j]? = some v → Value.okWide Try.prog W .any base t v := hval0
  have hW' := hW
  obtain ⟨p, q, hA0, hV, rfl, hfz, hnd⟩ := hW
  have hA : DataW.TrodAll enc Try.prog W 0 (fun _ => true) true Try.f5.params.toList args.toList ds p := hA0
  rw [Try.params5] at hA hval hsz
  obtain ⟨v0, vs0, d0, ds0, p0, q0, hargs, rfl, rfl, h0, r0⟩ := trodAll_cons hA
  obtain ⟨rfl, rfl, rfl⟩ := trodAll_nil r0
  obtain rfl : args = #[v0] := by cases args; simp_all
  obtain ⟨rfl, rfl⟩ := trodVars_none hV
  have k0 := h0
  have lt0 : ∀ x ∈ p0, x.block < W.heap.size := by obtain ⟨m, hm⟩ := k0; exact DataW.trod_lt m _ _ _ hm
  obtain ⟨X, Y, rfl⟩ := open46 (hval 0 46 v0 rfl rfl) h0
  clear hA0 hval0 hsz0 hsz
  refine (Pure.SliceSorts X Y W).mono fun e W' ⟨he, bel⟩ => ?_
  subst he
  exact ⟨_, rfl, _, _, _, [], _, [], hW', trodAll_mk1 (shut_bool Try.underlying4 _), (trodAll_cons_mk (Below.trod laidOut (by kernel_rfl) (of_decide_eq_true (by kernel_rfl)) k0 bel lt0) trodAll_mk0), rfl, bel.frame _, fun h => by cases h⟩
theorem over : Rows.sliceSortsRow.holds Try.pinned (OpenSpec.ofChange Rows.sliceSortsSpec) :=
  OpenClaim.holds_of_wide 5 Try.f5 rfl rfl rfl rfl rfl rfl rfl ⟨rfl, rfl, rfl, rfl, rfl⟩ rfl rfl rfl rfl rfl (by kernel_rfl) Try.func5 (by kernel_rfl)
    (of_decide_eq_true (by kernel_rfl)) (by unfold Func.isWrapper; first | (rw [if_pos (by decide +kernel)]; kernel_rfl) | (rw [if_neg (by decide +kernel)]; exact ⟨rfl, rfl⟩))
    (fun os started H enc _ => lifted os started H enc)
theorem proved : Rows.SliceSortsSaid := over
#print axioms proved
end Go.Proofs.Ytbaaihpkolicmaa.sliceSorts
namespace Go.Proofs.Ytbaaihpkolicmaa
/-- The row, under a short name, for the claim. -/
theorem sliceSorts_holds : Rows.SliceSortsSaid := sliceSorts.proved
end Go.Proofs.Ytbaaihpkolicmaa
