/- tid: TidApart. -/
import Derived.Test.YtdgcgaibkiobjaaDoorProg
import Derived.Below
import Derived.Deep.Draws
import Derived.Deep.AppendLies
import Derived.Maps.AppendAt
import Derived.OwnWalk
import Derived.Laws.BytesArg
import Derived.Laws.MakeOwn
import Derived.Laws.OwnMore
import Derived.Deep.OwnRows
import Derived.Tactics
import Derived.Lib.ConvBytes
import Derived.Laws.Slices
import Derived.WalkKit
import Derived.KernelRfl
import Derived.RowKit3
import Derived.Deep.LoopGhost
import Derived.Deep.QuietTactic
import Derived.BigQuiet
import Derived.WideLaws
import Derived.Deep.DeepCutAuto
import Derived.Deep.CutBlock
import Derived.Deep.RegionHeld3
import Derived.Laws.Rows
import Derived.Lib.AppendStr
import Derived.ArgAppend
import Derived.Laws.IdiomCopy
import Derived.OrdersHeld
import Derived.Laws.BitsLemmas
import Derived.RowKit
import Derived.Lib.BytesEntry
import Derived.Test.YtdgcgaibkiobjaaDoorWWords
import Derived.Test.YtdgcgaibkiobjaaDoorWLast
import Derived.Test.YtdgcgaibkiobjaaDoorWTab
import Derived.Test.YtdgcgaibkiobjaaDoorWFour
import Derived.Test.YtdgcgaibkiobjaaDoorWQPut
import Derived.Test.YtdgcgaibkiobjaaDoorWApart
import Derived.Test.YtdgcgaibkiobjaaDoorWArr
import Derived.Test.YtdgcgaibkiobjaaDoorWZeros
import Derived.Test.YtdgcgaibkiobjaaDoorWFoot
import Derived.Test.YtdgcgaibkiobjaaDoorWKept
import Derived.Test.YtdgcgaibkiobjaaDoorWShare
import Derived.Test.YtdgcgaibkiobjaaDoorWN
import Derived.Test.YtdgcgaibkiobjaaDoorWFootNe
import Derived.Test.YtdgcgaibkiobjaaDoorWAt
import Derived.Test.YtdgcgaibkiobjaaDoorWEqStruct
import Derived.Test.YtdgcgaibkiobjaaDoorWRepsOne
import Derived.Test.YtdgcgaibkiobjaaDoorWInv
import Derived.Test.YtdgcgaibkiobjaaDoorWInvWords
import Derived.Test.YtdgcgaibkiobjaaDoorWGuard
import Derived.Test.YtdgcgaibkiobjaaDoorWNEv
import Derived.Test.YtdgcgaibkiobjaaDoorWMore
import Derived.OwnWalkIn
import Derived.TacticsInMore
import Derived.LoopNIn
import Derived.LoopIn
import Derived.Maps.AppendAt
import Derived.Maps.Range
import Derived.StillTailTactics
import Derived.WalkSpells
import Derived.IntWalk
import Derived.Laws.BitsAllLaws
import Derived.WalkMore
import Derived.Laws.Cover3
import Derived.Test.YtdgcgaibkiobjaaDoorU64
import Derived.Test.YtdgcgaibkiobjaaDoorTt
import Derived.Test.YtdgcgaibkiobjaaDoorTf
import Derived.Laws.StructEq
import Derived.Laws.ResultCell
namespace Go.Proofs.YtdgcgaibkiobjaaDoor.Tk
open Go.RowKit Go.Proofs.YtdgcgaibkiobjaaDoorW.PrintWords Go.Proofs.YtdgcgaibkiobjaaDoorW.PrintLast Go.Proofs.YtdgcgaibkiobjaaDoorW.PrintMore
set_option linter.unusedVariables false
set_option linter.unusedSimpArgs false
theorem cells2 {w : World} {a b c d : Value} :
    ((w.alloc (.cells #[a, b] 48)).alloc (.cells #[c, d] 48)).cell? ⟨w.heap.size, 0, none⟩ = some a ∧ ((w.alloc (.cells #[a, b] 48)).alloc (.cells #[c, d] 48)).cell? ⟨w.heap.size, 1, none⟩ = some b ∧ ((w.alloc (.cells #[a, b] 48)).alloc (.cells #[c, d] 48)).cell? ⟨w.heap.size + 1, 0, none⟩ = some c ∧ ((w.alloc (.cells #[a, b] 48)).alloc (.cells #[c, d] 48)).cell? ⟨w.heap.size + 1, 1, none⟩ = some d := by
  have h1 := blk_new w (.cells #[a, b] 48)
  have h2 := (below_alloc (Below.refl (w.alloc (.cells #[a, b] 48)).heap.size (w.alloc (.cells #[a, b] 48))) (.cells #[c, d] 48)).block w.heap.size (by simp)
  have h3 := blk_new (w.alloc (.cells #[a, b] 48)) (.cells #[c, d] 48)
  rw [show (w.alloc (.cells #[a, b] 48)).heap.size = w.heap.size + 1 by simp] at h3
  rw [h1] at h2
  exact ⟨(blk_cell h2 0).trans rfl, (blk_cell h2 1).trans rfl, (blk_cell h3 0).trans rfl, (blk_cell h3 1).trans rfl⟩
theorem part2 (a b : Int) (W : World) : (part 2 #[.int .i64 a, .int .i64 b] 0).run Tryd.prog W = .ok (.int .i64 a) W ∧ (part 2 #[.int .i64 a, .int .i64 b] 1).run Tryd.prog W = .ok (.int .i64 b) W := by
  constructor <;> kernel_rfl
theorem eq_arr2 (d : Nat) (a0 a1 b0 b1 : Int) (W : World) : (Op.equalIn (d + 1 + 1) 48 (.agg #[.int .i64 a0, .int .i64 a1]) (.agg #[.int .i64 b0, .int .i64 b1])).run Tryd.prog W = .ok (a0 == b0 && a1 == b1) W := by
  have e := fun a b => run_equalIn_int (P := Tryd.prog) W d 2 .i64 .i64 a b Tryd.underlying2
  rw [Op.equalIn]
  simp only [Sem.run_bind, run_underlying Tryd.underlying48, Result.andThen_ok, Tryd.sizeOf2]
  rw [Std.Legacy.Range.forIn_eq_forIn_range']
  simp [List.range'_succ, List.range', part2, e]
  by_cases h1 : a0 = b0 <;> by_cases h2 : a1 = b1 <;> simp [h1, h2]
def okW (e n : Int) : Prop := 0 ≤ e ∧ e ≤ 16777215 ∧ 0 ≤ n ∧ n ≤ 2147483647
theorem word_any (e n : Int) : ∃ v er : Int, (∀ W : World, Calls Tryd.prog 17 #[.int .i64 e, .int .i64 n] W fun en w' => en = .returned (.tuple #[.int .u64 v, .int .i64 er]) ∧ W = w') ∧ ((er = 0 ∧ okW e n ∧ v = e * 17179869184 + n * 8) ∨ (er = 2 ∧ v = 0)) := by
  by_cases h : 0 ≤ e ∧ e ≤ 16777215 ∧ 0 ≤ n ∧ n ≤ 2147483647
  · exact ⟨_, 0, fun W => word_ok e n W h.1 h.2.1 h.2.2.1 h.2.2.2, Or.inl ⟨rfl, h, rfl⟩⟩
  · exact ⟨0, 2, fun W => word_bad e n W h, Or.inr ⟨rfl, rfl⟩⟩
set_option maxHeartbeats 16000000 in
set_option maxRecDepth 100000 in
theorem apart_walk (a0 a1 b0 b1 : Int) (w : World) :
    Calls Tryd.prog 8 #[.agg #[.int .i64 a0, .int .i64 a1], .agg #[.int .i64 b0, .int .i64 b1]] w fun en w' => en = .returned (.bool true) ∧ Below w.heap.size w w' := by
  obtain ⟨y0, y1, y2, y3⟩ := @cells2 w (.int .i64 a0) (.int .i64 a1) (.int .i64 b0) (.int .i64 b1)
  have HB := Aside0.mk (below_alloc (below_alloc (Below.refl w.heap.size w) (.cells #[.int .i64 a0, .int .i64 a1] 48)) (.cells #[.int .i64 b0, .int .i64 b1] 48))
  obtain ⟨x, e, c1, r1⟩ := word_any a0 a1
  obtain ⟨y, f, c2, r2⟩ := word_any b0 b1
  have C1 := Aside0.mk c1
  have C2 := Aside0.mk c2
  clear c1 c2
  rcases r1 with ⟨rfl, ok1, hx⟩ | ⟨rfl, -⟩
  · rcases r2 with ⟨rfl, ok2, hy⟩ | ⟨rfl, -⟩
    · have L1 := Aside0.mk (fun W => less_c x y W (by unfold okW at ok1; omega) (by unfold okW at ok1; omega) (by unfold okW at ok2; omega) (by unfold okW at ok2; omega))
      have hl : lt x y = decide (x < y) := by
        unfold lt key okW at *
        exact decide_eq_decide.mpr (by omega)
      rw [hl] at L1
      have hc : (decide (a0 < b0) = true ∧ (a0 == b0) = false ∧ (x == y) = false ∧ decide (x < y) = true) ∨ (decide (a0 < b0) = false ∧ (a0 == b0) = true ∧ decide (a1 < b1) = true ∧ (a1 == b1) = false ∧ (x == y) = false ∧ decide (x < y) = true) ∨ (decide (a0 < b0) = false ∧ (a0 == b0) = true ∧ decide (a1 < b1) = false ∧ (a1 == b1) = true ∧ (x == y) = true ∧ decide (x < y) = false) ∨ (decide (a0 < b0) = false ∧ (a0 == b0) = true ∧ decide (a1 < b1) = false ∧ (a1 == b1) = false ∧ (x == y) = false ∧ decide (x < y) = false) ∨ (decide (a0 < b0) = false ∧ (a0 == b0) = false ∧ (x == y) = false ∧ decide (x < y) = false) := by
        unfold okW at ok1 ok2
        rcases Int.lt_trichotomy a0 b0 with h | h | h
        · exact Or.inl ⟨decide_eq_true h, beq_eq_false_iff_ne.mpr (by omega), beq_eq_false_iff_ne.mpr (by omega), decide_eq_true (by omega)⟩
        · rcases Int.lt_trichotomy a1 b1 with k | k | k
          · exact Or.inr (Or.inl ⟨decide_eq_false (by omega), beq_iff_eq.mpr h, decide_eq_true k, beq_eq_false_iff_ne.mpr (by omega), beq_eq_false_iff_ne.mpr (by omega), decide_eq_true (by omega)⟩)
          · exact Or.inr (Or.inr (Or.inl ⟨decide_eq_false (by omega), beq_iff_eq.mpr h, decide_eq_false (by omega), beq_iff_eq.mpr k, beq_iff_eq.mpr (by omega), decide_eq_false (by omega)⟩))
          · exact Or.inr (Or.inr (Or.inr (Or.inl ⟨decide_eq_false (by omega), beq_iff_eq.mpr h, decide_eq_false (by omega), beq_eq_false_iff_ne.mpr (by omega), beq_eq_false_iff_ne.mpr (by omega), decide_eq_false (by omega)⟩)))
        · exact Or.inr (Or.inr (Or.inr (Or.inr ⟨decide_eq_false (by omega), beq_eq_false_iff_ne.mpr (by omega), beq_eq_false_iff_ne.mpr (by omega), decide_eq_false (by omega)⟩)))
      have heq : ∀ W : World, (Op.equalIn 10000 48 (.agg #[.int .i64 a0, .int .i64 a1]) (.agg #[.int .i64 b0, .int .i64 b1])).run Tryd.prog W = .ok (a0 == b0 && a1 == b1) W := fun W => eq_arr2 9998 a0 a1 b0 b1 W
      clear ok1 ok2 hx hy hl
      rcases hc with ⟨h1, h2, h3, h4⟩ | ⟨h1, h2, h3, h4, h5, h6⟩ | ⟨h1, h2, h3, h4, h5, h6⟩ | ⟨h1, h2, h3, h4, h5, h6⟩ | ⟨h1, h2, h3, h4⟩
      all_goals
        (try (rw [h4] at L1))
        (try (rw [h6] at L1))
        as_aux_lemma =>
          go_enter Tryd.func8, Tryd.ntmps8
          go_wp2_with (first | (go_at_call 17; (with_reducible refine (C1.out _).mono ?_); rintro en wn ⟨rfl, rfl⟩) | (go_at_call 17; (with_reducible refine (C2.out _).mono ?_); rintro en wn ⟨rfl, rfl⟩) | (go_at_call 26; (with_reducible refine (L1.out _).mono ?_); rintro en wn ⟨rfl, rfl⟩) | (go_at_call 14; refine (known_walk _).mono ?_; rintro en wk ⟨rfl, hb⟩; replace HB := Aside0.mk (below_step HB.out hb); clear hb))
          try go_ret
          exact ⟨by first | rfl | simp, HB.out⟩
    · go_enter Tryd.func8, Tryd.ntmps8
      go_wp2_with (first | (go_at_call 17; (with_reducible refine (C1.out _).mono ?_); rintro en wn ⟨rfl, rfl⟩) | (go_at_call 17; (with_reducible refine (C2.out _).mono ?_); rintro en wn ⟨rfl, rfl⟩) | (go_at_call 26; (with_reducible refine (L1.out _).mono ?_); rintro en wn ⟨rfl, rfl⟩) | (go_at_call 14; refine (known_walk _).mono ?_; rintro en wk ⟨rfl, hb⟩; replace HB := Aside0.mk (below_step HB.out hb); clear hb))
      try rw [Exit.noGoto_ret]
      go_ret
      exact ⟨by first | rfl | simp, HB.out⟩
  · rcases r2 with ⟨rfl, ok2, hy⟩ | ⟨rfl, -⟩
    all_goals
      go_enter Tryd.func8, Tryd.ntmps8
      go_wp2_with (first | (go_at_call 17; (with_reducible refine (C1.out _).mono ?_); rintro en wn ⟨rfl, rfl⟩) | (go_at_call 17; (with_reducible refine (C2.out _).mono ?_); rintro en wn ⟨rfl, rfl⟩) | (go_at_call 26; (with_reducible refine (L1.out _).mono ?_); rintro en wn ⟨rfl, rfl⟩) | (go_at_call 14; refine (known_walk _).mono ?_; rintro en wk ⟨rfl, hb⟩; replace HB := Aside0.mk (below_step HB.out hb); clear hb))
      try rw [Exit.noGoto_ret]
      go_ret
      exact ⟨by first | rfl | simp, HB.out⟩
theorem apart_wf (a0 a1 b0 b1 : Int) (w : World) :
    Calls Tryd.prog 8 #[.agg #[.int .i64 a0, .int .i64 a1], .agg #[.int .i64 b0, .int .i64 b1]] w fun en w' => en = .returned (.bool true) ∧ Below w.heap.size w w' := apart_walk a0 a1 b0 b1 w
end Go.Proofs.YtdgcgaibkiobjaaDoor.Tk
