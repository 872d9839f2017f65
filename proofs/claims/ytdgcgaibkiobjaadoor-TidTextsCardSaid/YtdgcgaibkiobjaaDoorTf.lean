/- tid: TidWords, TidBits, TidNext. -/
import Derived.Test.YtdgcgaibkiobjaaDoorProg
import Derived.Below
import Derived.Deep.Draws
import Derived.Deep.AppendLies
import Derived.Maps.AppendAt
import Derived.OwnWalk
import Derived.Laws.BytesArg
import Derived.Laws.MakeOwn
import Derived.Laws.OwnMore
import Derived.Deep.OwnRows
import Derived.Tactics
import Derived.Lib.ConvBytes
import Derived.Laws.Slices
import Derived.WalkKit
import Derived.KernelRfl
import Derived.RowKit3
import Derived.Deep.LoopGhost
import Derived.Deep.QuietTactic
import Derived.BigQuiet
import Derived.WideLaws
import Derived.Deep.DeepCutAuto
import Derived.Deep.CutBlock
import Derived.Deep.RegionHeld3
import Derived.Laws.Rows
import Derived.Lib.AppendStr
import Derived.ArgAppend
import Derived.Laws.IdiomCopy
import Derived.OrdersHeld
import Derived.Laws.BitsLemmas
import Derived.RowKit
import Derived.Lib.BytesEntry
import Derived.Test.YtdgcgaibkiobjaaDoorWWords
import Derived.Test.YtdgcgaibkiobjaaDoorWLast
import Derived.Test.YtdgcgaibkiobjaaDoorWTab
import Derived.Test.YtdgcgaibkiobjaaDoorWFour
import Derived.Test.YtdgcgaibkiobjaaDoorWQPut
import Derived.Test.YtdgcgaibkiobjaaDoorWApart
import Derived.Test.YtdgcgaibkiobjaaDoorWArr
import Derived.Test.YtdgcgaibkiobjaaDoorWZeros
import Derived.Test.YtdgcgaibkiobjaaDoorWFoot
import Derived.Test.YtdgcgaibkiobjaaDoorWKept
import Derived.Test.YtdgcgaibkiobjaaDoorWShare
import Derived.Test.YtdgcgaibkiobjaaDoorWN
import Derived.Test.YtdgcgaibkiobjaaDoorWFootNe
import Derived.Test.YtdgcgaibkiobjaaDoorWAt
import Derived.Test.YtdgcgaibkiobjaaDoorWEqStruct
import Derived.Test.YtdgcgaibkiobjaaDoorWRepsOne
import Derived.Test.YtdgcgaibkiobjaaDoorWInv
import Derived.Test.YtdgcgaibkiobjaaDoorWInvWords
import Derived.Test.YtdgcgaibkiobjaaDoorWGuard
import Derived.Test.YtdgcgaibkiobjaaDoorWNEv
import Derived.Test.YtdgcgaibkiobjaaDoorWMore
import Derived.OwnWalkIn
import Derived.TacticsInMore
import Derived.LoopNIn
import Derived.LoopIn
import Derived.Maps.AppendAt
import Derived.Maps.Range
import Derived.StillTailTactics
import Derived.WalkSpells
import Derived.IntWalk
import Derived.Laws.BitsAllLaws
import Derived.WalkMore
import Derived.Laws.Cover3
import Derived.Test.YtdgcgaibkiobjaaDoorU64
import Derived.Test.YtdgcgaibkiobjaaDoorTt
import Derived.Test.YtdgcgaibkiobjaaDoorTe
import Derived.Laws.ResultCell
namespace Go.Proofs.YtdgcgaibkiobjaaDoor.Tk
open Go.RowKit Go.Proofs.YtdgcgaibkiobjaaDoorW.PrintWords Go.Proofs.YtdgcgaibkiobjaaDoorW.PrintLast Go.Proofs.YtdgcgaibkiobjaaDoorW.PrintMore
set_option linter.unusedVariables false
set_option linter.unusedSimpArgs false
def bi (b : Bool) (k : Int) : Int := if b = true then k else 0
set_option maxHeartbeats 4000000 in
set_option maxRecDepth 100000 in
theorem to_c (e n : Int) (l d a : Bool) (w : World) (e0 : 0 ≤ e) (e1 : e ≤ 16777216) (n0 : 0 ≤ n) (n1 : n ≤ 2147483648) : Calls Tryd.prog 16 #[.agg #[.int .i64 e, .int .i64 n, .bool l, .bool d, .bool a]] w fun en w' => en = .returned (.int .u64 (e * 17179869184 + n * 8 + bi l 1 + bi d 2 + bi a 4)) ∧ Below w.heap.size w w' := by
  have q1 : IntKind.u64.wrap e = e := by rw [IntKind.wrap_u64]; omega
  have q2 : IntKind.u64.wrap n = n := by rw [IntKind.wrap_u64]; omega
  have q3 : IntKind.u64.wrap (e * 17179869184) = e * 17179869184 := by rw [IntKind.wrap_u64]; omega
  have q4 : IntKind.u64.wrap (n * 8) = n * 8 := by rw [IntKind.wrap_u64]; omega
  have q5 : IntKind.u64.wrap (e * 17179869184 + n * 8) = e * 17179869184 + n * 8 := by rw [IntKind.wrap_u64]; omega
  obtain ⟨z0, h0⟩ : ∃ z0, z0 = e * 17179869184 + n * 8 := ⟨_, rfl⟩
  have g0 : 0 ≤ z0 ∧ z0 < 9223372036854775808 := by omega
  obtain ⟨z1, h1⟩ : ∃ z1, z1 = z0 + bi l 1 := ⟨_, rfl⟩
  have g1 : 0 ≤ z1 ∧ z1 < 9223372036854775809 := by unfold bi at h1; split at h1 <;> omega
  obtain ⟨z2, h2⟩ : ∃ z2, z2 = z1 + bi d 2 := ⟨_, rfl⟩
  have g2 : 0 ≤ z2 ∧ z2 < 9223372036854775899 := by unfold bi at h2; split at h2 <;> omega
  obtain ⟨z3, h3⟩ : ∃ z3, z3 = z2 + bi a 4 := ⟨_, rfl⟩
  have g3 : 0 ≤ z3 ∧ z3 < 9223372036854775999 := by unfold bi at h3; split at h3 <;> omega
  have w1 : l = true → IntKind.u64.wrap (z0 + 1) = z1 := fun hl => by rw [IntKind.wrap_u64, h1, hl]; simp [bi]; omega
  have w2 : d = true → IntKind.u64.wrap (z1 + 2) = z2 := fun hl => by rw [IntKind.wrap_u64, h2, hl]; simp [bi]; omega
  have w3 : a = true → IntKind.u64.wrap (z2 + 4) = z3 := fun hl => by rw [IntKind.wrap_u64, h3, hl]; simp [bi]; omega
  have v1 : l = false → z1 = z0 := fun hl => by rw [h1, hl]; simp [bi]
  have v2 : d = false → z2 = z1 := fun hl => by rw [h2, hl]; simp [bi]
  have v3 : a = false → z3 = z2 := fun hl => by rw [h3, hl]; simp [bi]
  replace q5 := q5.trans h0.symm
  rw [← h0, ← h1, ← h2, ← h3]
  clear g0 g1 g2 g3 h0 h1 h2 h3 e0 e1 n0 n1
  cases l <;> cases d <;> cases a
  all_goals
    (try (have u1 := w1 rfl))
    (try (have u1 := v1 rfl; subst u1))
    (try (have u2 := w2 rfl))
    (try (have u2 := v2 rfl; subst u2))
    (try (have u3 := w3 rfl))
    (try (have u3 := v3 rfl; subst u3))
    clear w1 w2 w3 v1 v2 v3
    go_enter Tryd.func16, Tryd.ntmps16
    go_wp2
    go_ret
    exact ⟨rfl, by first | exact below_alloc (Below.refl _ _) _ | exact Below.refl _ _⟩
set_option maxHeartbeats 8000000 in
set_option maxRecDepth 100000 in
theorem words_walk (e n : Int) (w : World) (e0 : -9223372036854775808 ≤ e) (e1 : e < 9223372036854775808) (n0 : -9223372036854775808 ≤ n) (n1 : n < 9223372036854775808) :
    Calls Tryd.prog 4 #[.int .i64 e, .int .i64 n] w fun en w' => en = .returned (.bool true) ∧ Below w.heap.size w w' := by
  have HB := Aside0.mk (Below.refl w.heap.size w)
  by_cases hok : 0 ≤ e ∧ e ≤ 16777215 ∧ 0 ≤ n ∧ n ≤ 2147483647
  · obtain ⟨h1, h2, h3, h4⟩ := hok
    have x0 : 0 ≤ e * 17179869184 + n * 8 := by omega
    have x1 : e * 17179869184 + n * 8 < 18446744073709551616 := by omega
    have CW := Aside0.mk (fun W => word_ok e n W h1 h2 h3 h4)
    have CT := Aside0.mk (fun W => to_c e n false false false W h1 (by omega) h3 (by omega))
    have CM := Aside0.mk (fun W => may_c _ W x0 x1)
    have CE := Aside0.mk (fun W => epoch_c _ W x0 x1)
    have CU := Aside0.mk (fun W => number_c _ W x0 x1)
    have CL := Aside0.mk (fun W => locked_c _ W x0 x1)
    have CD := Aside0.mk (fun W => dead_c _ W x0 x1)
    have CA := Aside0.mk (fun W => absent_c _ W x0 x1)
    obtain ⟨x, hx⟩ : ∃ x, x = e * 17179869184 + n * 8 := ⟨_, rfl⟩
    rw [← hx] at CW CM CE CU CL CD CA
    rw [show e * 17179869184 + n * 8 + bi false 1 + bi false 2 + bi false 4 = x by rw [hx]; simp [bi]] at CT
    rw [decide_eq_true (by omega)] at CM
    rw [show x / 17179869184 % 16777216 = e by omega] at CE
    rw [show x / 8 % 2147483648 = n by omega] at CU
    rw [decide_eq_false (by omega)] at CL CD CA
    have g1 : decide (e < 0) = false := decide_eq_false (by omega)
    have g2 : decide (16777215 < e) = false := decide_eq_false (by omega)
    have g3 : decide (n < 0) = false := decide_eq_false (by omega)
    have g4 : decide (2147483647 < n) = false := decide_eq_false (by omega)
    clear h1 h2 h3 h4 x0 x1 hx e0 e1 n0 n1
    go_enter Tryd.func4, Tryd.ntmps4
    go_wp2_with (first | (go_at_call 17; refine (CW.out _).mono ?_; rintro en wn ⟨rfl, rfl⟩) | (go_at_call 16; refine (CT.out _).mono ?_; rintro en wt ⟨rfl, hb⟩; replace HB := Aside0.mk (below_step (below_alloc HB.out _) hb); clear hb) | (go_at_call 20; refine (CM.out _).mono ?_; rintro en wn ⟨rfl, rfl⟩) | (go_at_call 18; refine (CE.out _).mono ?_; rintro en wn ⟨rfl, rfl⟩) | (go_at_call 19; refine (CU.out _).mono ?_; rintro en wn ⟨rfl, rfl⟩) | (go_at_call 21; refine (CL.out _).mono ?_; rintro en wn ⟨rfl, rfl⟩) | (go_at_call 22; refine (CD.out _).mono ?_; rintro en wn ⟨rfl, rfl⟩) | (go_at_call 23; refine (CA.out _).mono ?_; rintro en wn ⟨rfl, rfl⟩) | (go_at_call 14; refine (known_walk _).mono ?_; rintro en wk ⟨rfl, hb⟩; replace HB := Aside0.mk (below_step HB.out hb); clear hb))
    go_ret
    exact ⟨by first | rfl | simp, HB.out⟩
  · have CW := Aside0.mk (fun W => word_bad e n W hok)
    have hc : e < 0 ∨ (¬ e < 0 ∧ 16777215 < e) ∨ (¬ e < 0 ∧ ¬ 16777215 < e ∧ n < 0) ∨ (¬ e < 0 ∧ ¬ 16777215 < e ∧ ¬ n < 0 ∧ 2147483647 < n) := by omega
    clear hok e0 e1 n0 n1
    rcases hc with h1 | ⟨h1, h2⟩ | ⟨h1, h2, h3⟩ | ⟨h1, h2, h3, h4⟩
    all_goals
      go_enter Tryd.func4, Tryd.ntmps4
      go_wp2_with (first | (go_at_call 17; refine (CW.out _).mono ?_; rintro en wn ⟨rfl, rfl⟩) | (go_at_call 14; refine (known_walk _).mono ?_; rintro en wk ⟨rfl, hb⟩; replace HB := Aside0.mk (below_step HB.out hb); clear hb))
      try rw [Exit.noGoto_ret]
      go_ret
      exact ⟨by first | rfl | simp, HB.out⟩
theorem i64_wf {a : Int} (h : (Go.Lit.int .i64 a).wf = true) : -9223372036854775808 ≤ a ∧ a < 9223372036854775808 := by
  simp [Go.Lit.wf, IntKind.min, IntKind.max, IntKind.signed, IntKind.bits] at h
  omega
theorem words_wf (e n : Int) (w : World) (he : (Go.Lit.int .i64 e).wf = true) (hn : (Go.Lit.int .i64 n).wf = true) :
    Calls Tryd.prog 4 #[.int .i64 e, .int .i64 n] w fun en w' => en = .returned (.bool true) ∧ Below w.heap.size w w' := words_walk e n w (i64_wf he).1 (i64_wf he).2 (i64_wf hn).1 (i64_wf hn).2
end Go.Proofs.YtdgcgaibkiobjaaDoor.Tk
