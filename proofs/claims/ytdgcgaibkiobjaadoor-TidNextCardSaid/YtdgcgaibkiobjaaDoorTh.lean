/- tid: TidNext. -/
import Derived.Test.YtdgcgaibkiobjaaDoorProg
import Derived.Below
import Derived.Deep.Draws
import Derived.Deep.AppendLies
import Derived.Maps.AppendAt
import Derived.OwnWalk
import Derived.Laws.BytesArg
import Derived.Laws.MakeOwn
import Derived.Laws.OwnMore
import Derived.Deep.OwnRows
import Derived.Tactics
import Derived.Lib.ConvBytes
import Derived.Laws.Slices
import Derived.WalkKit
import Derived.KernelRfl
import Derived.RowKit3
import Derived.Deep.LoopGhost
import Derived.Deep.QuietTactic
import Derived.BigQuiet
import Derived.WideLaws
import Derived.Deep.DeepCutAuto
import Derived.Deep.CutBlock
import Derived.Deep.RegionHeld3
import Derived.Laws.Rows
import Derived.Lib.AppendStr
import Derived.ArgAppend
import Derived.Laws.IdiomCopy
import Derived.OrdersHeld
import Derived.Laws.BitsLemmas
import Derived.RowKit
import Derived.Lib.BytesEntry
import Derived.Test.YtdgcgaibkiobjaaDoorWWords
import Derived.Test.YtdgcgaibkiobjaaDoorWLast
import Derived.Test.YtdgcgaibkiobjaaDoorWTab
import Derived.Test.YtdgcgaibkiobjaaDoorWFour
import Derived.Test.YtdgcgaibkiobjaaDoorWQPut
import Derived.Test.YtdgcgaibkiobjaaDoorWApart
import Derived.Test.YtdgcgaibkiobjaaDoorWArr
import Derived.Test.YtdgcgaibkiobjaaDoorWZeros
import Derived.Test.YtdgcgaibkiobjaaDoorWFoot
import Derived.Test.YtdgcgaibkiobjaaDoorWKept
import Derived.Test.YtdgcgaibkiobjaaDoorWShare
import Derived.Test.YtdgcgaibkiobjaaDoorWN
import Derived.Test.YtdgcgaibkiobjaaDoorWFootNe
import Derived.Test.YtdgcgaibkiobjaaDoorWAt
import Derived.Test.YtdgcgaibkiobjaaDoorWEqStruct
import Derived.Test.YtdgcgaibkiobjaaDoorWRepsOne
import Derived.Test.YtdgcgaibkiobjaaDoorWInv
import Derived.Test.YtdgcgaibkiobjaaDoorWInvWords
import Derived.Test.YtdgcgaibkiobjaaDoorWGuard
import Derived.Test.YtdgcgaibkiobjaaDoorWNEv
import Derived.Test.YtdgcgaibkiobjaaDoorWMore
import Derived.OwnWalkIn
import Derived.TacticsInMore
import Derived.LoopNIn
import Derived.LoopIn
import Derived.Maps.AppendAt
import Derived.Maps.Range
import Derived.StillTailTactics
import Derived.WalkSpells
import Derived.IntWalk
import Derived.Laws.BitsAllLaws
import Derived.WalkMore
import Derived.Laws.Cover3
import Derived.Test.YtdgcgaibkiobjaaDoorU64
import Derived.Test.YtdgcgaibkiobjaaDoorTt
import Derived.Test.YtdgcgaibkiobjaaDoorTf
import Derived.Laws.ResultCell
namespace Go.Proofs.YtdgcgaibkiobjaaDoor.Tk
open Go.RowKit Go.Proofs.YtdgcgaibkiobjaaDoorW.PrintWords Go.Proofs.YtdgcgaibkiobjaaDoorW.PrintLast Go.Proofs.YtdgcgaibkiobjaaDoorW.PrintMore
set_option linter.unusedVariables false
set_option linter.unusedSimpArgs false
theorem adv_c (x : Int) (w : World) (x0 : 0 ≤ x) (x1 : x < 18446744073709551616) : Calls Tryd.prog 28 #[.int .u64 x] w (NextPost (if x < 288230376151711744 then (if x / 17179869184 % 16777216 = 16777215 then 0 else x / 8 * 8 + 17179869184) else 0) (if x < 288230376151711744 then (if x / 17179869184 % 16777216 = 16777215 then 5 else 0) else 2) w) := by
  have CM := Aside0.mk (fun W => may_c x W x0 x1)
  have CU := Aside0.mk (fun W => epoch_c x W x0 x1)
  have CB := Aside0.mk (fun W => bare_c x W x0 x1)
  by_cases h : x < 288230376151711744
  · rw [if_pos h, if_pos h]
    rw [decide_eq_true h] at CM
    by_cases h2 : x / 17179869184 % 16777216 = 16777215
    · rw [if_pos h2, if_pos h2]
      rw [h2] at CU
      clear h h2
      go_enter Tryd.func28, Tryd.ntmps28
      go_wp2_with (first | (go_at_call 20; refine (CM.out _).mono ?_; rintro en w' ⟨rfl, rfl⟩) | (go_at_call 18; refine (CU.out _).mono ?_; rintro en w' ⟨rfl, rfl⟩))
      try rw [Exit.noGoto_ret]
      go_ret2
      exact ⟨rfl, rfl⟩
    · rw [if_neg h2, if_neg h2]
      have hw : IntKind.u64.wrap (x / 8 * 8 + 17179869184) = x / 8 * 8 + 17179869184 := by rw [IntKind.wrap_u64]; omega
      have g : (x / 17179869184 % 16777216 == 16777215) = false := beq_eq_false_iff_ne.mpr h2
      obtain ⟨y, hy⟩ : ∃ y, y = x / 8 * 8 := ⟨_, rfl⟩
      obtain ⟨z, hz⟩ : ∃ z, z = x / 17179869184 % 16777216 := ⟨_, rfl⟩
      rw [← hy] at hw CB ⊢
      rw [← hz] at CU g
      have HW := Aside0.mk hw
      clear h h2 hy hz hw
      go_enter Tryd.func28, Tryd.ntmps28
      go_wp2_with (first | (go_at_call 20; refine (CM.out _).mono ?_; rintro en w' ⟨rfl, rfl⟩) | (go_at_call 18; refine (CU.out _).mono ?_; rintro en w' ⟨rfl, rfl⟩) | (go_at_call 24; refine (CB.out _).mono ?_; rintro en w' ⟨rfl, rfl⟩))
      go_ret2
      exact ⟨congrArg (fun q => Ending.returned (.tuple #[.int .u64 q, .int .i64 0])) HW.out, rfl⟩
  · rw [if_neg h, if_neg h]
    rw [decide_eq_false h] at CM
    clear h
    go_enter Tryd.func28, Tryd.ntmps28
    go_wp2_with (first | (go_at_call 20; refine (CM.out _).mono ?_; rintro en w' ⟨rfl, rfl⟩))
    try rw [Exit.noGoto_ret]
    go_ret2
    exact ⟨rfl, rfl⟩
set_option maxHeartbeats 16000000 in
set_option maxRecDepth 100000 in
theorem next_walk (x : Int) (w : World) (x0 : 0 ≤ x) (x1 : x < 18446744073709551616) :
    Calls Tryd.prog 9 #[.int .u64 x] w fun en w' => en = .returned (.bool true) ∧ Below w.heap.size w w' := by
  have HB := Aside0.mk (Below.refl w.heap.size w)
  have CO := Aside0.mk (fun W => of_c x W x0 x1)
  have CN := Aside0.mk (fun W => next_may x W x0 x1)
  have CV := Aside0.mk (fun W => adv_c x W x0 x1)
  by_cases hm : x < 288230376151711744
  · rw [decide_eq_true hm] at CO
    simp only [if_pos hm] at CN CV
    have r1 : 0 ≤ E x ∧ E x ≤ 16777215 := by unfold E; omega
    have r2 : 0 ≤ Nu x ∧ Nu x ≤ 2147483647 := by unfold Nu; omega
    have r3 : x / 8 * 8 = E x * 17179869184 + Nu x * 8 := by unfold E Nu; omega
    have T2 := Aside0.mk (fun W => to_c (E x + 1) (Nu x) false false false W (by omega) (by omega) r2.1 (by omega))
    have T1 := Aside0.mk (fun W => to_c (E x) (Nu x + 1) false false false W r1.1 (by omega) (by omega) (by omega))
    obtain ⟨y1, hy1⟩ : ∃ y, y = x / 8 * 8 + 8 := ⟨_, rfl⟩
    obtain ⟨y2, hy2⟩ : ∃ y, y = x / 8 * 8 + 17179869184 := ⟨_, rfl⟩
    rw [show (E x + 1) * 17179869184 + Nu x * 8 + bi false 1 + bi false 2 + bi false 4 = y2 by rw [hy2, r3]; simp [bi]; omega] at T2
    rw [show E x * 17179869184 + (Nu x + 1) * 8 + bi false 1 + bi false 2 + bi false 4 = y1 by rw [hy1, r3]; simp [bi]; omega] at T1
    have p1 : 0 ≤ y1 ∧ y1 < 18446744073709551616 := by omega
    have p2 : 0 ≤ y2 ∧ y2 < 18446744073709551616 := by omega
    have L1 := Aside0.mk (fun W => less_c x y1 W x0 x1 p1.1 p1.2)
    have L2 := Aside0.mk (fun W => less_c y1 x W p1.1 p1.2 x0 x1)
    have L3 := Aside0.mk (fun W => less_c x y2 W x0 x1 p2.1 p2.2)
    have s1 : wrap64 (Nu x + 1) = Nu x + 1 := by unfold wrap64; omega
    have s2 : wrap64 (E x + 1) = E x + 1 := by unfold wrap64; omega
    rw [← hy1] at CN
    rw [← hy2] at CV
    have k1 : ¬ Nu x = 2147483647 → lt x y1 = true := fun hh => decide_eq_true (by unfold key; rw [hy1]; unfold Nu at hh; omega)
    have k2 : ¬ Nu x = 2147483647 → lt y1 x = false := fun hh => lt_not x y1 (k1 hh)
    have k3 : ¬ E x = 16777215 → lt x y2 = true := fun hh => decide_eq_true (by unfold key; rw [hy2]; unfold E at hh; omega)
    change Aside0 (∀ W, Calls _ _ _ W (NextPost (if Nu x = 2147483647 then 0 else y1) (if Nu x = 2147483647 then 5 else 0) W)) at CN
    change Aside0 (∀ W, Calls _ _ _ W (NextPost (if E x = 16777215 then 0 else y2) (if E x = 16777215 then 5 else 0) W)) at CV
    obtain ⟨ex, hex⟩ : ∃ z, z = E x := ⟨_, rfl⟩
    obtain ⟨nx, hnx⟩ : ∃ z, z = Nu x := ⟨_, rfl⟩
    obtain ⟨l, hl⟩ : ∃ z, z = bL x := ⟨_, rfl⟩
    obtain ⟨d, hd⟩ : ∃ z, z = bD x := ⟨_, rfl⟩
    obtain ⟨a, ha⟩ : ∃ z, z = bA x := ⟨_, rfl⟩
    rw [← hex, ← hnx, ← hl, ← hd, ← ha] at CO
    rw [← hex] at T1 T2 CV s2 k3 r1
    rw [← hnx] at T1 T2 CN s1 k1 k2 r2
    clear hex hnx hl hd ha hm r3 hy1 hy2 p1 p2 x0 x1
    by_cases hn : nx = 2147483647 <;> by_cases he : ex = 16777215
    all_goals
      (try (simp only [if_pos hn] at CN))
      (try (simp only [if_neg hn] at CN))
      (try (simp only [if_pos he] at CV))
      (try (simp only [if_neg he] at CV))
      (try (rw [k1 hn] at L1))
      (try (rw [k2 hn] at L2))
      (try (rw [k3 he] at L3))
      (try (have n1 : (nx == 2147483647) = true := beq_iff_eq.mpr hn))
      (try (have n1 : (nx == 2147483647) = false := beq_eq_false_iff_ne.mpr hn))
      (try (have m1 : (ex == 16777215) = true := beq_iff_eq.mpr he))
      (try (have m1 : (ex == 16777215) = false := beq_eq_false_iff_ne.mpr he))
      (try (have m2 : decide (ex < 16777215) = true := decide_eq_true (by omega)))
      (try (have m2 : decide (ex < 16777215) = false := decide_eq_false (by omega)))
      clear k1 k2 k3 r1 r2 hn he
      as_aux_lemma =>
        go_enter Tryd.func9, Tryd.ntmps9
        go_wp2_with (first | (go_at_call 10; refine (CO.out _).mono ?_; rintro en wa ⟨rfl, hb⟩; have z0 := (blk_cell (blk_new wa (.cells #[.int .i64 ex, .int .i64 nx, .bool l, .bool d, .bool a] 24)) 0).trans rfl; have z1 := (blk_cell (blk_new wa (.cells #[.int .i64 ex, .int .i64 nx, .bool l, .bool d, .bool a] 24)) 1).trans rfl; replace HB := Aside0.mk (below_step HB.out hb); clear hb) | (go_at_call 27; refine (CN.out _).mono ?_; rintro en wn ⟨rfl, rfl⟩) | (go_at_call 28; refine (CV.out _).mono ?_; rintro en wn ⟨rfl, rfl⟩) | (go_at_call 16; (with_reducible refine (T1.out _).mono ?_); rintro en wt ⟨rfl, hb⟩; (try replace z0 := pw_cell_below hb (pw_cell_below (below_alloc (Below.refl _ _) _) z0)); (try replace z1 := pw_cell_below hb (pw_cell_below (below_alloc (Below.refl _ _) _) z1)); replace HB := Aside0.mk (by first | exact below_step HB.out hb | exact below_step (below_alloc HB.out _) hb | exact below_step (below_alloc (below_alloc HB.out _) _) hb); clear hb) | (go_at_call 16; (with_reducible refine (T2.out _).mono ?_); rintro en wu ⟨rfl, hb⟩; replace HB := Aside0.mk (by first | exact below_step HB.out hb | exact below_step (below_alloc HB.out _) hb | exact below_step (below_alloc (below_alloc HB.out _) _) hb); clear hb) | (go_at_call 26; (with_reducible refine (L1.out _).mono ?_); rintro en wn ⟨rfl, rfl⟩) | (go_at_call 26; (with_reducible refine (L2.out _).mono ?_); rintro en wn ⟨rfl, rfl⟩) | (go_at_call 26; (with_reducible refine (L3.out _).mono ?_); rintro en wn ⟨rfl, rfl⟩) | (go_at_call 14; refine (known_walk _).mono ?_; rintro en wk ⟨rfl, hb⟩; replace HB := Aside0.mk (by first | exact below_step HB.out hb | exact below_step (below_alloc HB.out _) hb | exact below_step (below_alloc (below_alloc HB.out _) _) hb); clear hb))
        go_ret
        exact ⟨by first | rfl | simp, HB.out⟩
  · rw [decide_eq_false hm] at CO
    simp only [if_neg hm] at CN CV
    obtain ⟨ex, hex⟩ : ∃ z, z = E x := ⟨_, rfl⟩
    obtain ⟨nx, hnx⟩ : ∃ z, z = Nu x := ⟨_, rfl⟩
    obtain ⟨l, hl⟩ : ∃ z, z = bL x := ⟨_, rfl⟩
    obtain ⟨d, hd⟩ : ∃ z, z = bD x := ⟨_, rfl⟩
    obtain ⟨a, ha⟩ : ∃ z, z = bA x := ⟨_, rfl⟩
    rw [← hex, ← hnx, ← hl, ← hd, ← ha] at CO
    clear hex hnx hl hd ha hm x0 x1
    go_enter Tryd.func9, Tryd.ntmps9
    go_wp2_with (first | (go_at_call 10; refine (CO.out _).mono ?_; rintro en wa ⟨rfl, hb⟩; have z0 := (blk_cell (blk_new wa (.cells #[.int .i64 ex, .int .i64 nx, .bool l, .bool d, .bool a] 24)) 0).trans rfl; have z1 := (blk_cell (blk_new wa (.cells #[.int .i64 ex, .int .i64 nx, .bool l, .bool d, .bool a] 24)) 1).trans rfl; replace HB := Aside0.mk (below_step HB.out hb); clear hb) | (go_at_call 27; refine (CN.out _).mono ?_; rintro en wn ⟨rfl, rfl⟩) | (go_at_call 28; refine (CV.out _).mono ?_; rintro en wn ⟨rfl, rfl⟩) | (go_at_call 14; refine (known_walk _).mono ?_; rintro en wk ⟨rfl, hb⟩; replace HB := Aside0.mk (by first | exact below_step HB.out hb | exact below_step (below_alloc HB.out _) hb | exact below_step (below_alloc (below_alloc HB.out _) _) hb); clear hb))
    go_ret
    exact ⟨by first | rfl | simp, HB.out⟩
theorem next_wf (x : Int) (w : World) (hx : (Go.Lit.int .u64 x).wf = true) : Calls Tryd.prog 9 #[.int .u64 x] w fun en w' => en = .returned (.bool true) ∧ Below w.heap.size w w' := next_walk x w (u64_wf hx).1 (u64_wf hx).2
end Go.Proofs.YtdgcgaibkiobjaaDoor.Tk
