/- tid: what its functions answer, and the chapter's own rows. -/
import Derived.Test.YtdgcgaibkiobjaaDoorProg
import Derived.Below
import Derived.Deep.Draws
import Derived.Deep.AppendLies
import Derived.Maps.AppendAt
import Derived.OwnWalk
import Derived.Laws.BytesArg
import Derived.Laws.MakeOwn
import Derived.Laws.OwnMore
import Derived.Deep.OwnRows
import Derived.Tactics
import Derived.Lib.ConvBytes
import Derived.Laws.Slices
import Derived.WalkKit
import Derived.KernelRfl
import Derived.RowKit3
import Derived.Deep.LoopGhost
import Derived.Deep.QuietTactic
import Derived.BigQuiet
import Derived.WideLaws
import Derived.Deep.DeepCutAuto
import Derived.Deep.CutBlock
import Derived.Deep.RegionHeld3
import Derived.Laws.Rows
import Derived.Lib.AppendStr
import Derived.ArgAppend
import Derived.Laws.IdiomCopy
import Derived.OrdersHeld
import Derived.Laws.BitsLemmas
import Derived.RowKit
import Derived.Lib.BytesEntry
import Derived.Test.YtdgcgaibkiobjaaDoorWWords
import Derived.Test.YtdgcgaibkiobjaaDoorWLast
import Derived.Test.YtdgcgaibkiobjaaDoorWTab
import Derived.Test.YtdgcgaibkiobjaaDoorWFour
import Derived.Test.YtdgcgaibkiobjaaDoorWQPut
import Derived.Test.YtdgcgaibkiobjaaDoorWApart
import Derived.Test.YtdgcgaibkiobjaaDoorWArr
import Derived.Test.YtdgcgaibkiobjaaDoorWZeros
import Derived.Test.YtdgcgaibkiobjaaDoorWFoot
import Derived.Test.YtdgcgaibkiobjaaDoorWKept
import Derived.Test.YtdgcgaibkiobjaaDoorWShare
import Derived.Test.YtdgcgaibkiobjaaDoorWN
import Derived.Test.YtdgcgaibkiobjaaDoorWFootNe
import Derived.Test.YtdgcgaibkiobjaaDoorWAt
import Derived.Test.YtdgcgaibkiobjaaDoorWEqStruct
import Derived.Test.YtdgcgaibkiobjaaDoorWRepsOne
import Derived.Test.YtdgcgaibkiobjaaDoorWInv
import Derived.Test.YtdgcgaibkiobjaaDoorWInvWords
import Derived.Test.YtdgcgaibkiobjaaDoorWGuard
import Derived.Test.YtdgcgaibkiobjaaDoorWNEv
import Derived.Test.YtdgcgaibkiobjaaDoorWMore
import Derived.OwnWalkIn
import Derived.TacticsInMore
import Derived.LoopNIn
import Derived.LoopIn
import Derived.Maps.AppendAt
import Derived.Maps.Range
import Derived.StillTailTactics
import Derived.WalkSpells
import Derived.IntWalk
import Derived.Laws.BitsAllLaws
import Derived.WalkMore
import Derived.Laws.Cover3
import Derived.Test.YtdgcgaibkiobjaaDoorU64
import Derived.Test.YtdgcgaibkiobjaaDoorTt
import Derived.Test.YtdgcgaibkiobjaaDoorShelf
namespace Go.Proofs.YtdgcgaibkiobjaaDoor.Tk
open Go.RowKit Go.Proofs.YtdgcgaibkiobjaaDoorW.PrintWords Go.Proofs.YtdgcgaibkiobjaaDoorW.PrintLast Go.Proofs.YtdgcgaibkiobjaaDoorW.PrintMore
set_option linter.unusedVariables false
set_option linter.unusedSimpArgs false
section
variable (x : Int) (w : World) (x0 : 0 ≤ x) (x1 : x < 18446744073709551616)
include x0 x1
theorem may_c : Calls Tryd.prog 20 #[.int .u64 x] w fun en w' => en = .returned (.bool (decide (x < 288230376151711744))) ∧ w = w' := by
  have h : (x / 288230376151711744 == 0) = decide (x < 288230376151711744) := by
    by_cases h : x < 288230376151711744
    · rw [decide_eq_true h, beq_iff_eq]; omega
    · rw [decide_eq_false h, beq_eq_false_iff_ne]; omega
  have H := Aside0.mk h
  clear h
  go_enter Tryd.func20, Tryd.ntmps20
  go_wp2
  go_ret
  exact ⟨by rw [← H.out]; rfl, rfl⟩
theorem epoch_c : Calls Tryd.prog 18 #[.int .u64 x] w fun en w' => en = .returned (.int .i64 (x / 17179869184 % 16777216)) ∧ w = w' := by
  have h : wrap64 (Go.bits .and .u64 (x / 17179869184) 16777215) = x / 17179869184 % 16777216 := by
    have := U64.and_mask (x / 17179869184) (by omega) (by omega) 24 (by omega)
    simp at this
    rw [this]
    unfold wrap64
    omega
  have H := Aside0.mk h
  clear h
  go_enter Tryd.func18, Tryd.ntmps18
  go_wp2
  go_ret
  exact ⟨by rw [← H.out]; rfl, rfl⟩
theorem number_c : Calls Tryd.prog 19 #[.int .u64 x] w fun en w' => en = .returned (.int .i64 (x / 8 % 2147483648)) ∧ w = w' := by
  have h : wrap64 (Go.bits .and .u64 (x / 8) 2147483647) = x / 8 % 2147483648 := by
    have := U64.and_mask (x / 8) (by omega) (by omega) 31 (by omega)
    simp at this
    rw [this]
    unfold wrap64
    omega
  have H := Aside0.mk h
  clear h
  go_enter Tryd.func19, Tryd.ntmps19
  go_wp2
  go_ret
  exact ⟨by rw [← H.out]; rfl, rfl⟩
theorem bit_eq (i : Nat) (hi : i < 64) (m : Int) (hm : m = ((2 ^ i : Nat) : Int)) : (Go.bits .and .u64 x m == 0) = !decide (x / m % 2 = 1) := by
  have h := U64.and_bit x x0 x1 i hi
  rw [← hm] at h
  rw [h]
  have hp : 0 < m := by rw [hm]; exact_mod_cast Nat.two_pow_pos i
  have h2 : x / m % 2 = 0 ∨ x / m % 2 = 1 := by omega
  rcases h2 with h2 | h2 <;> rw [h2] <;> simp <;> omega
theorem locked_c : Calls Tryd.prog 21 #[.int .u64 x] w fun en w' => en = .returned (.bool (decide (x / 1 % 2 = 1))) ∧ w = w' := by
  have h := bit_eq x x0 x1 0 (by omega) 1 (by decide)
  have h2 : (Go.bits .and .u64 x 1 != 0) = decide (x / 1 % 2 = 1) := by unfold bne; rw [h, Bool.not_not]
  have H := Aside0.mk h
  have H2 := Aside0.mk h2
  clear h h2
  go_enter Tryd.func21, Tryd.ntmps21
  go_wp2
  go_ret
  exact ⟨by rw [← H2.out]; rfl, rfl⟩
theorem dead_c : Calls Tryd.prog 22 #[.int .u64 x] w fun en w' => en = .returned (.bool (decide (x / 2 % 2 = 1))) ∧ w = w' := by
  have h := bit_eq x x0 x1 1 (by omega) 2 (by decide)
  have h2 : (Go.bits .and .u64 x 2 != 0) = decide (x / 2 % 2 = 1) := by unfold bne; rw [h, Bool.not_not]
  have H := Aside0.mk h
  have H2 := Aside0.mk h2
  clear h h2
  go_enter Tryd.func22, Tryd.ntmps22
  go_wp2
  go_ret
  exact ⟨by rw [← H2.out]; rfl, rfl⟩
theorem absent_c : Calls Tryd.prog 23 #[.int .u64 x] w fun en w' => en = .returned (.bool (decide (x / 4 % 2 = 1))) ∧ w = w' := by
  have h := bit_eq x x0 x1 2 (by omega) 4 (by decide)
  have h2 : (Go.bits .and .u64 x 4 != 0) = decide (x / 4 % 2 = 1) := by unfold bne; rw [h, Bool.not_not]
  have H := Aside0.mk h
  have H2 := Aside0.mk h2
  clear h h2
  go_enter Tryd.func23, Tryd.ntmps23
  go_wp2
  go_ret
  exact ⟨by rw [← H2.out]; rfl, rfl⟩
theorem bare_c : Calls Tryd.prog 24 #[.int .u64 x] w fun en w' => en = .returned (.int .u64 (x / 8 * 8)) ∧ w = w' := by
  obtain ⟨n, rfl⟩ := Int.eq_ofNat_of_zero_le x0
  have h := with_bare n (by omega)
  rw [show ((n / 8 * 8 : Nat) : Int) = (n : Int) / 8 * 8 by omega] at h
  have H := Aside0.mk h
  clear h
  go_enter Tryd.func24, Tryd.ntmps24
  go_wp2
  go_ret
  exact ⟨by rw [← H.out]; rfl, rfl⟩
end
theorem word_ok (e n : Int) (w : World) (h1 : 0 ≤ e) (h2 : e ≤ 16777215) (h3 : 0 ≤ n) (h4 : n ≤ 2147483647) : Calls Tryd.prog 17 #[.int .i64 e, .int .i64 n] w fun en w' => en = .returned (.tuple #[.int .u64 (e * 17179869184 + n * 8), .int .i64 0]) ∧ w = w' := by
  obtain ⟨a, rfl⟩ := Int.eq_ofNat_of_zero_le h1
  obtain ⟨b, rfl⟩ := Int.eq_ofNat_of_zero_le h3
  have e1 : IntKind.u64.wrap (a : Int) = (a : Int) := by rw [IntKind.wrap_u64]; omega
  have e2 : IntKind.u64.wrap (b : Int) = (b : Int) := by rw [IntKind.wrap_u64]; omega
  have e3 : IntKind.u64.wrap ((a : Int) * 17179869184) = (a : Int) * 17179869184 := by rw [IntKind.wrap_u64]; omega
  have e4 : IntKind.u64.wrap ((b : Int) * 8) = (b : Int) * 8 := by rw [IntKind.wrap_u64]; omega
  have e5 : Go.bits .or .u64 ((a : Int) * 17179869184) ((b : Int) * 8) = (a : Int) * 17179869184 + (b : Int) * 8 := by
    have h := u64_or_nat (a * 17179869184) (b * 8) (by omega) (by omega)
    rw [nat_join 34 (a * 17179869184) (b * 8) (by omega) (by omega)] at h
    simpa using h
  have g1 : ¬ (a : Int) < 0 := by omega
  have g2 : ¬ (16777215 : Int) < a := by omega
  have g3 : ¬ (b : Int) < 0 := by omega
  have g4 : ¬ (2147483647 : Int) < b := by omega
  have k2 : a ≤ 16777215 := by omega
  have k4 : b ≤ 2147483647 := by omega
  have E5 := Aside0.mk e5
  clear h1 h2 h3 h4
  go_enter Tryd.func17, Tryd.ntmps17
  go_wp2
  go_ret2
  exact ⟨by rw [← E5.out]; rfl, rfl⟩
theorem word_bad (e n : Int) (w : World) (h : ¬ (0 ≤ e ∧ e ≤ 16777215 ∧ 0 ≤ n ∧ n ≤ 2147483647)) : Calls Tryd.prog 17 #[.int .i64 e, .int .i64 n] w fun en w' => en = .returned (.tuple #[.int .u64 0, .int .i64 2]) ∧ w = w' := by
  by_cases c1 : e < 0
  · go_enter Tryd.func17, Tryd.ntmps17
    go_wp2
    try rw [Exit.noGoto_ret]
    go_ret2
    exact ⟨rfl, rfl⟩
  · by_cases c2 : 16777215 < e
    · go_enter Tryd.func17, Tryd.ntmps17
      go_wp2
      try rw [Exit.noGoto_ret]
      go_ret2
      exact ⟨rfl, rfl⟩
    · by_cases c3 : n < 0
      · go_enter Tryd.func17, Tryd.ntmps17
        go_wp2
        try rw [Exit.noGoto_ret]
        go_ret2
        exact ⟨rfl, rfl⟩
      · have c4 : 2147483647 < n := by omega
        go_enter Tryd.func17, Tryd.ntmps17
        go_wp2
        try rw [Exit.noGoto_ret]
        go_ret2
        exact ⟨rfl, rfl⟩
end Go.Proofs.YtdgcgaibkiobjaaDoor.Tk
