/- tid: With, Text and Parse at the chapter's own rows, known. -/
import Derived.Test.YtdgcgaibkiobjaaDoorProg
import Derived.Below
import Derived.Deep.Draws
import Derived.Deep.AppendLies
import Derived.Maps.AppendAt
import Derived.OwnWalk
import Derived.Laws.BytesArg
import Derived.Laws.MakeOwn
import Derived.Laws.OwnMore
import Derived.Deep.OwnRows
import Derived.Tactics
import Derived.Lib.ConvBytes
import Derived.Laws.Slices
import Derived.WalkKit
import Derived.KernelRfl
import Derived.RowKit3
import Derived.Deep.LoopGhost
import Derived.Deep.QuietTactic
import Derived.BigQuiet
import Derived.WideLaws
import Derived.Deep.DeepCutAuto
import Derived.Deep.CutBlock
import Derived.Deep.RegionHeld3
import Derived.Laws.Rows
import Derived.Lib.AppendStr
import Derived.ArgAppend
import Derived.Laws.IdiomCopy
import Derived.OrdersHeld
import Derived.Laws.BitsLemmas
import Derived.RowKit
import Derived.Lib.BytesEntry
import Derived.Test.YtdgcgaibkiobjaaDoorWWords
import Derived.Test.YtdgcgaibkiobjaaDoorWLast
import Derived.Test.YtdgcgaibkiobjaaDoorWTab
import Derived.Test.YtdgcgaibkiobjaaDoorWFour
import Derived.Test.YtdgcgaibkiobjaaDoorWQPut
import Derived.Test.YtdgcgaibkiobjaaDoorWApart
import Derived.Test.YtdgcgaibkiobjaaDoorWArr
import Derived.Test.YtdgcgaibkiobjaaDoorWZeros
import Derived.Test.YtdgcgaibkiobjaaDoorWFoot
import Derived.Test.YtdgcgaibkiobjaaDoorWKept
import Derived.Test.YtdgcgaibkiobjaaDoorWShare
import Derived.Test.YtdgcgaibkiobjaaDoorWN
import Derived.Test.YtdgcgaibkiobjaaDoorWFootNe
import Derived.Test.YtdgcgaibkiobjaaDoorWAt
import Derived.Test.YtdgcgaibkiobjaaDoorWEqStruct
import Derived.Test.YtdgcgaibkiobjaaDoorWRepsOne
import Derived.Test.YtdgcgaibkiobjaaDoorWInv
import Derived.Test.YtdgcgaibkiobjaaDoorWInvWords
import Derived.Test.YtdgcgaibkiobjaaDoorWGuard
import Derived.Test.YtdgcgaibkiobjaaDoorWNEv
import Derived.Test.YtdgcgaibkiobjaaDoorWMore
import Derived.OwnWalkIn
import Derived.TacticsInMore
import Derived.LoopNIn
import Derived.LoopIn
import Derived.Maps.AppendAt
import Derived.Maps.Range
import Derived.StillTailTactics
import Derived.WalkSpells
import Derived.IntWalk
import Derived.Laws.BitsAllLaws
import Derived.WalkMore
import Derived.Laws.Cover3
import Derived.Test.YtdgcgaibkiobjaaDoorU64
namespace Go.Proofs.YtdgcgaibkiobjaaDoor.Tk
open Go.RowKit Go.Proofs.YtdgcgaibkiobjaaDoorW.PrintWords Go.Proofs.YtdgcgaibkiobjaaDoorW.PrintLast Go.Proofs.YtdgcgaibkiobjaaDoorW.PrintMore
set_option linter.unusedVariables false
set_option linter.unusedSimpArgs false
/-- The word with just those bits. -/
def with_g (a0 : Int) (a1 a2 a3 : Bool) : Int := a0 / 8 * 8 + (if a1 = true then 1 else 0) + (if a2 = true then 2 else 0) + (if a3 = true then 4 else 0)
def with_f (a0 : Int) (a1 a2 a3 : Bool) : Option Int := if 0 ≤ a0 ∧ a0 < 18446744073709551616 then some (with_g a0 a1 a2 a3) else none
theorem with_bare (x : Nat) (h : x < 18446744073709551616) : Go.bits .andNot .u64 (x : Int) 7 = ((x / 8 * 8 : Nat) : Int) := by
  have := Go.Proofs.YtdgcgaibkiobjaaDoor.U64.andNot_field' (x : Int) (by omega) (by omega) 0 3 61 rfl
  simp at this
  rw [this]
  omega
theorem with_or_ (q r : Nat) (j : Nat) (hq : q < 2305843009213693952) (hj : j < 3) (hr : r < 2 ^ j) : Go.bits .or .u64 ((8 * q + r : Nat) : Int) ((2 ^ j : Nat) : Int) = ((8 * q + (r + 2 ^ j) : Nat) : Int) := by
  have h2 : 2 ^ j ≤ 4 := by
    have := Nat.pow_le_pow_right (n := 2) (by decide) (show j ≤ 2 by omega)
    simpa using this
  rw [u64_or_nat _ _ (by omega) (by omega)]
  have h8 : (8 * q) ||| r = 8 * q + r := nat_join 3 (8 * q) r (by omega) (by omega)
  have h9 : (8 * q) ||| (r + 2 ^ j) = 8 * q + (r + 2 ^ j) := nat_join 3 (8 * q) (r + 2 ^ j) (by omega) (by omega)
  have h10 : 2 ^ j ||| r = 2 ^ j + r := nat_join j (2 ^ j) r (Nat.mod_self _) hr
  rw [← h8, ← h9, Nat.or_assoc, Nat.or_comm r, h10, Nat.add_comm r]
def with_low (a1 a2 a3 : Bool) : Nat → Nat
  | 0 => 0
  | 1 => if a1 = true then 1 else 0
  | 2 => (if a1 = true then 1 else 0) + (if a2 = true then 2 else 0)
  | _ => (if a1 = true then 1 else 0) + (if a2 = true then 2 else 0) + (if a3 = true then 4 else 0)
theorem idx3 (x y z : Bool) (W : World) : (Instr.index 44 (.agg #[.bool x, .bool y, .bool z]) (.int .i64 0)).run Tryd.prog W = .ok (.bool x) W ∧ (Instr.index 44 (.agg #[.bool x, .bool y, .bool z]) (.int .i64 1)).run Tryd.prog W = .ok (.bool y) W ∧ (Instr.index 44 (.agg #[.bool x, .bool y, .bool z]) (.int .i64 2)).run Tryd.prog W = .ok (.bool z) W := by
  refine ⟨?_, ?_, ?_⟩ <;> simp [Instr.index, run_underlying Tryd.underlying44, asIntOf, go_sem] <;> kernel_rfl
set_option maxHeartbeats 4000000 in
set_option maxRecDepth 100000 in
theorem with_calls (a0 : Int) (a1 a2 a3 : Bool) (r : Int) (w : World) (h : with_f a0 a1 a2 a3 = some r) :
    Calls Tryd.prog 25 #[.int .u64 a0, .bool a1, .bool a2, .bool a3] w fun e w' => e = .returned (.int .u64 r) ∧ Drawn0 w w' := by
  unfold with_f at h
  split at h
  · rename_i hc
    obtain rfl := Option.some.inj h
    obtain ⟨x, rfl⟩ := Int.eq_ofNat_of_zero_le hc.1
    have hb := with_bare x (by omega)
    obtain ⟨q, hq⟩ : ∃ q, q = x / 8 := ⟨_, rfl⟩
    have hq2 : q < 2305843009213693952 := by omega
    obtain ⟨acc, hacc⟩ : ∃ acc : Nat → Int, acc = fun j => ((8 * q + with_low a1 a2 a3 j : Nat) : Int) := ⟨_, rfl⟩
    have hg : with_g (x : Int) a1 a2 a3 = acc 3 := by
      rw [hacc]
      unfold with_g with_low
      cases a1 <;> cases a2 <;> cases a3 <;> simp <;> omega
    rw [hg]
    have hb0 : Go.bits .andNot .u64 (x : Int) 7 = acc 0 := by rw [hb, hacc, hq]; simp [with_low]; omega
    have o1 : if a1 = true then Go.bits .or .u64 (acc 0) 1 = acc 1 else acc 1 = acc 0 := by
      have hh := with_or_ q 0 0 hq2 (by omega) (by omega)
      rw [hacc]
      cases a1
      · rfl
      · exact hh
    have o2 : if a2 = true then Go.bits .or .u64 (acc 1) 2 = acc 2 else acc 2 = acc 1 := by
      have hh := with_or_ q (if a1 = true then 1 else 0) 1 hq2 (by omega) (by split <;> omega)
      rw [hacc]
      cases a2
      · exact congrArg (fun z : Nat => ((8 * q + z : Nat) : Int)) (by cases a1 <;> rfl)
      · exact hh
    have o3 : if a3 = true then Go.bits .or .u64 (acc 2) 4 = acc 3 else acc 3 = acc 2 := by
      have hh := with_or_ q ((if a1 = true then 1 else 0) + (if a2 = true then 2 else 0)) 2 hq2 (by omega) (by split <;> split <;> omega)
      rw [hacc]
      cases a3
      · exact congrArg (fun z : Nat => ((8 * q + z : Nat) : Int)) (by cases a1 <;> cases a2 <;> rfl)
      · exact hh
    have O1 := Aside0.mk o1
    have O2 := Aside0.mk o2
    have O3 := Aside0.mk o3
    have hi0 := fun W : World => (idx3 a1 a2 a3 W).1
    have hi1 := fun W : World => (idx3 a1 a2 a3 W).2.1
    have hi2 := fun W : World => (idx3 a1 a2 a3 W).2.2
    clear h hc hg hq hb hacc hq2 o1 o2 o3
    go_enter Tryd.func25, Tryd.ntmps25
    go_wp2
    go_loop [0, 9, 10, 17] (fun z _ _ i => ∃ j : Nat, j ≤ 3 ∧ i = .int .i64 (j : Int) ∧ z = .int .u64 (acc j)) (fun _ _ _ i => 3 - (intOf i).toNat)
    case atStart => exact ⟨0, by omega, rfl, rfl⟩
    case round =>
      obtain ⟨j, hj, rfl, rfl⟩ := hrel
      obtain rfl | rfl | rfl | rfl : j = 0 ∨ j = 1 ∨ j = 2 ∨ j = 3 := by omega
      · cases a1
        · have e : acc 1 = acc 0 := O1.out
          have E := Aside0.mk e
          clear e
          go_wp2
          exact ⟨⟨1, by omega, rfl, by rw [E.out]⟩, by simp [intOf]⟩
        · have e : Go.bits .or .u64 (acc 0) 1 = acc 1 := O1.out
          go_wp2
          exact ⟨⟨1, by omega, rfl, rfl⟩, by simp [intOf]⟩
      · cases a2
        · have e : acc 2 = acc 1 := O2.out
          have E := Aside0.mk e
          clear e
          go_wp2
          exact ⟨⟨2, by omega, rfl, by rw [E.out]⟩, by simp [intOf]⟩
        · have e : Go.bits .or .u64 (acc 1) 2 = acc 2 := O2.out
          go_wp2
          exact ⟨⟨2, by omega, rfl, rfl⟩, by simp [intOf]⟩
      · cases a3
        · have e : acc 3 = acc 2 := O3.out
          have E := Aside0.mk e
          clear e
          go_wp2
          exact ⟨⟨3, by omega, rfl, by rw [E.out]⟩, by simp [intOf]⟩
        · have e : Go.bits .or .u64 (acc 2) 4 = acc 3 := O3.out
          go_wp2
          exact ⟨⟨3, by omega, rfl, rfl⟩, by simp [intOf]⟩
      · go_wp2
        go_ret
        exact ⟨rfl, by first | exact Drawn0.refl _ | exact ⟨⟨_, rfl⟩⟩⟩
  · cases h
end Go.Proofs.YtdgcgaibkiobjaaDoor.Tk
