/- tid: Text. -/
import Derived.Test.YtdgcgaibkiobjaaDoorProg
import Derived.Below
import Derived.Deep.Draws
import Derived.Deep.AppendLies
import Derived.Maps.AppendAt
import Derived.OwnWalk
import Derived.Laws.BytesArg
import Derived.Laws.MakeOwn
import Derived.Laws.OwnMore
import Derived.Deep.OwnRows
import Derived.Tactics
import Derived.Lib.ConvBytes
import Derived.Laws.Slices
import Derived.WalkKit
import Derived.KernelRfl
import Derived.RowKit3
import Derived.Deep.LoopGhost
import Derived.Deep.QuietTactic
import Derived.BigQuiet
import Derived.WideLaws
import Derived.Deep.DeepCutAuto
import Derived.Deep.CutBlock
import Derived.Deep.RegionHeld3
import Derived.Laws.Rows
import Derived.Lib.AppendStr
import Derived.ArgAppend
import Derived.Laws.IdiomCopy
import Derived.OrdersHeld
import Derived.Laws.BitsLemmas
import Derived.RowKit
import Derived.Lib.BytesEntry
import Derived.Test.YtdgcgaibkiobjaaDoorWWords
import Derived.Test.YtdgcgaibkiobjaaDoorWLast
import Derived.Test.YtdgcgaibkiobjaaDoorWTab
import Derived.Test.YtdgcgaibkiobjaaDoorWFour
import Derived.Test.YtdgcgaibkiobjaaDoorWQPut
import Derived.Test.YtdgcgaibkiobjaaDoorWApart
import Derived.Test.YtdgcgaibkiobjaaDoorWArr
import Derived.Test.YtdgcgaibkiobjaaDoorWZeros
import Derived.Test.YtdgcgaibkiobjaaDoorWFoot
import Derived.Test.YtdgcgaibkiobjaaDoorWKept
import Derived.Test.YtdgcgaibkiobjaaDoorWShare
import Derived.Test.YtdgcgaibkiobjaaDoorWN
import Derived.Test.YtdgcgaibkiobjaaDoorWFootNe
import Derived.Test.YtdgcgaibkiobjaaDoorWAt
import Derived.Test.YtdgcgaibkiobjaaDoorWEqStruct
import Derived.Test.YtdgcgaibkiobjaaDoorWRepsOne
import Derived.Test.YtdgcgaibkiobjaaDoorWInv
import Derived.Test.YtdgcgaibkiobjaaDoorWInvWords
import Derived.Test.YtdgcgaibkiobjaaDoorWGuard
import Derived.Test.YtdgcgaibkiobjaaDoorWNEv
import Derived.Test.YtdgcgaibkiobjaaDoorWMore
import Derived.OwnWalkIn
import Derived.TacticsInMore
import Derived.LoopNIn
import Derived.LoopIn
import Derived.Maps.AppendAt
import Derived.Maps.Range
import Derived.StillTailTactics
import Derived.WalkSpells
import Derived.IntWalk
import Derived.Laws.BitsAllLaws
import Derived.WalkMore
import Derived.Laws.Cover3
import Derived.Test.YtdgcgaibkiobjaaDoorU64
import Derived.Test.YtdgcgaibkiobjaaDoorTk
import Derived.Laws.RangeString
import Derived.LoopN
import Derived.Lib.OthersKept
import Derived.Deep.DeepMust
namespace Go.Proofs.YtdgcgaibkiobjaaDoor.Tk
open Go.RowKit Go.Proofs.YtdgcgaibkiobjaaDoorW.PrintWords Go.Proofs.YtdgcgaibkiobjaaDoorW.PrintLast Go.Proofs.YtdgcgaibkiobjaaDoorW.PrintMore
set_option linter.unusedVariables false
set_option linter.unusedSimpArgs false
def textOf (se sn : ByteArray) (l d a : Bool) : ByteArray :=
  match l, d, a with
  | false, false, false => se ++ ⟨#[46]⟩ ++ sn
  | true, false, false => se ++ ⟨#[46]⟩ ++ sn ++ ⟨#[76]⟩
  | false, true, false => se ++ ⟨#[46]⟩ ++ sn ++ ⟨#[68]⟩
  | true, true, false => se ++ ⟨#[46]⟩ ++ sn ++ ⟨#[76]⟩ ++ ⟨#[68]⟩
  | false, false, true => se ++ ⟨#[46]⟩ ++ sn ++ ⟨#[65]⟩
  | true, false, true => se ++ ⟨#[46]⟩ ++ sn ++ ⟨#[76]⟩ ++ ⟨#[65]⟩
  | false, true, true => se ++ ⟨#[46]⟩ ++ sn ++ ⟨#[68]⟩ ++ ⟨#[65]⟩
  | true, true, true => se ++ ⟨#[46]⟩ ++ sn ++ ⟨#[76]⟩ ++ ⟨#[68]⟩ ++ ⟨#[65]⟩
def TextPost (w : World) (t : ByteArray) (en : Ending) (w' : World) : Prop := en = .returned (.tuple #[.string t, .int .i64 0]) ∧ Below w.heap.size w w'
set_option maxHeartbeats 4000000 in
set_option maxRecDepth 100000 in
theorem text_walk (P : World → Prop) (hP : ∀ W W', P W → Below W.heap.size W W' → P W') (x e n : Int) (l d a : Bool) (se sn : ByteArray)
    (CM : ∀ W, Calls Tryd.prog 20 #[.int .u64 x] W fun en w' => en = .returned (.bool true) ∧ W = w')
    (CE : ∀ W, Calls Tryd.prog 18 #[.int .u64 x] W fun en w' => en = .returned (.int .i64 e) ∧ W = w')
    (CU : ∀ W, Calls Tryd.prog 19 #[.int .u64 x] W fun en w' => en = .returned (.int .i64 n) ∧ W = w')
    (FE : ∀ W, P W → Calls Tryd.prog 29 #[.int .i64 e, .int .i64 10] W fun en w' => en = .returned (.string se) ∧ Below W.heap.size W w')
    (FN : ∀ W, P W → Calls Tryd.prog 29 #[.int .i64 n, .int .i64 10] W fun en w' => en = .returned (.string sn) ∧ Below W.heap.size W w')
    (b0 : (Go.bits .and .u64 x 1 == 0) = !l) (b1 : (Go.bits .and .u64 x 2 == 0) = !d) (b2 : (Go.bits .and .u64 x 4 == 0) = !a)
    (hs : se.size ≤ 100) (hn : sn.size ≤ 100) (w : World) (hw : P w) :
    Calls Tryd.prog 11 #[.int .u64 x] w (TextPost w (textOf se sn l d a)) := by
  have HP := Aside0.mk hw
  have HB := Aside0.mk (Below.refl w.heap.size w)
  have AM := Aside0.mk CM
  have AE := Aside0.mk CE
  have AU := Aside0.mk CU
  have AFE := Aside0.mk FE
  have AFN := Aside0.mk FN
  have APP := Aside0.mk hP
  clear CM CE CU FE FN hw hP
  go_enter Tryd.func11, Tryd.ntmps11
  go_wp2_with (first | (go_at_call 20; refine (AM.out _).mono ?_; rintro en w' ⟨rfl, rfl⟩) | (go_at_call 18; refine (AE.out _).mono ?_; rintro en w' ⟨rfl, rfl⟩) | (go_at_call 19; refine (AU.out _).mono ?_; rintro en w' ⟨rfl, rfl⟩) | (go_at_call 29; (with_reducible refine (AFE.out _ HP.out).mono ?_); rintro en w1 ⟨rfl, hb⟩; replace HP := Aside0.mk (APP.out _ _ HP.out hb); replace HB := Aside0.mk (below_step HB.out hb); clear hb) | (go_at_call 29; (with_reducible refine (AFN.out _ HP.out).mono ?_); rintro en w2 ⟨rfl, hb⟩; replace HP := Aside0.mk (APP.out _ _ HP.out hb); replace HB := Aside0.mk (below_step HB.out hb); clear hb))
  have n0 : (Instr.next (.pointer (some ⟨w2.heap.size, 0, none⟩)) true 0).run Tryd.prog (w2.iter ⟨#[76, 68, 65]⟩ 0) = .ok (.tuple #[.bool true, .int .i64 0, .int .i32 76]) (w2.iter ⟨#[76, 68, 65]⟩ 1) := run_next_ascii (P := Tryd.prog) w2 ⟨#[76, 68, 65]⟩ 0 0 (by decide) (by decide)
  have n1 : (Instr.next (.pointer (some ⟨w2.heap.size, 0, none⟩)) true 0).run Tryd.prog (w2.iter ⟨#[76, 68, 65]⟩ 1) = .ok (.tuple #[.bool true, .int .i64 1, .int .i32 68]) (w2.iter ⟨#[76, 68, 65]⟩ 2) := run_next_ascii (P := Tryd.prog) w2 ⟨#[76, 68, 65]⟩ 1 0 (by decide) (by decide)
  have n2 : (Instr.next (.pointer (some ⟨w2.heap.size, 0, none⟩)) true 0).run Tryd.prog (w2.iter ⟨#[76, 68, 65]⟩ 2) = .ok (.tuple #[.bool true, .int .i64 2, .int .i32 65]) (w2.iter ⟨#[76, 68, 65]⟩ 3) := run_next_ascii (P := Tryd.prog) w2 ⟨#[76, 68, 65]⟩ 2 0 (by decide) (by decide)
  have n3 := run_next_end (P := Tryd.prog) w2 ⟨#[76, 68, 65]⟩ 3 0 (by decide)
  have u0 : Utf8.encode 76 = ⟨#[76]⟩ := by decide
  have u1 : Utf8.encode 68 = ⟨#[68]⟩ := by decide
  have u2 : Utf8.encode 65 = ⟨#[65]⟩ := by decide
  have v0 : (Utf8.encode 76).size = 1 := by decide
  have v1 : (Utf8.encode 68).size = 1 := by decide
  have v2 : (Utf8.encode 65).size = 1 := by decide
  have c1 : (9223372036854775807 < se.size + 1 + sn.size + 1) = False := by simp; omega
  have c2 : (9223372036854775807 < se.size + 1 + sn.size + 1 + 1) = False := by simp; omega
  have c3 : (9223372036854775807 < se.size + 1 + sn.size + 1 + 1 + 1) = False := by simp; omega
  refine wp_loop_rounds 4 ?_
  cases l <;> cases d <;> cases a <;> simp only [Bool.not_false, Bool.not_true] at b0 b1 b2
  all_goals
    rw [rounds_succ]
    go_wp2
    rw [rounds_succ]
    go_wp2
    rw [rounds_succ]
    go_wp2
    rw [rounds_succ]
    go_wp2
    go_ret2
    exact ⟨rfl, below_alloc HB.out _⟩
def ParsePost (w : World) (x : Int) (er : Int) (en : Ending) (w' : World) : Prop := en = .returned (.tuple #[.int .u64 x, .int .i64 er]) ∧ Below w.heap.size w w'
def PickPost (w : World) (y : Int) (t s : ByteArray) (en : Ending) (w' : World) : Prop := en = .returned (.tuple #[.int .u64 (if t.toList = s.toList then y else 0), .int .i64 (if t.toList = s.toList then 0 else 4)]) ∧ Below w.heap.size w w'
/-- What of Parse's callees is known, at one text. -/
structure Calld (P : World → Prop) (s head pa pb : ByteArray) (fnd : Bool) (e n : Int) : Prop where
  hP : ∀ W W', P W → Below W.heap.size W W' → P W'
  CT : ∀ W, P W → Calls Tryd.prog 31 #[.string s, .string ⟨#[76, 68, 65]⟩] W fun en w' => en = .returned (.string head) ∧ Below W.heap.size W w'
  CC : ∀ W, P W → Calls Tryd.prog 32 #[.string head, .string ⟨#[46]⟩] W fun en w' => en = .returned (.tuple #[.string pa, .string pb, .bool fnd]) ∧ Below W.heap.size W w'
  PE : ∀ W, P W → Calls Tryd.prog 33 #[.string pa, .int .i64 10, .int .i64 32] W fun en w' => (∃ v, en = .returned (.tuple #[.int .i64 e, v])) ∧ Below W.heap.size W w'
  PN : ∀ W, P W → Calls Tryd.prog 33 #[.string pb, .int .i64 10, .int .i64 64] W fun en w' => (∃ v, en = .returned (.tuple #[.int .i64 n, v])) ∧ Below W.heap.size W w'
set_option maxHeartbeats 4000000 in
set_option maxRecDepth 100000 in
/-- Numbers that may not be. -/
theorem parse_bad (P : World → Prop) (s head pa pb : ByteArray) (fnd : Bool) (e n : Int) (H : Calld P s head pa pb fnd e n)
    (CW : ∀ W, Calls Tryd.prog 17 #[.int .i64 e, .int .i64 n] W fun en w' => en = .returned (.tuple #[.int .u64 0, .int .i64 2]) ∧ W = w') (w : World) (hw : P w) :
    Calls Tryd.prog 13 #[.string s] w (ParsePost w 0 4) := by
  have HP := Aside0.mk hw
  have HB := Aside0.mk (Below.refl w.heap.size w)
  have HH := Aside0.mk H
  have AW := Aside0.mk CW
  clear CW H hw
  go_enter Tryd.func13, Tryd.ntmps13
  go_wp2_with (first | (go_at_call 31; refine (HH.out.CT _ HP.out).mono ?_; rintro en w1 ⟨rfl, hb⟩; replace HP := Aside0.mk (HH.out.hP _ _ HP.out hb); replace HB := Aside0.mk (below_step HB.out hb); clear hb) | (go_at_call 32; refine (HH.out.CC _ HP.out).mono ?_; rintro en w2 ⟨rfl, hb⟩; replace HP := Aside0.mk (HH.out.hP _ _ HP.out hb); replace HB := Aside0.mk (below_step HB.out hb); clear hb) | (go_at_call 33; (with_reducible refine (HH.out.PE _ HP.out).mono ?_); rintro en w3 ⟨⟨v3, rfl⟩, hb⟩; replace HP := Aside0.mk (HH.out.hP _ _ HP.out hb); replace HB := Aside0.mk (below_step HB.out hb); clear hb) | (go_at_call 33; (with_reducible refine (HH.out.PN _ HP.out).mono ?_); rintro en w4 ⟨⟨v4, rfl⟩, hb⟩; replace HP := Aside0.mk (HH.out.hP _ _ HP.out hb); replace HB := Aside0.mk (below_step HB.out hb); clear hb) | (go_at_call 17; refine (AW.out _).mono ?_; rintro en w5 ⟨rfl, rfl⟩))
  try rw [Exit.noGoto_ret]
  go_ret2
  exact ⟨rfl, HB.out⟩
set_option maxHeartbeats 8000000 in
set_option maxRecDepth 100000 in
theorem parse_walk (P : World → Prop) (s head pa pb tail t : ByteArray) (fnd : Bool) (e n x y : Int) (l d a : Bool) (i0 i1 i2 : Int) (H : Calld P s head pa pb fnd e n)
    (CW : ∀ W, Calls Tryd.prog 17 #[.int .i64 e, .int .i64 n] W fun en w' => en = .returned (.tuple #[.int .u64 x, .int .i64 0]) ∧ W = w')
    (hsl : ∀ W : World, (Instr.slice 9 (.string s) (some (.int .i64 (head.size : Int))) none none).run Tryd.prog W = .ok (.string tail) W)
    (IX : ∀ W, Calls Tryd.prog 34 #[.string tail, .int .u8 76] W fun en w' => en = .returned (.int .i64 i0) ∧ W = w')
    (IY : ∀ W, Calls Tryd.prog 34 #[.string tail, .int .u8 68] W fun en w' => en = .returned (.int .i64 i1) ∧ W = w')
    (IZ : ∀ W, Calls Tryd.prog 34 #[.string tail, .int .u8 65] W fun en w' => en = .returned (.int .i64 i2) ∧ W = w')
    (h0 : decide (0 ≤ i0) = l) (h1 : decide (0 ≤ i1) = d) (h2 : decide (0 ≤ i2) = a)
    (hy : with_g x l d a = y) (hx : x % 8 = 0) (hx0 : 0 ≤ x) (hx1 : x < 18446744073709551616)
    (CX : ∀ W, P W → Calls Tryd.prog 11 #[.int .u64 y] W (TextPost W t)) (w : World) (hw : P w) :
    Calls Tryd.prog 13 #[.string s] w (PickPost w y t s) := by
  have HP := Aside0.mk hw
  have HB := Aside0.mk (Below.refl w.heap.size w)
  have HH := Aside0.mk H
  have AW := Aside0.mk CW
  have AX := Aside0.mk IX
  have AY := Aside0.mk IY
  have AZ := Aside0.mk IZ
  have AT := Aside0.mk CX
  have HY := Aside0.mk hy
  have HX := Aside0.mk hx
  have HX0 := Aside0.mk hx0
  have HX1 := Aside0.mk hx1
  clear CW H hw IX IY IZ CX hy hx hx0 hx1
  go_enter Tryd.func13, Tryd.ntmps13
  go_wp2_with (first | (go_at_call 31; refine (HH.out.CT _ HP.out).mono ?_; rintro en w1 ⟨rfl, hb⟩; replace HP := Aside0.mk (HH.out.hP _ _ HP.out hb); replace HB := Aside0.mk (below_step HB.out hb); clear hb) | (go_at_call 32; refine (HH.out.CC _ HP.out).mono ?_; rintro en w2 ⟨rfl, hb⟩; replace HP := Aside0.mk (HH.out.hP _ _ HP.out hb); replace HB := Aside0.mk (below_step HB.out hb); clear hb) | (go_at_call 33; (with_reducible refine (HH.out.PE _ HP.out).mono ?_); rintro en w3 ⟨⟨v3, rfl⟩, hb⟩; replace HP := Aside0.mk (HH.out.hP _ _ HP.out hb); replace HB := Aside0.mk (below_step HB.out hb); clear hb) | (go_at_call 33; (with_reducible refine (HH.out.PN _ HP.out).mono ?_); rintro en w4 ⟨⟨v4, rfl⟩, hb⟩; replace HP := Aside0.mk (HH.out.hP _ _ HP.out hb); replace HB := Aside0.mk (below_step HB.out hb); clear hb) | (go_at_call 17; refine (AW.out _).mono ?_; rintro en w5 ⟨rfl, rfl⟩))
  have n0 : (Instr.next (.pointer (some ⟨w4.heap.size, 0, none⟩)) true 0).run Tryd.prog (w4.iter ⟨#[76, 68, 65]⟩ 0) = .ok (.tuple #[.bool true, .int .i64 0, .int .i32 76]) (w4.iter ⟨#[76, 68, 65]⟩ 1) := run_next_ascii (P := Tryd.prog) w4 ⟨#[76, 68, 65]⟩ 0 0 (by decide) (by decide)
  have n1 : (Instr.next (.pointer (some ⟨w4.heap.size, 0, none⟩)) true 0).run Tryd.prog (w4.iter ⟨#[76, 68, 65]⟩ 1) = .ok (.tuple #[.bool true, .int .i64 1, .int .i32 68]) (w4.iter ⟨#[76, 68, 65]⟩ 2) := run_next_ascii (P := Tryd.prog) w4 ⟨#[76, 68, 65]⟩ 1 0 (by decide) (by decide)
  have n2 : (Instr.next (.pointer (some ⟨w4.heap.size, 0, none⟩)) true 0).run Tryd.prog (w4.iter ⟨#[76, 68, 65]⟩ 2) = .ok (.tuple #[.bool true, .int .i64 2, .int .i32 65]) (w4.iter ⟨#[76, 68, 65]⟩ 3) := run_next_ascii (P := Tryd.prog) w4 ⟨#[76, 68, 65]⟩ 2 0 (by decide) (by decide)
  have n3 := run_next_end (P := Tryd.prog) w4 ⟨#[76, 68, 65]⟩ 3 0 (by decide)
  obtain ⟨x0, x1, x2, x3, e0, o1, o2, o3, e3⟩ : ∃ x0 x1 x2 x3 : Int, x = x0 ∧ (if l = true then Go.bits .or .u64 x0 1 = x1 else x1 = x0) ∧ (if d = true then Go.bits .or .u64 x1 2 = x2 else x2 = x1) ∧ (if a = true then Go.bits .or .u64 x2 4 = x3 else x3 = x2) ∧ y = x3 := by
    obtain ⟨q, rfl⟩ : ∃ q : Nat, x = ((8 * q + 0 : Nat) : Int) := ⟨(x / 8).toNat, by have := HX.out; have := HX0.out; omega⟩
    have hq2 : q < 2305843009213693952 := by have := HX1.out; omega
    refine ⟨((8 * q + with_low l d a 0 : Nat) : Int), ((8 * q + with_low l d a 1 : Nat) : Int), ((8 * q + with_low l d a 2 : Nat) : Int), ((8 * q + with_low l d a 3 : Nat) : Int), rfl, ?_, ?_, ?_, ?_⟩
    · have hh := with_or_ q 0 0 hq2 (by omega) (by omega)
      cases l
      · rfl
      · exact hh
    · have hh := with_or_ q (if l = true then 1 else 0) 1 hq2 (by omega) (by split <;> omega)
      cases d
      · exact congrArg (fun z : Nat => ((8 * q + z : Nat) : Int)) (by cases l <;> rfl)
      · exact hh
    · have hh := with_or_ q ((if l = true then 1 else 0) + (if d = true then 2 else 0)) 2 hq2 (by omega) (by split <;> split <;> omega)
      cases a
      · exact congrArg (fun z : Nat => ((8 * q + z : Nat) : Int)) (by cases l <;> cases d <;> rfl)
      · exact hh
    · rw [← HY.out]
      unfold with_g with_low
      cases l <;> cases d <;> cases a <;> simp <;> omega
  subst e0 e3
  have hbi : Below w4.heap.size w4 (w4.iter ⟨#[76, 68, 65]⟩ 3) := below_alloc (Below.refl _ _) _
  replace HP := Aside0.mk (HH.out.hP _ _ HP.out hbi)
  replace HB := Aside0.mk (below_step HB.out hbi)
  clear hbi
  have hts : ((t.toList == s.toList) = true ∧ t.toList = s.toList) ∨ ((t.toList == s.toList) = false ∧ ¬ t.toList = s.toList) := by
    by_cases h : t.toList = s.toList
    · exact Or.inl ⟨beq_iff_eq.mpr h, h⟩
    · exact Or.inr ⟨beq_eq_false_iff_ne.mpr h, h⟩
  refine wp_loop_rounds 4 ?_
  rcases hts with ⟨q1, q2⟩ | ⟨q1, q2⟩
  · have Q2 := Aside0.mk q2
    clear q2
    cases l <;> cases d <;> cases a <;> simp only [if_true, Bool.false_eq_true, if_false] at o1 o2 o3
    all_goals
      try subst o1
      try subst o2
      try subst o3
      rw [rounds_succ]
      go_wp2_with (first | (go_at_call 34; (with_reducible refine (AX.out _).mono ?_); rintro en w5 ⟨rfl, rfl⟩) | (go_at_call 34; (with_reducible refine (AY.out _).mono ?_); rintro en w5 ⟨rfl, rfl⟩) | (go_at_call 34; (with_reducible refine (AZ.out _).mono ?_); rintro en w5 ⟨rfl, rfl⟩))
      rw [rounds_succ]
      go_wp2_with (first | (go_at_call 34; (with_reducible refine (AX.out _).mono ?_); rintro en w5 ⟨rfl, rfl⟩) | (go_at_call 34; (with_reducible refine (AY.out _).mono ?_); rintro en w5 ⟨rfl, rfl⟩) | (go_at_call 34; (with_reducible refine (AZ.out _).mono ?_); rintro en w5 ⟨rfl, rfl⟩))
      rw [rounds_succ]
      go_wp2_with (first | (go_at_call 34; (with_reducible refine (AX.out _).mono ?_); rintro en w5 ⟨rfl, rfl⟩) | (go_at_call 34; (with_reducible refine (AY.out _).mono ?_); rintro en w5 ⟨rfl, rfl⟩) | (go_at_call 34; (with_reducible refine (AZ.out _).mono ?_); rintro en w5 ⟨rfl, rfl⟩))
      rw [rounds_succ]
      go_wp2_with (first | (go_at_call 11; (with_reducible refine (AT.out _ HP.out).mono ?_); rintro en w6 ⟨rfl, hb⟩; replace HB := Aside0.mk (below_step HB.out hb); clear hb))
      try rw [Exit.noGoto_ret]
      go_ret2
      exact ⟨by rw [if_pos Q2.out, if_pos Q2.out]; rfl, HB.out⟩
  · have Q2 := Aside0.mk q2
    clear q2
    cases l <;> cases d <;> cases a <;> simp only [if_true, Bool.false_eq_true, if_false] at o1 o2 o3
    all_goals
      try subst o1
      try subst o2
      try subst o3
      rw [rounds_succ]
      go_wp2_with (first | (go_at_call 34; (with_reducible refine (AX.out _).mono ?_); rintro en w5 ⟨rfl, rfl⟩) | (go_at_call 34; (with_reducible refine (AY.out _).mono ?_); rintro en w5 ⟨rfl, rfl⟩) | (go_at_call 34; (with_reducible refine (AZ.out _).mono ?_); rintro en w5 ⟨rfl, rfl⟩))
      rw [rounds_succ]
      go_wp2_with (first | (go_at_call 34; (with_reducible refine (AX.out _).mono ?_); rintro en w5 ⟨rfl, rfl⟩) | (go_at_call 34; (with_reducible refine (AY.out _).mono ?_); rintro en w5 ⟨rfl, rfl⟩) | (go_at_call 34; (with_reducible refine (AZ.out _).mono ?_); rintro en w5 ⟨rfl, rfl⟩))
      rw [rounds_succ]
      go_wp2_with (first | (go_at_call 34; (with_reducible refine (AX.out _).mono ?_); rintro en w5 ⟨rfl, rfl⟩) | (go_at_call 34; (with_reducible refine (AY.out _).mono ?_); rintro en w5 ⟨rfl, rfl⟩) | (go_at_call 34; (with_reducible refine (AZ.out _).mono ?_); rintro en w5 ⟨rfl, rfl⟩))
      rw [rounds_succ]
      go_wp2_with (first | (go_at_call 11; (with_reducible refine (AT.out _ HP.out).mono ?_); rintro en w6 ⟨rfl, hb⟩; replace HB := Aside0.mk (below_step HB.out hb); clear hb))
      try rw [Exit.noGoto_ret]
      go_ret2
      exact ⟨by rw [if_neg Q2.out, if_neg Q2.out]; rfl, HB.out⟩
end Go.Proofs.YtdgcgaibkiobjaaDoor.Tk
