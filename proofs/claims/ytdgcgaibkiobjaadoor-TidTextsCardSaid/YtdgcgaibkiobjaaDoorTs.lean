/- tid: the law TidTexts. -/
import Derived.Test.YtdgcgaibkiobjaaDoorProg
import Derived.Below
import Derived.Deep.Draws
import Derived.Deep.AppendLies
import Derived.Maps.AppendAt
import Derived.OwnWalk
import Derived.Laws.BytesArg
import Derived.Laws.MakeOwn
import Derived.Laws.OwnMore
import Derived.Deep.OwnRows
import Derived.Tactics
import Derived.Lib.ConvBytes
import Derived.Laws.Slices
import Derived.WalkKit
import Derived.KernelRfl
import Derived.RowKit3
import Derived.Deep.LoopGhost
import Derived.Deep.QuietTactic
import Derived.BigQuiet
import Derived.WideLaws
import Derived.Deep.DeepCutAuto
import Derived.Deep.CutBlock
import Derived.Deep.RegionHeld3
import Derived.Laws.Rows
import Derived.Lib.AppendStr
import Derived.ArgAppend
import Derived.Laws.IdiomCopy
import Derived.OrdersHeld
import Derived.Laws.BitsLemmas
import Derived.RowKit
import Derived.Lib.BytesEntry
import Derived.Test.YtdgcgaibkiobjaaDoorWWords
import Derived.Test.YtdgcgaibkiobjaaDoorWLast
import Derived.Test.YtdgcgaibkiobjaaDoorWTab
import Derived.Test.YtdgcgaibkiobjaaDoorWFour
import Derived.Test.YtdgcgaibkiobjaaDoorWQPut
import Derived.Test.YtdgcgaibkiobjaaDoorWApart
import Derived.Test.YtdgcgaibkiobjaaDoorWArr
import Derived.Test.YtdgcgaibkiobjaaDoorWZeros
import Derived.Test.YtdgcgaibkiobjaaDoorWFoot
import Derived.Test.YtdgcgaibkiobjaaDoorWKept
import Derived.Test.YtdgcgaibkiobjaaDoorWShare
import Derived.Test.YtdgcgaibkiobjaaDoorWN
import Derived.Test.YtdgcgaibkiobjaaDoorWFootNe
import Derived.Test.YtdgcgaibkiobjaaDoorWAt
import Derived.Test.YtdgcgaibkiobjaaDoorWEqStruct
import Derived.Test.YtdgcgaibkiobjaaDoorWRepsOne
import Derived.Test.YtdgcgaibkiobjaaDoorWInv
import Derived.Test.YtdgcgaibkiobjaaDoorWInvWords
import Derived.Test.YtdgcgaibkiobjaaDoorWGuard
import Derived.Test.YtdgcgaibkiobjaaDoorWNEv
import Derived.Test.YtdgcgaibkiobjaaDoorWMore
import Derived.OwnWalkIn
import Derived.TacticsInMore
import Derived.LoopNIn
import Derived.LoopIn
import Derived.Maps.AppendAt
import Derived.Maps.Range
import Derived.StillTailTactics
import Derived.WalkSpells
import Derived.IntWalk
import Derived.Laws.BitsAllLaws
import Derived.WalkMore
import Derived.Laws.Cover3
import Derived.Test.YtdgcgaibkiobjaaDoorU64
import Derived.Test.YtdgcgaibkiobjaaDoorTt
import Derived.Test.YtdgcgaibkiobjaaDoorTc
import Derived.Test.YtdgcgaibkiobjaaDoorTd
import Derived.Test.YtdgcgaibkiobjaaDoorTf
import Derived.Test.YtdgcgaibkiobjaaDoorTq
import Derived.Test.YtdgcgaibkiobjaaDoorTr
import Derived.Test.YtdgcgaibkiobjaaDoorTe
import Derived.Lib.AppendIntMem
import Derived.Lib.SmallJoins
namespace Go.Proofs.YtdgcgaibkiobjaaDoor.Tk
open Go.RowKit Go.Proofs.YtdgcgaibkiobjaaDoorW.PrintWords Go.Proofs.YtdgcgaibkiobjaaDoorW.PrintLast Go.Proofs.YtdgcgaibkiobjaaDoorW.PrintMore Go.Proofs.YtdgcgaibkiobjaaDoor.HT
set_option linter.unusedVariables false
set_option linter.unusedSimpArgs false
open Go.Proofs.YtdgcgaibkiobjaaDoor.Shf Go.Proofs.YtdgcgaibkiobjaaDoor.Tp
def NoText (w : World) (en : Ending) (w' : World) : Prop := en = .returned (.tuple #[.string ⟨#[]⟩, .int .i64 2]) ∧ w = w'
theorem text_no (x : Int) (w : World) (x0 : 0 ≤ x) (x1 : x < 18446744073709551616) (h : ¬ x < 288230376151711744) : Calls Tryd.prog 11 #[.int .u64 x] w (NoText w) := by
  have CM := Aside0.mk (fun W => may_c x W x0 x1)
  rw [decide_eq_false h] at CM
  clear h
  go_enter Tryd.func11, Tryd.ntmps11
  go_wp2_with (first | (go_at_call 20; refine (CM.out _).mono ?_; rintro en w' ⟨rfl, rfl⟩))
  try rw [Exit.noGoto_ret]
  go_ret2
  exact ⟨rfl, rfl⟩
/-- What the law's second half calls, at one text. -/
def Tail (l : List UInt8) : Prop := 40 < l.length ∨ (l.length ≤ 40 ∧ ∃ (e n : Int) (L d a : Bool) (y : Int), (∀ W, PW W → Calls Tryd.prog 13 #[.string (B l)] W (ParsePost W y 0)) ∧ (∀ W, Calls Tryd.prog 15 #[.string (B l)] W (OfPost e n L d a true W)) ∧ (∀ W, Calls Tryd.prog 16 #[.agg #[.int .i64 e, .int .i64 n, .bool L, .bool d, .bool a]] W fun en w' => en = .returned (.int .u64 y) ∧ Below W.heap.size W w')) ∨ (l.length ≤ 40 ∧ (∀ W, PW W → Calls Tryd.prog 13 #[.string (B l)] W (ParsePost W 0 4)) ∧ (∀ W, Calls Tryd.prog 15 #[.string (B l)] W (OfPost 0 0 false false false false W)))
theorem ref_parse (l : List UInt8) (hl : l.length ≤ 900) (e n : Int) (L d a m : Bool) (h : parseOut (refP l) = (e, n, L, d, a, m)) (W : World) : Calls Tryd.prog 15 #[.string (B l)] W (OfPost e n L d a m W) :=
  garnerref07_Parse.calls 1000 (B l) e n L d a m W (by rw [parse_f l (by omega) 1000 (by omega), h])
theorem with_bi (u v : Nat) (L d a : Bool) : with_g ((u : Int) * 17179869184 + (v : Int) * 8) L d a = (u : Int) * 17179869184 + (v : Int) * 8 + bi L 1 + bi d 2 + bi a 4 := by
  unfold with_g
  have : ((u : Int) * 17179869184 + (v : Int) * 8) / 8 * 8 = (u : Int) * 17179869184 + (v : Int) * 8 := by omega
  rw [this]
  rfl
theorem tail_any (l : List UInt8) : Tail l := by
  by_cases h : 40 < l.length
  · exact Or.inl h
  · have hl : l.length ≤ 40 := by omega
    cases hq : refP l with
    | none =>
      have : tidOut l = (0, 4) := by unfold tidOut; rw [hq]
      refine Or.inr (Or.inr ⟨hl, fun W hW => ?_, fun W => ref_parse l (by omega) 0 0 false false false false (by rw [hq]; rfl) W⟩)
      have h := parse_any l (by omega) W hW
      rw [this] at h
      exact h
    | some q =>
      obtain ⟨e, n, L, d, a⟩ := q
      have : tidOut l = (with_g (e * 17179869184 + n * 8) L d a, 0) := by unfold tidOut; rw [hq]
      obtain ⟨u, v, rfl, rfl, hu, hv, _⟩ := refP_is hq
      refine Or.inr (Or.inl ⟨hl, (u : Int), (v : Int), L, d, a, with_g ((u : Int) * 17179869184 + (v : Int) * 8) L d a, fun W hW => ?_, fun W => ref_parse l (by omega) _ _ _ _ _ _ (by rw [hq]; rfl) W, fun W => ?_⟩)
      · have h := parse_any l (by omega) W hW
        rw [this] at h
        exact h
      · rw [with_bi]
        exact to_c (u : Int) (v : Int) L d a W (by omega) (by omega) (by omega) (by omega)
/-- What the first half calls, at one word. -/
def Head (x : Int) : Prop := (∃ (e n : Int) (L d a : Bool) (t : ByteArray), (∀ W, Calls Tryd.prog 10 #[.int .u64 x] W (OfPost e n L d a true W)) ∧ (∀ W, PW W → Calls Tryd.prog 11 #[.int .u64 x] W (TextPost W t)) ∧ (∀ W, Calls Tryd.prog 12 #[.agg #[.int .i64 e, .int .i64 n, .bool L, .bool d, .bool a]] W fun en w' => en = .returned (.string t) ∧ Below W.heap.size W w') ∧ (∀ W, PW W → Calls Tryd.prog 13 #[.string t] W (ParsePost W x 0))) ∨ (∃ (e n : Int) (L d a : Bool), (∀ W, Calls Tryd.prog 10 #[.int .u64 x] W (OfPost e n L d a false W)) ∧ (∀ W, Calls Tryd.prog 11 #[.int .u64 x] W (NoText W)))
theorem canon_len (u v : Nat) (L d a : Bool) (hu : u ≤ 16777215) (hv : v ≤ 2147483647) : (canon u v L d a).length ≤ 900 := by
  have h1 := dig_len u (by omega)
  have h2 := dig_len v (by omega)
  unfold canon suf
  cases L <;> cases d <;> cases a <;> simp <;> omega
theorem head_any (x : Int) (x0 : 0 ≤ x) (x1 : x < 18446744073709551616) : Head x := by
  by_cases h : x < 288230376151711744
  · obtain ⟨u, hu⟩ : ∃ u : Nat, E x = (u : Int) := ⟨(E x).toNat, by unfold E; omega⟩
    obtain ⟨v, hv⟩ : ∃ v : Nat, Nu x = (v : Int) := ⟨(Nu x).toNat, by unfold Nu; omega⟩
    have hu9 : u ≤ 16777215 := by unfold E at hu; omega
    have hv9 : v ≤ 2147483647 := by unfold Nu at hv; omega
    refine Or.inl ⟨(u : Int), (v : Int), bL x, bD x, bA x, B (canon u v (bL x) (bD x) (bA x)), fun W => ?_, fun W hW => ?_, fun W => ?_, fun W hW => ?_⟩
    · have h1 := of_c x W x0 x1
      rw [hu, hv, decide_eq_true h] at h1
      exact h1
    · exact text_any x u v _ _ _ W hW x0 h hu hv (by unfold bL; rw [Int.ediv_one]) rfl rfl
    · exact garnerref07_Word_Text.calls 20 (u : Int) (v : Int) _ _ _ _ W (word_text_f u v _ _ _ (by omega) (by omega))
    · have h1 := parse_any (canon u v (bL x) (bD x) (bA x)) (canon_len u v _ _ _ hu9 hv9) W hW
      have h2 : tidOut (canon u v (bL x) (bD x) (bA x)) = (x, 0) := by
        unfold tidOut
        rw [refP_canon u v _ _ _ hu9 hv9]
        dsimp only
        rw [with_bi]
        refine Prod.ext ?_ rfl
        show (u : Int) * 17179869184 + (v : Int) * 8 + bi (bL x) 1 + bi (bD x) 2 + bi (bA x) 4 = x
        rw [← hu, ← hv]
        unfold E Nu bi bL bD bA
        have e1 : x / 17179869184 % 16777216 = x / 17179869184 := by omega
        rw [e1]
        by_cases c1 : x % 2 = 1 <;> by_cases c2 : x / 2 % 2 = 1 <;> by_cases c3 : x / 4 % 2 = 1 <;> simp only [c1, c2, c3, decide_true, decide_false, if_true, Bool.false_eq_true, if_false] <;> omega
      rw [h2] at h1
      exact h1
  · refine Or.inr ⟨E x, Nu x, bL x, bD x, bA x, fun W => ?_, fun W => text_no x W x0 x1 h⟩
    have h1 := of_c x W x0 x1
    rw [decide_eq_false h] at h1
    exact h1
theorem texts_tail (l : List UInt8) (s : ByteArray) (hs : B l = s) : (40 < (s.size : Int)) ∨ ((s.size : Int) ≤ 40) := by omega
set_option maxHeartbeats 16000000 in
set_option maxRecDepth 100000 in
theorem texts_walk (x : Int) (l : List UInt8) (w : World) (x0 : 0 ≤ x) (x1 : x < 18446744073709551616) (hw : PW w) :
    Calls Tryd.prog 3 #[.int .u64 x, .string (B l)] w fun en w' => en = .returned (.bool true) ∧ Below w.heap.size w w' := by
  have HB := Aside0.mk (Below.refl w.heap.size w)
  have HP := Aside0.mk hw
  have T := tail_any l
  have H := head_any x x0 x1
  have zs : ((B l).size : Int) = (l.length : Int) := by rw [B_size]
  unfold Tail at T
  generalize B l = s at *
  clear hw x0 x1
  rcases H with ⟨e, n, L, d, a, t, CO0, CX0, CW0, CP0⟩ | ⟨e, n, L, d, a, CO0, CX0⟩
  · have CO := Aside0.mk CO0
    have CX := Aside0.mk CX0
    have CW := Aside0.mk CW0
    have CP := Aside0.mk CP0
    have te : (t.toList == t.toList) = true := beq_iff_eq.mpr rfl
    have tn : (!(t.toList == t.toList)) = false := by rw [te]; rfl
    clear CO0 CX0 CW0 CP0
    go_enter Tryd.func3, Tryd.ntmps3
    go_upto_region 2 with (first | (go_at_call 10; refine (CO.out _).mono ?_; rintro en wa ⟨rfl, hb⟩; replace HP := Aside0.mk (pw_stays _ _ HP.out hb); replace HB := Aside0.mk (below_step HB.out hb); clear hb))
    have BK := Aside0.mk (blk_new wa (.cells #[.int .i64 e, .int .i64 n, .bool L, .bool d, .bool a] 24))
    replace HP := Aside0.mk (pw_stays _ _ HP.out (below_alloc (Below.refl _ _) (.cells #[.int .i64 e, .int .i64 n, .bool L, .bool d, .bool a] 24)))
    replace HB := Aside0.mk (below_alloc HB.out (.cells #[.int .i64 e, .int .i64 n, .bool L, .bool d, .bool a] 24))
    generalize wa.alloc (.cells #[.int .i64 e, .int .i64 n, .bool L, .bool d, .bool a] 24) = wb at BK HP HB ⊢
    go_upto_region 3 with (first | (go_at_call 11; (with_reducible refine (CX.out _ HP.out).mono ?_); rintro en wt ⟨rfl, hb⟩; replace BK := Aside0.mk (blk_below BK.out hb); replace HP := Aside0.mk (pw_stays _ _ HP.out hb); replace HB := Aside0.mk (below_step HB.out hb); clear hb))
    have y0 := (blk_cell BK.out 0).trans rfl
    have f0 := blk_frozen BK.out 0
    have y1 := (blk_cell BK.out 1).trans rfl
    have f1 := blk_frozen BK.out 1
    have y2 := (blk_cell BK.out 2).trans rfl
    have f2 := blk_frozen BK.out 2
    have y3 := (blk_cell BK.out 3).trans rfl
    have f3 := blk_frozen BK.out 3
    have y4 := (blk_cell BK.out 4).trans rfl
    have f4 := blk_frozen BK.out 4
    rcases T with T | ⟨T, e', n', L', d', a', y, DP0, DR0, DT0⟩ | ⟨T, DP0, DR0⟩
    · have k1 : decide (40 < (s.size : Int)) = true := decide_eq_true (by omega)
      clear T zs
      go_wp2_with (first | (go_at_call 12; (with_reducible refine (CW.out _).mono ?_); rintro en wx ⟨rfl, hb⟩; replace HP := Aside0.mk (pw_stays _ _ HP.out hb); replace HB := Aside0.mk (below_step HB.out hb); clear hb) | (go_at_call 13; (with_reducible refine (CP.out _ HP.out).mono ?_); rintro en wp ⟨rfl, hb⟩; replace HP := Aside0.mk (pw_stays _ _ HP.out hb); replace HB := Aside0.mk (below_step HB.out hb); clear hb) | (go_at_call 14; refine (known_walk _).mono ?_; rintro en wk ⟨rfl, hb⟩; replace HB := Aside0.mk (below_step (by first | exact HB.out | exact below_alloc HB.out _) hb); clear hb))
      go_ret
      exact ⟨by first | rfl | simp, HB.out⟩
    · have k1 : decide (40 < (s.size : Int)) = false := decide_eq_false (by omega)
      clear T zs
      have DP := Aside0.mk DP0
      have DR := Aside0.mk DR0
      have DT := Aside0.mk DT0
      clear DP0 DR0 DT0
      go_wp2_with (first | (go_at_call 12; (with_reducible refine (CW.out _).mono ?_); rintro en wx ⟨rfl, hb⟩; replace HP := Aside0.mk (pw_stays _ _ HP.out hb); replace HB := Aside0.mk (below_step HB.out hb); clear hb) | (go_at_call 13; (with_reducible refine (CP.out _ HP.out).mono ?_); rintro en wp ⟨rfl, hb⟩; replace HP := Aside0.mk (pw_stays _ _ HP.out hb); replace HB := Aside0.mk (below_step HB.out hb); clear hb) | (go_at_call 13; (with_reducible refine (DP.out _ HP.out).mono ?_); rintro en wq ⟨rfl, hb⟩; replace HP := Aside0.mk (pw_stays _ _ HP.out hb); replace HB := Aside0.mk (below_step HB.out hb); clear hb) | (go_at_call 15; (with_reducible refine (DR.out _).mono ?_); rintro en wr ⟨rfl, hb⟩; replace HP := Aside0.mk (pw_stays _ _ HP.out hb); replace HB := Aside0.mk (below_step HB.out hb); clear hb) | (go_at_call 16; refine (DT.out _).mono ?_; rintro en wu ⟨rfl, hb⟩; replace HP := Aside0.mk (pw_stays _ _ (pw_stays _ _ HP.out (below_alloc (Below.refl _ _) _)) hb); replace HB := Aside0.mk (below_step (below_alloc HB.out _) hb); clear hb) | (go_at_call 14; refine (known_walk _).mono ?_; rintro en wk ⟨rfl, hb⟩; replace HB := Aside0.mk (below_step (by first | exact HB.out | exact below_alloc HB.out _) hb); clear hb))
      go_ret
      exact ⟨by first | rfl | simp, HB.out⟩
    · have k1 : decide (40 < (s.size : Int)) = false := decide_eq_false (by omega)
      clear T zs
      have DP := Aside0.mk DP0
      have DR := Aside0.mk DR0
      clear DP0 DR0
      go_wp2_with (first | (go_at_call 12; (with_reducible refine (CW.out _).mono ?_); rintro en wx ⟨rfl, hb⟩; replace HP := Aside0.mk (pw_stays _ _ HP.out hb); replace HB := Aside0.mk (below_step HB.out hb); clear hb) | (go_at_call 13; (with_reducible refine (CP.out _ HP.out).mono ?_); rintro en wp ⟨rfl, hb⟩; replace HP := Aside0.mk (pw_stays _ _ HP.out hb); replace HB := Aside0.mk (below_step HB.out hb); clear hb) | (go_at_call 13; (with_reducible refine (DP.out _ HP.out).mono ?_); rintro en wq ⟨rfl, hb⟩; replace HP := Aside0.mk (pw_stays _ _ HP.out hb); replace HB := Aside0.mk (below_step HB.out hb); clear hb) | (go_at_call 15; (with_reducible refine (DR.out _).mono ?_); rintro en wr ⟨rfl, hb⟩; replace HP := Aside0.mk (pw_stays _ _ HP.out hb); replace HB := Aside0.mk (below_step HB.out hb); clear hb) | (go_at_call 14; refine (known_walk _).mono ?_; rintro en wk ⟨rfl, hb⟩; replace HB := Aside0.mk (below_step (by first | exact HB.out | exact below_alloc HB.out _) hb); clear hb))
      go_ret
      exact ⟨by first | rfl | simp, HB.out⟩
  · have CO := Aside0.mk CO0
    have CX := Aside0.mk CX0
    clear CO0 CX0
    go_enter Tryd.func3, Tryd.ntmps3
    go_upto_region 2 with (first | (go_at_call 10; refine (CO.out _).mono ?_; rintro en wa ⟨rfl, hb⟩; replace HP := Aside0.mk (pw_stays _ _ HP.out hb); replace HB := Aside0.mk (below_step HB.out hb); clear hb))
    replace HP := Aside0.mk (pw_stays _ _ HP.out (below_alloc (Below.refl _ _) (.cells #[.int .i64 e, .int .i64 n, .bool L, .bool d, .bool a] 24)))
    replace HB := Aside0.mk (below_alloc HB.out (.cells #[.int .i64 e, .int .i64 n, .bool L, .bool d, .bool a] 24))
    generalize wa.alloc (.cells #[.int .i64 e, .int .i64 n, .bool L, .bool d, .bool a] 24) = wb at HP HB ⊢
    go_upto_region 3 with (first | (go_at_call 11; (with_reducible refine (CX.out _).mono ?_); rintro en wt ⟨rfl, rfl⟩))
    rcases T with T | ⟨T, e', n', L', d', a', y, DP0, DR0, DT0⟩ | ⟨T, DP0, DR0⟩
    · have k1 : decide (40 < (s.size : Int)) = true := decide_eq_true (by omega)
      clear T zs
      go_wp2_with (first | (go_at_call 14; refine (known_walk _).mono ?_; rintro en wk ⟨rfl, hb⟩; replace HB := Aside0.mk (below_step (by first | exact HB.out | exact below_alloc HB.out _) hb); clear hb))
      go_ret
      exact ⟨by first | rfl | simp, HB.out⟩
    · have k1 : decide (40 < (s.size : Int)) = false := decide_eq_false (by omega)
      clear T zs
      have DP := Aside0.mk DP0
      have DR := Aside0.mk DR0
      have DT := Aside0.mk DT0
      clear DP0 DR0 DT0
      go_wp2_with (first | (go_at_call 13; (with_reducible refine (DP.out _ HP.out).mono ?_); rintro en wq ⟨rfl, hb⟩; replace HP := Aside0.mk (pw_stays _ _ HP.out hb); replace HB := Aside0.mk (below_step HB.out hb); clear hb) | (go_at_call 15; (with_reducible refine (DR.out _).mono ?_); rintro en wr ⟨rfl, hb⟩; replace HP := Aside0.mk (pw_stays _ _ HP.out hb); replace HB := Aside0.mk (below_step HB.out hb); clear hb) | (go_at_call 16; refine (DT.out _).mono ?_; rintro en wu ⟨rfl, hb⟩; replace HP := Aside0.mk (pw_stays _ _ (pw_stays _ _ HP.out (below_alloc (Below.refl _ _) _)) hb); replace HB := Aside0.mk (below_step (below_alloc HB.out _) hb); clear hb) | (go_at_call 14; refine (known_walk _).mono ?_; rintro en wk ⟨rfl, hb⟩; replace HB := Aside0.mk (below_step (by first | exact HB.out | exact below_alloc HB.out _) hb); clear hb))
      go_ret
      exact ⟨by first | rfl | simp, HB.out⟩
    · have k1 : decide (40 < (s.size : Int)) = false := decide_eq_false (by omega)
      clear T zs
      have DP := Aside0.mk DP0
      have DR := Aside0.mk DR0
      clear DP0 DR0
      go_wp2_with (first | (go_at_call 13; (with_reducible refine (DP.out _ HP.out).mono ?_); rintro en wq ⟨rfl, hb⟩; replace HP := Aside0.mk (pw_stays _ _ HP.out hb); replace HB := Aside0.mk (below_step HB.out hb); clear hb) | (go_at_call 15; (with_reducible refine (DR.out _).mono ?_); rintro en wr ⟨rfl, hb⟩; replace HP := Aside0.mk (pw_stays _ _ HP.out hb); replace HB := Aside0.mk (below_step HB.out hb); clear hb) | (go_at_call 14; refine (known_walk _).mono ?_; rintro en wk ⟨rfl, hb⟩; replace HB := Aside0.mk (below_step (by first | exact HB.out | exact below_alloc HB.out _) hb); clear hb))
      go_ret
      exact ⟨by first | rfl | simp, HB.out⟩
theorem texts_wf (x : Int) (s : ByteArray) (w : World) (hx : (Go.Lit.int .u64 x).wf = true) (hw : PW w) :
    Calls Tryd.prog 3 #[.int .u64 x, .string s] w fun en w' => en = .returned (.bool true) ∧ Below w.heap.size w w' := by
  have h := texts_walk x s.data.toList w (u64_wf hx).1 (u64_wf hx).2 hw
  rw [← B_of] at h
  exact h
end Go.Proofs.YtdgcgaibkiobjaaDoor.Tk
