/- tid: the references' word, and the six laws' calls. -/
import Derived.Test.YtdgcgaibkiobjaaDoorProg
import Derived.Below
import Derived.Deep.Draws
import Derived.Deep.AppendLies
import Derived.Maps.AppendAt
import Derived.OwnWalk
import Derived.Laws.BytesArg
import Derived.Laws.MakeOwn
import Derived.Laws.OwnMore
import Derived.Deep.OwnRows
import Derived.Tactics
import Derived.Lib.ConvBytes
import Derived.Laws.Slices
import Derived.WalkKit
import Derived.KernelRfl
import Derived.RowKit3
import Derived.Deep.LoopGhost
import Derived.Deep.QuietTactic
import Derived.BigQuiet
import Derived.WideLaws
import Derived.Deep.DeepCutAuto
import Derived.Deep.CutBlock
import Derived.Deep.RegionHeld3
import Derived.Laws.Rows
import Derived.Lib.AppendStr
import Derived.ArgAppend
import Derived.Laws.IdiomCopy
import Derived.OrdersHeld
import Derived.Laws.BitsLemmas
import Derived.RowKit
import Derived.Lib.BytesEntry
import Derived.Test.YtdgcgaibkiobjaaDoorWWords
import Derived.Test.YtdgcgaibkiobjaaDoorWLast
import Derived.Test.YtdgcgaibkiobjaaDoorWTab
import Derived.Test.YtdgcgaibkiobjaaDoorWFour
import Derived.Test.YtdgcgaibkiobjaaDoorWQPut
import Derived.Test.YtdgcgaibkiobjaaDoorWApart
import Derived.Test.YtdgcgaibkiobjaaDoorWArr
import Derived.Test.YtdgcgaibkiobjaaDoorWZeros
import Derived.Test.YtdgcgaibkiobjaaDoorWFoot
import Derived.Test.YtdgcgaibkiobjaaDoorWKept
import Derived.Test.YtdgcgaibkiobjaaDoorWShare
import Derived.Test.YtdgcgaibkiobjaaDoorWN
import Derived.Test.YtdgcgaibkiobjaaDoorWFootNe
import Derived.Test.YtdgcgaibkiobjaaDoorWAt
import Derived.Test.YtdgcgaibkiobjaaDoorWEqStruct
import Derived.Test.YtdgcgaibkiobjaaDoorWRepsOne
import Derived.Test.YtdgcgaibkiobjaaDoorWInv
import Derived.Test.YtdgcgaibkiobjaaDoorWInvWords
import Derived.Test.YtdgcgaibkiobjaaDoorWGuard
import Derived.Test.YtdgcgaibkiobjaaDoorWNEv
import Derived.Test.YtdgcgaibkiobjaaDoorWMore
import Derived.OwnWalkIn
import Derived.TacticsInMore
import Derived.LoopNIn
import Derived.LoopIn
import Derived.Maps.AppendAt
import Derived.Maps.Range
import Derived.StillTailTactics
import Derived.WalkSpells
import Derived.IntWalk
import Derived.Laws.BitsAllLaws
import Derived.WalkMore
import Derived.Laws.Cover3
import Derived.Test.YtdgcgaibkiobjaaDoorU64
import Derived.Test.YtdgcgaibkiobjaaDoorTt
import Derived.Test.YtdgcgaibkiobjaaDoorTd
import Derived.Laws.ResultCell
namespace Go.Proofs.YtdgcgaibkiobjaaDoor.Tk
open Go.RowKit Go.Proofs.YtdgcgaibkiobjaaDoorW.PrintWords Go.Proofs.YtdgcgaibkiobjaaDoorW.PrintLast Go.Proofs.YtdgcgaibkiobjaaDoorW.PrintMore
set_option linter.unusedVariables false
set_option linter.unusedSimpArgs false
def E (x : Int) : Int := x / 17179869184 % 16777216
def Nu (x : Int) : Int := x / 8 % 2147483648
def bL (x : Int) : Bool := decide (x % 2 = 1)
def bD (x : Int) : Bool := decide (x / 2 % 2 = 1)
def bA (x : Int) : Bool := decide (x / 4 % 2 = 1)
def OfPost (e n : Int) (l d a m : Bool) (w : World) (en : Ending) (w' : World) : Prop := en = .returned (.tuple #[.agg #[.int .i64 e, .int .i64 n, .bool l, .bool d, .bool a], .bool m]) ∧ Below w.heap.size w w'
theorem beq_dec (a b : Int) : (a == b) = decide (a = b) := by
  by_cases h : a = b
  · rw [decide_eq_true h, beq_iff_eq]; exact h
  · rw [decide_eq_false h, beq_eq_false_iff_ne]; exact h
set_option maxHeartbeats 4000000 in
set_option maxRecDepth 100000 in
theorem of_c (x : Int) (w : World) (x0 : 0 ≤ x) (x1 : x < 18446744073709551616) : Calls Tryd.prog 10 #[.int .u64 x] w (OfPost (E x) (Nu x) (bL x) (bD x) (bA x) (decide (x < 288230376151711744)) w) := by
  have m0 : Int.tmod x 2 = x % 2 := U64.tmod_pos x0
  have d1 : Int.tdiv x 2 = x / 2 := U64.tdiv_pos x0
  have d2 : Int.tdiv x 4 = x / 4 := U64.tdiv_pos x0
  have d3 : Int.tdiv x 8 = x / 8 := U64.tdiv_pos x0
  have d4 : Int.tdiv x 17179869184 = x / 17179869184 := U64.tdiv_pos x0
  have m1 : Int.tmod (x / 2) 2 = x / 2 % 2 := U64.tmod_pos (by omega)
  have m2 : Int.tmod (x / 4) 2 = x / 4 % 2 := U64.tmod_pos (by omega)
  have m3 : Int.tmod (x / 8) 2147483648 = x / 8 % 2147483648 := U64.tmod_pos (by omega)
  have m4 : Int.tmod (x / 17179869184) 16777216 = x / 17179869184 % 16777216 := U64.tmod_pos (by omega)
  have q1 : wrap64 (x / 8 % 2147483648) = x / 8 % 2147483648 := by unfold wrap64; omega
  have q2 : wrap64 (x / 17179869184 % 16777216) = x / 17179869184 % 16777216 := by unfold wrap64; omega
  go_enter Tryd.func10, Tryd.ntmps10
  go_wp2
  have ag := Tryd.isAgg24
  have e1 : (x % 2 == 1) = bL x := beq_dec _ _
  have e2 : (x / 2 % 2 == 1) = bD x := beq_dec _ _
  have e3 : (x / 4 % 2 == 1) = bA x := beq_dec _ _
  have e4 : decide (x / 17179869184 ≤ 16777215) = decide (x < 288230376151711744) := by
    by_cases h : x < 288230376151711744
    · rw [decide_eq_true h, decide_eq_true (by omega)]
    · rw [decide_eq_false h, decide_eq_false (by omega)]
  rw [e1, e2, e3, e4]
  refine bodyPost_ret (v := .tuple #[.agg #[.int .i64 (E x), .int .i64 (Nu x), .bool (bL x), .bool (bD x), .bool (bA x)], .bool (decide (x < 288230376151711744))]) ?_ rfl ⟨rfl, ?_⟩
  · rw [results_cell_tmp rfl]
    have hc : ∀ (o o2 : Obj), ((w.alloc o).alloc o2).heap[w.heap.size]? = some o := fun o o2 => ((below_alloc (Below.refl (w.alloc o).heap.size (w.alloc o)) o2).block w.heap.size (by simp)).trans (blk_new w o)
    have c0 := (blk_cell (hc (.cells #[.int .i64 (E x), .int .i64 (Nu x), .bool (bL x), .bool (bD x), .bool (bA x)] 24) (.cells #[.int .i64 (E x), .int .i64 (Nu x), .bool (bL x), .bool (bD x), .bool (bA x)] 24)) 0).trans rfl
    simp [asAddr, Result.andThen, go_sem, ag, Tryd.sizeOf24]
    exact ⟨rfl, rfl⟩
  · exact below_alloc (below_alloc (Below.refl _ _) _) _
def key (x : Int) : Int := x / 8 * 8 % 288230376151711744
def lt (a b : Int) : Bool := decide (key a < key b)
theorem less_c (a b : Int) (w : World) (a0 : 0 ≤ a) (a1 : a < 18446744073709551616) (b0 : 0 ≤ b) (b1 : b < 18446744073709551616) : Calls Tryd.prog 26 #[.int .u64 a, .int .u64 b] w fun en w' => en = .returned (.bool (lt a b)) ∧ w = w' := by
  have CA := Aside0.mk (fun W => bare_c a W a0 a1)
  have CB := Aside0.mk (fun W => bare_c b W b0 b1)
  have ha : Go.bits .and .u64 (a / 8 * 8) 288230376151711743 = key a := by
    have := U64.and_mask (a / 8 * 8) (by omega) (by omega) 58 (by omega)
    simpa [key] using this
  have hb : Go.bits .and .u64 (b / 8 * 8) 288230376151711743 = key b := by
    have := U64.and_mask (b / 8 * 8) (by omega) (by omega) 58 (by omega)
    simpa [key] using this
  clear a0 a1 b0 b1
  go_enter Tryd.func26, Tryd.ntmps26
  go_wp2_with (first | (go_at_call 24; (with_reducible refine (CA.out _).mono ?_); rintro en w' ⟨rfl, rfl⟩) | (go_at_call 24; (with_reducible refine (CB.out _).mono ?_); rintro en w' ⟨rfl, rfl⟩))
  go_ret
  exact ⟨rfl, rfl⟩
theorem lt_eq (a b : Int) (a0 : 0 ≤ a) (b0 : 0 ≤ b) : lt a b = (decide (E a < E b) || (decide (E a = E b) && decide (Nu a < Nu b))) := by
  unfold lt key E Nu
  by_cases h1 : a / 17179869184 % 16777216 < b / 17179869184 % 16777216
  · rw [decide_eq_true h1, Bool.true_or, decide_eq_true_iff]; omega
  · rw [decide_eq_false h1, Bool.false_or]
    by_cases h2 : a / 17179869184 % 16777216 = b / 17179869184 % 16777216
    · rw [decide_eq_true h2, Bool.true_and]
      by_cases h3 : a / 8 % 2147483648 < b / 8 % 2147483648
      · rw [decide_eq_true h3, decide_eq_true_iff]; omega
      · rw [decide_eq_false h3, decide_eq_false_iff_not]; omega
    · rw [decide_eq_false h2, Bool.false_and, decide_eq_false_iff_not]; omega
theorem lt_self (a : Int) : lt a a = false := decide_eq_false (by omega)
theorem lt_not (a b : Int) (h : lt a b = true) : lt b a = false := by unfold lt at *; rw [decide_eq_true_iff] at h; exact decide_eq_false (by omega)
theorem lt_tr (a b c : Int) (h : lt a b = true) (k : lt b c = true) : lt a c = true := by unfold lt at *; rw [decide_eq_true_iff] at *; omega
set_option maxHeartbeats 16000000 in
set_option maxRecDepth 100000 in
theorem order_walk (a b c : Int) (w : World) (a0 : 0 ≤ a) (a1 : a < 18446744073709551616) (b0 : 0 ≤ b) (b1 : b < 18446744073709551616) (c0 : 0 ≤ c) (c1 : c < 18446744073709551616) :
    Calls Tryd.prog 7 #[.int .u64 a, .int .u64 b, .int .u64 c] w fun e w' => e = .returned (.bool true) ∧ Below w.heap.size w w' := by
  have HB := Aside0.mk (Below.refl w.heap.size w)
  have CA := Aside0.mk (fun W => of_c a W a0 a1)
  have CB := Aside0.mk (fun W => of_c b W b0 b1)
  have Lab := Aside0.mk (fun W => less_c a b W a0 a1 b0 b1)
  have Lba := Aside0.mk (fun W => less_c b a W b0 b1 a0 a1)
  have Laa := Aside0.mk (fun W => less_c a a W a0 a1 a0 a1)
  have Lbc := Aside0.mk (fun W => less_c b c W b0 b1 c0 c1)
  have Lac := Aside0.mk (fun W => less_c a c W a0 a1 c0 c1)
  have he := lt_eq a b a0 b0
  have hn := lt_not a b
  have ht := lt_tr a b c
  rw [lt_self] at Laa
  obtain ⟨ex, hex⟩ : ∃ z, z = E a := ⟨_, rfl⟩
  obtain ⟨ey, hey⟩ : ∃ z, z = E b := ⟨_, rfl⟩
  obtain ⟨nx, hnx⟩ : ∃ z, z = Nu a := ⟨_, rfl⟩
  obtain ⟨ny, hny⟩ : ∃ z, z = Nu b := ⟨_, rfl⟩
  rw [← hex, ← hnx] at CA he
  rw [← hey, ← hny] at CB he
  obtain ⟨lab, hab⟩ : ∃ z, z = lt a b := ⟨_, rfl⟩
  obtain ⟨lba, hba⟩ : ∃ z, z = lt b a := ⟨_, rfl⟩
  obtain ⟨lbc, hbc⟩ : ∃ z, z = lt b c := ⟨_, rfl⟩
  obtain ⟨lac, hac⟩ : ∃ z, z = lt a c := ⟨_, rfl⟩
  rw [← hab] at Lab he hn ht
  rw [← hba] at Lba hn
  rw [← hbc] at Lbc ht
  rw [← hac] at Lac ht
  clear hex hey hnx hny hab hba hbc hac a0 a1 b0 b1 c0 c1
  have key : (ex < ey ∧ lab = true) ∨ (¬ ex < ey ∧ ex = ey ∧ nx < ny ∧ lab = true) ∨ (¬ ex < ey ∧ ex = ey ∧ ¬ nx < ny ∧ lab = false) ∨ (¬ ex < ey ∧ ¬ ex = ey ∧ lab = false) := by
    rw [he]
    by_cases h1 : ex < ey <;> by_cases h2 : ex = ey <;> by_cases h3 : nx < ny <;> simp [h1, h2, h3]
  clear he
  rcases key with ⟨h1, rfl⟩ | ⟨h1, h2e, h3, rfl⟩ | ⟨h1, h2e, h3, rfl⟩ | ⟨h1, h2, rfl⟩
  all_goals
    (try (have h1b : decide (ex < ey) = true := decide_eq_true h1))
    (try (have h1b : decide (ex < ey) = false := decide_eq_false h1))
    (try (have h2b : (ex == ey) = true := beq_iff_eq.mpr h2e))
    (try (have H2 := Aside0.mk h2e; clear h2e))
    (try (have h2b : (ex == ey) = false := beq_eq_false_iff_ne.mpr h2))
    (try (have h3b : decide (nx < ny) = true := decide_eq_true h3))
    (try (have h3b : decide (nx < ny) = false := decide_eq_false h3))
    have HN := Aside0.mk hn
    have HT := Aside0.mk ht
    (try (have hn2 : lba = false := hn rfl; subst hn2))
    cases lbc
    all_goals
      (try (have ht2 : lac = true := ht rfl rfl; subst ht2))
      clear hn ht
      go_enter Tryd.func7, Tryd.ntmps7
      go_wp2_with (first | (go_at_call 10; (with_reducible refine (CA.out _).mono ?_); rintro en wa ⟨rfl, hb⟩; replace HB := Aside0.mk (below_step HB.out hb); clear hb) | (go_at_call 10; (with_reducible refine (CB.out _).mono ?_); rintro en wb ⟨rfl, hb⟩; have y0 := pw_cell_below hb ((blk_cell (blk_new wa (.cells #[.int .i64 ex, .int .i64 nx, .bool (bL a), .bool (bD a), .bool (bA a)] 24)) 0).trans rfl); have y1 := pw_cell_below hb ((blk_cell (blk_new wa (.cells #[.int .i64 ex, .int .i64 nx, .bool (bL a), .bool (bD a), .bool (bA a)] 24)) 1).trans rfl); have z0 := pw_cell_below (below_alloc (Below.refl wb.heap.size wb) (.cells #[.int .i64 ey, .int .i64 ny, .bool (bL b), .bool (bD b), .bool (bA b)] 24)) y0; have z1 := pw_cell_below (below_alloc (Below.refl wb.heap.size wb) (.cells #[.int .i64 ey, .int .i64 ny, .bool (bL b), .bool (bD b), .bool (bA b)] 24)) y1; clear y0 y1; replace HB := Aside0.mk (below_step (below_alloc HB.out _) hb); clear hb) | (go_at_call 26; (with_reducible refine (Lab.out _).mono ?_); rintro en wn ⟨rfl, rfl⟩) | (go_at_call 26; (with_reducible refine (Lba.out _).mono ?_); rintro en wn ⟨rfl, rfl⟩) | (go_at_call 26; (with_reducible refine (Laa.out _).mono ?_); rintro en wn ⟨rfl, rfl⟩) | (go_at_call 26; (with_reducible refine (Lbc.out _).mono ?_); rintro en wn ⟨rfl, rfl⟩) | (go_at_call 26; (with_reducible refine (Lac.out _).mono ?_); rintro en wn ⟨rfl, rfl⟩) | (go_at_call 14; refine (known_walk _).mono ?_; rintro en wk ⟨rfl, hb⟩; replace HB := Aside0.mk (below_step (below_alloc HB.out _) hb); clear hb))
      try go_ret
      exact ⟨by first | rfl | simp, HB.out⟩
theorem u64_wf {a : Int} (h : (Go.Lit.int .u64 a).wf = true) : 0 ≤ a ∧ a < 18446744073709551616 := U64.u64_of_wf h
theorem order_wf (a b c : Int) (w : World) (ha : (Go.Lit.int .u64 a).wf = true) (hb : (Go.Lit.int .u64 b).wf = true) (hc : (Go.Lit.int .u64 c).wf = true) :
    Calls Tryd.prog 7 #[.int .u64 a, .int .u64 b, .int .u64 c] w fun e w' => e = .returned (.bool true) ∧ Below w.heap.size w w' := order_walk a b c w (u64_wf ha).1 (u64_wf ha).2 (u64_wf hb).1 (u64_wf hb).2 (u64_wf hc).1 (u64_wf hc).2
end Go.Proofs.YtdgcgaibkiobjaaDoor.Tk
