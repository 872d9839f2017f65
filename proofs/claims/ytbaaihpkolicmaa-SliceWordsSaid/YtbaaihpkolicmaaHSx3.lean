/- Written for this claim by a program of this session (hp.py): Go functions as plain functions, each with the proof that its call comes to it. -/
import Derived.Test.YtbaaihpkolicmaaHSx0
import Derived.Test.YtbaaihpkolicmaaHSx2
namespace Go.Proofs.Ytbaaihpkolicmaa.HS
open Go.RowKit Go.Proofs.YtbaaihpkolicmaaW.PrintWords Go.Proofs.YtbaaihpkolicmaaW.PrintLast Go.Proofs.YtbaaihpkolicmaaW.PrintMore
attribute [local go_sem] max2_int min2_int max_two min_two max_three min_three max_four min_four   -- for this text's walks alone
set_option linter.unusedVariables false
set_option linter.unusedSimpArgs false

/-! ### slice_Join: function 15 -/
def slice_Join.l0 : Nat → List (S26) → List Int → List (S26) → Int → Int → Option (List Int × Int)
  | 0, _, _, _, _, _ => none
  | k + 1, x0, x4, x9, x10, x11 => if x11 < x10 then (if 0 ≤ x11 then (if x11 < (x9.length : Int) then ((slice_Bytes.f k ((rd_T26 x9 x11).f0) ((rd_T26 x9 x11).f1)).bind fun bt116 => (if bt116.2 = 0 then (if ((((rd_T26 x9 x11).f1) == 9) != (decide (x11 < (wrap64 ((x0.length : Int) - 1))))) = true then (some (([] : List Int), 2)) else (if x11 > 0 then (if ((rd_T26 x9 x11).f1) = 0 then (some (([] : List Int), 2)) else (if x4.length + bt116.1.length < 140737488355328 then (slice_Join.l0 k x0 (x4 ++ bt116.1) x9 x10 (wrap64 (x11 + 1))) else (none))) else (if x4.length + bt116.1.length < 140737488355328 then (slice_Join.l0 k x0 (x4 ++ bt116.1) x9 x10 (wrap64 (x11 + 1))) else (none)))) else (some (([] : List Int), 2)))) else (none)) else (none)) else (if (x0.length : Int) = 0 then (some (([] : List Int), 2)) else (some (x4, 0)))
def slice_Join.f (k : Nat) (l0 : List (S26)) : Option (List Int × Int) := slice_Join.l0 k l0 ([] : List Int) l0 (l0.length : Int) 0
theorem slice_Join.mono_l : ∀ k, (∀ y0 y1 y2 y3 y4, LeO (slice_Join.l0 k y0 y1 y2 y3 y4) (slice_Join.l0 (k + 1) y0 y1 y2 y3 y4))
  | 0 => fun _ _ _ _ _ r h => by simp [slice_Join.l0] at h
  | k + 1 => by
    have ih0 := slice_Join.mono_l k
    · intro y0 y1 y2 y3 y4
      unfold slice_Join.l0
      repeat' first
      | (with_reducible exact ih0 _ _ _ _ _)
      | (with_reducible exact slice_Bytes.mono _ _ _)
      | (with_reducible exact LeO.refl _)
      | (with_reducible exact LeO.none _)
      | (with_reducible refine LeO.ite ?_ ?_)
      | (with_reducible refine LeO.bind ?_ (fun _ => ?_))
      | exact ih0 _ _ _ _ _
      | exact slice_Bytes.mono _ _ _
      | exact LeO.none _
      | refine LeO.ite ?_ ?_
      | refine LeO.bind ?_ (fun _ => ?_)
theorem slice_Join.mono : ∀ a0 k, LeO (slice_Join.f k a0) (slice_Join.f (k + 1) a0) := by
  intro a0 k
  have ih0 := slice_Join.mono_l k
  unfold slice_Join.f
  repeat' first
      | (with_reducible exact ih0 _ _ _ _ _)
      | (with_reducible exact slice_Bytes.mono _ _ _)
      | (with_reducible exact LeO.refl _)
      | (with_reducible exact LeO.none _)
      | (with_reducible refine LeO.ite ?_ ?_)
      | (with_reducible refine LeO.bind ?_ (fun _ => ?_))
      | exact ih0 _ _ _ _ _
      | exact slice_Bytes.mono _ _ _
      | exact LeO.none _
      | refine LeO.ite ?_ ?_
      | refine LeO.bind ?_ (fun _ => ?_)
set_option maxHeartbeats 8000000 in
set_option maxRecDepth 100000 in
theorem slice_Join.calls (k : Nat) (A0 : Option Addr) (c0 : Nat) (l0 : List (S26)) (r1 : List Int) (r2 : Int) (w : World) (hr0 : Kd.C k26 w A0 l0.length l0) (hc0 : l0.length ≤ c0) (h : slice_Join.f k l0 = some (r1, r2)) :
    Calls Try.prog 15 #[.slice A0 l0.length c0] w fun e w' => ∃ v0_ : Value, e = .returned (.tuple #[v0_, .int .i64 r2]) ∧ Kd.R (Kd.int .u8) 5 w' w.heap.size (fun _ => True) v0_ r1 ∧ Below w.heap.size w w' := by
  have hu26 := Try.underlying26
  have HR0 := Aside0.mk hr0
  have HC0 := Aside0.mk hc0
  clear hr0 hc0
  have HB := Aside0.mk (Below.refl w.heap.size w)
  have H : (slice_Join.l0 k l0 ([] : List Int) l0 (l0.length : Int) 0) = some (r1, r2) := h
  clear h
  have H' := Aside0.mk H
  clear H
  go_enter Try.func15, Try.ntmps15
  go_wp2
  go_loopg [4, 11] k (fun kq v4 v11 w' => ∃ (x4_1 : List Int) (x11_1 : Int), v11 = .int .i64 x11_1 ∧ Aside0 (slice_Join.l0 kq l0 x4_1 l0 (l0.length : Int) x11_1 = some (r1, r2)) ∧ Aside0 (kq ≤ k) ∧ Aside0 (Kd.R (Kd.int .u8) 5 w' w.heap.size (fun _ => True) v4 x4_1) ∧ Aside0 (Below w.heap.size w w'))
  case atStart => exact ⟨(([] : List Int)), (0), (by first | rfl | (simp; done) | (simp [*]; done)), H', ⟨Nat.le_refl _⟩, ⟨by first | exact Kd.R_nil _ _ _ _ _ | exact Kd.N_nil _ _ _ _ _ | exact Kd.V_nil _ _ _ _ _ | exact Kd.Q_nil _ _ _ _ _ | exact Kd.S_nil _ _ _ _ _⟩, ⟨by repeat (first | (with_reducible first | exact HB.out | apply below_alloc | apply pw_below_drewN | apply below_drew1) | exact HB.out)⟩⟩
  case round =>
    clear H'
    try clear c1
    obtain ⟨x4_1, x11_1, rfl, HA, HK1, HO_4, HB⟩ := hrel
    cases gk with
    | zero => exact absurd HA.out (by simp [slice_Join.l0])
    | succ k1 =>
      have H := HA.out
      clear HA
      simp only [slice_Join.l0] at H
      by_cases c2 : x11_1 < (l0.length : Int)
      · rw [if_pos c2] at H
        have c2b0 : decide (x11_1 < (l0.length : Int)) = true := decide_eq_true c2
        clear c2
        by_cases c3 : 0 ≤ x11_1
        · rw [if_pos c3] at H
          have c3b0 : decide (0 ≤ x11_1) = true := decide_eq_true c3
          clear c3
          by_cases c4 : x11_1 < (l0.length : Int)
          · rw [if_pos c4] at H
            have c4b0 : decide (x11_1 < (l0.length : Int)) = true := decide_eq_true c4
            clear c4
            replace H := Option.bind_eq_some_iff.mp H
            obtain ⟨⟨t116, t119⟩, A50, H⟩ := H
            replace H : (if t119 = 0 then (if ((((rd_T26 l0 x11_1).f1) == 9) != (decide (x11_1 < (wrap64 ((l0.length : Int) - 1))))) = true then (some (([] : List Int), 2)) else (if x11_1 > 0 then (if ((rd_T26 l0 x11_1).f1) = 0 then (some (([] : List Int), 2)) else (if x4_1.length + t116.length < 140737488355328 then (slice_Join.l0 k1 l0 (x4_1 ++ t116) l0 (l0.length : Int) (wrap64 (x11_1 + 1))) else (none))) else (if x4_1.length + t116.length < 140737488355328 then (slice_Join.l0 k1 l0 (x4_1 ++ t116) l0 (l0.length : Int) (wrap64 (x11_1 + 1))) else (none)))) else (some (([] : List Int), 2))) = some (r1, r2) := H
            have A5 := Aside0.mk A50
            clear A50
            by_cases c6 : t119 = 0
            · rw [if_pos c6] at H
              have c6b0 : (t119 == 0) = true := beq_iff_eq.mpr c6
              have c6b1 : (t119 != 0) = false := bne_eq_false_iff_eq.mpr c6
              clear c6
              by_cases c7 : ((((rd_T26 l0 x11_1).f1) == 9) != (decide (x11_1 < (wrap64 ((l0.length : Int) - 1))))) = true
              · rw [if_pos c7] at H
                have c7b0 : ((((rd_T26 l0 x11_1).f1) == 9) != (decide (x11_1 < (wrap64 ((l0.length : Int) - 1))))) = true := c7
                (try (have c7b1 : decide ((((rd_T26 l0 x11_1).f1) == 9) = (decide (x11_1 < (wrap64 ((l0.length : Int) - 1))))) = false := by simpa using c7))
                (try (have c7b2 : ((((rd_T26 l0 x11_1).f1) == 9) == (decide (x11_1 < (wrap64 ((l0.length : Int) - 1))))) = false := by simpa using c7))
                (try (have c7b3 : ¬ ((((rd_T26 l0 x11_1).f1) == 9) = (decide (x11_1 < (wrap64 ((l0.length : Int) - 1))))) := by simpa using c7))
                clear c7
                simp only [Option.some.injEq, Prod.mk.injEq] at H
                obtain ⟨rfl, rfl⟩ := H
                have p114 : 0 ≤ (x11_1 : Int) := of_decide_eq_true (by first | (with_reducible assumption) | assumption)
                have q114 : x11_1 < (l0.length : Int) := of_decide_eq_true (by first | (with_reducible assumption) | assumption)
                obtain ⟨ad114, e114, hx114_0, hx114_1⟩ := at_T26 HR0.out x11_1 p114 q114
                cases e114
                replace hx114_0 := (HB.out.cell (World.block_lt_of_cell? w _ hx114_0)).trans hx114_0
                replace hx114_1 := (HB.out.cell (World.block_lt_of_cell? w _ hx114_1)).trans hx114_1
                replace p114 := eq_true p114
                replace q114 := eq_true q114
                (try (have q114d := q114; simp only [List.length_drop, List.length_take] at q114d))
                go_wp2_with (first | ((with_reducible refine gate_dst (N := 6) rfl ?_); (try (refine gate_guard (by rfl) ?_; dsimp only)); refine box_event ?hg (N := 6) ?hd (cs := #[.int .u64 0, .int .i64 0]) (t := 26) ?hr ?_; (case hd => rfl); (case hg => rfl); (case hr => first | (go_simp; done) | (go_simp; rfl)); intro gb115 hg w8 hbox hb; have n0_ := Aside0.mk (Kd.R_below (by (with_reducible repeat (first | apply Kd.R_alloc | apply Kd.R_drewN | apply Kd.R_drew)); exact HO_4.out) hb); have n1_ := Aside0.mk (below_step (by repeat (first | (with_reducible first | exact HB.out | apply below_alloc | apply pw_below_drewN | apply below_drew1) | exact HB.out)) hb); have n2_ := Aside0.mk (hbox); have n3_ := Aside0.mk ((by rw [hg]; exact (below_size (by repeat (first | (with_reducible first | exact HB.out | apply below_alloc | apply pw_below_drewN | apply below_drew1) | exact HB.out))) : w.heap.size ≤ gb115)); have n4_ := Aside0.mk ((by rw [hg]; exact (below_size (by repeat (first | (with_reducible first | exact HB.out | apply below_alloc | apply pw_below_drewN | apply below_drew1) | exact HB.out))) : w.heap.size ≤ gb115)); clear HO_4; clear HB; have HO_4 := n0_; have HB := n1_; have BK115 := n2_; have GW115 := n3_; have GE115 := n4_; clear n0_ n1_ n2_ n3_ n4_; clear hb hbox hg; have hcz9_0 : w8.cell? ⟨gb115, 0, none⟩ = some (.int .u64 0) := (blk_cell BK115.out 0).trans rfl; have hcz9_1 : w8.cell? ⟨gb115, 1, none⟩ = some (.int .i64 0) := (blk_cell BK115.out 1).trans rfl; have hfz9_0 := blk_frozen BK115.out 0; have hfz9_1 := blk_frozen BK115.out 1) | ((with_reducible refine gate_callee (f := 17) rfl ?_); refine goesL_ (some 18) rfl rfl Try.func17 (by kernel_rfl) rfl #[.agg #[.int .u64 ((rd_T26 l0 x11_1).f0), .int .i64 ((rd_T26 l0 x11_1).f1)]] rfl (by (try simp only [List.map_toArray, List.map_cons, List.map_nil]); first | done | rfl | (simp only [List.length_drop, List.length_take]; rfl)) ?_; (with_reducible refine (slice_Bytes.calls k1 ((rd_T26 l0 x11_1).f0) ((rd_T26 l0 x11_1).f1) t116 t119 _ A5.out).mono ?_); rintro e w10 ⟨v117, rfl, ho0, hb⟩; refine ⟨_, rfl, ?_⟩; have n0_ := Aside0.mk (Kd.R_elder' (by (with_reducible repeat (first | apply Kd.R_alloc | apply Kd.R_drewN | apply Kd.R_drew)); exact (Kd.R_mono (Kd.R_far (p := ⟨gb115, 1, none⟩) (Kd.R_far (p := ⟨gb115, 0, none⟩) (Kd.R_types HO_4.out BK115.out (by decide)) (fun _ hk => hk.2) (.int .u64 ((rd_T26 l0 x11_1).f0))) (fun _ hk => hk.2) (.int .i64 ((rd_T26 l0 x11_1).f1))) (fun _ h_ => h_.1))) (Kd.R_base ho0) hb); have n1_ := Aside0.mk (Kd.R_lower (Kd.R_new' ho0 (Kd.R_lt (by (with_reducible repeat (first | apply Kd.R_alloc | apply Kd.R_drewN | apply Kd.R_drew)); exact (Kd.R_mono (Kd.R_far (p := ⟨gb115, 1, none⟩) (Kd.R_far (p := ⟨gb115, 0, none⟩) (Kd.R_types HO_4.out BK115.out (by decide)) (fun _ hk => hk.2) (.int .u64 ((rd_T26 l0 x11_1).f0))) (fun _ hk => hk.2) (.int .i64 ((rd_T26 l0 x11_1).f1))) (fun _ h_ => h_.1))))) (below_size (by repeat (first | (with_reducible first | exact HB.out | apply below_alloc | apply pw_below_drewN | apply below_drew1 | refine below_set ?_ GE115.out) | exact HB.out)))); have n2_ := Aside0.mk (blk_below (g := gb115) (o := .cells #[.int .u64 ((rd_T26 l0 x11_1).f0), .int .i64 ((rd_T26 l0 x11_1).f1)] 26 (0, 0)) (by (with_reducible repeat (first | refine blk_drewN ?_ _ | refine blk_drew ?_ | refine blk_alloc ?_ _)); refine blk_put (cs := #[.int .u64 ((rd_T26 l0 x11_1).f0), .int .i64 0]) ?_ 1 _ rfl; (with_reducible repeat (first | refine blk_drewN ?_ _ | refine blk_drew ?_ | refine blk_alloc ?_ _)); refine blk_put (cs := #[.int .u64 0, .int .i64 0]) ?_ 0 _ rfl; (with_reducible repeat (first | refine blk_drewN ?_ _ | refine blk_drew ?_ | refine blk_alloc ?_ _)); exact BK115.out) hb); have n3_ := Aside0.mk (below_step (by repeat (first | (with_reducible first | exact HB.out | apply below_alloc | apply pw_below_drewN | apply below_drew1 | refine below_set ?_ GE115.out) | exact HB.out)) hb); clear HO_4; clear BK115; clear HB; have HO_4 := n0_; have HO118 := n1_; have BK115 := n2_; have HB := n3_; clear n0_ n1_ n2_ n3_; (try clear hb); (try clear hb2); (try clear hk); (try clear hi); (try clear ho0); have hcz11_0 : w10.cell? ⟨gb115, 0, none⟩ = some (.int .u64 ((rd_T26 l0 x11_1).f0)) := (blk_cell BK115.out 0).trans rfl; have hcz11_1 : w10.cell? ⟨gb115, 1, none⟩ = some (.int .i64 ((rd_T26 l0 x11_1).f1)) := (blk_cell BK115.out 1).trans rfl; have hfz11_0 := blk_frozen BK115.out 0; have hfz11_1 := blk_frozen BK115.out 1))
                go_ret2
                exact ⟨_, by first | rfl | (simp [errW_none, errW_some] <;> rfl) | (simp [*, errW_none, errW_some] <;> rfl), by first | exact Kd.R_nil _ _ _ _ _ | exact Kd.N_nil _ _ _ _ _ | exact Kd.V_nil _ _ _ _ _ | exact Kd.Q_nil _ _ _ _ _ | exact Kd.S_nil _ _ _ _ _, by repeat (first | (with_reducible first | exact HB.out | apply below_alloc | apply pw_below_drewN | apply below_drew1 | refine below_set ?_ GE115.out) | exact HB.out)⟩
              · rw [if_neg c7] at H
                have c7b0 : ((((rd_T26 l0 x11_1).f1) == 9) != (decide (x11_1 < (wrap64 ((l0.length : Int) - 1))))) = false := by simpa using c7
                (try (have c7b1 : decide ((((rd_T26 l0 x11_1).f1) == 9) = (decide (x11_1 < (wrap64 ((l0.length : Int) - 1))))) = true := by simpa using c7))
                (try (have c7b2 : ((((rd_T26 l0 x11_1).f1) == 9) == (decide (x11_1 < (wrap64 ((l0.length : Int) - 1))))) = true := by simpa using c7))
                clear c7
                by_cases c12 : x11_1 > 0
                · rw [if_pos c12] at H
                  have c12b0 : decide (0 < x11_1) = true := decide_eq_true c12
                  clear c12
                  by_cases c13 : ((rd_T26 l0 x11_1).f1) = 0
                  · rw [if_pos c13] at H
                    have c13b0 : (((rd_T26 l0 x11_1).f1) == 0) = true := beq_iff_eq.mpr c13
                    have c13b1 : (((rd_T26 l0 x11_1).f1) != 0) = false := bne_eq_false_iff_eq.mpr c13
                    clear c13
                    simp only [Option.some.injEq, Prod.mk.injEq] at H
                    obtain ⟨rfl, rfl⟩ := H
                    have p114 : 0 ≤ (x11_1 : Int) := of_decide_eq_true (by first | (with_reducible assumption) | assumption)
                    have q114 : x11_1 < (l0.length : Int) := of_decide_eq_true (by first | (with_reducible assumption) | assumption)
                    obtain ⟨ad114, e114, hx114_0, hx114_1⟩ := at_T26 HR0.out x11_1 p114 q114
                    cases e114
                    replace hx114_0 := (HB.out.cell (World.block_lt_of_cell? w _ hx114_0)).trans hx114_0
                    replace hx114_1 := (HB.out.cell (World.block_lt_of_cell? w _ hx114_1)).trans hx114_1
                    replace p114 := eq_true p114
                    replace q114 := eq_true q114
                    (try (have q114d := q114; simp only [List.length_drop, List.length_take] at q114d))
                    go_wp2_with (first | ((with_reducible refine gate_dst (N := 6) rfl ?_); (try (refine gate_guard (by rfl) ?_; dsimp only)); refine box_event ?hg (N := 6) ?hd (cs := #[.int .u64 0, .int .i64 0]) (t := 26) ?hr ?_; (case hd => rfl); (case hg => rfl); (case hr => first | (go_simp; done) | (go_simp; rfl)); intro gb115 hg w14 hbox hb; have n0_ := Aside0.mk (Kd.R_below (by (with_reducible repeat (first | apply Kd.R_alloc | apply Kd.R_drewN | apply Kd.R_drew)); exact HO_4.out) hb); have n1_ := Aside0.mk (below_step (by repeat (first | (with_reducible first | exact HB.out | apply below_alloc | apply pw_below_drewN | apply below_drew1) | exact HB.out)) hb); have n2_ := Aside0.mk (hbox); have n3_ := Aside0.mk ((by rw [hg]; exact (below_size (by repeat (first | (with_reducible first | exact HB.out | apply below_alloc | apply pw_below_drewN | apply below_drew1) | exact HB.out))) : w.heap.size ≤ gb115)); have n4_ := Aside0.mk ((by rw [hg]; exact (below_size (by repeat (first | (with_reducible first | exact HB.out | apply below_alloc | apply pw_below_drewN | apply below_drew1) | exact HB.out))) : w.heap.size ≤ gb115)); clear HO_4; clear HB; have HO_4 := n0_; have HB := n1_; have BK115 := n2_; have GW115 := n3_; have GE115 := n4_; clear n0_ n1_ n2_ n3_ n4_; clear hb hbox hg; have hcz15_0 : w14.cell? ⟨gb115, 0, none⟩ = some (.int .u64 0) := (blk_cell BK115.out 0).trans rfl; have hcz15_1 : w14.cell? ⟨gb115, 1, none⟩ = some (.int .i64 0) := (blk_cell BK115.out 1).trans rfl; have hfz15_0 := blk_frozen BK115.out 0; have hfz15_1 := blk_frozen BK115.out 1) | ((with_reducible refine gate_callee (f := 17) rfl ?_); refine goesL_ (some 18) rfl rfl Try.func17 (by kernel_rfl) rfl #[.agg #[.int .u64 ((rd_T26 l0 x11_1).f0), .int .i64 ((rd_T26 l0 x11_1).f1)]] rfl (by (try simp only [List.map_toArray, List.map_cons, List.map_nil]); first | done | rfl | (simp only [List.length_drop, List.length_take]; rfl)) ?_; (with_reducible refine (slice_Bytes.calls k1 ((rd_T26 l0 x11_1).f0) ((rd_T26 l0 x11_1).f1) t116 t119 _ A5.out).mono ?_); rintro e w16 ⟨v117, rfl, ho0, hb⟩; refine ⟨_, rfl, ?_⟩; have n0_ := Aside0.mk (Kd.R_elder' (by (with_reducible repeat (first | apply Kd.R_alloc | apply Kd.R_drewN | apply Kd.R_drew)); exact (Kd.R_mono (Kd.R_far (p := ⟨gb115, 1, none⟩) (Kd.R_far (p := ⟨gb115, 0, none⟩) (Kd.R_types HO_4.out BK115.out (by decide)) (fun _ hk => hk.2) (.int .u64 ((rd_T26 l0 x11_1).f0))) (fun _ hk => hk.2) (.int .i64 ((rd_T26 l0 x11_1).f1))) (fun _ h_ => h_.1))) (Kd.R_base ho0) hb); have n1_ := Aside0.mk (Kd.R_lower (Kd.R_new' ho0 (Kd.R_lt (by (with_reducible repeat (first | apply Kd.R_alloc | apply Kd.R_drewN | apply Kd.R_drew)); exact (Kd.R_mono (Kd.R_far (p := ⟨gb115, 1, none⟩) (Kd.R_far (p := ⟨gb115, 0, none⟩) (Kd.R_types HO_4.out BK115.out (by decide)) (fun _ hk => hk.2) (.int .u64 ((rd_T26 l0 x11_1).f0))) (fun _ hk => hk.2) (.int .i64 ((rd_T26 l0 x11_1).f1))) (fun _ h_ => h_.1))))) (below_size (by repeat (first | (with_reducible first | exact HB.out | apply below_alloc | apply pw_below_drewN | apply below_drew1 | refine below_set ?_ GE115.out) | exact HB.out)))); have n2_ := Aside0.mk (blk_below (g := gb115) (o := .cells #[.int .u64 ((rd_T26 l0 x11_1).f0), .int .i64 ((rd_T26 l0 x11_1).f1)] 26 (0, 0)) (by (with_reducible repeat (first | refine blk_drewN ?_ _ | refine blk_drew ?_ | refine blk_alloc ?_ _)); refine blk_put (cs := #[.int .u64 ((rd_T26 l0 x11_1).f0), .int .i64 0]) ?_ 1 _ rfl; (with_reducible repeat (first | refine blk_drewN ?_ _ | refine blk_drew ?_ | refine blk_alloc ?_ _)); refine blk_put (cs := #[.int .u64 0, .int .i64 0]) ?_ 0 _ rfl; (with_reducible repeat (first | refine blk_drewN ?_ _ | refine blk_drew ?_ | refine blk_alloc ?_ _)); exact BK115.out) hb); have n3_ := Aside0.mk (below_step (by repeat (first | (with_reducible first | exact HB.out | apply below_alloc | apply pw_below_drewN | apply below_drew1 | refine below_set ?_ GE115.out) | exact HB.out)) hb); clear HO_4; clear BK115; clear HB; have HO_4 := n0_; have HO118 := n1_; have BK115 := n2_; have HB := n3_; clear n0_ n1_ n2_ n3_; (try clear hb); (try clear hb2); (try clear hk); (try clear hi); (try clear ho0); have hcz17_0 : w16.cell? ⟨gb115, 0, none⟩ = some (.int .u64 ((rd_T26 l0 x11_1).f0)) := (blk_cell BK115.out 0).trans rfl; have hcz17_1 : w16.cell? ⟨gb115, 1, none⟩ = some (.int .i64 ((rd_T26 l0 x11_1).f1)) := (blk_cell BK115.out 1).trans rfl; have hfz17_0 := blk_frozen BK115.out 0; have hfz17_1 := blk_frozen BK115.out 1))
                    go_ret2
                    exact ⟨_, by first | rfl | (simp [errW_none, errW_some] <;> rfl) | (simp [*, errW_none, errW_some] <;> rfl), by first | exact Kd.R_nil _ _ _ _ _ | exact Kd.N_nil _ _ _ _ _ | exact Kd.V_nil _ _ _ _ _ | exact Kd.Q_nil _ _ _ _ _ | exact Kd.S_nil _ _ _ _ _, by repeat (first | (with_reducible first | exact HB.out | apply below_alloc | apply pw_below_drewN | apply below_drew1 | refine below_set ?_ GE115.out) | exact HB.out)⟩
                  · rw [if_neg c13] at H
                    have c13b0 : (((rd_T26 l0 x11_1).f1) == 0) = false := beq_eq_false_iff_ne.mpr c13
                    have c13b1 : (((rd_T26 l0 x11_1).f1) != 0) = true := bne_iff_ne.mpr c13
                    by_cases c18 : x4_1.length + t116.length < 140737488355328
                    · rw [if_pos c18] at H
                      have LMc18 := Aside0.mk c18
                      clear c18
                      obtain ⟨y120, hy120⟩ : ∃ y_ : List Int, y_ = (x4_1 ++ t116) := ⟨_, rfl⟩
                      replace H : (slice_Join.l0 k1 l0 y120 l0 (l0.length : Int) (wrap64 (x11_1 + 1))) = some (r1, r2) := by first | (rw [hy120]; with_reducible exact H) | (have H2_ := (Option.bind_some _ _).symm.trans H; rw [hy120]; with_reducible exact H2_) | (have H2_ := (Option.bind_some _ _).symm.trans H; with_reducible exact H2_) | with_reducible exact H | (rw [hy120]; exact H) | exact H
                      have Ny120 := Aside0.mk hy120
                      clear hy120
                      have H' := Aside0.mk H
                      clear H
                      have p114 : 0 ≤ (x11_1 : Int) := of_decide_eq_true (by first | (with_reducible assumption) | assumption)
                      have q114 : x11_1 < (l0.length : Int) := of_decide_eq_true (by first | (with_reducible assumption) | assumption)
                      obtain ⟨ad114, e114, hx114_0, hx114_1⟩ := at_T26 HR0.out x11_1 p114 q114
                      cases e114
                      replace hx114_0 := (HB.out.cell (World.block_lt_of_cell? w _ hx114_0)).trans hx114_0
                      replace hx114_1 := (HB.out.cell (World.block_lt_of_cell? w _ hx114_1)).trans hx114_1
                      replace p114 := eq_true p114
                      replace q114 := eq_true q114
                      (try (have q114d := q114; simp only [List.length_drop, List.length_take] at q114d))
                      go_wp2_with (first | ((with_reducible refine gate_dst (N := 6) rfl ?_); (try (refine gate_guard (by rfl) ?_; dsimp only)); refine box_event ?hg (N := 6) ?hd (cs := #[.int .u64 0, .int .i64 0]) (t := 26) ?hr ?_; (case hd => rfl); (case hg => rfl); (case hr => first | (go_simp; done) | (go_simp; rfl)); intro gb115 hg w19 hbox hb; have n0_ := Aside0.mk (Kd.R_below (by (with_reducible repeat (first | apply Kd.R_alloc | apply Kd.R_drewN | apply Kd.R_drew)); exact HO_4.out) hb); have n1_ := Aside0.mk (below_step (by repeat (first | (with_reducible first | exact HB.out | apply below_alloc | apply pw_below_drewN | apply below_drew1) | exact HB.out)) hb); have n2_ := Aside0.mk (hbox); have n3_ := Aside0.mk ((by rw [hg]; exact (below_size (by repeat (first | (with_reducible first | exact HB.out | apply below_alloc | apply pw_below_drewN | apply below_drew1) | exact HB.out))) : w.heap.size ≤ gb115)); have n4_ := Aside0.mk ((by rw [hg]; exact (below_size (by repeat (first | (with_reducible first | exact HB.out | apply below_alloc | apply pw_below_drewN | apply below_drew1) | exact HB.out))) : w.heap.size ≤ gb115)); clear HO_4; clear HB; have HO_4 := n0_; have HB := n1_; have BK115 := n2_; have GW115 := n3_; have GE115 := n4_; clear n0_ n1_ n2_ n3_ n4_; clear hb hbox hg; have hcz20_0 : w19.cell? ⟨gb115, 0, none⟩ = some (.int .u64 0) := (blk_cell BK115.out 0).trans rfl; have hcz20_1 : w19.cell? ⟨gb115, 1, none⟩ = some (.int .i64 0) := (blk_cell BK115.out 1).trans rfl; have hfz20_0 := blk_frozen BK115.out 0; have hfz20_1 := blk_frozen BK115.out 1) | ((with_reducible refine gate_callee (f := 17) rfl ?_); refine goesL_ (some 18) rfl rfl Try.func17 (by kernel_rfl) rfl #[.agg #[.int .u64 ((rd_T26 l0 x11_1).f0), .int .i64 ((rd_T26 l0 x11_1).f1)]] rfl (by (try simp only [List.map_toArray, List.map_cons, List.map_nil]); first | done | rfl | (simp only [List.length_drop, List.length_take]; rfl)) ?_; (with_reducible refine (slice_Bytes.calls k1 ((rd_T26 l0 x11_1).f0) ((rd_T26 l0 x11_1).f1) t116 t119 _ A5.out).mono ?_); rintro e w21 ⟨v117, rfl, ho0, hb⟩; refine ⟨_, rfl, ?_⟩; have n0_ := Aside0.mk (Kd.R_elder' (by (with_reducible repeat (first | apply Kd.R_alloc | apply Kd.R_drewN | apply Kd.R_drew)); exact (Kd.R_mono (Kd.R_far (p := ⟨gb115, 1, none⟩) (Kd.R_far (p := ⟨gb115, 0, none⟩) (Kd.R_types HO_4.out BK115.out (by decide)) (fun _ hk => hk.2) (.int .u64 ((rd_T26 l0 x11_1).f0))) (fun _ hk => hk.2) (.int .i64 ((rd_T26 l0 x11_1).f1))) (fun _ h_ => h_.1))) (Kd.R_base ho0) hb); have n1_ := Aside0.mk (Kd.R_lower (Kd.R_new' ho0 (Kd.R_lt (by (with_reducible repeat (first | apply Kd.R_alloc | apply Kd.R_drewN | apply Kd.R_drew)); exact (Kd.R_mono (Kd.R_far (p := ⟨gb115, 1, none⟩) (Kd.R_far (p := ⟨gb115, 0, none⟩) (Kd.R_types HO_4.out BK115.out (by decide)) (fun _ hk => hk.2) (.int .u64 ((rd_T26 l0 x11_1).f0))) (fun _ hk => hk.2) (.int .i64 ((rd_T26 l0 x11_1).f1))) (fun _ h_ => h_.1))))) (below_size (by repeat (first | (with_reducible first | exact HB.out | apply below_alloc | apply pw_below_drewN | apply below_drew1 | refine below_set ?_ GE115.out) | exact HB.out)))); have n2_ := Aside0.mk (blk_below (g := gb115) (o := .cells #[.int .u64 ((rd_T26 l0 x11_1).f0), .int .i64 ((rd_T26 l0 x11_1).f1)] 26 (0, 0)) (by (with_reducible repeat (first | refine blk_drewN ?_ _ | refine blk_drew ?_ | refine blk_alloc ?_ _)); refine blk_put (cs := #[.int .u64 ((rd_T26 l0 x11_1).f0), .int .i64 0]) ?_ 1 _ rfl; (with_reducible repeat (first | refine blk_drewN ?_ _ | refine blk_drew ?_ | refine blk_alloc ?_ _)); refine blk_put (cs := #[.int .u64 0, .int .i64 0]) ?_ 0 _ rfl; (with_reducible repeat (first | refine blk_drewN ?_ _ | refine blk_drew ?_ | refine blk_alloc ?_ _)); exact BK115.out) hb); have n3_ := Aside0.mk (below_step (by repeat (first | (with_reducible first | exact HB.out | apply below_alloc | apply pw_below_drewN | apply below_drew1 | refine below_set ?_ GE115.out) | exact HB.out)) hb); clear HO_4; clear BK115; clear HB; have HO_4 := n0_; have HO118 := n1_; have BK115 := n2_; have HB := n3_; clear n0_ n1_ n2_ n3_; (try clear hb); (try clear hb2); (try clear hk); (try clear hi); (try clear ho0); have hcz22_0 : w21.cell? ⟨gb115, 0, none⟩ = some (.int .u64 ((rd_T26 l0 x11_1).f0)) := (blk_cell BK115.out 0).trans rfl; have hcz22_1 : w21.cell? ⟨gb115, 1, none⟩ = some (.int .i64 ((rd_T26 l0 x11_1).f1)) := (blk_cell BK115.out 1).trans rfl; have hfz22_0 := blk_frozen BK115.out 0; have hfz22_1 := blk_frozen BK115.out 1; obtain ⟨Ao24, co24, eo24⟩ := Kd.R_slice HO118.out; subst eo24) | ((with_reducible refine gate_builtin (b := .append) (xs := #[.tmp 43, .tmp 44]) rfl ?_); (try (refine gate_guard (by rfl) ?_; dsimp only)); at_builtin; refine Kd.R_append_rows (Kd.int .u8) (w0 := w) w.heap.size rfl (.tmp 43) (.tmp 44) 22 5 (.int .u8 0) 1 rfl Try.underlying22 info5 rfl (by decide) (by omega) u4 x4_1 t116 _ _ _ (fun k_ => some k_ ≠ (.slice Ao24 t116.length co24 : Value).ownBlock) (fun _ => False) rfl rfl ?aO ?aR (fun _ _ h => h) (fun _ h => h.elim) ?aF ?aB ?aS ?aL ?_; (case aR => repeat (first | exact (Kd.R_reads' HO118.out).2.2 | (with_reducible refine Kd.C_alloc ?_ _) | (with_reducible refine Kd.C_drewN ?_ _) | (with_reducible refine Kd.C_drew ?_))); (case aB => exact (by repeat (first | (with_reducible first | exact HB.out | apply below_alloc | apply pw_below_drewN | apply below_drew1 | refine below_set ?_ GE115.out) | exact HB.out))); (case aF => exact (fun k_ hk => Kd.fresh' (Kd.R_lt (by (with_reducible repeat (first | apply Kd.R_alloc | apply Kd.R_drewN | apply Kd.R_drew)); exact HO118.out)) k_ hk)); (case aO => exact (by (with_reducible repeat (first | apply Kd.R_alloc | apply Kd.R_drewN | apply Kd.R_drew)); exact Kd.R_mono HO_4.out (fun _ hk => hk.2))); (case aS => exact (below_size (by repeat (first | (with_reducible first | exact HB.out | apply below_alloc | apply pw_below_drewN | apply below_drew1 | refine below_set ?_ GE115.out) | exact HB.out)))); (case aL => have := LMc18.out; omega); intro v121 w23 ho hb hg hat; rw [← Ny120.out] at ho; have n0_ := Aside0.mk (blk_grown (g := gb115) (o := .cells #[.int .u64 ((rd_T26 l0 x11_1).f0), .int .i64 ((rd_T26 l0 x11_1).f1)] 26 (0, 0)) (by (with_reducible repeat (first | refine blk_drewN ?_ _ | refine blk_drew ?_ | refine blk_alloc ?_ _)); exact BK115.out) hg (Kd.R_ne HO_4.out BK115.out (by decide))); have n1_ := Aside0.mk (Kd.R_after (ok := (fun _ => True)) (by (with_reducible repeat (first | apply Kd.R_alloc | apply Kd.R_drewN | apply Kd.R_drew)); exact HO118.out) hg hat); have n2_ := Aside0.mk (hb); have n3_ := Aside0.mk (ho); clear BK115; clear HO118; clear HB; clear HO_4; have BK115 := n0_; have HO118 := n1_; have HB := n2_; have HO122 := n3_; clear n0_ n1_ n2_ n3_; clear ho hb hg hat))
                      go_roundg k1
                      case measure => have := HK1.out; omega
                      case rel => exact ⟨(y120), (wrap64 (x11_1 + 1)), (by first | rfl | (simp; done) | (simp [*]; done)), H', ⟨by have := HK1.out; omega⟩, ⟨by (with_reducible repeat (first | apply Kd.R_alloc | apply Kd.R_drewN | apply Kd.R_drew)); exact Kd.R_mono HO122.out (fun _ hk => trivial)⟩, ⟨by repeat (first | (with_reducible first | exact HB.out | apply below_alloc | apply pw_below_drewN | apply below_drew1 | refine below_set ?_ GE115.out) | exact HB.out)⟩⟩
                    · rw [if_neg c18] at H
                      exact absurd H (by simp)
                · rw [if_neg c12] at H
                  have c12b0 : decide (0 < x11_1) = false := decide_eq_false c12
                  clear c12
                  by_cases c25 : x4_1.length + t116.length < 140737488355328
                  · rw [if_pos c25] at H
                    have LMc25 := Aside0.mk c25
                    clear c25
                    obtain ⟨y123, hy123⟩ : ∃ y_ : List Int, y_ = (x4_1 ++ t116) := ⟨_, rfl⟩
                    replace H : (slice_Join.l0 k1 l0 y123 l0 (l0.length : Int) (wrap64 (x11_1 + 1))) = some (r1, r2) := by first | (rw [hy123]; with_reducible exact H) | (have H2_ := (Option.bind_some _ _).symm.trans H; rw [hy123]; with_reducible exact H2_) | (have H2_ := (Option.bind_some _ _).symm.trans H; with_reducible exact H2_) | with_reducible exact H | (rw [hy123]; exact H) | exact H
                    have Ny123 := Aside0.mk hy123
                    clear hy123
                    have H' := Aside0.mk H
                    clear H
                    have p114 : 0 ≤ (x11_1 : Int) := of_decide_eq_true (by first | (with_reducible assumption) | assumption)
                    have q114 : x11_1 < (l0.length : Int) := of_decide_eq_true (by first | (with_reducible assumption) | assumption)
                    obtain ⟨ad114, e114, hx114_0, hx114_1⟩ := at_T26 HR0.out x11_1 p114 q114
                    cases e114
                    replace hx114_0 := (HB.out.cell (World.block_lt_of_cell? w _ hx114_0)).trans hx114_0
                    replace hx114_1 := (HB.out.cell (World.block_lt_of_cell? w _ hx114_1)).trans hx114_1
                    replace p114 := eq_true p114
                    replace q114 := eq_true q114
                    (try (have q114d := q114; simp only [List.length_drop, List.length_take] at q114d))
                    go_wp2_with (first | ((with_reducible refine gate_dst (N := 6) rfl ?_); (try (refine gate_guard (by rfl) ?_; dsimp only)); refine box_event ?hg (N := 6) ?hd (cs := #[.int .u64 0, .int .i64 0]) (t := 26) ?hr ?_; (case hd => rfl); (case hg => rfl); (case hr => first | (go_simp; done) | (go_simp; rfl)); intro gb115 hg w26 hbox hb; have n0_ := Aside0.mk (Kd.R_below (by (with_reducible repeat (first | apply Kd.R_alloc | apply Kd.R_drewN | apply Kd.R_drew)); exact HO_4.out) hb); have n1_ := Aside0.mk (below_step (by repeat (first | (with_reducible first | exact HB.out | apply below_alloc | apply pw_below_drewN | apply below_drew1) | exact HB.out)) hb); have n2_ := Aside0.mk (hbox); have n3_ := Aside0.mk ((by rw [hg]; exact (below_size (by repeat (first | (with_reducible first | exact HB.out | apply below_alloc | apply pw_below_drewN | apply below_drew1) | exact HB.out))) : w.heap.size ≤ gb115)); have n4_ := Aside0.mk ((by rw [hg]; exact (below_size (by repeat (first | (with_reducible first | exact HB.out | apply below_alloc | apply pw_below_drewN | apply below_drew1) | exact HB.out))) : w.heap.size ≤ gb115)); clear HO_4; clear HB; have HO_4 := n0_; have HB := n1_; have BK115 := n2_; have GW115 := n3_; have GE115 := n4_; clear n0_ n1_ n2_ n3_ n4_; clear hb hbox hg; have hcz27_0 : w26.cell? ⟨gb115, 0, none⟩ = some (.int .u64 0) := (blk_cell BK115.out 0).trans rfl; have hcz27_1 : w26.cell? ⟨gb115, 1, none⟩ = some (.int .i64 0) := (blk_cell BK115.out 1).trans rfl; have hfz27_0 := blk_frozen BK115.out 0; have hfz27_1 := blk_frozen BK115.out 1) | ((with_reducible refine gate_callee (f := 17) rfl ?_); refine goesL_ (some 18) rfl rfl Try.func17 (by kernel_rfl) rfl #[.agg #[.int .u64 ((rd_T26 l0 x11_1).f0), .int .i64 ((rd_T26 l0 x11_1).f1)]] rfl (by (try simp only [List.map_toArray, List.map_cons, List.map_nil]); first | done | rfl | (simp only [List.length_drop, List.length_take]; rfl)) ?_; (with_reducible refine (slice_Bytes.calls k1 ((rd_T26 l0 x11_1).f0) ((rd_T26 l0 x11_1).f1) t116 t119 _ A5.out).mono ?_); rintro e w28 ⟨v117, rfl, ho0, hb⟩; refine ⟨_, rfl, ?_⟩; have n0_ := Aside0.mk (Kd.R_elder' (by (with_reducible repeat (first | apply Kd.R_alloc | apply Kd.R_drewN | apply Kd.R_drew)); exact (Kd.R_mono (Kd.R_far (p := ⟨gb115, 1, none⟩) (Kd.R_far (p := ⟨gb115, 0, none⟩) (Kd.R_types HO_4.out BK115.out (by decide)) (fun _ hk => hk.2) (.int .u64 ((rd_T26 l0 x11_1).f0))) (fun _ hk => hk.2) (.int .i64 ((rd_T26 l0 x11_1).f1))) (fun _ h_ => h_.1))) (Kd.R_base ho0) hb); have n1_ := Aside0.mk (Kd.R_lower (Kd.R_new' ho0 (Kd.R_lt (by (with_reducible repeat (first | apply Kd.R_alloc | apply Kd.R_drewN | apply Kd.R_drew)); exact (Kd.R_mono (Kd.R_far (p := ⟨gb115, 1, none⟩) (Kd.R_far (p := ⟨gb115, 0, none⟩) (Kd.R_types HO_4.out BK115.out (by decide)) (fun _ hk => hk.2) (.int .u64 ((rd_T26 l0 x11_1).f0))) (fun _ hk => hk.2) (.int .i64 ((rd_T26 l0 x11_1).f1))) (fun _ h_ => h_.1))))) (below_size (by repeat (first | (with_reducible first | exact HB.out | apply below_alloc | apply pw_below_drewN | apply below_drew1 | refine below_set ?_ GE115.out) | exact HB.out)))); have n2_ := Aside0.mk (blk_below (g := gb115) (o := .cells #[.int .u64 ((rd_T26 l0 x11_1).f0), .int .i64 ((rd_T26 l0 x11_1).f1)] 26 (0, 0)) (by (with_reducible repeat (first | refine blk_drewN ?_ _ | refine blk_drew ?_ | refine blk_alloc ?_ _)); refine blk_put (cs := #[.int .u64 ((rd_T26 l0 x11_1).f0), .int .i64 0]) ?_ 1 _ rfl; (with_reducible repeat (first | refine blk_drewN ?_ _ | refine blk_drew ?_ | refine blk_alloc ?_ _)); refine blk_put (cs := #[.int .u64 0, .int .i64 0]) ?_ 0 _ rfl; (with_reducible repeat (first | refine blk_drewN ?_ _ | refine blk_drew ?_ | refine blk_alloc ?_ _)); exact BK115.out) hb); have n3_ := Aside0.mk (below_step (by repeat (first | (with_reducible first | exact HB.out | apply below_alloc | apply pw_below_drewN | apply below_drew1 | refine below_set ?_ GE115.out) | exact HB.out)) hb); clear HO_4; clear BK115; clear HB; have HO_4 := n0_; have HO118 := n1_; have BK115 := n2_; have HB := n3_; clear n0_ n1_ n2_ n3_; (try clear hb); (try clear hb2); (try clear hk); (try clear hi); (try clear ho0); have hcz29_0 : w28.cell? ⟨gb115, 0, none⟩ = some (.int .u64 ((rd_T26 l0 x11_1).f0)) := (blk_cell BK115.out 0).trans rfl; have hcz29_1 : w28.cell? ⟨gb115, 1, none⟩ = some (.int .i64 ((rd_T26 l0 x11_1).f1)) := (blk_cell BK115.out 1).trans rfl; have hfz29_0 := blk_frozen BK115.out 0; have hfz29_1 := blk_frozen BK115.out 1; obtain ⟨Ao31, co31, eo31⟩ := Kd.R_slice HO118.out; subst eo31) | ((with_reducible refine gate_builtin (b := .append) (xs := #[.tmp 43, .tmp 44]) rfl ?_); (try (refine gate_guard (by rfl) ?_; dsimp only)); at_builtin; refine Kd.R_append_rows (Kd.int .u8) (w0 := w) w.heap.size rfl (.tmp 43) (.tmp 44) 22 5 (.int .u8 0) 1 rfl Try.underlying22 info5 rfl (by decide) (by omega) u4 x4_1 t116 _ _ _ (fun k_ => some k_ ≠ (.slice Ao31 t116.length co31 : Value).ownBlock) (fun _ => False) rfl rfl ?aO ?aR (fun _ _ h => h) (fun _ h => h.elim) ?aF ?aB ?aS ?aL ?_; (case aR => repeat (first | exact (Kd.R_reads' HO118.out).2.2 | (with_reducible refine Kd.C_alloc ?_ _) | (with_reducible refine Kd.C_drewN ?_ _) | (with_reducible refine Kd.C_drew ?_))); (case aB => exact (by repeat (first | (with_reducible first | exact HB.out | apply below_alloc | apply pw_below_drewN | apply below_drew1 | refine below_set ?_ GE115.out) | exact HB.out))); (case aF => exact (fun k_ hk => Kd.fresh' (Kd.R_lt (by (with_reducible repeat (first | apply Kd.R_alloc | apply Kd.R_drewN | apply Kd.R_drew)); exact HO118.out)) k_ hk)); (case aO => exact (by (with_reducible repeat (first | apply Kd.R_alloc | apply Kd.R_drewN | apply Kd.R_drew)); exact Kd.R_mono HO_4.out (fun _ hk => hk.2))); (case aS => exact (below_size (by repeat (first | (with_reducible first | exact HB.out | apply below_alloc | apply pw_below_drewN | apply below_drew1 | refine below_set ?_ GE115.out) | exact HB.out)))); (case aL => have := LMc25.out; omega); intro v124 w30 ho hb hg hat; rw [← Ny123.out] at ho; have n0_ := Aside0.mk (blk_grown (g := gb115) (o := .cells #[.int .u64 ((rd_T26 l0 x11_1).f0), .int .i64 ((rd_T26 l0 x11_1).f1)] 26 (0, 0)) (by (with_reducible repeat (first | refine blk_drewN ?_ _ | refine blk_drew ?_ | refine blk_alloc ?_ _)); exact BK115.out) hg (Kd.R_ne HO_4.out BK115.out (by decide))); have n1_ := Aside0.mk (Kd.R_after (ok := (fun _ => True)) (by (with_reducible repeat (first | apply Kd.R_alloc | apply Kd.R_drewN | apply Kd.R_drew)); exact HO118.out) hg hat); have n2_ := Aside0.mk (hb); have n3_ := Aside0.mk (ho); clear BK115; clear HO118; clear HB; clear HO_4; have BK115 := n0_; have HO118 := n1_; have HB := n2_; have HO125 := n3_; clear n0_ n1_ n2_ n3_; clear ho hb hg hat))
                    go_roundg k1
                    case measure => have := HK1.out; omega
                    case rel => exact ⟨(y123), (wrap64 (x11_1 + 1)), (by first | rfl | (simp; done) | (simp [*]; done)), H', ⟨by have := HK1.out; omega⟩, ⟨by (with_reducible repeat (first | apply Kd.R_alloc | apply Kd.R_drewN | apply Kd.R_drew)); exact Kd.R_mono HO125.out (fun _ hk => trivial)⟩, ⟨by repeat (first | (with_reducible first | exact HB.out | apply below_alloc | apply pw_below_drewN | apply below_drew1 | refine below_set ?_ GE115.out) | exact HB.out)⟩⟩
                  · rw [if_neg c25] at H
                    exact absurd H (by simp)
            · rw [if_neg c6] at H
              have c6b0 : (t119 == 0) = false := beq_eq_false_iff_ne.mpr c6
              have c6b1 : (t119 != 0) = true := bne_iff_ne.mpr c6
              simp only [Option.some.injEq, Prod.mk.injEq] at H
              obtain ⟨rfl, rfl⟩ := H
              have p114 : 0 ≤ (x11_1 : Int) := of_decide_eq_true (by first | (with_reducible assumption) | assumption)
              have q114 : x11_1 < (l0.length : Int) := of_decide_eq_true (by first | (with_reducible assumption) | assumption)
              obtain ⟨ad114, e114, hx114_0, hx114_1⟩ := at_T26 HR0.out x11_1 p114 q114
              cases e114
              replace hx114_0 := (HB.out.cell (World.block_lt_of_cell? w _ hx114_0)).trans hx114_0
              replace hx114_1 := (HB.out.cell (World.block_lt_of_cell? w _ hx114_1)).trans hx114_1
              replace p114 := eq_true p114
              replace q114 := eq_true q114
              (try (have q114d := q114; simp only [List.length_drop, List.length_take] at q114d))
              go_wp2_with (first | ((with_reducible refine gate_dst (N := 6) rfl ?_); (try (refine gate_guard (by rfl) ?_; dsimp only)); refine box_event ?hg (N := 6) ?hd (cs := #[.int .u64 0, .int .i64 0]) (t := 26) ?hr ?_; (case hd => rfl); (case hg => rfl); (case hr => first | (go_simp; done) | (go_simp; rfl)); intro gb115 hg w32 hbox hb; have n0_ := Aside0.mk (Kd.R_below (by (with_reducible repeat (first | apply Kd.R_alloc | apply Kd.R_drewN | apply Kd.R_drew)); exact HO_4.out) hb); have n1_ := Aside0.mk (below_step (by repeat (first | (with_reducible first | exact HB.out | apply below_alloc | apply pw_below_drewN | apply below_drew1) | exact HB.out)) hb); have n2_ := Aside0.mk (hbox); have n3_ := Aside0.mk ((by rw [hg]; exact (below_size (by repeat (first | (with_reducible first | exact HB.out | apply below_alloc | apply pw_below_drewN | apply below_drew1) | exact HB.out))) : w.heap.size ≤ gb115)); have n4_ := Aside0.mk ((by rw [hg]; exact (below_size (by repeat (first | (with_reducible first | exact HB.out | apply below_alloc | apply pw_below_drewN | apply below_drew1) | exact HB.out))) : w.heap.size ≤ gb115)); clear HO_4; clear HB; have HO_4 := n0_; have HB := n1_; have BK115 := n2_; have GW115 := n3_; have GE115 := n4_; clear n0_ n1_ n2_ n3_ n4_; clear hb hbox hg; have hcz33_0 : w32.cell? ⟨gb115, 0, none⟩ = some (.int .u64 0) := (blk_cell BK115.out 0).trans rfl; have hcz33_1 : w32.cell? ⟨gb115, 1, none⟩ = some (.int .i64 0) := (blk_cell BK115.out 1).trans rfl; have hfz33_0 := blk_frozen BK115.out 0; have hfz33_1 := blk_frozen BK115.out 1) | ((with_reducible refine gate_callee (f := 17) rfl ?_); refine goesL_ (some 18) rfl rfl Try.func17 (by kernel_rfl) rfl #[.agg #[.int .u64 ((rd_T26 l0 x11_1).f0), .int .i64 ((rd_T26 l0 x11_1).f1)]] rfl (by (try simp only [List.map_toArray, List.map_cons, List.map_nil]); first | done | rfl | (simp only [List.length_drop, List.length_take]; rfl)) ?_; (with_reducible refine (slice_Bytes.calls k1 ((rd_T26 l0 x11_1).f0) ((rd_T26 l0 x11_1).f1) t116 t119 _ A5.out).mono ?_); rintro e w34 ⟨v117, rfl, ho0, hb⟩; refine ⟨_, rfl, ?_⟩; have n0_ := Aside0.mk (Kd.R_elder' (by (with_reducible repeat (first | apply Kd.R_alloc | apply Kd.R_drewN | apply Kd.R_drew)); exact (Kd.R_mono (Kd.R_far (p := ⟨gb115, 1, none⟩) (Kd.R_far (p := ⟨gb115, 0, none⟩) (Kd.R_types HO_4.out BK115.out (by decide)) (fun _ hk => hk.2) (.int .u64 ((rd_T26 l0 x11_1).f0))) (fun _ hk => hk.2) (.int .i64 ((rd_T26 l0 x11_1).f1))) (fun _ h_ => h_.1))) (Kd.R_base ho0) hb); have n1_ := Aside0.mk (Kd.R_lower (Kd.R_new' ho0 (Kd.R_lt (by (with_reducible repeat (first | apply Kd.R_alloc | apply Kd.R_drewN | apply Kd.R_drew)); exact (Kd.R_mono (Kd.R_far (p := ⟨gb115, 1, none⟩) (Kd.R_far (p := ⟨gb115, 0, none⟩) (Kd.R_types HO_4.out BK115.out (by decide)) (fun _ hk => hk.2) (.int .u64 ((rd_T26 l0 x11_1).f0))) (fun _ hk => hk.2) (.int .i64 ((rd_T26 l0 x11_1).f1))) (fun _ h_ => h_.1))))) (below_size (by repeat (first | (with_reducible first | exact HB.out | apply below_alloc | apply pw_below_drewN | apply below_drew1 | refine below_set ?_ GE115.out) | exact HB.out)))); have n2_ := Aside0.mk (blk_below (g := gb115) (o := .cells #[.int .u64 ((rd_T26 l0 x11_1).f0), .int .i64 ((rd_T26 l0 x11_1).f1)] 26 (0, 0)) (by (with_reducible repeat (first | refine blk_drewN ?_ _ | refine blk_drew ?_ | refine blk_alloc ?_ _)); refine blk_put (cs := #[.int .u64 ((rd_T26 l0 x11_1).f0), .int .i64 0]) ?_ 1 _ rfl; (with_reducible repeat (first | refine blk_drewN ?_ _ | refine blk_drew ?_ | refine blk_alloc ?_ _)); refine blk_put (cs := #[.int .u64 0, .int .i64 0]) ?_ 0 _ rfl; (with_reducible repeat (first | refine blk_drewN ?_ _ | refine blk_drew ?_ | refine blk_alloc ?_ _)); exact BK115.out) hb); have n3_ := Aside0.mk (below_step (by repeat (first | (with_reducible first | exact HB.out | apply below_alloc | apply pw_below_drewN | apply below_drew1 | refine below_set ?_ GE115.out) | exact HB.out)) hb); clear HO_4; clear BK115; clear HB; have HO_4 := n0_; have HO118 := n1_; have BK115 := n2_; have HB := n3_; clear n0_ n1_ n2_ n3_; (try clear hb); (try clear hb2); (try clear hk); (try clear hi); (try clear ho0)))
              go_ret2
              exact ⟨_, by first | rfl | (simp [errW_none, errW_some] <;> rfl) | (simp [*, errW_none, errW_some] <;> rfl), by first | exact Kd.R_nil _ _ _ _ _ | exact Kd.N_nil _ _ _ _ _ | exact Kd.V_nil _ _ _ _ _ | exact Kd.Q_nil _ _ _ _ _ | exact Kd.S_nil _ _ _ _ _, by repeat (first | (with_reducible first | exact HB.out | apply below_alloc | apply pw_below_drewN | apply below_drew1 | refine below_set ?_ GE115.out) | exact HB.out)⟩
          · rw [if_neg c4] at H
            exact absurd H (by simp)
        · rw [if_neg c3] at H
          exact absurd H (by simp)
      · rw [if_neg c2] at H
        have c2b0 : decide (x11_1 < (l0.length : Int)) = false := decide_eq_false c2
        clear c2
        by_cases c35 : (l0.length : Int) = 0
        · rw [if_pos c35] at H
          have c35b0 : ((l0.length : Int) == 0) = true := beq_iff_eq.mpr c35
          have c35b1 : ((l0.length : Int) != 0) = false := bne_eq_false_iff_eq.mpr c35
          clear c35
          simp only [Option.some.injEq, Prod.mk.injEq] at H
          obtain ⟨rfl, rfl⟩ := H
          go_wp2
          go_ret2
          exact ⟨_, by first | rfl | (simp [errW_none, errW_some] <;> rfl) | (simp [*, errW_none, errW_some] <;> rfl), by first | exact Kd.R_nil _ _ _ _ _ | exact Kd.N_nil _ _ _ _ _ | exact Kd.V_nil _ _ _ _ _ | exact Kd.Q_nil _ _ _ _ _ | exact Kd.S_nil _ _ _ _ _, by repeat (first | (with_reducible first | exact HB.out | apply below_alloc | apply pw_below_drewN | apply below_drew1) | exact HB.out)⟩
        · rw [if_neg c35] at H
          have c35b0 : ((l0.length : Int) == 0) = false := beq_eq_false_iff_ne.mpr c35
          have c35b1 : ((l0.length : Int) != 0) = true := bne_iff_ne.mpr c35
          have c35b2 : ¬ (l0 = []) := fun h_ => c35 (by rw [h_]; rfl)
          simp only [Option.some.injEq, Prod.mk.injEq] at H
          obtain ⟨rfl, rfl⟩ := H
          go_wp2
          go_ret2
          exact ⟨_, by first | rfl | (simp [errW_none, errW_some] <;> rfl) | (simp [*, errW_none, errW_some] <;> rfl), by (with_reducible repeat (first | apply Kd.R_alloc | apply Kd.R_drewN | apply Kd.R_drew)); exact HO_4.out, by repeat (first | (with_reducible first | exact HB.out | apply below_alloc | apply pw_below_drewN | apply below_drew1) | exact HB.out)⟩

/-! ### slice_Compare: function 21 -/
def slice_Compare.f (a0_0 : Int) (a0_1 : Int) (a1_0 : Int) (a1_1 : Int) : Option (Int) := if a0_0 = a1_0 then (if a0_1 = a1_1 then some 0 else if a0_1 < a1_1 then some (-1) else some 1) else if a0_0 < a1_0 then some (-1) else some 1
theorem cmp_drewN {B : Nat} {a w : World} (h : Below B a w) (n : Nat) : Below B a (w.drewN n) := h.trans ⟨rfl, rfl, rfl, Nat.le_refl _, fun _ _ => rfl⟩
theorem slice_Compare.calls (a0_0 : Int) (a0_1 : Int) (a1_0 : Int) (a1_1 : Int) (r : Int) (w : World) (h : slice_Compare.f a0_0 a0_1 a1_0 a1_1 = some r) :
    Calls Try.prog 21 #[.agg #[.int .u64 a0_0, .int .i64 a0_1], .agg #[.int .u64 a1_0, .int .i64 a1_1]] w fun e w' => e = .returned (.int .i64 r) ∧ Below w.heap.size w w' := by
  have H := h
  unfold slice_Compare.f at H
  clear h
  by_cases c1 : a0_0 = a1_0
  · subst c1
    rw [if_pos rfl] at H
    by_cases c2 : a0_1 = a1_1
    · subst c2
      rw [if_pos rfl] at H
      obtain rfl := Option.some.inj H
      go_enter Try.func21, Try.ntmps21
      go_wp2
      go_ret
      exact ⟨rfl, by repeat (first | exact Below.refl _ _ | (refine Below.drew ?_) | (refine cmp_drewN ?_ _) | (refine Below.alloc ?_ (by simp) _) | (refine Below.setCell ?_ (by simp) _))⟩
    · rw [if_neg c2] at H
      have c2b : (a0_1 == a1_1) = false := beq_eq_false_iff_ne.mpr c2
      by_cases c3 : a0_1 < a1_1
      · rw [if_pos c3] at H
        have c3b : decide (a0_1 < a1_1) = true := decide_eq_true c3
        obtain rfl := Option.some.inj H
        clear c2
        go_enter Try.func21, Try.ntmps21
        go_wp2
        go_ret
        exact ⟨rfl, by repeat (first | exact Below.refl _ _ | (refine Below.drew ?_) | (refine cmp_drewN ?_ _) | (refine Below.alloc ?_ (by simp) _) | (refine Below.setCell ?_ (by simp) _))⟩
      · rw [if_neg c3] at H
        have c3b : decide (a0_1 < a1_1) = false := decide_eq_false c3
        obtain rfl := Option.some.inj H
        clear c2
        go_enter Try.func21, Try.ntmps21
        go_wp2
        go_ret
        exact ⟨rfl, by repeat (first | exact Below.refl _ _ | (refine Below.drew ?_) | (refine cmp_drewN ?_ _) | (refine Below.alloc ?_ (by simp) _) | (refine Below.setCell ?_ (by simp) _))⟩
  · rw [if_neg c1] at H
    have c1b : (a0_0 == a1_0) = false := beq_eq_false_iff_ne.mpr c1
    by_cases c3 : a0_0 < a1_0
    · rw [if_pos c3] at H
      have c3b : decide (a0_0 < a1_0) = true := decide_eq_true c3
      obtain rfl := Option.some.inj H
      clear c1
      go_enter Try.func21, Try.ntmps21
      go_wp2
      go_ret
      exact ⟨rfl, by repeat (first | exact Below.refl _ _ | (refine Below.drew ?_) | (refine cmp_drewN ?_ _) | (refine Below.alloc ?_ (by simp) _) | (refine Below.setCell ?_ (by simp) _))⟩
    · rw [if_neg c3] at H
      have c3b : decide (a0_0 < a1_0) = false := decide_eq_false c3
      obtain rfl := Option.some.inj H
      clear c1
      go_enter Try.func21, Try.ntmps21
      go_wp2
      go_ret
      exact ⟨rfl, by repeat (first | exact Below.refl _ _ | (refine Below.drew ?_) | (refine cmp_drewN ?_ _) | (refine Below.alloc ?_ (by simp) _) | (refine Below.setCell ?_ (by simp) _))⟩

-- NOT PRINTED: function 27 (slice_All)

/-! ### slice_Shared: function 24 -/
/-! slice.All, as an iterator -/
section
attribute [local go_sem] Oper.semAt_some
theorem grown_of_below {w w' : World} (h : Below w.heap.size w w') : w.grownBy w' none := ⟨h.os, h.tape, h.output, h.size, fun k hk _ => h.block k hk⟩
/-- What a round keeps: all below n₀, and the block B. -/
def KpB (n₀ B : Nat) (W W' : World) : Prop := Below n₀ W W' ∧ W'.heap[B]? = W.heap[B]?
theorem KpB.t {n₀ B : Nat} {X Y Z : World} (h : KpB n₀ B X Y) (k : KpB n₀ B Y Z) : KpB n₀ B X Z := ⟨h.1.trans k.1, k.2.trans h.2⟩
theorem KpB.b {n₀ B : Nat} {w : World} (hn : n₀ ≤ w.heap.size) (hB : B < w.heap.size) (W : World) (l : Nat) (o o' : Obj) (hl : w.heap.size ≤ l) (h : W.heap[l]? = some o) (h1 : o.isCells = false) (h2 : o.isWalk = false) : KpB n₀ B W (W.putObj l o') :=
  ⟨belowK_b hn W l o o' hl h h1 h2, by
    have := (grownBy_putObj' W l o').block B
    by_cases hb : B < W.heap.size
    · exact this hb (fun e => by cases e; omega)
    · have e1 : W.heap[B]? = none := by simp; omega
      have e2 : (W.putObj l o').heap[B]? = none := by simp [World.putObj]; omega
      rw [e1, e2]⟩
theorem wpIn_scope_wide {n : Nat} {P : Program} {c : Code} {Q : Exit → Act → World → Prop} {a : Act} {w : World} (h : c.wpIn Fence.wide n P (Exit.noGoto Q) a w) : (Code.scope c).wpIn Fence.wide n P Q a w := wpIn_wide.2 (wp_scope_straight (wpIn_wide.1 h))
theorem cnt_le (l : List Int) (hl : l.length ≤ 140737488351232) : cntS l ≤ 17592186043905 := by unfold cntS; omega
noncomputable def encS (l0 : List Int) (i : Nat) : Array Value := #[.int .i64 (i : Int), .agg #[.int .u64 (ofS l0 i).1, .int .i64 (ofS l0 i).2.1]]
theorem C_of_below {w w' : World} {A : Option Addr} {l : List Int} {n₀ : Nat} (h : Kd.C (Kd.int .u8) w A l.length l) (hn : w.heap.size ≤ n₀) (hb : Below n₀ w w') : Kd.C (Kd.int .u8) w' A l.length l := Kd.C_below h (hb.mono hn)
set_option maxRecDepth 100000 in
set_option maxHeartbeats 2000000 in
theorem All1_in (n : Nat) (hn : 1 ≤ n) (l Bs n₀ : Nat) (A0 : Option Addr) (c0 : Nat) (l0 : List Int) (hl : l0.length ≤ 140737488351232) (hc0 : l0.length ≤ c0) (J Jx : List Nat → World → Prop)
    (W : World) (hJ : AbidesFrom W.heap.size J)
    (hY : ∀ pre x W1, J pre W1 → pre.length < cntS l0 → YieldAt Fence.wide (n - 1) Try.prog l (encS l0 x) W1 fun e W' =>
      (e = .returned (.bool true) ∧ J (pre ++ [x]) W' ∧ KpB n₀ Bs W1 W') ∨ (e = .returned (.bool false) ∧ Jx (pre ++ [x]) W'))
    (hn₀ : n₀ ≤ W.heap.size) (hBs : W.heap[Bs]? = some (.cells #[.slice A0 l0.length c0] 22 (0, 0))) (hr : ∀ W', Below n₀ W W' → Kd.C (Kd.int .u8) W' A0 l0.length l0) (h0 : J [] W) :
    CallsIn Fence.wide n Try.prog 30 #[.func (.yield l) #[] #[], .pointer (some ⟨Bs, 0, none⟩)] W fun e W' => (∃ v, e = .returned v) ∧
      ((∃ ys, ys = List.range (cntS l0) ∧ J ys W') ∨ (∃ pre, (∃ k, k ≤ cntS l0 ∧ pre = List.range k) ∧ Jx pre W')) := by
  have hcnt := Count_cnt l0 hl
  have hcl := cnt_le l0 hl
  have hBlt : Bs < W.heap.size := (Array.getElem?_eq_some_iff.1 hBs).1
  refine callsIn_of_wp Try.func30 rfl trivial ?_ rfl
  simp only [Try.ntmps30, List.size_toArray, List.length_cons, List.length_nil, Nat.reduceAdd, Nat.reduceSub, Array.replicate_succ, Array.replicate_zero, List.push_toArray, List.append_toArray, List.nil_append, List.cons_append]
  have hcs : W.cell? ⟨Bs, 0, none⟩ = some (.slice A0 l0.length c0) := (blk_cell hBs 0).trans rfl
  gi_wp2_with ((refine ⟨trivial, ?_⟩; gi_at_call 12; refine (callsIn_wide.2 (slice_Count.calls A0 c0 l0 _ _ (hr _ (Below.refl _ _)) hc0 hcnt)).mono ?_; rintro e w1 ⟨rfl, hb1⟩))
  gi_loopw [8] (fun i wr => ∃ k : Nat, k ≤ cntS l0 ∧ i = .int .i64 k ∧ J (List.range k) wr ∧ KpB n₀ Bs W wr) (fun i _ => cntS l0 - (intOf i).toNat)
  case atStart => exact ⟨0, Nat.zero_le _, rfl, hJ _ _ _ none h0 (grown_of_below hb1) (by simp), hb1.mono hn₀, hb1.block _ hBlt⟩
  case round =>
    obtain ⟨k, hk, rfl, hJs, hK⟩ := hrel
    clear hb1
    have hcw : wr.cell? ⟨Bs, 0, none⟩ = some (.slice A0 l0.length c0) := (blk_cell (hK.2.trans hBs) 0).trans rfl
    clear hcs
    by_cases hlt : k < cntS l0
    · gi_wp2_with (first
        | ((refine ⟨trivial, ?_⟩; gi_at_call 9; refine (callsIn_wide.2 (Of_call A0 c0 l0 k _ (hr _ hK.1) hc0 hl)).mono ?_; rintro e w2 ⟨rfl, hb2⟩;
            have hJ2 := hJ _ _ _ none (hJ _ _ _ none hJs (grown_of_below hb2) (by simp)) (World.grownBy_alloc w2 (.cells #[.int .u64 (ofS l0 k).1, .int .i64 (ofS l0 k).2.1] 26) none) (by simp);
            obtain ⟨fn, tmps, assign, body, hy, hR⟩ := hY _ k _ hJ2 (by rw [List.length_range]; exact hlt);
            dsimp only [encS] at hy)))
      refine hR.mono ?_
      rintro e W3 (⟨rfl, hJ3, hk3⟩ | ⟨rfl, hJx3⟩)
      · gi_wp2
        go_roundw
        case rel =>
          have hsz2 := hb2.size
          refine ⟨k + 1, by omega, by simp, by rw [List.range_succ]; exact hJ3, (hK.t ⟨(hb2.mono (Nat.le_trans hn₀ hK.1.size)).alloc (by have := hK.1.size; omega) _, ?_⟩).t hk3⟩
          have hlt2 := hK.1.size
          exact (Below.heap_alloc w2 _ Bs (by omega)).trans (hb2.block Bs (by omega))
        case measure => simp [intOf]; omega
      · gi_wp2
        refine bodyPost_ret (results_none rfl _ _ _) rfl ?_
        exact ⟨⟨_, rfl⟩, .inr ⟨_, ⟨k + 1, by omega, (List.range_succ).symm⟩, hJx3⟩⟩
    · obtain rfl : k = cntS l0 := by omega
      gi_wp2
      go_end0
      exact ⟨⟨_, rfl⟩, .inl ⟨_, rfl, hJs⟩⟩
/-- slice.All boxes the key. -/
theorem All_in (n : Nat) (A : Option Addr) (len cap : Nat) (w : World) :
    CallsIn Fence.wide n Try.prog 27 #[.slice A len cap] w fun e w' => e = .returned (.func (.func 30) #[] #[.pointer (some ⟨w.heap.size, 0, none⟩)]) ∧ w' = w.alloc (.cells #[.slice A len cap] 22) := by
  refine callsIn_of_wp Try.func27 rfl trivial ?_ rfl
  simp only [Try.ntmps27, List.size_toArray, List.length_cons, List.length_nil, Nat.reduceAdd, Nat.reduceSub, Array.replicate_succ, Array.replicate_zero, List.push_toArray, List.append_toArray, List.nil_append, List.cons_append]
  gi_wp2
  go_ret
  exact ⟨rfl, rfl⟩
theorem All_stops (n : Nat) (hn : 1 ≤ n) (Bs n₀ : Nat) (A0 : Option Addr) (c0 : Nat) (l0 : List Int) (hl : l0.length ≤ 140737488351232) (hc0 : l0.length ≤ c0) (w : World) (hn₀ : n₀ ≤ w.heap.size)
    (hBs : w.heap[Bs]? = some (.cells #[.slice A0 l0.length c0] 22 (0, 0))) (hr : ∀ W', Below n₀ w W' → Kd.C (Kd.int .u8) W' A0 l0.length l0) :
    SeqStopsK Fence.wide n Try.prog 30 #[.pointer (some ⟨Bs, 0, none⟩)] (encS l0) (KpB n₀ Bs) (fun ys => ys = List.range (cntS l0)) (fun pre => ∃ k, k ≤ cntS l0 ∧ pre = List.range k) (cntS l0) w :=
  fun l J Jx W hW hJ _ hY h0 =>
    All1_in n hn l Bs n₀ A0 c0 l0 hl hc0 J Jx W hJ hY (Nat.le_trans hn₀ hW.size) ((hW.block Bs (Array.getElem?_eq_some_iff.1 hBs).1).trans hBs) (fun W' h => hr W' ((hW.mono hn₀).trans h)) h0
theorem Boxed.kept2 {W : World} {B : Nat} {t : TypeId} {v : Value} (h : Boxed W B t v) (b : Nat) (u : Value) (o : Obj) (hne : B ≠ b) : Boxed ((W.setCell ⟨b, 0, none⟩ u).alloc o) B t v :=
  (h.kept (grownBy_setCell' W b u) (fun e => hne (by cases e; rfl))).alloc _
theorem blk_own {β : Type} (B : Nat) (t : TypeId) (cs : β → Array Value) : Own (fun s W => W.heap[B]? = some (.cells (cs s) t (0, 0))) := fun s X Y row hs hg hrow =>
  (hg.block B (Array.getElem?_eq_some_iff.1 hs).1 (fun e => by
    obtain ⟨o, ho, hc⟩ := hrow B e.symm
    rw [hs] at ho; cases ho; cases hc)).trans hs
/-! slice.Shared -/
/-- The two slices i are the same, and go on. -/
noncomputable def contS (l0 l1 : List Int) (i : Nat) : Bool := decide ((ofS l1 i).2.2 = 0 ∧ (ofS l0 i).1 = (ofS l1 i).1 ∧ (ofS l0 i).2.1 = (ofS l1 i).2.1 ∧ (ofS l0 i).2.1 = 9)
theorem contS_iff (l0 l1 : List Int) (i : Nat) : contS l0 l1 i = true ↔ (ofS l1 i).2.2 = 0 ∧ (ofS l0 i).1 = (ofS l1 i).1 ∧ (ofS l0 i).2.1 = (ofS l1 i).2.1 ∧ (ofS l0 i).2.1 = 9 := by
  unfold contS
  rw [decide_eq_true_eq]
noncomputable def sharedL (l0 l1 : List Int) : Nat → Nat → Nat
  | 0, i => i
  | d + 1, i => if contS l0 l1 i = true then sharedL l0 l1 d (i + 1) else i
noncomputable def sharedN (l0 l1 : List Int) : Nat := sharedL l0 l1 (cntS l0) 0
/-- How a round of Shared is left by its break. -/
def stopS (l0 l1 : List Int) (b n₀ : Nat) (W0 : World) (c : Code) (pre : List Nat) (W : World) : Prop :=
  ((c = .exit 0 ∧ ∃ ini last, pre = ini ++ [last] ∧ (∀ i ∈ ini, contS l0 l1 i = true) ∧ contS l0 l1 last = false) ∧ Boxed W b 3 (.int .i64 (pre.length - 1 : Nat))) ∧ Below n₀ W0 W
theorem stopS_own (l0 l1 : List Int) (b n₀ B : Nat) (W0 : World) (c : Code) (h1 : n₀ ≤ W0.heap.size) (h2 : n₀ ≤ B) : OwnFrom B (stopS l0 l1 b n₀ W0 c) :=
  OwnFrom.and (OwnFrom.and (ownFrom_pure _ _) (Own.from (boxed_own _ _ _) _)) (ownFrom_below h1 h2)
theorem sharedL_all (l0 l1 : List Int) (d : Nat) : ∀ i, (∀ j, j < i + d → contS l0 l1 j = true) → sharedL l0 l1 d i = i + d := by
  induction d with
  | zero => intro i _; rfl
  | succ d ih =>
    intro i h
    unfold sharedL
    rw [if_pos (h i (by omega)), ih (i + 1) (fun j hj => h j (by omega))]
    omega
theorem sharedL_stop (l0 l1 : List Int) (d : Nat) : ∀ i k, i ≤ k → k < i + d → (∀ j, i ≤ j → j < k → contS l0 l1 j = true) → contS l0 l1 k = false → sharedL l0 l1 d i = k := by
  induction d with
  | zero => intro i k h1 h2; omega
  | succ d ih =>
    intro i k h1 h2 h h0
    unfold sharedL
    by_cases e : i = k
    · subst e
      rw [if_neg (by rw [h0]; decide)]
    · rw [if_pos (h i (Nat.le_refl _) (by omega))]
      exact ih (i + 1) k (by omega) (by omega) (fun j hj1 hj2 => h j (by omega) hj2) h0
set_option maxRecDepth 100000 in
set_option maxHeartbeats 4000000 in
theorem Shared_in (A0 : Option Addr) (c0 : Nat) (l0 : List Int) (A1 : Option Addr) (c1 : Nat) (l1 : List Int) (w : World) (hr0 : Kd.C (Kd.int .u8) w A0 l0.length l0) (hc0 : l0.length ≤ c0) (hr1 : Kd.C (Kd.int .u8) w A1 l1.length l1) (hc1 : l1.length ≤ c1)
    (hl0 : l0.length ≤ 140737488351232) (hl1 : l1.length ≤ 140737488351232) :
    CallsIn Fence.wide 6 Try.prog 24 #[.slice A0 l0.length c0, .slice A1 l1.length c1] w fun e w' => e = .returned (.int .i64 (sharedN l0 l1 : Nat)) ∧ Below w.heap.size w w' := by
  refine callsIn_of_wp_marks Try.func24 rfl trivial ?_ rfl
  simp only [Try.ntmps24, List.size_toArray, List.length_cons, List.length_nil, Nat.reduceAdd, Nat.reduceSub, Array.replicate_succ, Array.replicate_zero, List.push_toArray, List.append_toArray, List.nil_append, List.cons_append]
  gi_wp2
  refine wpIn_scope_wide ?_
  gi_wp2
  refine wpIn_label ?_
  gi_wp2_with (refine ⟨trivial, ?_⟩; gi_at_call 27; refine (All_in _ _ _ _ _).mono ?_; rintro e w' ⟨rfl, rfl⟩)
  have bB := ((Boxed.new w 22 (.slice A1 l1.length c1)).alloc (.cells #[.int .i64 0] 3)).alloc (.cells #[.slice A0 l0.length c0] 22)
  have bN := (Boxed.new (w.alloc (.cells #[.slice A1 l1.length c1] 22)) 3 (.int .i64 0)).alloc (.cells #[.slice A0 l0.length c0] 22)
  have bK := Boxed.new ((w.alloc (.cells #[.slice A1 l1.length c1] 22)).alloc (.cells #[.int .i64 0] 3)) 22 (.slice A0 l0.length c0)
  simp only [World.size_alloc] at bN bK
  have hB0 : Below w.heap.size w (((w.alloc (.cells #[.slice A1 l1.length c1] 22)).alloc (.cells #[.int .i64 0] 3)).alloc (.cells #[.slice A0 l0.length c0] 22)) := (((Below.refl _ w).alloc (Nat.le_refl _) _).alloc (by simp) _).alloc (by simp; omega) _
  have hsz : (((w.alloc (.cells #[.slice A1 l1.length c1] 22)).alloc (.cells #[.int .i64 0] 3)).alloc (.cells #[.slice A0 l0.length c0] 22)).heap.size = w.heap.size + 3 := by simp
  obtain ⟨W0, hW0⟩ : ∃ W0, ((w.alloc (.cells #[.slice A1 l1.length c1] 22)).alloc (.cells #[.int .i64 0] 3)).alloc (.cells #[.slice A0 l0.length c0] 22) = W0 := ⟨_, rfl⟩
  rw [hW0] at bB bN bK hB0 hsz ⊢
  clear hW0
  have hr0' : ∀ W', Below w.heap.size W0 W' → Kd.C (Kd.int .u8) W' A0 l0.length l0 := fun W' h => Kd.C_below hr0 (hB0.trans h)
  have hr1' : ∀ W', Below w.heap.size W0 W' → Kd.C (Kd.int .u8) W' A1 l1.length l1 := fun W' h => Kd.C_below hr1 (hB0.trans h)
  have hcl := cnt_le l0 hl0
  refine wpIn_rangeFunc_ownH (F := Fence.wide) rfl (by decide) (gf := 30) (lb := #[.pointer (some ⟨w.heap.size + 1 + 1, 0, none⟩)]) rfl trivial (enters_of Try.func30 (by kernel_rfl) rfl)
    (All_stops 5 (by decide) (w.heap.size + 1 + 1) w.heap.size A0 c0 l0 hl0 hc0 W0 (by omega) bK hr0') KpB.t (KpB.b (by omega) (by omega)) (Below.refl _ _) (fun _ => rfl)
    (fun pre W => ((Boxed W (w.heap.size + 1) 3 (.int .i64 (pre.length : Nat)) ∧ Boxed W w.heap.size 22 (.slice A1 l1.length c1)) ∧ (∀ i ∈ pre, contS l0 l1 i = true)) ∧ Below w.heap.size W0 W)
    (stopS l0 l1 (w.heap.size + 1) w.heap.size W0)
    (OwnFrom.and (OwnFrom.and (OwnFrom.and (Own.from (boxed_own _ _ _) _) (Own.from (boxed_own _ _ _) _)) (ownFrom_pure _ _)) (ownFrom_below (by omega) (by omega)))
    (fun c => stopS_own l0 l1 _ _ _ W0 c (by omega) (by omega))
    ⟨⟨⟨bN, bB⟩, by simp⟩, Below.refl _ _⟩
    (fun x a' W => ∃ Bx, w.heap.size + 2 < Bx ∧ W.heap[Bx]? = some (.cells #[.int .u64 (ofS l0 x).1, .int .i64 (ofS l0 x).2.1] 26 (0, 0)) ∧ a' = { tmps := #[.slice A0 l0.length c0, .slice A1 l1.length c1, undef, .pointer (some ⟨w.heap.size, 0, none⟩), .int .i64 0, .pointer (some ⟨w.heap.size + 1, 0, none⟩), .int .i64 (x : Int), .pointer (some ⟨Bx, 0, none⟩), undef, undef, .slice A0 l0.length c0, .func (.func 30) #[] #[.pointer (some ⟨w.heap.size + 1 + 1, 0, none⟩)], .int .i64 (x : Int), .agg #[.int .u64 (ofS l0 x).1, .int .i64 (ofS l0 x).2.1], undef, undef, undef, undef, undef, undef, undef, undef, undef, undef, undef, undef, undef, undef, undef, undef, undef, undef, undef, undef, undef], defers := [] })
    (fun x a' _ X Y row hs hg hr => by obtain ⟨Bx, h1, h2, h3⟩ := hs; exact ⟨Bx, h1, blk_own Bx 26 (fun (_ : Unit) => #[.int .u64 (ofS l0 x).1, .int .i64 (ofS l0 x).2.1]) () X Y row h2 hg (fun r e => (hr r e).2), h3⟩)
    ?assign ?body ?done ?stop
  case assign =>
    rintro l pre x W K ⟨⟨⟨bN', bB'⟩, hp⟩, hB⟩ hK
    dsimp only [encS]
    gi_wp2
    have hsw := hB.size
    refine hK _ _ ((KeepsOthers.alloc _ _).from _) ⟨(Below.refl _ W).alloc (by omega) _, Below.heap_alloc W _ _ (by omega)⟩ ⟨⟨⟨bN'.alloc _, bB'.alloc _⟩, hp⟩, hB.alloc (by omega) _⟩ ⟨W.heap.size, by omega, World.alloc_heap_new W _, rfl⟩
  case body =>
    rintro l pre x a' W hl ⟨r, hr⟩ ⟨⟨⟨bN', bB'⟩, hp⟩, hB⟩ ⟨Bx, hBx, bX, rfl⟩ hlt
    clear bB bN bK hB0 hr0' hr0 hr1 hr
    have hsw := hB.size
    have hBxl : Bx < W.heap.size := (Array.getElem?_eq_some_iff.1 bX).1
    have hcb := bB'.cell
    have bR : ∀ W1 w2 : World, W1 = W → Below W1.heap.size W1 w2 → (w2.cell? ⟨Bx, 0, none⟩ = some (.int .u64 (ofS l0 x).1) ∧ w2.cell? ⟨Bx, 1, none⟩ = some (.int .i64 (ofS l0 x).2.1)) ∧ Boxed w2 (w.heap.size + 1) 3 (.int .i64 (pre.length : Nat)) ∧ Bx < w2.heap.size := by
      rintro W1 w2 rfl h
      have h1 : w2.heap[Bx]? = _ := (h.block Bx hBxl).trans bX
      exact ⟨⟨(blk_cell h1 0).trans rfl, (blk_cell h1 1).trans rfl⟩, bN'.kept (grown_of_below h) (by simp), Nat.lt_of_lt_of_le hBxl h.size⟩
    have HR := Aside0.mk bR
    have HC := Aside0.mk (hr1' W hB)
    have HN := Aside0.mk bN'
    have q2b := Aside0.mk bB'
    clear bR hr1' bX bB' bN'
    by_cases hc : contS l0 l1 x = true
    · have hc' := (contS_iff l0 l1 x).1 hc
      obtain ⟨g1, g2, g3, g4⟩ := hc'
      rw [g3] at g4
      gi_wp2_with (refine ⟨trivial, ?_⟩; gi_at_call 9; refine (CallsIn.inRound l (callsIn_wide.2 (Of_call A1 c1 l1 x _ HC.out hc1 hl1))).mono ?_; rintro e w2 ⟨rfl, hb2⟩; obtain ⟨⟨hx0, hx1⟩, hbn, hbl⟩ := HR.out _ _ rfl hb2; have hcn := hbn.cell; have hfn := hbn.frozen; have hnl := hbn.lt)
      have hs2 := hb2.size
      have q1 : KeepsFrom W0.heap.size W ((w2.setCell ⟨w.heap.size + 1, 0, none⟩ (.int .i64 ((pre.length : Int) + 1))).alloc (.cells #[.int .u64 (ofS l1 x).1, .int .i64 9] 26)) :=
        ((KeepsFrom.of_grownBy (grown_of_below hb2) (by simp)).trans ((KeepsOthers.setCell _ _ _).from _)).trans ((KeepsOthers.alloc _ _).from _)
      have q2 : Below w.heap.size W ((w2.setCell ⟨w.heap.size + 1, 0, none⟩ (.int .i64 ((pre.length : Int) + 1))).alloc (.cells #[.int .u64 (ofS l1 x).1, .int .i64 9] 26)) :=
        ((hb2.mono (by omega)).setCell (p := ⟨w.heap.size + 1, 0, none⟩) (by simp) _).alloc (by simp [World.setCell]; omega) _
      have e3 : ((w2.setCell ⟨w.heap.size + 1, 0, none⟩ (.int .i64 ((pre.length : Int) + 1))).alloc (.cells #[.int .u64 (ofS l1 x).1, .int .i64 9] 26)).heap[w.heap.size + 1 + 1]? = W.heap[w.heap.size + 1 + 1]? :=
        ((Below.heap_alloc _ _ _ (by simp [World.setCell]; omega)).trans (Below.heap_setCell _ _ _ _ (by simp))).trans (hb2.block _ (by omega))
      have q4 := (hbn.set (.int .i64 ((pre.length : Int) + 1))).alloc (.cells #[.int .u64 (ofS l1 x).1, .int .i64 9] 26)
      have q5 : Boxed ((w2.setCell ⟨w.heap.size + 1, 0, none⟩ (.int .i64 ((pre.length : Int) + 1))).alloc (.cells #[.int .u64 (ofS l1 x).1, .int .i64 9] 26)) w.heap.size 22 (.slice A1 l1.length c1) :=
        Boxed.kept2 (Boxed.kept q2b.out (grown_of_below hb2) (by simp)) _ _ _ (by omega)
      exact ⟨q1, ⟨q2, e3⟩, ⟨⟨by simpa using q4, q5⟩, fun i hi => (List.mem_append.1 hi).elim (hp i) (fun e => by simp at e; subst e; exact hc)⟩, hB.trans q2⟩
    · have finE : ∀ (w2 : World) (u : Array Value), Below W.heap.size W w2 → Boxed w2 (w.heap.size + 1) 3 (.int .i64 (pre.length : Nat)) → KeepsFrom W0.heap.size W (w2.alloc (.cells u 26)) ∧
          stopS l0 l1 (w.heap.size + 1) w.heap.size W0 (.exit 0) (pre ++ [x]) (w2.alloc (.cells u 26)) := by
        intro w2 u h1 h2
        have hs2 := h1.size
        refine ⟨(KeepsFrom.of_grownBy (grown_of_below h1) (by simp)).trans ((KeepsOthers.alloc _ _).from _), ⟨⟨rfl, pre, x, rfl, hp, by simpa using hc⟩, ?_⟩, hB.trans ((h1.mono (by omega)).alloc (by omega) _)⟩
        have e : (pre ++ [x]).length - 1 = pre.length := by simp
        rw [e]
        exact h2.alloc _
      rw [contS_iff] at hc
      have FE := Aside0.mk finE
      clear finE
      by_cases g1 : (ofS l1 x).2.2 = 0
      · by_cases g2 : (ofS l0 x).1 = (ofS l1 x).1
        · by_cases g3 : (ofS l0 x).2.1 = (ofS l1 x).2.1
          · have g4 : ¬ (ofS l0 x).2.1 = 9 := fun g4 => hc ⟨g1, g2, g3, g4⟩
            rw [g3] at g4
            have g4b : ((ofS l1 x).2.1 != 9) = true := bne_iff_ne.mpr g4
            clear g4 hc
            gi_wp2_with (refine ⟨trivial, ?_⟩; gi_at_call 9; refine (CallsIn.inRound l (callsIn_wide.2 (Of_call A1 c1 l1 x _ HC.out hc1 hl1))).mono ?_; rintro e w2 ⟨rfl, hb2⟩; obtain ⟨⟨hx0, hx1⟩, hbn, hbl⟩ := HR.out _ _ rfl hb2; have hcn := hbn.cell; have hfn := hbn.frozen; have hnl := hbn.lt)
            exact FE.out _ _ hb2 hbn
          · have g3b : ((ofS l0 x).2.1 == (ofS l1 x).2.1) = false := beq_eq_false_iff_ne.mpr g3
            clear g3 hc
            gi_wp2_with (refine ⟨trivial, ?_⟩; gi_at_call 9; refine (CallsIn.inRound l (callsIn_wide.2 (Of_call A1 c1 l1 x _ HC.out hc1 hl1))).mono ?_; rintro e w2 ⟨rfl, hb2⟩; obtain ⟨⟨hx0, hx1⟩, hbn, hbl⟩ := HR.out _ _ rfl hb2; have hcn := hbn.cell; have hfn := hbn.frozen; have hnl := hbn.lt)
            exact FE.out _ _ hb2 hbn
        · have g2b : ((ofS l0 x).1 == (ofS l1 x).1) = false := beq_eq_false_iff_ne.mpr g2
          clear g2 hc
          gi_wp2_with (refine ⟨trivial, ?_⟩; gi_at_call 9; refine (CallsIn.inRound l (callsIn_wide.2 (Of_call A1 c1 l1 x _ HC.out hc1 hl1))).mono ?_; rintro e w2 ⟨rfl, hb2⟩; obtain ⟨⟨hx0, hx1⟩, hbn, hbl⟩ := HR.out _ _ rfl hb2; have hcn := hbn.cell; have hfn := hbn.frozen; have hnl := hbn.lt)
          exact FE.out _ _ hb2 hbn
      · have g1b : ((ofS l1 x).2.2 != 0) = true := bne_iff_ne.mpr g1
        have g1c : ((ofS l1 x).2.2 == 0) = false := beq_eq_false_iff_ne.mpr g1
        clear g1 hc
        gi_wp2_with (refine ⟨trivial, ?_⟩; gi_at_call 9; refine (CallsIn.inRound l (callsIn_wide.2 (Of_call A1 c1 l1 x _ HC.out hc1 hl1))).mono ?_; rintro e w2 ⟨rfl, hb2⟩; obtain ⟨⟨hx0, hx1⟩, hbn, hbl⟩ := HR.out _ _ rfl hb2; have hcn := hbn.cell; have hfn := hbn.frozen; have hnl := hbn.lt)
        exact FE.out _ _ hb2 hbn
  case done =>
    rintro D ys W hD rfl ⟨⟨⟨bN', bB'⟩, hp⟩, hB⟩ hK
    have hcn := bN'.cell
    rw [List.length_range] at hcn
    have hall := sharedL_all l0 l1 (cntS l0) 0 (fun i hi => hp i (List.mem_range.2 (by omega)))
    clear bB bN bK hr0' hr1' hr0 hr1 bN' bB' hp
    gi_wp2
    refine ⟨by simp, .inl ⟨_, _, rfl, run_takeDeferred hK, ?_⟩⟩
    exact ⟨_, results_tmp rfl _ _ _, by unfold sharedN; rw [hall]; simp, (hB0.trans hB).trans (belowK_b (w := w) (Nat.le_refl _) W D _ _ (by omega) hK rfl rfl)⟩
  case stop =>
    rintro D c pre W hD ⟨k, hk, rfl⟩ ⟨⟨⟨rfl, ini, last, e1, e2, e3⟩, bN'⟩, hB⟩ hK
    obtain ⟨k', rfl⟩ : ∃ k', k = k' + 1 := by
      cases k with
      | zero => simp at e1
      | succ k' => exact ⟨k', rfl⟩
    rw [List.range_succ] at e1
    obtain ⟨rfl, e5⟩ := List.append_inj' e1 rfl
    obtain rfl : k' = last := by simpa using e5
    have hcn := bN'.cell
    have hstop := sharedL_stop l0 l1 (cntS l0) 0 k' (by omega) (by omega) (fun i h1 h2 => e2 i (List.mem_range.2 h2)) e3
    rw [List.length_range, Nat.add_sub_cancel] at hcn
    clear bB bN bK hr0' hr1' hr0 hr1 bN' e1 e2 e5 e3
    gi_wp2
    refine ⟨by simp, .inl ⟨_, _, rfl, run_takeDeferred hK, ?_⟩⟩
    exact ⟨_, results_tmp rfl _ _ _, by unfold sharedN; rw [hstop]; rfl, (hB0.trans hB).trans (belowK_b (w := w) (Nat.le_refl _) W D _ _ (by omega) hK rfl rfl)⟩
end
def slice_Shared.ok (l0 l1 : List Int) : Prop := l0.length ≤ 140737488351232 ∧ l1.length ≤ 140737488351232
instance (l0 l1 : List Int) : Decidable (slice_Shared.ok l0 l1) := by unfold slice_Shared.ok; infer_instance
/-! .. and as something that can be reckoned -/
def ofC (l : List Int) (i : Nat) : Int × Int × Int := (slice_Of.f 12 l (i : Int)).getD (0, 0, 0)
theorem ofC_eq (l : List Int) (i : Nat) (hl : l.length ≤ 140737488351232) : ofC l i = ofS l i := by unfold ofC; rw [ofS_eq l i hl 12 (Nat.le_refl _)]; rfl
def contC (l0 l1 : List Int) (i : Nat) : Bool := (ofC l1 i).2.2 == 0 && ((ofC l0 i).1 == (ofC l1 i).1 && ((ofC l0 i).2.1 == (ofC l1 i).2.1 && (ofC l0 i).2.1 == 9))
theorem contC_eq (l0 l1 : List Int) (i : Nat) (h0 : l0.length ≤ 140737488351232) (h1 : l1.length ≤ 140737488351232) : contC l0 l1 i = contS l0 l1 i := by
  rw [Bool.eq_iff_iff, contS_iff]
  unfold contC
  rw [ofC_eq l0 i h0, ofC_eq l1 i h1]
  simp only [Bool.and_eq_true, beq_iff_eq]
def sharedK (l0 l1 : List Int) : Nat → Nat → Nat
  | 0, i => i
  | d + 1, i => if contC l0 l1 i = true then sharedK l0 l1 d (i + 1) else i
theorem sharedK_eq (l0 l1 : List Int) (h0 : l0.length ≤ 140737488351232) (h1 : l1.length ≤ 140737488351232) (d : Nat) : ∀ i, sharedK l0 l1 d i = sharedL l0 l1 d i := by
  induction d with
  | zero => intro i; rfl
  | succ d ih =>
    intro i
    unfold sharedK sharedL
    rw [contC_eq l0 l1 i h0 h1, ih]
def slice_Shared.f (l0 : List Int) (l1 : List Int) : Option Int := if slice_Shared.ok l0 l1 then some ((sharedK l0 l1 (cntS l0) 0 : Nat) : Int) else none
theorem slice_Shared.calls (A0 : Option Addr) (c0 : Nat) (l0 : List Int) (A1 : Option Addr) (c1 : Nat) (l1 : List Int) (r : Int) (w : World) (hr0 : Kd.C (Kd.int .u8) w A0 l0.length l0) (hc0 : l0.length ≤ c0) (hr1 : Kd.C (Kd.int .u8) w A1 l1.length l1) (hc1 : l1.length ≤ c1) (h : slice_Shared.f l0 l1 = some r) :
    Calls Try.prog 24 #[.slice A0 l0.length c0, .slice A1 l1.length c1] w fun e w' => e = .returned (.int .i64 r) ∧ Below w.heap.size w w' := by
  unfold slice_Shared.f at h
  by_cases hk : slice_Shared.ok l0 l1
  · rw [if_pos hk] at h
    obtain rfl := Option.some.inj h
    rw [sharedK_eq l0 l1 hk.1 hk.2]
    exact callsIn_wide.1 (Shared_in A0 c0 l0 A1 c1 l1 w hr0 hc0 hr1 hc1 hk.1 hk.2)
  · rw [if_neg hk] at h
    cases h

-- NOT PRINTED: function 31 (bytealg_Compare)

/-! ### bytes_Compare: function 29 -/
/-- What the model's own entries read of a slice of bytes. -/
theorem loads_of_C {P : Program} {w : World} {A : Option Addr} {l : List Int} (c : Nat) (h : Kd.C (Kd.int .u8) w A l.length l) :
    (Go.Extern.Bytes.bytesOf (.slice A l.length c)).run P w = .ok ⟨(Go.Lib.bytesOf l).toArray⟩ w := by
  have h' := Kd.reads_of_C (d := (0 : Int)) (enc := Value.int .u8) (h1 := fun _ => rfl) h
  cases A with
  | none =>
    have : l = [] := by
      rcases l with _ | ⟨x, l⟩
      · rfl
      · obtain ⟨ad, he, _⟩ := h'.2.2 (by simp)
        cases he
    subst this
    rfl
  | some a =>
    have hc : ∀ j x, l[j]? = some x → w.cell? (a.add j) = some (.int .u8 x) := by
      intro j x hj
      have hjl : j < l.length := (List.getElem?_eq_some_iff.1 hj).1
      obtain ⟨ad, he, hcell⟩ := h'.2.2 (by omega)
      cases he
      rw [hcell j hjl, List.getD_eq_getElem?_getD, hj]
      rfl
    have hl := Go.Lib.run_loadBytesX (P := P) w l a .empty hc
    have he : (⟨ByteArray.empty.data ++ (Go.Lib.bytesOf l).toArray⟩ : ByteArray) = ⟨(Go.Lib.bytesOf l).toArray⟩ := by
      apply ByteArray.ext
      show (#[] : Array UInt8) ++ (Go.Lib.bytesOf l).toArray = (Go.Lib.bytesOf l).toArray
      simp
    rw [he] at hl
    exact hl
theorem run_compareSlices {P : Program} {w : World} {A B : Option Addr} {l m : List Int} (c d : Nat) (h : Kd.C (Kd.int .u8) w A l.length l) (g : Kd.C (Kd.int .u8) w B m.length m) :
    (Go.Extern.BytealgCompare.compare #[.slice A l.length c, .slice B m.length d]).run P w = .ok (.int .i64 (Go.Lib.compareBytes (Go.Lib.bytesOf l) (Go.Lib.bytesOf m))) w := by
  change Sem.run P (do pure (goInt (Go.Extern.BytealgCompare.cmp (← Go.Extern.Bytes.bytesOf (.slice A l.length c)) (← Go.Extern.Bytes.bytesOf (.slice B m.length d))))) w = _
  simp only [Sem.run_bind, Sem.run_pure, loads_of_C c h, loads_of_C d g, Result.andThen]
  rw [Go.Lib.cmp_eq]
  rfl
def bytes_Compare.f (l0 : List Int) (l1 : List Int) : Option Int := some (Go.Lib.compareBytes (Go.Lib.bytesOf l0) (Go.Lib.bytesOf l1))
theorem bytes_Compare.calls (A0 : Option Addr) (c0 : Nat) (l0 : List Int) (A1 : Option Addr) (c1 : Nat) (l1 : List Int) (r : Int) (w : World) (hr0 : Kd.C (Kd.int .u8) w A0 l0.length l0) (hc0 : l0.length ≤ c0) (hr1 : Kd.C (Kd.int .u8) w A1 l1.length l1) (hc1 : l1.length ≤ c1) (h : bytes_Compare.f l0 l1 = some r) :
    Calls Try.prog 29 #[.slice A0 l0.length c0, .slice A1 l1.length c1] w fun e w' => e = .returned (.int .i64 r) ∧ Drawn0 w w' := by
  obtain rfl := Option.some.inj h
  clear h
  have hx := run_compareSlices (P := Try.prog) c0 c1 hr0 hr1
  have hy : (callFunc 31 #[.slice A0 l0.length c0, .slice A1 l1.length c1]).run Try.prog w = .ok (.value (.int .i64 (Go.Lib.compareBytes (Go.Lib.bytesOf l0) (Go.Lib.bytesOf l1)))) w := by
    rw [run_callFunc_extern Try.func31 (by kernel_rfl) (by kernel_rfl) (by kernel_rfl) (e := Go.Extern.BytealgCompare.compare) (by kernel_rfl), hx]
    rfl
  clear hx hr0 hr1 hc0 hc1
  go_enter Try.func29, Try.ntmps29
  go_wp2
  go_ret
  exact ⟨rfl, Drawn0.refl _⟩

/-! ### slice_CompareKeys: function 25 -/
def slice_CompareKeys.f (l0 : List Int) (l1 : List Int) : Option (Int) := (bytes_Compare.f l0 l1).bind fun t126 => (some t126)
set_option maxHeartbeats 8000000 in
set_option maxRecDepth 100000 in
theorem slice_CompareKeys.calls (A0 : Option Addr) (c0 : Nat) (l0 : List Int) (A1 : Option Addr) (c1 : Nat) (l1 : List Int) (r : Int) (w : World) (hr0 : Kd.C (Kd.int .u8) w A0 l0.length l0) (hc0 : l0.length ≤ c0) (hr1 : Kd.C (Kd.int .u8) w A1 l1.length l1) (hc1 : l1.length ≤ c1) (h : slice_CompareKeys.f l0 l1 = some r) :
    Calls Try.prog 25 #[.slice A0 l0.length c0, .slice A1 l1.length c1] w fun e w' => e = .returned (.int .i64 r) ∧ Drawn0 w w' := by
  have HR0 := Aside0.mk hr0
  have HC0 := Aside0.mk hc0
  clear hr0 hc0
  have HR1 := Aside0.mk hr1
  have HC1 := Aside0.mk hc1
  clear hr1 hc1
  have H : ((bytes_Compare.f l0 l1).bind fun t126 => (some t126)) = some r := h
  clear h
  replace H := Option.bind_eq_some_iff.mp H
  obtain ⟨t126, A30, H⟩ := H
  replace H : (some t126) = some r := H
  have A3 := Aside0.mk A30
  clear A30
  obtain rfl := Option.some.inj H
  go_enter Try.func25, Try.ntmps25
  go_wp2_with (first | ((with_reducible refine gate_callee (f := 29) rfl ?_); refine goesL_ (some 7) rfl rfl Try.func29 (by kernel_rfl) rfl #[.slice A0 l0.length c0, .slice A1 l1.length c1] rfl (by (try simp only [List.map_toArray, List.map_cons, List.map_nil]); first | done | rfl | (simp only [List.length_drop, List.length_take]; rfl)) ?_; (with_reducible refine (bytes_Compare.calls _ _ l0 _ _ l1 t126 _ ?side1 ?side2 ?side3 ?side4 A3.out).mono ?_); (case side1 => repeat (first | exact HR0.out | (with_reducible refine Kd.C_alloc ?_ _) | (with_reducible refine Kd.C_drewN ?_ _) | (with_reducible refine Kd.C_drew ?_))); (case side2 => exact HC0.out); (case side3 => repeat (first | exact HR1.out | (with_reducible refine Kd.C_alloc ?_ _) | (with_reducible refine Kd.C_drewN ?_ _) | (with_reducible refine Kd.C_drew ?_))); (case side4 => exact HC1.out); rintro e w' ⟨rfl, ⟨nd, rfl⟩⟩; refine ⟨_, rfl, ?_⟩))
  go_ret
  exact ⟨by first | rfl | (simp; done) | (simp [*]; done), by repeat (first | exact Drawn0.refl _ | apply Drawn0.step)⟩

end Go.Proofs.Ytbaaihpkolicmaa.HS
