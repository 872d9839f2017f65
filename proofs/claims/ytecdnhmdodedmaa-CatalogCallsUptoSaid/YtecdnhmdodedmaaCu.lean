/- garnerref16.MayOp, MayTxn, MaySessions, and bytes.Clone: what they answer (walked by hand). -/
import Derived.Test.YtecdnhmdodedmaaCsa
namespace Go.Proofs.Ytecdnhmdodedmaa.Ch
open Go.RowKit Go.Proofs.YtecdnhmdodedmaaW.PrintWords Go.Proofs.YtecdnhmdodedmaaW.PrintLast Go.Proofs.YtecdnhmdodedmaaW.PrintMore Go.Proofs.Ytecdnhmdodedmaa.HS Go.Proofs.Ytecdnhmdodedmaa.Ca Go.Proofs.Ytecdnhmdodedmaa.It
set_option linter.unusedVariables false
set_option linter.unusedSimpArgs false
theorem refCheck_call2 (j : Job) (A : Option Addr) (n : Nat) (w : World) (hj : j.In w A n) (hts : j.ts.length ≤ 1048576) : Calls Try.prog 12 #[.agg (j.v A n)] w fun e w' => e = .returned (.int .i64 (err (ok j))) ∧ Below w.heap.size w w' :=
  garnerref16_Check.calls _ j.w j.l j.wi j.c j.d j.e A n j.ts (err (ok j)) w hj.C hj.h (refCheck_is j hts _ (Nat.le_refl _))
theorem refMayKey (A : Option Addr) (c : Nat) (l : List Int) (w : World) (h : Kd.C (Kd.int .u8) w A l.length l) (hc : l.length ≤ c) : Calls Try.prog 47 #[.slice A l.length c] w fun e w' => e = .returned (.bool (keyB l)) ∧ Drawn0 w w' :=
  garnerref13_MayKey.calls A c l (keyB l) w h hc (rowMayKey_f l)
theorem refMay (A : Option Addr) (c : Nat) (l : List (List Int)) (hl : l.length ≤ 1048576) (w : World) (h : Kd.C (Kd.slice 5 (Kd.int .u8)) w A l.length l) (hc : l.length ≤ c) : Calls Try.prog 48 #[.slice A l.length c] w fun e w' => e = .returned (.bool (mayB l)) ∧ Drawn0 w w' :=
  garnerref13_May.calls _ A c l (mayB l) w h hc (refMay_is l hl _ (Nat.le_refl _))
theorem wi00 (i : Int) : wi i 0 0 = (i == 0) := by
  rw [Bool.eq_iff_iff]
  simp [wi]
  omega
set_option maxHeartbeats 16000000 in
set_option maxRecDepth 100000 in
theorem refMayOp_call (j : Job) (A : Option Addr) (n : Nat) (o : S80) (A3 : Option Addr) (c3 : Nat) (A4 : Option Addr) (c4 : Nat) (A6 : Option Addr) (c6 : Nat) (w : World) (h : j.In w A n) (ho : OpIn o w A3 c3 A4 c4 A6 c6) (hts : j.ts.length ≤ 1048576) (hr : o.f6.length ≤ 1048576) :
    Calls Try.prog 59 #[.agg (j.v A n), .agg (opV o A3 c3 A4 c4 A6 c6)] w fun e w' => e = .returned (.bool (mayOp j o)) ∧ Below w.heap.size w w' := by
  obtain ⟨R, hR⟩ : ∃ R, R = mayOp j o := ⟨_, rfl⟩
  rw [← hR]
  have HR := Aside0.mk hR
  have CK := Aside0.mk (fun (W : World) (hi : j.In W A n) => refCheck_call2 j A n W hi hts)
  have hb0 := allocs_below [.cells (j.v A n) 24, .cells (opV o A3 c3 A4 c4 A6 c6) 80] w w.heap.size (Nat.le_refl _)
  have hat := allocs_at [.cells (j.v A n) 24, .cells (opV o A3 c3 A4 c4 A6 c6) 80] w
  have e0 := hat 0 _ rfl
  have e1 := hat 1 _ rfl
  simp only [List.foldl_cons, List.foldl_nil, List.length_cons, List.length_nil] at hb0 e0 e1
  rw [Nat.add_zero] at e0
  have HJ := Aside0.mk (JobAt.mk e0 (h.below hb0))
  have HOI := Aside0.mk (ho.below hb0)
  have HB := Aside0.mk hb0
  have RL := Aside0.mk hr
  clear hat h ho hb0 e0 hR hts hr
  unfold Job.v opV at *
  go_enter Try.func59, Try.ntmps59
  go_upto_region 1 with fail
  obtain ⟨P0, q0⟩ : ∃ B, w.heap.size = B := ⟨_, rfl⟩
  obtain ⟨P1, q1⟩ : ∃ B, P0 + 1 = B := ⟨_, rfl⟩
  rw [q0] at HJ e1 ⊢
  rw [q1] at e1 ⊢
  clear q0 q1
  generalize World.alloc _ _ = w2 at HJ HOI e1 HB ⊢
  have E1 := Aside0.mk e1
  have CEL := Aside0.mk (fun (W : World) (hb : Below w2.heap.size w2 W) => And.intro (pw_cell_below hb (show w2.cell? ⟨P1, 0, none⟩ = some (.int .i64 o.f0) from (blk_cell E1.out 0).trans rfl)) (And.intro (pw_cell_below hb (show w2.cell? ⟨P1, 1, none⟩ = some (.int .i64 o.f1) from (blk_cell E1.out 1).trans rfl)) (And.intro (pw_cell_below hb (show w2.cell? ⟨P1, 2, none⟩ = some (.int .i64 o.f2) from (blk_cell E1.out 2).trans rfl)) (And.intro (pw_cell_below hb (show w2.cell? ⟨P1, 3, none⟩ = some (.slice A3 o.f3.length c3) from (blk_cell E1.out 3).trans rfl)) (And.intro (pw_cell_below hb (show w2.cell? ⟨P1, 4, none⟩ = some (.slice A4 o.f4.length c4) from (blk_cell E1.out 4).trans rfl)) (And.intro (pw_cell_below hb (show w2.cell? ⟨P1, 5, none⟩ = some (.int .i64 o.f5) from (blk_cell E1.out 5).trans rfl)) (pw_cell_below hb (show w2.cell? ⟨P1, 6, none⟩ = some (.slice A6 o.f6.length c6) from (blk_cell E1.out 6).trans rfl))))))))
  clear e1
  obtain ⟨d0, d1, d2, d3', d4', d5, d6'⟩ := HJ.out.cells
  obtain ⟨E, eE⟩ : ∃ E, E = err (ok j) := ⟨_, rfl⟩
  rw [← eE] at CK
  cases hok : ok j with
  | false =>
    have hE : (E != 0) = true := by rw [eE, hok]; rfl
    have HR2 := Aside0.mk (show R = false by rw [HR.out]; unfold mayOp; rw [hok]; rfl)
    clear eE hok
    go_wp2_with (go_at_call 12; (with_reducible refine (CK.out _ HJ.out.inn).mono ?_); rintro e w3 ⟨rfl, hb3⟩; have HB3 := Aside0.mk (below_step HB.out hb3); clear hb3)
    go_ret
    exact ⟨by rw [HR2.out]; first | done | rfl | simp, HB3.out⟩
  | true =>
    have hE : (E != 0) = false := by rw [eE, hok]; rfl
    obtain ⟨t1, t2, t3⟩ := okT_le hok
    have T3 := Aside0.mk t3
    have hok' := Aside0.mk hok
    clear t3 eE hok
    by_cases f1 : o.f1 < 0
    · have HR2 := Aside0.mk (show R = false by rw [HR.out]; unfold mayOp; rw [show wi o.f1 0 ((j.ts.length : Int) - 1) = false by simp [wi]; omega]; simp)
      go_wp2_with (go_at_call 12; (with_reducible refine (CK.out _ HJ.out.inn).mono ?_); rintro e w3 ⟨rfl, hb3⟩; have HB3 := Aside0.mk (below_step HB.out hb3); obtain ⟨o0, o1, o2, o3, o4, o5, o6⟩ := CEL.out _ hb3; obtain ⟨g0, g1, g2, g3, g4, g5, g6⟩ := (HJ.out.below hb3).cells; clear hb3)
      go_ret
      exact ⟨by rw [HR2.out]; first | done | rfl | simp, HB3.out⟩
    by_cases f2 : (j.ts.length : Int) ≤ o.f1
    · have HR2 := Aside0.mk (show R = false by rw [HR.out]; unfold mayOp; rw [show wi o.f1 0 ((j.ts.length : Int) - 1) = false by simp [wi]; omega]; simp)
      go_wp2_with (go_at_call 12; (with_reducible refine (CK.out _ HJ.out.inn).mono ?_); rintro e w3 ⟨rfl, hb3⟩; have HB3 := Aside0.mk (below_step HB.out hb3); obtain ⟨o0, o1, o2, o3, o4, o5, o6⟩ := CEL.out _ hb3; obtain ⟨g0, g1, g2, g3, g4, g5, g6⟩ := (HJ.out.below hb3).cells; clear hb3)
      go_ret
      exact ⟨by rw [HR2.out]; first | done | rfl | simp, HB3.out⟩
    go_upto_region 3 with (go_at_call 12; (with_reducible refine (CK.out _ HJ.out.inn).mono ?_); rintro e w3 ⟨rfl, hb3⟩; have HB3 := Aside0.mk (below_step HB.out hb3); have HQ3 := Aside0.mk hb3; obtain ⟨o0, o1, o2, o3, o4, o5, o6⟩ := CEL.out _ hb3; obtain ⟨g0, g1, g2, g3, g4, g5, g6⟩ := (HJ.out.below hb3).cells; clear hb3 d0 d1 d2 d3' d4' d5 d6')
    have HO3 := Aside0.mk (HOI.out.below HQ3.out)
    have MK := Aside0.mk (fun (n : Nat) => refMayKey A3 c3 o.f3 (w3.drewN n) (Kd.C_drewN HO3.out.2.1 n) HO3.out.1)
    have MR := Aside0.mk (fun (n : Nat) => refMay A6 c6 o.f6 RL.out (w3.drewN n) (Kd.C_drewN HO3.out.2.2.2.2.2 n) HO3.out.2.2.2.2.1)
    have MK0 := Aside0.mk (refMayKey A3 c3 o.f3 w3 HO3.out.2.1 HO3.out.1)
    obtain ⟨bk, hbk⟩ : ∃ b, b = keyB o.f3 := ⟨_, rfl⟩
    obtain ⟨bm, hbm⟩ : ∃ b, b = mayB o.f6 := ⟨_, rfl⟩
    rw [← hbk] at MK MK0
    rw [← hbm] at MR
    have HBK := Aside0.mk hbk
    have HBM := Aside0.mk hbm
    clear hbk hbm
    have hR2 : R = (wi o.f0 1 6 && (rowsOk o && restOk j o)) := by rw [HR.out]; unfold mayOp; rw [hok'.out, show wi o.f1 0 ((j.ts.length : Int) - 1) = true by simp [wi]; omega]; simp
    have HR3 := Aside0.mk hR2
    clear hR2
    obtain ⟨ad, ea, hx⟩ := Kd.at_int (HJ.out.below HQ3.out).inn.C o.f1 (by omega) (by omega)
    subst ea
    obtain ⟨x, ex⟩ : ∃ x, x = rd j.ts o.f1 := ⟨_, rfl⟩
    rw [← ex] at hx
    have EX := Aside0.mk ex
    have f3 : (0 : Int) ≤ o.f1 := by omega
    have f4 : o.f1 < (j.ts.length : Int) := by omega
    clear ex f1 f2 t1 t2
    have hk : o.f0 = 1 ∨ o.f0 = 4 ∨ o.f0 = 2 ∨ o.f0 = 3 ∨ o.f0 = 5 ∨ o.f0 = 6 ∨ (o.f0 ≠ 1 ∧ o.f0 ≠ 4 ∧ o.f0 ≠ 2 ∧ o.f0 ≠ 3 ∧ o.f0 ≠ 5 ∧ o.f0 ≠ 6) := by omega
    rcases hk with hk | hk | hk | hk | hk | hk | hk
    · go_wp2_with (first | (go_at_call 47; (with_reducible first | refine MK0.out.mono ?_ | refine (MK.out _).mono ?_); rintro e w' ⟨rfl, ⟨nd, rfl⟩⟩) | (go_at_call 48; (with_reducible refine (MR.out _).mono ?_); rintro e w' ⟨rfl, ⟨nd2, rfl⟩⟩))
      all_goals go_ret
      all_goals refine ⟨?_, by first | exact HB3.out | exact pw_below_drewN HB3.out _ | exact pw_below_drewN (pw_below_drewN HB3.out _) _⟩
      all_goals rw [HR3.out]
      all_goals unfold rowsOk restOk
      all_goals rw [← HBK.out, ← HBM.out, hk]
      all_goals show Ending.returned (Value.bool _) = _
      all_goals have hwi := wi00 o.f2
      all_goals have hw1 : ∀ k : Int, 1 ≤ k → k ≤ 6 → wi k 1 6 = true := fun k h1 h2 => by simp [wi]; omega
      all_goals first | (simp [*, wi00]; done) | (refine congrArg (fun z => Ending.returned (Value.bool z)) ?_; rw [Bool.eq_iff_iff]; simp [*, wi]; done) | (refine congrArg (fun z => Ending.returned (Value.bool z)) ?_; rw [Bool.eq_iff_iff]; simp [*, wi]; omega) | (refine congrArg (fun z => Ending.returned (Value.bool z)) ?_; rw [Bool.eq_iff_iff]; simp [*, wi]; constructor <;> intro h_ <;> (try exact absurd h_ (by omega)) <;> omega)
    · go_wp2_with (first | (go_at_call 47; (with_reducible first | refine MK0.out.mono ?_ | refine (MK.out _).mono ?_); rintro e w' ⟨rfl, ⟨nd, rfl⟩⟩) | (go_at_call 48; (with_reducible refine (MR.out _).mono ?_); rintro e w' ⟨rfl, ⟨nd2, rfl⟩⟩))
      all_goals go_ret
      all_goals refine ⟨?_, by first | exact HB3.out | exact pw_below_drewN HB3.out _ | exact pw_below_drewN (pw_below_drewN HB3.out _) _⟩
      all_goals rw [HR3.out]
      all_goals unfold rowsOk restOk
      all_goals rw [← HBK.out, ← HBM.out, hk]
      all_goals show Ending.returned (Value.bool _) = _
      all_goals have hwi := wi00 o.f2
      all_goals have hw1 : ∀ k : Int, 1 ≤ k → k ≤ 6 → wi k 1 6 = true := fun k h1 h2 => by simp [wi]; omega
      all_goals first | (simp [*, wi00]; done) | (refine congrArg (fun z => Ending.returned (Value.bool z)) ?_; rw [Bool.eq_iff_iff]; simp [*, wi]; done) | (refine congrArg (fun z => Ending.returned (Value.bool z)) ?_; rw [Bool.eq_iff_iff]; simp [*, wi]; omega) | (refine congrArg (fun z => Ending.returned (Value.bool z)) ?_; rw [Bool.eq_iff_iff]; simp [*, wi]; constructor <;> intro h_ <;> (try exact absurd h_ (by omega)) <;> omega)
    · go_wp2_with (first | (go_at_call 47; (with_reducible first | refine MK0.out.mono ?_ | refine (MK.out _).mono ?_); rintro e w' ⟨rfl, ⟨nd, rfl⟩⟩) | (go_at_call 48; (with_reducible refine (MR.out _).mono ?_); rintro e w' ⟨rfl, ⟨nd2, rfl⟩⟩))
      all_goals go_ret
      all_goals refine ⟨?_, by first | exact HB3.out | exact pw_below_drewN HB3.out _ | exact pw_below_drewN (pw_below_drewN HB3.out _) _⟩
      all_goals rw [HR3.out]
      all_goals unfold rowsOk restOk
      all_goals rw [← HBK.out, ← HBM.out, hk]
      all_goals show Ending.returned (Value.bool _) = _
      all_goals have hwi := wi00 o.f2
      all_goals have hw1 : ∀ k : Int, 1 ≤ k → k ≤ 6 → wi k 1 6 = true := fun k h1 h2 => by simp [wi]; omega
      all_goals first | (simp [*, wi00]; done) | (refine congrArg (fun z => Ending.returned (Value.bool z)) ?_; rw [Bool.eq_iff_iff]; simp [*, wi]; done) | (refine congrArg (fun z => Ending.returned (Value.bool z)) ?_; rw [Bool.eq_iff_iff]; simp [*, wi]; omega) | (refine congrArg (fun z => Ending.returned (Value.bool z)) ?_; rw [Bool.eq_iff_iff]; simp [*, wi]; constructor <;> intro h_ <;> (try exact absurd h_ (by omega)) <;> omega)
    · go_wp2_with (first | (go_at_call 47; (with_reducible first | refine MK0.out.mono ?_ | refine (MK.out _).mono ?_); rintro e w' ⟨rfl, ⟨nd, rfl⟩⟩) | (go_at_call 48; (with_reducible refine (MR.out _).mono ?_); rintro e w' ⟨rfl, ⟨nd2, rfl⟩⟩))
      all_goals go_ret
      all_goals refine ⟨?_, by first | exact HB3.out | exact pw_below_drewN HB3.out _ | exact pw_below_drewN (pw_below_drewN HB3.out _) _⟩
      all_goals rw [HR3.out]
      all_goals unfold rowsOk restOk
      all_goals rw [← HBK.out, ← HBM.out, hk]
      all_goals show Ending.returned (Value.bool _) = _
      all_goals have hwi := wi00 o.f2
      all_goals have hw1 : ∀ k : Int, 1 ≤ k → k ≤ 6 → wi k 1 6 = true := fun k h1 h2 => by simp [wi]; omega
      all_goals first | (simp [*, wi00]; done) | (refine congrArg (fun z => Ending.returned (Value.bool z)) ?_; rw [Bool.eq_iff_iff]; simp [*, wi]; done) | (refine congrArg (fun z => Ending.returned (Value.bool z)) ?_; rw [Bool.eq_iff_iff]; simp [*, wi]; omega) | (refine congrArg (fun z => Ending.returned (Value.bool z)) ?_; rw [Bool.eq_iff_iff]; simp [*, wi]; constructor <;> intro h_ <;> (try exact absurd h_ (by omega)) <;> omega)
    · go_wp2
      all_goals go_ret
      all_goals refine ⟨?_, by first | exact HB3.out | exact pw_below_drewN HB3.out _ | exact pw_below_drewN (pw_below_drewN HB3.out _) _⟩
      all_goals rw [HR3.out]
      all_goals unfold rowsOk restOk
      all_goals rw [← HBK.out, ← HBM.out, hk]
      all_goals show Ending.returned (Value.bool _) = _
      all_goals have hwi := wi00 o.f2
      all_goals have hw1 : ∀ k : Int, 1 ≤ k → k ≤ 6 → wi k 1 6 = true := fun k h1 h2 => by simp [wi]; omega
      all_goals first | (simp [*, wi00]; done) | (refine congrArg (fun z => Ending.returned (Value.bool z)) ?_; rw [Bool.eq_iff_iff]; simp [*, wi]; done) | (refine congrArg (fun z => Ending.returned (Value.bool z)) ?_; rw [Bool.eq_iff_iff]; simp [*, wi]; omega) | (refine congrArg (fun z => Ending.returned (Value.bool z)) ?_; rw [Bool.eq_iff_iff]; simp [*, wi]; constructor <;> intro h_ <;> (try exact absurd h_ (by omega)) <;> omega)
    · go_upto_region 13 with fail
      by_cases q1 : (o.f3.length : Int) ≤ 24
      rotate_left
      · have hd := decide_eq_false q1
        go_quiet (fail)
        go_wp2
        go_ret
        refine ⟨?_, by exact pw_below_drewN HB3.out _⟩
        rw [HR3.out]
        unfold rowsOk restOk
        rw [hk, ← EX.out]
        show Ending.returned (Value.bool _) = _
        have hf : (wi o.f5 1 64 && (decide (o.f3.length ≤ 24) && (decide (o.f4.length ≤ 24) && wi o.f2 0 (x - 1)))) = false := by
          rw [Bool.eq_false_iff]
          intro hh
          simp only [Bool.and_eq_true, wi_iff, decide_eq_true_eq] at hh
          omega
        simp [hf]
      by_cases q2 : (o.f4.length : Int) ≤ 24
      rotate_left
      · have hd := decide_eq_false q2
        go_quiet (fail)
        go_wp2
        go_ret
        refine ⟨?_, by exact pw_below_drewN HB3.out _⟩
        rw [HR3.out]
        unfold rowsOk restOk
        rw [hk, ← EX.out]
        show Ending.returned (Value.bool _) = _
        have hf : (wi o.f5 1 64 && (decide (o.f3.length ≤ 24) && (decide (o.f4.length ≤ 24) && wi o.f2 0 (x - 1)))) = false := by
          rw [Bool.eq_false_iff]
          intro hh
          simp only [Bool.and_eq_true, wi_iff, decide_eq_true_eq] at hh
          omega
        simp [hf]
      by_cases q3 : (1 : Int) ≤ o.f5
      rotate_left
      · have hd := decide_eq_false q3
        go_quiet (fail)
        go_wp2
        go_ret
        refine ⟨?_, by exact pw_below_drewN HB3.out _⟩
        rw [HR3.out]
        unfold rowsOk restOk
        rw [hk, ← EX.out]
        show Ending.returned (Value.bool _) = _
        have hf : (wi o.f5 1 64 && (decide (o.f3.length ≤ 24) && (decide (o.f4.length ≤ 24) && wi o.f2 0 (x - 1)))) = false := by
          rw [Bool.eq_false_iff]
          intro hh
          simp only [Bool.and_eq_true, wi_iff, decide_eq_true_eq] at hh
          omega
        simp [hf]
      by_cases q4 : o.f5 ≤ 64
      rotate_left
      · have hd := decide_eq_false q4
        go_quiet (fail)
        go_wp2
        go_ret
        refine ⟨?_, by exact pw_below_drewN HB3.out _⟩
        rw [HR3.out]
        unfold rowsOk restOk
        rw [hk, ← EX.out]
        show Ending.returned (Value.bool _) = _
        have hf : (wi o.f5 1 64 && (decide (o.f3.length ≤ 24) && (decide (o.f4.length ≤ 24) && wi o.f2 0 (x - 1)))) = false := by
          rw [Bool.eq_false_iff]
          intro hh
          simp only [Bool.and_eq_true, wi_iff, decide_eq_true_eq] at hh
          omega
        simp [hf]
      by_cases q5 : (0 : Int) ≤ o.f2
      rotate_left
      · have hd := decide_eq_false q5
        go_quiet (fail)
        go_wp2
        go_ret
        refine ⟨?_, by exact pw_below_drewN HB3.out _⟩
        rw [HR3.out]
        unfold rowsOk restOk
        rw [hk, ← EX.out]
        show Ending.returned (Value.bool _) = _
        have hf : (wi o.f5 1 64 && (decide (o.f3.length ≤ 24) && (decide (o.f4.length ≤ 24) && wi o.f2 0 (x - 1)))) = false := by
          rw [Bool.eq_false_iff]
          intro hh
          simp only [Bool.and_eq_true, wi_iff, decide_eq_true_eq] at hh
          omega
        simp [hf]
      by_cases q6 : o.f2 < x
      rotate_left
      · have hd := decide_eq_false q6
        go_quiet (fail)
        go_wp2
        go_ret
        refine ⟨?_, by exact pw_below_drewN HB3.out _⟩
        rw [HR3.out]
        unfold rowsOk restOk
        rw [hk, ← EX.out]
        show Ending.returned (Value.bool _) = _
        have hf : (wi o.f5 1 64 && (decide (o.f3.length ≤ 24) && (decide (o.f4.length ≤ 24) && wi o.f2 0 (x - 1)))) = false := by
          rw [Bool.eq_false_iff]
          intro hh
          simp only [Bool.and_eq_true, wi_iff, decide_eq_true_eq] at hh
          omega
        simp [hf]
      go_quiet (fail)
      go_wp2
      go_ret
      refine ⟨?_, by exact pw_below_drewN HB3.out _⟩
      rw [HR3.out]
      unfold rowsOk restOk
      rw [hk, ← EX.out]
      show Ending.returned (Value.bool _) = _
      have hf : (wi o.f5 1 64 && (decide (o.f3.length ≤ 24) && (decide (o.f4.length ≤ 24) && wi o.f2 0 (x - 1)))) = true := by
        simp only [Bool.and_eq_true, wi_iff, decide_eq_true_eq]
        omega
      show _ = Ending.returned (Value.bool (wi 6 1 6 && (decide (o.f6.length = 0) && (wi o.f5 1 64 && (decide (o.f3.length ≤ 24) && (decide (o.f4.length ≤ 24) && wi o.f2 0 (x - 1)))))))
      rw [hf, Bool.and_true, show wi 6 1 6 = true from rfl, Bool.true_and]
      exact congrArg (fun z => Ending.returned (Value.bool z)) (by rw [Bool.eq_iff_iff]; simp)
    · obtain ⟨k1, k4, k2, k3, k5, k6⟩ := hk
      have e1 : (o.f0 == 1) = false := beq_eq_false_iff_ne.2 k1
      have e4 : (o.f0 == 4) = false := beq_eq_false_iff_ne.2 k4
      have e2 : (o.f0 == 2) = false := beq_eq_false_iff_ne.2 k2
      have e3 : (o.f0 == 3) = false := beq_eq_false_iff_ne.2 k3
      have e5 : (o.f0 == 5) = false := beq_eq_false_iff_ne.2 k5
      have e6 : (o.f0 == 6) = false := beq_eq_false_iff_ne.2 k6
      have HR4 := Aside0.mk (show R = false by rw [HR3.out, show wi o.f0 1 6 = false by simp [wi]; omega]; rfl)
      clear k1 k4 k2 k3 k5 k6
      go_wp2
      go_ret
      exact ⟨by rw [HR4.out]; first | done | rfl | simp, HB3.out⟩
/-- A call as an element of a row: its cells. -/
structure OpEl (o : S80) (p : Addr) (A3 : Option Addr) (c3 : Nat) (A4 : Option Addr) (c4 : Nat) (A6 : Option Addr) (c6 : Nat) (W : World) : Prop where
  x0 : W.cell? p = some (.int .i64 o.f0)
  x1 : W.cell? ⟨p.block, p.off + 1, none⟩ = some (.int .i64 o.f1)
  x2 : W.cell? ⟨p.block, p.off + 2, none⟩ = some (.int .i64 o.f2)
  x3 : W.cell? ⟨p.block, p.off + 3, none⟩ = some (.slice A3 o.f3.length c3)
  x4 : W.cell? ⟨p.block, p.off + 4, none⟩ = some (.slice A4 o.f4.length c4)
  x5 : W.cell? ⟨p.block, p.off + 5, none⟩ = some (.int .i64 o.f5)
  x6 : W.cell? ⟨p.block, p.off + 6, none⟩ = some (.slice A6 o.f6.length c6)
  inn : OpIn o W A3 c3 A4 c4 A6 c6
theorem OpEl.below {o : S80} {p : Addr} {A3 : Option Addr} {c3 : Nat} {A4 : Option Addr} {c4 : Nat} {A6 : Option Addr} {c6 : Nat} {W V : World} (h : OpEl o p A3 c3 A4 c4 A6 c6 W) (hb : Below W.heap.size W V) : OpEl o p A3 c3 A4 c4 A6 c6 V :=
  ⟨pw_cell_below hb h.x0, pw_cell_below hb h.x1, pw_cell_below hb h.x2, pw_cell_below hb h.x3, pw_cell_below hb h.x4, pw_cell_below hb h.x5, pw_cell_below hb h.x6, h.inn.below hb⟩
theorem opEl_at {W : World} {A : Option Addr} {l : List S80} (h : Kd.C k80 W A l.length l) (k : Nat) (hk : k < l.length) : ∃ ad A3 c3 A4 c4 A6 c6, A = some ad ∧ OpEl (rd_T80 l (k : Int)) (ad.add (k * 7)) A3 c3 A4 c4 A6 c6 W := by
  obtain ⟨ad, A3, c3, A4, c4, A6, c6, ea, x0, x1, x2, x3, x4, x5, x6, h3, g3, h4, g4, h6, g6⟩ := at_T80 h (k : Int) (by omega) (by omega)
  rw [Int.toNat_natCast] at x0 x1 x2 x3 x4 x5 x6
  exact ⟨ad, A3, c3, A4, c4, A6, c6, ea, x0, x1, x2, x3, x4, x5, x6, h3, g3, h4, g4, h6, g6⟩

theorem rd_T80_mem (ts : List S80) (i : Nat) (h : i < ts.length) : rd_T80 ts (i : Int) ∈ ts := by
  have : rd_T80 ts (i : Int) = ts[i] := by simp [rd_T80, List.getD, h]
  rw [this]
  exact List.getElem_mem h
set_option maxHeartbeats 16000000 in
set_option maxRecDepth 100000 in
theorem refMayTxn_call (j : Job) (A : Option Addr) (n : Nat) (t : S74) (B : Option Addr) (d : Nat) (w : World) (hj : j.In w A n) (hl : t.f0.length ≤ d) (hB : Kd.C k80 w B t.f0.length t.f0) (hts : j.ts.length ≤ 1048576) (hM : ∀ o ∈ t.f0, o.f6.length ≤ 1048576) :
    Calls Try.prog 32 #[.agg (j.v A n), .agg #[.slice B t.f0.length d, .bool t.f1, .bool t.f2]] w fun e w' => e = .returned (.bool (mayTxn j t)) ∧ Below w.heap.size w w' := by
  obtain ⟨R, hR⟩ : ∃ R, R = mayTxn j t := ⟨_, rfl⟩
  have hR2 : R = (ok j && (decide (t.f0.length ≤ 16) && (!(t.f1 && t.f2) && !(t.f0.any (badOp j t.f1))))) := hR
  rw [← hR]
  obtain ⟨l, f1, f2⟩ := t
  dsimp only at *
  have CK := Aside0.mk (fun (W : World) (hi : j.In W A n) => refCheck_call2 j A n W hi hts)
  have hb0 := allocs_below [.cells (j.v A n) 24, .cells #[.slice B l.length d, .bool f1, .bool f2] 74] w w.heap.size (Nat.le_refl _)
  have hat := allocs_at [.cells (j.v A n) 24, .cells #[.slice B l.length d, .bool f1, .bool f2] 74] w
  have e0 := hat 0 _ rfl
  have e1 := hat 1 _ rfl
  simp only [List.foldl_cons, List.foldl_nil, List.length_cons, List.length_nil] at hb0 e0 e1
  rw [Nat.add_zero] at e0
  have HJ := Aside0.mk (JobAt.mk e0 (hj.below hb0))
  have HL := Aside0.mk (Kd.C_below hB hb0)
  have HB := Aside0.mk hb0
  have HM := Aside0.mk hM
  have HTS := Aside0.mk hts
  have HE := ok_err j
  obtain ⟨E, eE⟩ : ∃ E, E = err (ok j) := ⟨_, rfl⟩
  rw [← eE] at CK HE
  obtain ⟨ob, hob⟩ : ∃ b, b = ok j := ⟨_, rfl⟩
  rw [← hob] at HE hR2
  clear hob
  have HE2 : (E != 0) = (!ob) := by rw [← HE]; rfl
  have HR := Aside0.mk hR2
  clear hat hj hB hb0 e0 hR hR2 hM hts eE HE hl
  unfold Job.v at *
  go_enter Try.func32, Try.ntmps32
  go_upto_region 1 with fail
  obtain ⟨P0, q0⟩ : ∃ B, w.heap.size = B := ⟨_, rfl⟩
  obtain ⟨P1, q1⟩ : ∃ B, P0 + 1 = B := ⟨_, rfl⟩
  rw [q0] at HJ e1 ⊢
  rw [q1] at e1 ⊢
  clear q0 q1
  generalize World.alloc _ _ = w2 at HJ HL e1 HB ⊢
  have E1 := Aside0.mk e1
  have TC := Aside0.mk (fun (W : World) (hb : Below w2.heap.size w2 W) => And.intro (pw_cell_below hb (show w2.cell? ⟨P1, 0, none⟩ = some (.slice B l.length d) from (blk_cell E1.out 0).trans rfl)) (And.intro (pw_cell_below hb (show w2.cell? ⟨P1, 1, none⟩ = some (.bool f1) from (blk_cell E1.out 1).trans rfl)) (pw_cell_below hb (show w2.cell? ⟨P1, 2, none⟩ = some (.bool f2) from (blk_cell E1.out 2).trans rfl))))
  clear e1
  obtain ⟨d0, d1, d2, d3', d4', d5, d6'⟩ := HJ.out.cells
  obtain ⟨y0, y1, y2⟩ := TC.out _ (Below.refl _ _)
  by_cases hall : (ob && (decide (l.length ≤ 16) && !(f1 && f2))) = true
  rotate_left
  · have HN := Aside0.mk (show R = false by
      rw [HR.out]
      rw [← Bool.not_eq_true] at *
      intro hh
      simp only [Bool.and_eq_true] at hh hall
      exact hall ⟨hh.1, hh.2.1, hh.2.2.1⟩)
    by_cases h16 : l.length ≤ 16
    · cases ob <;> cases f1 <;> cases f2
      all_goals first | (exfalso; simp [h16] at hall; done) | skip
      all_goals clear hall
      all_goals (try rw [Bool.not_false] at HE2)
      all_goals (try rw [Bool.not_true] at HE2)
      all_goals go_wp2_with (go_at_call 12; (with_reducible refine (CK.out _ HJ.out.inn).mono ?_); rintro e w3 ⟨rfl, hb3⟩; have HB3 := Aside0.mk (below_step HB.out hb3); clear hb3)
      all_goals go_ret
      all_goals exact ⟨by rw [HN.out]; first | done | rfl | simp, by first | exact HB3.out | exact HB.out⟩
    · clear hall
      go_wp2
      go_ret
      exact ⟨by rw [HN.out]; first | done | rfl | simp, HB.out⟩
  · simp only [Bool.and_eq_true, decide_eq_true_eq, Bool.not_eq_true'] at hall
    obtain ⟨ho1, h16, hff⟩ := hall
    subst ho1
    rw [Bool.not_true] at HE2
    have hR3 : R = !(l.any (badOp j f1)) := by rw [HR.out, decide_eq_true h16, hff]; simp
    have HR3 := Aside0.mk hR3
    clear hR3
    have EX : ∀ b : Bool, f1 = b → (b = true → f2 = false) := fun b hb1 hb2 => by subst hb1; subst hb2; simpa using hff
    have HFF := Aside0.mk EX
    clear EX hff
    obtain ⟨g1, hg1⟩ : ∃ g, g = f1 := ⟨_, rfl⟩
    have HG1 := Aside0.mk hg1
    cases f1
    all_goals (try obtain rfl : f2 = false := HFF.out true rfl rfl)
    all_goals go_upto_region 3 with (go_at_call 12; (with_reducible refine (CK.out _ HJ.out.inn).mono ?_); rintro e w3 ⟨rfl, hb3⟩; have HQ3 := Aside0.mk hb3; clear hb3 d0 d1 d2 d3' d4' d5 d6' y0 y1 y2)
    all_goals go_wp2
    all_goals clear hg1 HG1 HFF

    · go_loopw [5] (fun v w' => ∃ k : Nat, v = .int .i64 k ∧ k ≤ l.length ∧ Aside0 (∀ q : Nat, q < k → badOp j false (rd_T80 l (q : Int)) = false) ∧ Aside0 (Below w2.heap.size w2 w')) (fun v _ => l.length - (intOf v).toNat)
      case atStart => exact ⟨0, rfl, Nat.zero_le _, ⟨fun q h => by omega⟩, HQ3⟩
      case round =>
        obtain ⟨k, rfl, hk, hbad, hb⟩ := hrel
        obtain ⟨y0, y1, y2⟩ := TC.out _ hb.out
        by_cases hlt : k < l.length
        · obtain ⟨ad, A3, c3, A4, c4, A6, c6, ea, hel⟩ := opEl_at (Kd.C_below HL.out hb.out) k hlt
          subst ea
          have g6 := HM.out _ (rd_T80_mem l k hlt)
          have HBD := Aside0.mk (fun (hp : badOp j false (rd_T80 l (k : Int)) = false) => (show ∀ q : Nat, q < k + 1 → badOp j false (rd_T80 l (q : Int)) = false from fun q hq => by
            by_cases e : q = k
            · subst e; exact hp
            · exact hbad.out q (by omega)))
          have HT := Aside0.mk (fun (hp : badOp j false (rd_T80 l (k : Int)) = true) => (show R = false from by
            rw [HR3.out]
            have : l.any (badOp j false) = true := List.any_eq_true.2 ⟨_, rd_T80_mem l k hlt, hp⟩
            rw [this]; rfl))
          generalize rd_T80 l (k : Int) = o at hel g6 HBD HT
          obtain ⟨p, hp⟩ : ∃ p, ad.add (k * 7) = p := ⟨_, rfl⟩
          rw [hp] at hel
          have k0 : (0 : Int) ≤ (k : Int) := by omega
          have k1 : (k : Int) < (l.length : Int) := by omega
          have CM := Aside0.mk (fun (W : World) (h1 : j.In W A n) (h2 : OpIn o W A3 c3 A4 c4 A6 c6) => refMayOp_call j A n o A3 c3 A4 c4 A6 c6 W h1 h2 HTS.out g6)
          unfold badOp writesB at HBD HT
          obtain ⟨mb, hmb⟩ : ∃ R, R = mayOp j o := ⟨_, rfl⟩
          rw [← hmb] at CM HBD HT
          unfold opV Job.v at *
          have x0 := hel.x0
          have HEL := Aside0.mk hel
          clear hel g6 hmb
          go_upto_region 7 with fail
          have HQd := Aside0.mk (below_step hb.out (below_drew (Below.refl wr.heap.size wr)))
          have HEd := Aside0.mk (below_drew (Below.refl wr.heap.size wr))
          clear x0 y0 y1 y2
          cases mb with
          | false =>
            refine start_ (n := 24) (S := fun w' => w'.cell? ⟨P0, 0, none⟩ = some (.int .i64 j.w) ∧ w'.cell? ⟨P0, 1, none⟩ = some (.int .i64 j.l) ∧ w'.cell? ⟨P0, 2, none⟩ = some (.int .i64 j.wi) ∧ w'.cell? ⟨P0, 3, none⟩ = some (.int .i64 j.c) ∧ w'.cell? ⟨P0, 4, none⟩ = some (.int .i64 j.d) ∧ w'.cell? ⟨P0, 5, none⟩ = some (.int .i64 j.e) ∧ w'.cell? ⟨P0, 6, none⟩ = some (.slice A j.ts.length n) ∧ w'.cell? ⟨P1, 0, none⟩ = some (.slice (some ad) l.length d) ∧ w'.cell? ⟨P1, 1, none⟩ = some (.bool false) ∧ w'.cell? p = some (.int .i64 o.f0) ∧ w'.cell? ⟨p.block, p.off + 1, none⟩ = some (.int .i64 o.f1) ∧ w'.cell? ⟨p.block, p.off + 2, none⟩ = some (.int .i64 o.f2) ∧ w'.cell? ⟨p.block, p.off + 3, none⟩ = some (.slice A3 o.f3.length c3) ∧ w'.cell? ⟨p.block, p.off + 4, none⟩ = some (.slice A4 o.f4.length c4) ∧ w'.cell? ⟨p.block, p.off + 5, none⟩ = some (.int .i64 o.f5) ∧ w'.cell? ⟨p.block, p.off + 6, none⟩ = some (.slice A6 o.f6.length c6)) (ds := []) #[false, false, false, false, false, false, false, false, false, false, false, false, false, false, false, false, false, false, false, false, false, false, false, false] (by kernel_rfl) rfl rfl ⟨(HJ.out.below HQd.out).cells.1, (HJ.out.below HQd.out).cells.2.1, (HJ.out.below HQd.out).cells.2.2.1, (HJ.out.below HQd.out).cells.2.2.2.1, (HJ.out.below HQd.out).cells.2.2.2.2.1, (HJ.out.below HQd.out).cells.2.2.2.2.2.1, (HJ.out.below HQd.out).cells.2.2.2.2.2.2, (TC.out _ HQd.out).1, (TC.out _ HQd.out).2.1, (HEL.out.below HEd.out).x0, (HEL.out.below HEd.out).x1, (HEL.out.below HEd.out).x2, (HEL.out.below HEd.out).x3, (HEL.out.below HEd.out).x4, (HEL.out.below HEd.out).x5, (HEL.out.below HEd.out).x6⟩ (fun hHeld => ?_)
            generalize wr.drew = wd at hHeld HQd HEd ⊢
            refine take_ (i := 0) (N := some 37) (v := ?_) (a' := ?_) #[true, false, false, false, false, false, false, false, false, false, false, false, false, false, false, false, false, false, false, false, false, false, false, false] rfl rfl (by kernel_rfl) (fun _ _ _ h => h) (Or.inl ⟨by rfl, ?_⟩) hHeld ?_ ?_
            rotate_left
            · rintro w' ⟨s0, s1, s2, s3, s4, s5, s6, s7, s8, s9, s10, s11, s12, s13, s14, s15⟩
              go_simp
              with_reducible rfl
            rotate_left
            · simp only [Act.put, List.setIfInBounds_toArray, List.set_cons_zero, List.set_cons_succ, i64_w, i32_w]
              rfl
            refine pure_ (i := 1) (N := some 38) (v := ?_) (a' := ?_) #[true, true, false, false, false, false, false, false, false, false, false, false, false, false, false, false, false, false, false, false, false, false, false, false] rfl rfl (by kernel_rfl) (fun _ _ _ h => h) (Or.inl ⟨by rfl, ?_⟩) ?_ ?_
            rotate_left
            · intro w'
              go_simp
              with_reducible rfl
            rotate_left
            · simp only [Act.put, List.setIfInBounds_toArray, List.set_cons_zero, List.set_cons_succ, i64_w, i32_w]
              rfl
            refine take_ (i := 2) (N := some 39) (v := ?_) (a' := ?_) #[true, true, true, false, false, false, false, false, false, false, false, false, false, false, false, false, false, false, false, false, false, false, false, false] rfl rfl (by kernel_rfl) (fun _ _ _ h => h) (Or.inl ⟨by rfl, ?_⟩) hHeld ?_ ?_
            rotate_left
            · rintro w' ⟨s0, s1, s2, s3, s4, s5, s6, s7, s8, s9, s10, s11, s12, s13, s14, s15⟩
              go_simp
              with_reducible rfl
            rotate_left
            · simp only [Act.put, List.setIfInBounds_toArray, List.set_cons_zero, List.set_cons_succ, i64_w, i32_w]
              rfl
            refine pure_ (i := 3) (N := some 40) (v := ?_) (a' := ?_) #[true, true, true, true, false, false, false, false, false, false, false, false, false, false, false, false, false, false, false, false, false, false, false, false] rfl rfl (by kernel_rfl) (fun _ _ _ h => h) (Or.inl ⟨by rfl, ?_⟩) ?_ ?_
            rotate_left
            · intro w'
              go_simp
              with_reducible rfl
            rotate_left
            · simp only [Act.put, List.setIfInBounds_toArray, List.set_cons_zero, List.set_cons_succ, i64_w, i32_w]
              rfl
            refine pure_ (i := 4) (N := some 41) (v := ?_) (a' := ?_) #[true, true, true, true, true, false, false, false, false, false, false, false, false, false, false, false, false, false, false, false, false, false, false, false] rfl rfl (by kernel_rfl) (fun _ _ _ h => h) (Or.inl ⟨by rfl, ?_⟩) ?_ ?_
            rotate_left
            · intro w'
              go_simp
              with_reducible rfl
            rotate_left
            · simp only [Act.put, List.setIfInBounds_toArray, List.set_cons_zero, List.set_cons_succ, i64_w, i32_w]
              rfl
            refine take_ (i := 5) (N := some 42) (v := ?_) (a' := ?_) #[true, true, true, true, true, true, false, false, false, false, false, false, false, false, false, false, false, false, false, false, false, false, false, false] rfl rfl (by kernel_rfl) (fun _ _ _ h => h) (Or.inl ⟨by rfl, ?_⟩) hHeld ?_ ?_
            rotate_left
            · rintro w' ⟨s0, s1, s2, s3, s4, s5, s6, s7, s8, s9, s10, s11, s12, s13, s14, s15⟩
              go_simp
              with_reducible rfl
            rotate_left
            · simp only [Act.put, List.setIfInBounds_toArray, List.set_cons_zero, List.set_cons_succ, i64_w, i32_w]
              rfl
            refine one_ (i := 6) (N := some 43) #[true, true, true, true, true, true, true, false, false, false, false, false, false, false, false, false, false, false, false, false, false, false, false, false] rfl rfl (by kernel_rfl) (by decide) (fun K hK => ?_)
            refine goes_ Try.func59 (by kernel_rfl) rfl #[.agg #[.int .i64 j.w, .int .i64 j.l, .int .i64 j.wi, .int .i64 j.c, .int .i64 j.d, .int .i64 j.e, .slice A j.ts.length n], .agg #[.int .i64 o.f0, .int .i64 o.f1, .int .i64 o.f2, .slice A3 o.f3.length c3, .slice A4 o.f4.length c4, .int .i64 o.f5, .slice A6 o.f6.length c6]] (by rfl) rfl rfl (by (try simp only [List.map_toArray, List.map_cons, List.map_nil]); first | done | rfl) ?_
            with_reducible refine (CM.out _ (HJ.out.below HQd.out).inn (HEL.out.below HEd.out).inn).mono ?_
            rintro e we ⟨rfl, hb_⟩
            refine ⟨_, rfl, ?_⟩
            have HQe := Aside0.mk (below_step HQd.out hb_)
            have HEe := Aside0.mk (below_step HEd.out hb_)
            refine hK.out _ _ ⟨(HJ.out.below HQe.out).cells.1, (HJ.out.below HQe.out).cells.2.1, (HJ.out.below HQe.out).cells.2.2.1, (HJ.out.below HQe.out).cells.2.2.2.1, (HJ.out.below HQe.out).cells.2.2.2.2.1, (HJ.out.below HQe.out).cells.2.2.2.2.2.1, (HJ.out.below HQe.out).cells.2.2.2.2.2.2, (TC.out _ HQe.out).1, (TC.out _ HQe.out).2.1, (HEL.out.below HEe.out).x0, (HEL.out.below HEe.out).x1, (HEL.out.below HEe.out).x2, (HEL.out.below HEe.out).x3, (HEL.out.below HEe.out).x4, (HEL.out.below HEe.out).x5, (HEL.out.below HEe.out).x6⟩ (fun hHeld => ?_)
            clear hK K
            refine norm_ (a' := ?_) ?_ ?_
            rotate_left
            · show Act.put _ (some 43) _ = _
              simp only [Act.put, List.setIfInBounds_toArray, List.set_cons_zero, List.set_cons_succ, i64_w, i32_w]
              rfl
            refine pure_ (i := 7) (N := some 44) (v := ?_) (a' := ?_) #[true, true, true, true, true, true, true, true, false, false, false, false, false, false, false, false, false, false, false, false, false, false, false, false] rfl rfl (by kernel_rfl) (fun _ _ _ h => h) (Or.inl ⟨by rfl, ?_⟩) ?_ ?_
            rotate_left
            · intro w'
              go_simp
              with_reducible rfl
            rotate_left
            · simp only [Act.put, List.setIfInBounds_toArray, List.set_cons_zero, List.set_cons_succ, i64_w, i32_w]
              rfl
            refine pure_ (i := 8) (N := some 45) (v := ?_) (a' := ?_) #[true, true, true, true, true, true, true, true, true, false, false, false, false, false, false, false, false, false, false, false, false, false, false, false] rfl rfl (by kernel_rfl) (fun _ _ _ h => h) (Or.inl ⟨by rfl, ?_⟩) ?_ ?_
            rotate_left
            · intro w'
              go_simp
              with_reducible rfl
            rotate_left
            · simp only [Act.put, List.setIfInBounds_toArray, List.set_cons_zero, List.set_cons_succ, i64_w, i32_w]
              rfl
            refine pure_ (i := 9) (N := some 46) (v := undef) (a' := ?_) #[true, true, true, true, true, true, true, true, true, true, false, false, false, false, false, false, false, false, false, false, false, false, false, false] rfl rfl (by kernel_rfl) (fun _ _ _ h => h) (Or.inr ⟨by rfl, rfl⟩) ?_ ?_
            rotate_left
            · simp only [Act.put, List.setIfInBounds_toArray, List.set_cons_zero, List.set_cons_succ, i64_w, i32_w]
              rfl
            refine pure_ (i := 10) (N := some 47) (v := undef) (a' := ?_) #[true, true, true, true, true, true, true, true, true, true, true, false, false, false, false, false, false, false, false, false, false, false, false, false] rfl rfl (by kernel_rfl) (fun _ _ _ h => h) (Or.inr ⟨by rfl, rfl⟩) ?_ ?_
            rotate_left
            · simp only [Act.put, List.setIfInBounds_toArray, List.set_cons_zero, List.set_cons_succ, i64_w, i32_w]
              rfl
            refine pure_ (i := 11) (N := some 48) (v := undef) (a' := ?_) #[true, true, true, true, true, true, true, true, true, true, true, true, false, false, false, false, false, false, false, false, false, false, false, false] rfl rfl (by kernel_rfl) (fun _ _ _ h => h) (Or.inr ⟨by rfl, rfl⟩) ?_ ?_
            rotate_left
            · simp only [Act.put, List.setIfInBounds_toArray, List.set_cons_zero, List.set_cons_succ, i64_w, i32_w]
              rfl
            refine pure_ (i := 12) (N := some 49) (v := undef) (a' := ?_) #[true, true, true, true, true, true, true, true, true, true, true, true, true, false, false, false, false, false, false, false, false, false, false, false] rfl rfl (by kernel_rfl) (fun _ _ _ h => h) (Or.inr ⟨by rfl, rfl⟩) ?_ ?_
            rotate_left
            · simp only [Act.put, List.setIfInBounds_toArray, List.set_cons_zero, List.set_cons_succ, i64_w, i32_w]
              rfl
            refine pure_ (i := 13) (N := some 50) (v := undef) (a' := ?_) #[true, true, true, true, true, true, true, true, true, true, true, true, true, true, false, false, false, false, false, false, false, false, false, false] rfl rfl (by kernel_rfl) (fun _ _ _ h => h) (Or.inr ⟨by rfl, rfl⟩) ?_ ?_
            rotate_left
            · simp only [Act.put, List.setIfInBounds_toArray, List.set_cons_zero, List.set_cons_succ, i64_w, i32_w]
              rfl
            refine pure_ (i := 14) (N := some 51) (v := undef) (a' := ?_) #[true, true, true, true, true, true, true, true, true, true, true, true, true, true, true, false, false, false, false, false, false, false, false, false] rfl rfl (by kernel_rfl) (fun _ _ _ h => h) (Or.inr ⟨by rfl, rfl⟩) ?_ ?_
            rotate_left
            · simp only [Act.put, List.setIfInBounds_toArray, List.set_cons_zero, List.set_cons_succ, i64_w, i32_w]
              rfl
            refine pure_ (i := 15) (N := some 52) (v := undef) (a' := ?_) #[true, true, true, true, true, true, true, true, true, true, true, true, true, true, true, true, false, false, false, false, false, false, false, false] rfl rfl (by kernel_rfl) (fun _ _ _ h => h) (Or.inr ⟨by rfl, rfl⟩) ?_ ?_
            rotate_left
            · simp only [Act.put, List.setIfInBounds_toArray, List.set_cons_zero, List.set_cons_succ, i64_w, i32_w]
              rfl
            refine pure_ (i := 16) (N := some 53) (v := undef) (a' := ?_) #[true, true, true, true, true, true, true, true, true, true, true, true, true, true, true, true, true, false, false, false, false, false, false, false] rfl rfl (by kernel_rfl) (fun _ _ _ h => h) (Or.inr ⟨by rfl, rfl⟩) ?_ ?_
            rotate_left
            · simp only [Act.put, List.setIfInBounds_toArray, List.set_cons_zero, List.set_cons_succ, i64_w, i32_w]
              rfl
            refine pure_ (i := 17) (N := some 54) (v := undef) (a' := ?_) #[true, true, true, true, true, true, true, true, true, true, true, true, true, true, true, true, true, true, false, false, false, false, false, false] rfl rfl (by kernel_rfl) (fun _ _ _ h => h) (Or.inr ⟨by rfl, rfl⟩) ?_ ?_
            rotate_left
            · simp only [Act.put, List.setIfInBounds_toArray, List.set_cons_zero, List.set_cons_succ, i64_w, i32_w]
              rfl
            refine pure_ (i := 18) (N := some 55) (v := undef) (a' := ?_) #[true, true, true, true, true, true, true, true, true, true, true, true, true, true, true, true, true, true, true, false, false, false, false, false] rfl rfl (by kernel_rfl) (fun _ _ _ h => h) (Or.inr ⟨by rfl, rfl⟩) ?_ ?_
            rotate_left
            · simp only [Act.put, List.setIfInBounds_toArray, List.set_cons_zero, List.set_cons_succ, i64_w, i32_w]
              rfl
            refine pure_ (i := 19) (N := some 56) (v := undef) (a' := ?_) #[true, true, true, true, true, true, true, true, true, true, true, true, true, true, true, true, true, true, true, true, false, false, false, false] rfl rfl (by kernel_rfl) (fun _ _ _ h => h) (Or.inr ⟨by rfl, rfl⟩) ?_ ?_
            rotate_left
            · simp only [Act.put, List.setIfInBounds_toArray, List.set_cons_zero, List.set_cons_succ, i64_w, i32_w]
              rfl
            refine pure_ (i := 20) (N := some 57) (v := undef) (a' := ?_) #[true, true, true, true, true, true, true, true, true, true, true, true, true, true, true, true, true, true, true, true, true, false, false, false] rfl rfl (by kernel_rfl) (fun _ _ _ h => h) (Or.inr ⟨by rfl, rfl⟩) ?_ ?_
            rotate_left
            · simp only [Act.put, List.setIfInBounds_toArray, List.set_cons_zero, List.set_cons_succ, i64_w, i32_w]
              rfl
            refine pure_ (i := 21) (N := some 58) (v := undef) (a' := ?_) #[true, true, true, true, true, true, true, true, true, true, true, true, true, true, true, true, true, true, true, true, true, true, false, false] rfl rfl (by kernel_rfl) (fun _ _ _ h => h) (Or.inr ⟨by rfl, rfl⟩) ?_ ?_
            rotate_left
            · simp only [Act.put, List.setIfInBounds_toArray, List.set_cons_zero, List.set_cons_succ, i64_w, i32_w]
              rfl
            refine pure_ (i := 22) (N := some 59) (v := undef) (a' := ?_) #[true, true, true, true, true, true, true, true, true, true, true, true, true, true, true, true, true, true, true, true, true, true, true, false] rfl rfl (by kernel_rfl) (fun _ _ _ h => h) (Or.inr ⟨by rfl, rfl⟩) ?_ ?_
            rotate_left
            · simp only [Act.put, List.setIfInBounds_toArray, List.set_cons_zero, List.set_cons_succ, i64_w, i32_w]
              rfl
            refine pure_ (i := 23) (N := some 60) (v := ?_) (a' := ?_) #[true, true, true, true, true, true, true, true, true, true, true, true, true, true, true, true, true, true, true, true, true, true, true, true] rfl rfl (by kernel_rfl) (fun _ _ _ h => h) (Or.inl ⟨by rfl, ?_⟩) ?_ ?_
            rotate_left
            · intro w'
              go_simp
              with_reducible rfl
            rotate_left
            · simp only [Act.put, List.setIfInBounds_toArray, List.set_cons_zero, List.set_cons_succ, i64_w, i32_w]
              rfl
            refine done_ (by kernel_rfl) ?_
            simp only [Exit.then]
            clear HQd HEd HEe hHeld
            go_wp2
            go_ret
            exact ⟨by rw [HT.out (by simp [*])]; first | done | rfl | simp, below_step HB.out HQe.out⟩
          | true =>
            refine start_ (n := 24) (S := fun w' => w'.cell? ⟨P0, 0, none⟩ = some (.int .i64 j.w) ∧ w'.cell? ⟨P0, 1, none⟩ = some (.int .i64 j.l) ∧ w'.cell? ⟨P0, 2, none⟩ = some (.int .i64 j.wi) ∧ w'.cell? ⟨P0, 3, none⟩ = some (.int .i64 j.c) ∧ w'.cell? ⟨P0, 4, none⟩ = some (.int .i64 j.d) ∧ w'.cell? ⟨P0, 5, none⟩ = some (.int .i64 j.e) ∧ w'.cell? ⟨P0, 6, none⟩ = some (.slice A j.ts.length n) ∧ w'.cell? ⟨P1, 0, none⟩ = some (.slice (some ad) l.length d) ∧ w'.cell? ⟨P1, 1, none⟩ = some (.bool false) ∧ w'.cell? p = some (.int .i64 o.f0) ∧ w'.cell? ⟨p.block, p.off + 1, none⟩ = some (.int .i64 o.f1) ∧ w'.cell? ⟨p.block, p.off + 2, none⟩ = some (.int .i64 o.f2) ∧ w'.cell? ⟨p.block, p.off + 3, none⟩ = some (.slice A3 o.f3.length c3) ∧ w'.cell? ⟨p.block, p.off + 4, none⟩ = some (.slice A4 o.f4.length c4) ∧ w'.cell? ⟨p.block, p.off + 5, none⟩ = some (.int .i64 o.f5) ∧ w'.cell? ⟨p.block, p.off + 6, none⟩ = some (.slice A6 o.f6.length c6)) (ds := []) #[false, false, false, false, false, false, false, false, false, false, false, false, false, false, false, false, false, false, false, false, false, false, false, false] (by kernel_rfl) rfl rfl ⟨(HJ.out.below HQd.out).cells.1, (HJ.out.below HQd.out).cells.2.1, (HJ.out.below HQd.out).cells.2.2.1, (HJ.out.below HQd.out).cells.2.2.2.1, (HJ.out.below HQd.out).cells.2.2.2.2.1, (HJ.out.below HQd.out).cells.2.2.2.2.2.1, (HJ.out.below HQd.out).cells.2.2.2.2.2.2, (TC.out _ HQd.out).1, (TC.out _ HQd.out).2.1, (HEL.out.below HEd.out).x0, (HEL.out.below HEd.out).x1, (HEL.out.below HEd.out).x2, (HEL.out.below HEd.out).x3, (HEL.out.below HEd.out).x4, (HEL.out.below HEd.out).x5, (HEL.out.below HEd.out).x6⟩ (fun hHeld => ?_)
            generalize wr.drew = wd at hHeld HQd HEd ⊢
            refine take_ (i := 0) (N := some 37) (v := ?_) (a' := ?_) #[true, false, false, false, false, false, false, false, false, false, false, false, false, false, false, false, false, false, false, false, false, false, false, false] rfl rfl (by kernel_rfl) (fun _ _ _ h => h) (Or.inl ⟨by rfl, ?_⟩) hHeld ?_ ?_
            rotate_left
            · rintro w' ⟨s0, s1, s2, s3, s4, s5, s6, s7, s8, s9, s10, s11, s12, s13, s14, s15⟩
              go_simp
              with_reducible rfl
            rotate_left
            · simp only [Act.put, List.setIfInBounds_toArray, List.set_cons_zero, List.set_cons_succ, i64_w, i32_w]
              rfl
            refine pure_ (i := 1) (N := some 38) (v := ?_) (a' := ?_) #[true, true, false, false, false, false, false, false, false, false, false, false, false, false, false, false, false, false, false, false, false, false, false, false] rfl rfl (by kernel_rfl) (fun _ _ _ h => h) (Or.inl ⟨by rfl, ?_⟩) ?_ ?_
            rotate_left
            · intro w'
              go_simp
              with_reducible rfl
            rotate_left
            · simp only [Act.put, List.setIfInBounds_toArray, List.set_cons_zero, List.set_cons_succ, i64_w, i32_w]
              rfl
            refine take_ (i := 2) (N := some 39) (v := ?_) (a' := ?_) #[true, true, true, false, false, false, false, false, false, false, false, false, false, false, false, false, false, false, false, false, false, false, false, false] rfl rfl (by kernel_rfl) (fun _ _ _ h => h) (Or.inl ⟨by rfl, ?_⟩) hHeld ?_ ?_
            rotate_left
            · rintro w' ⟨s0, s1, s2, s3, s4, s5, s6, s7, s8, s9, s10, s11, s12, s13, s14, s15⟩
              go_simp
              with_reducible rfl
            rotate_left
            · simp only [Act.put, List.setIfInBounds_toArray, List.set_cons_zero, List.set_cons_succ, i64_w, i32_w]
              rfl
            refine pure_ (i := 3) (N := some 40) (v := ?_) (a' := ?_) #[true, true, true, true, false, false, false, false, false, false, false, false, false, false, false, false, false, false, false, false, false, false, false, false] rfl rfl (by kernel_rfl) (fun _ _ _ h => h) (Or.inl ⟨by rfl, ?_⟩) ?_ ?_
            rotate_left
            · intro w'
              go_simp
              with_reducible rfl
            rotate_left
            · simp only [Act.put, List.setIfInBounds_toArray, List.set_cons_zero, List.set_cons_succ, i64_w, i32_w]
              rfl
            refine pure_ (i := 4) (N := some 41) (v := ?_) (a' := ?_) #[true, true, true, true, true, false, false, false, false, false, false, false, false, false, false, false, false, false, false, false, false, false, false, false] rfl rfl (by kernel_rfl) (fun _ _ _ h => h) (Or.inl ⟨by rfl, ?_⟩) ?_ ?_
            rotate_left
            · intro w'
              go_simp
              with_reducible rfl
            rotate_left
            · simp only [Act.put, List.setIfInBounds_toArray, List.set_cons_zero, List.set_cons_succ, i64_w, i32_w]
              rfl
            refine take_ (i := 5) (N := some 42) (v := ?_) (a' := ?_) #[true, true, true, true, true, true, false, false, false, false, false, false, false, false, false, false, false, false, false, false, false, false, false, false] rfl rfl (by kernel_rfl) (fun _ _ _ h => h) (Or.inl ⟨by rfl, ?_⟩) hHeld ?_ ?_
            rotate_left
            · rintro w' ⟨s0, s1, s2, s3, s4, s5, s6, s7, s8, s9, s10, s11, s12, s13, s14, s15⟩
              go_simp
              with_reducible rfl
            rotate_left
            · simp only [Act.put, List.setIfInBounds_toArray, List.set_cons_zero, List.set_cons_succ, i64_w, i32_w]
              rfl
            refine one_ (i := 6) (N := some 43) #[true, true, true, true, true, true, true, false, false, false, false, false, false, false, false, false, false, false, false, false, false, false, false, false] rfl rfl (by kernel_rfl) (by decide) (fun K hK => ?_)
            refine goes_ Try.func59 (by kernel_rfl) rfl #[.agg #[.int .i64 j.w, .int .i64 j.l, .int .i64 j.wi, .int .i64 j.c, .int .i64 j.d, .int .i64 j.e, .slice A j.ts.length n], .agg #[.int .i64 o.f0, .int .i64 o.f1, .int .i64 o.f2, .slice A3 o.f3.length c3, .slice A4 o.f4.length c4, .int .i64 o.f5, .slice A6 o.f6.length c6]] (by rfl) rfl rfl (by (try simp only [List.map_toArray, List.map_cons, List.map_nil]); first | done | rfl) ?_
            with_reducible refine (CM.out _ (HJ.out.below HQd.out).inn (HEL.out.below HEd.out).inn).mono ?_
            rintro e we ⟨rfl, hb_⟩
            refine ⟨_, rfl, ?_⟩
            have HQe := Aside0.mk (below_step HQd.out hb_)
            have HEe := Aside0.mk (below_step HEd.out hb_)
            refine hK.out _ _ ⟨(HJ.out.below HQe.out).cells.1, (HJ.out.below HQe.out).cells.2.1, (HJ.out.below HQe.out).cells.2.2.1, (HJ.out.below HQe.out).cells.2.2.2.1, (HJ.out.below HQe.out).cells.2.2.2.2.1, (HJ.out.below HQe.out).cells.2.2.2.2.2.1, (HJ.out.below HQe.out).cells.2.2.2.2.2.2, (TC.out _ HQe.out).1, (TC.out _ HQe.out).2.1, (HEL.out.below HEe.out).x0, (HEL.out.below HEe.out).x1, (HEL.out.below HEe.out).x2, (HEL.out.below HEe.out).x3, (HEL.out.below HEe.out).x4, (HEL.out.below HEe.out).x5, (HEL.out.below HEe.out).x6⟩ (fun hHeld => ?_)
            clear hK K
            refine norm_ (a' := ?_) ?_ ?_
            rotate_left
            · show Act.put _ (some 43) _ = _
              simp only [Act.put, List.setIfInBounds_toArray, List.set_cons_zero, List.set_cons_succ, i64_w, i32_w]
              rfl
            refine pure_ (i := 7) (N := some 44) (v := ?_) (a' := ?_) #[true, true, true, true, true, true, true, true, false, false, false, false, false, false, false, false, false, false, false, false, false, false, false, false] rfl rfl (by kernel_rfl) (fun _ _ _ h => h) (Or.inl ⟨by rfl, ?_⟩) ?_ ?_
            rotate_left
            · intro w'
              go_simp
              with_reducible rfl
            rotate_left
            · simp only [Act.put, List.setIfInBounds_toArray, List.set_cons_zero, List.set_cons_succ, i64_w, i32_w]
              rfl
            refine pure_ (i := 8) (N := some 45) (v := ?_) (a' := ?_) #[true, true, true, true, true, true, true, true, true, false, false, false, false, false, false, false, false, false, false, false, false, false, false, false] rfl rfl (by kernel_rfl) (fun _ _ _ h => h) (Or.inl ⟨by rfl, ?_⟩) ?_ ?_
            rotate_left
            · intro w'
              go_simp
              with_reducible rfl
            rotate_left
            · simp only [Act.put, List.setIfInBounds_toArray, List.set_cons_zero, List.set_cons_succ, i64_w, i32_w]
              rfl
            refine pure_ (i := 9) (N := some 46) (v := ?_) (a' := ?_) #[true, true, true, true, true, true, true, true, true, true, false, false, false, false, false, false, false, false, false, false, false, false, false, false] rfl rfl (by kernel_rfl) (fun _ _ _ h => h) (Or.inl ⟨by rfl, ?_⟩) ?_ ?_
            rotate_left
            · intro w'
              go_simp
              with_reducible rfl
            rotate_left
            · simp only [Act.put, List.setIfInBounds_toArray, List.set_cons_zero, List.set_cons_succ, i64_w, i32_w]
              rfl
            refine take_ (i := 10) (N := some 47) (v := ?_) (a' := ?_) #[true, true, true, true, true, true, true, true, true, true, true, false, false, false, false, false, false, false, false, false, false, false, false, false] rfl rfl (by kernel_rfl) (fun _ _ _ h => h) (Or.inl ⟨by rfl, ?_⟩) hHeld ?_ ?_
            rotate_left
            · rintro w' ⟨s0, s1, s2, s3, s4, s5, s6, s7, s8, s9, s10, s11, s12, s13, s14, s15⟩
              go_simp
              with_reducible rfl
            rotate_left
            · simp only [Act.put, List.setIfInBounds_toArray, List.set_cons_zero, List.set_cons_succ, i64_w, i32_w]
              rfl
            refine pure_ (i := 11) (N := some 48) (v := ?_) (a' := ?_) #[true, true, true, true, true, true, true, true, true, true, true, true, false, false, false, false, false, false, false, false, false, false, false, false] rfl rfl (by kernel_rfl) (fun _ _ _ h => h) (Or.inl ⟨by rfl, ?_⟩) ?_ ?_
            rotate_left
            · intro w'
              go_simp
              with_reducible rfl
            rotate_left
            · simp only [Act.put, List.setIfInBounds_toArray, List.set_cons_zero, List.set_cons_succ, i64_w, i32_w]
              rfl
            refine pure_ (i := 12) (N := some 49) (v := undef) (a' := ?_) #[true, true, true, true, true, true, true, true, true, true, true, true, true, false, false, false, false, false, false, false, false, false, false, false] rfl rfl (by kernel_rfl) (fun _ _ _ h => h) (Or.inr ⟨by rfl, rfl⟩) ?_ ?_
            rotate_left
            · simp only [Act.put, List.setIfInBounds_toArray, List.set_cons_zero, List.set_cons_succ, i64_w, i32_w]
              rfl
            refine pure_ (i := 13) (N := some 50) (v := undef) (a' := ?_) #[true, true, true, true, true, true, true, true, true, true, true, true, true, true, false, false, false, false, false, false, false, false, false, false] rfl rfl (by kernel_rfl) (fun _ _ _ h => h) (Or.inr ⟨by rfl, rfl⟩) ?_ ?_
            rotate_left
            · simp only [Act.put, List.setIfInBounds_toArray, List.set_cons_zero, List.set_cons_succ, i64_w, i32_w]
              rfl
            refine pure_ (i := 14) (N := some 51) (v := undef) (a' := ?_) #[true, true, true, true, true, true, true, true, true, true, true, true, true, true, true, false, false, false, false, false, false, false, false, false] rfl rfl (by kernel_rfl) (fun _ _ _ h => h) (Or.inr ⟨by rfl, rfl⟩) ?_ ?_
            rotate_left
            · simp only [Act.put, List.setIfInBounds_toArray, List.set_cons_zero, List.set_cons_succ, i64_w, i32_w]
              rfl
            refine pure_ (i := 15) (N := some 52) (v := undef) (a' := ?_) #[true, true, true, true, true, true, true, true, true, true, true, true, true, true, true, true, false, false, false, false, false, false, false, false] rfl rfl (by kernel_rfl) (fun _ _ _ h => h) (Or.inr ⟨by rfl, rfl⟩) ?_ ?_
            rotate_left
            · simp only [Act.put, List.setIfInBounds_toArray, List.set_cons_zero, List.set_cons_succ, i64_w, i32_w]
              rfl
            refine pure_ (i := 16) (N := some 53) (v := undef) (a' := ?_) #[true, true, true, true, true, true, true, true, true, true, true, true, true, true, true, true, true, false, false, false, false, false, false, false] rfl rfl (by kernel_rfl) (fun _ _ _ h => h) (Or.inr ⟨by rfl, rfl⟩) ?_ ?_
            rotate_left
            · simp only [Act.put, List.setIfInBounds_toArray, List.set_cons_zero, List.set_cons_succ, i64_w, i32_w]
              rfl
            refine pure_ (i := 17) (N := some 54) (v := undef) (a' := ?_) #[true, true, true, true, true, true, true, true, true, true, true, true, true, true, true, true, true, true, false, false, false, false, false, false] rfl rfl (by kernel_rfl) (fun _ _ _ h => h) (Or.inr ⟨by rfl, rfl⟩) ?_ ?_
            rotate_left
            · simp only [Act.put, List.setIfInBounds_toArray, List.set_cons_zero, List.set_cons_succ, i64_w, i32_w]
              rfl
            refine pure_ (i := 18) (N := some 55) (v := undef) (a' := ?_) #[true, true, true, true, true, true, true, true, true, true, true, true, true, true, true, true, true, true, true, false, false, false, false, false] rfl rfl (by kernel_rfl) (fun _ _ _ h => h) (Or.inr ⟨by rfl, rfl⟩) ?_ ?_
            rotate_left
            · simp only [Act.put, List.setIfInBounds_toArray, List.set_cons_zero, List.set_cons_succ, i64_w, i32_w]
              rfl
            refine pure_ (i := 19) (N := some 56) (v := undef) (a' := ?_) #[true, true, true, true, true, true, true, true, true, true, true, true, true, true, true, true, true, true, true, true, false, false, false, false] rfl rfl (by kernel_rfl) (fun _ _ _ h => h) (Or.inr ⟨by rfl, rfl⟩) ?_ ?_
            rotate_left
            · simp only [Act.put, List.setIfInBounds_toArray, List.set_cons_zero, List.set_cons_succ, i64_w, i32_w]
              rfl
            refine pure_ (i := 20) (N := some 57) (v := undef) (a' := ?_) #[true, true, true, true, true, true, true, true, true, true, true, true, true, true, true, true, true, true, true, true, true, false, false, false] rfl rfl (by kernel_rfl) (fun _ _ _ h => h) (Or.inr ⟨by rfl, rfl⟩) ?_ ?_
            rotate_left
            · simp only [Act.put, List.setIfInBounds_toArray, List.set_cons_zero, List.set_cons_succ, i64_w, i32_w]
              rfl
            refine pure_ (i := 21) (N := some 58) (v := undef) (a' := ?_) #[true, true, true, true, true, true, true, true, true, true, true, true, true, true, true, true, true, true, true, true, true, true, false, false] rfl rfl (by kernel_rfl) (fun _ _ _ h => h) (Or.inr ⟨by rfl, rfl⟩) ?_ ?_
            rotate_left
            · simp only [Act.put, List.setIfInBounds_toArray, List.set_cons_zero, List.set_cons_succ, i64_w, i32_w]
              rfl
            refine pure_ (i := 22) (N := some 59) (v := ?_) (a' := ?_) #[true, true, true, true, true, true, true, true, true, true, true, true, true, true, true, true, true, true, true, true, true, true, true, false] rfl rfl (by kernel_rfl) (fun _ _ _ h => h) (Or.inl ⟨by rfl, ?_⟩) ?_ ?_
            rotate_left
            · intro w'
              go_simp
              with_reducible rfl
            rotate_left
            · simp only [Act.put, List.setIfInBounds_toArray, List.set_cons_zero, List.set_cons_succ, i64_w, i32_w]
              rfl
            refine pure_ (i := 23) (N := some 60) (v := ?_) (a' := ?_) #[true, true, true, true, true, true, true, true, true, true, true, true, true, true, true, true, true, true, true, true, true, true, true, true] rfl rfl (by kernel_rfl) (fun _ _ _ h => h) (Or.inl ⟨by rfl, ?_⟩) ?_ ?_
            rotate_left
            · intro w'
              go_simp
              with_reducible rfl
            rotate_left
            · simp only [Act.put, List.setIfInBounds_toArray, List.set_cons_zero, List.set_cons_succ, i64_w, i32_w]
              rfl
            refine done_ (by kernel_rfl) ?_
            simp only [Exit.then]
            clear HQd HEd HEe hHeld
            go_wp2
            go_roundw
            case rel => exact ⟨k + 1, by go_num, by omega, ⟨HBD.out (by simp [*])⟩, HQe⟩
            case measure => simp [intOf]; omega
        · obtain rfl : k = l.length := by omega
          have HRT := Aside0.mk (show R = true by
            rw [HR3.out]
            have : l.any (badOp j false) = false := List.any_eq_false.2 (fun z hz => by
              obtain ⟨q, hq, rfl⟩ := List.mem_iff_getElem.1 hz
              have := hbad.out q hq
              rw [show rd_T80 l (q : Int) = l[q] by simp [rd_T80, List.getD, hq]] at this
              rw [this]; decide)
            rw [this]; rfl)
          go_wp2
          go_ret
          exact ⟨by rw [HRT.out]; first | done | rfl | simp, below_step HB.out hb.out⟩
    · go_loopw [5] (fun v w' => ∃ k : Nat, v = .int .i64 k ∧ k ≤ l.length ∧ Aside0 (∀ q : Nat, q < k → badOp j true (rd_T80 l (q : Int)) = false) ∧ Aside0 (Below w2.heap.size w2 w')) (fun v _ => l.length - (intOf v).toNat)
      case atStart => exact ⟨0, rfl, Nat.zero_le _, ⟨fun q h => by omega⟩, HQ3⟩
      case round =>
        obtain ⟨k, rfl, hk, hbad, hb⟩ := hrel
        obtain ⟨y0, y1, y2⟩ := TC.out _ hb.out
        by_cases hlt : k < l.length
        · obtain ⟨ad, A3, c3, A4, c4, A6, c6, ea, hel⟩ := opEl_at (Kd.C_below HL.out hb.out) k hlt
          subst ea
          have g6 := HM.out _ (rd_T80_mem l k hlt)
          have HBD := Aside0.mk (fun (hp : badOp j true (rd_T80 l (k : Int)) = false) => (show ∀ q : Nat, q < k + 1 → badOp j true (rd_T80 l (q : Int)) = false from fun q hq => by
            by_cases e : q = k
            · subst e; exact hp
            · exact hbad.out q (by omega)))
          have HT := Aside0.mk (fun (hp : badOp j true (rd_T80 l (k : Int)) = true) => (show R = false from by
            rw [HR3.out]
            have : l.any (badOp j true) = true := List.any_eq_true.2 ⟨_, rd_T80_mem l k hlt, hp⟩
            rw [this]; rfl))
          generalize rd_T80 l (k : Int) = o at hel g6 HBD HT
          obtain ⟨p, hp⟩ : ∃ p, ad.add (k * 7) = p := ⟨_, rfl⟩
          rw [hp] at hel
          have k0 : (0 : Int) ≤ (k : Int) := by omega
          have k1 : (k : Int) < (l.length : Int) := by omega
          have CM := Aside0.mk (fun (W : World) (h1 : j.In W A n) (h2 : OpIn o W A3 c3 A4 c4 A6 c6) => refMayOp_call j A n o A3 c3 A4 c4 A6 c6 W h1 h2 HTS.out g6)
          unfold badOp writesB at HBD HT
          obtain ⟨mb, hmb⟩ : ∃ R, R = mayOp j o := ⟨_, rfl⟩
          rw [← hmb] at CM HBD HT
          unfold opV Job.v at *
          have x0 := hel.x0
          have HEL := Aside0.mk hel
          clear hel g6 hmb
          go_upto_region 7 with fail
          have HQd := Aside0.mk (below_step hb.out (below_drew (Below.refl wr.heap.size wr)))
          have HEd := Aside0.mk (below_drew (Below.refl wr.heap.size wr))
          clear x0 y0 y1 y2
          cases mb with
          | false =>
            refine start_ (n := 24) (S := fun w' => w'.cell? ⟨P0, 0, none⟩ = some (.int .i64 j.w) ∧ w'.cell? ⟨P0, 1, none⟩ = some (.int .i64 j.l) ∧ w'.cell? ⟨P0, 2, none⟩ = some (.int .i64 j.wi) ∧ w'.cell? ⟨P0, 3, none⟩ = some (.int .i64 j.c) ∧ w'.cell? ⟨P0, 4, none⟩ = some (.int .i64 j.d) ∧ w'.cell? ⟨P0, 5, none⟩ = some (.int .i64 j.e) ∧ w'.cell? ⟨P0, 6, none⟩ = some (.slice A j.ts.length n) ∧ w'.cell? ⟨P1, 0, none⟩ = some (.slice (some ad) l.length d) ∧ w'.cell? ⟨P1, 1, none⟩ = some (.bool true) ∧ w'.cell? p = some (.int .i64 o.f0) ∧ w'.cell? ⟨p.block, p.off + 1, none⟩ = some (.int .i64 o.f1) ∧ w'.cell? ⟨p.block, p.off + 2, none⟩ = some (.int .i64 o.f2) ∧ w'.cell? ⟨p.block, p.off + 3, none⟩ = some (.slice A3 o.f3.length c3) ∧ w'.cell? ⟨p.block, p.off + 4, none⟩ = some (.slice A4 o.f4.length c4) ∧ w'.cell? ⟨p.block, p.off + 5, none⟩ = some (.int .i64 o.f5) ∧ w'.cell? ⟨p.block, p.off + 6, none⟩ = some (.slice A6 o.f6.length c6)) (ds := []) #[false, false, false, false, false, false, false, false, false, false, false, false, false, false, false, false, false, false, false, false, false, false, false, false] (by kernel_rfl) rfl rfl ⟨(HJ.out.below HQd.out).cells.1, (HJ.out.below HQd.out).cells.2.1, (HJ.out.below HQd.out).cells.2.2.1, (HJ.out.below HQd.out).cells.2.2.2.1, (HJ.out.below HQd.out).cells.2.2.2.2.1, (HJ.out.below HQd.out).cells.2.2.2.2.2.1, (HJ.out.below HQd.out).cells.2.2.2.2.2.2, (TC.out _ HQd.out).1, (TC.out _ HQd.out).2.1, (HEL.out.below HEd.out).x0, (HEL.out.below HEd.out).x1, (HEL.out.below HEd.out).x2, (HEL.out.below HEd.out).x3, (HEL.out.below HEd.out).x4, (HEL.out.below HEd.out).x5, (HEL.out.below HEd.out).x6⟩ (fun hHeld => ?_)
            generalize wr.drew = wd at hHeld HQd HEd ⊢
            refine take_ (i := 0) (N := some 37) (v := ?_) (a' := ?_) #[true, false, false, false, false, false, false, false, false, false, false, false, false, false, false, false, false, false, false, false, false, false, false, false] rfl rfl (by kernel_rfl) (fun _ _ _ h => h) (Or.inl ⟨by rfl, ?_⟩) hHeld ?_ ?_
            rotate_left
            · rintro w' ⟨s0, s1, s2, s3, s4, s5, s6, s7, s8, s9, s10, s11, s12, s13, s14, s15⟩
              go_simp
              with_reducible rfl
            rotate_left
            · simp only [Act.put, List.setIfInBounds_toArray, List.set_cons_zero, List.set_cons_succ, i64_w, i32_w]
              rfl
            refine pure_ (i := 1) (N := some 38) (v := ?_) (a' := ?_) #[true, true, false, false, false, false, false, false, false, false, false, false, false, false, false, false, false, false, false, false, false, false, false, false] rfl rfl (by kernel_rfl) (fun _ _ _ h => h) (Or.inl ⟨by rfl, ?_⟩) ?_ ?_
            rotate_left
            · intro w'
              go_simp
              with_reducible rfl
            rotate_left
            · simp only [Act.put, List.setIfInBounds_toArray, List.set_cons_zero, List.set_cons_succ, i64_w, i32_w]
              rfl
            refine take_ (i := 2) (N := some 39) (v := ?_) (a' := ?_) #[true, true, true, false, false, false, false, false, false, false, false, false, false, false, false, false, false, false, false, false, false, false, false, false] rfl rfl (by kernel_rfl) (fun _ _ _ h => h) (Or.inl ⟨by rfl, ?_⟩) hHeld ?_ ?_
            rotate_left
            · rintro w' ⟨s0, s1, s2, s3, s4, s5, s6, s7, s8, s9, s10, s11, s12, s13, s14, s15⟩
              go_simp
              with_reducible rfl
            rotate_left
            · simp only [Act.put, List.setIfInBounds_toArray, List.set_cons_zero, List.set_cons_succ, i64_w, i32_w]
              rfl
            refine pure_ (i := 3) (N := some 40) (v := ?_) (a' := ?_) #[true, true, true, true, false, false, false, false, false, false, false, false, false, false, false, false, false, false, false, false, false, false, false, false] rfl rfl (by kernel_rfl) (fun _ _ _ h => h) (Or.inl ⟨by rfl, ?_⟩) ?_ ?_
            rotate_left
            · intro w'
              go_simp
              with_reducible rfl
            rotate_left
            · simp only [Act.put, List.setIfInBounds_toArray, List.set_cons_zero, List.set_cons_succ, i64_w, i32_w]
              rfl
            refine pure_ (i := 4) (N := some 41) (v := ?_) (a' := ?_) #[true, true, true, true, true, false, false, false, false, false, false, false, false, false, false, false, false, false, false, false, false, false, false, false] rfl rfl (by kernel_rfl) (fun _ _ _ h => h) (Or.inl ⟨by rfl, ?_⟩) ?_ ?_
            rotate_left
            · intro w'
              go_simp
              with_reducible rfl
            rotate_left
            · simp only [Act.put, List.setIfInBounds_toArray, List.set_cons_zero, List.set_cons_succ, i64_w, i32_w]
              rfl
            refine take_ (i := 5) (N := some 42) (v := ?_) (a' := ?_) #[true, true, true, true, true, true, false, false, false, false, false, false, false, false, false, false, false, false, false, false, false, false, false, false] rfl rfl (by kernel_rfl) (fun _ _ _ h => h) (Or.inl ⟨by rfl, ?_⟩) hHeld ?_ ?_
            rotate_left
            · rintro w' ⟨s0, s1, s2, s3, s4, s5, s6, s7, s8, s9, s10, s11, s12, s13, s14, s15⟩
              go_simp
              with_reducible rfl
            rotate_left
            · simp only [Act.put, List.setIfInBounds_toArray, List.set_cons_zero, List.set_cons_succ, i64_w, i32_w]
              rfl
            refine one_ (i := 6) (N := some 43) #[true, true, true, true, true, true, true, false, false, false, false, false, false, false, false, false, false, false, false, false, false, false, false, false] rfl rfl (by kernel_rfl) (by decide) (fun K hK => ?_)
            refine goes_ Try.func59 (by kernel_rfl) rfl #[.agg #[.int .i64 j.w, .int .i64 j.l, .int .i64 j.wi, .int .i64 j.c, .int .i64 j.d, .int .i64 j.e, .slice A j.ts.length n], .agg #[.int .i64 o.f0, .int .i64 o.f1, .int .i64 o.f2, .slice A3 o.f3.length c3, .slice A4 o.f4.length c4, .int .i64 o.f5, .slice A6 o.f6.length c6]] (by rfl) rfl rfl (by (try simp only [List.map_toArray, List.map_cons, List.map_nil]); first | done | rfl) ?_
            with_reducible refine (CM.out _ (HJ.out.below HQd.out).inn (HEL.out.below HEd.out).inn).mono ?_
            rintro e we ⟨rfl, hb_⟩
            refine ⟨_, rfl, ?_⟩
            have HQe := Aside0.mk (below_step HQd.out hb_)
            have HEe := Aside0.mk (below_step HEd.out hb_)
            refine hK.out _ _ ⟨(HJ.out.below HQe.out).cells.1, (HJ.out.below HQe.out).cells.2.1, (HJ.out.below HQe.out).cells.2.2.1, (HJ.out.below HQe.out).cells.2.2.2.1, (HJ.out.below HQe.out).cells.2.2.2.2.1, (HJ.out.below HQe.out).cells.2.2.2.2.2.1, (HJ.out.below HQe.out).cells.2.2.2.2.2.2, (TC.out _ HQe.out).1, (TC.out _ HQe.out).2.1, (HEL.out.below HEe.out).x0, (HEL.out.below HEe.out).x1, (HEL.out.below HEe.out).x2, (HEL.out.below HEe.out).x3, (HEL.out.below HEe.out).x4, (HEL.out.below HEe.out).x5, (HEL.out.below HEe.out).x6⟩ (fun hHeld => ?_)
            clear hK K
            refine norm_ (a' := ?_) ?_ ?_
            rotate_left
            · show Act.put _ (some 43) _ = _
              simp only [Act.put, List.setIfInBounds_toArray, List.set_cons_zero, List.set_cons_succ, i64_w, i32_w]
              rfl
            refine pure_ (i := 7) (N := some 44) (v := ?_) (a' := ?_) #[true, true, true, true, true, true, true, true, false, false, false, false, false, false, false, false, false, false, false, false, false, false, false, false] rfl rfl (by kernel_rfl) (fun _ _ _ h => h) (Or.inl ⟨by rfl, ?_⟩) ?_ ?_
            rotate_left
            · intro w'
              go_simp
              with_reducible rfl
            rotate_left
            · simp only [Act.put, List.setIfInBounds_toArray, List.set_cons_zero, List.set_cons_succ, i64_w, i32_w]
              rfl
            refine pure_ (i := 8) (N := some 45) (v := ?_) (a' := ?_) #[true, true, true, true, true, true, true, true, true, false, false, false, false, false, false, false, false, false, false, false, false, false, false, false] rfl rfl (by kernel_rfl) (fun _ _ _ h => h) (Or.inl ⟨by rfl, ?_⟩) ?_ ?_
            rotate_left
            · intro w'
              go_simp
              with_reducible rfl
            rotate_left
            · simp only [Act.put, List.setIfInBounds_toArray, List.set_cons_zero, List.set_cons_succ, i64_w, i32_w]
              rfl
            refine pure_ (i := 9) (N := some 46) (v := undef) (a' := ?_) #[true, true, true, true, true, true, true, true, true, true, false, false, false, false, false, false, false, false, false, false, false, false, false, false] rfl rfl (by kernel_rfl) (fun _ _ _ h => h) (Or.inr ⟨by rfl, rfl⟩) ?_ ?_
            rotate_left
            · simp only [Act.put, List.setIfInBounds_toArray, List.set_cons_zero, List.set_cons_succ, i64_w, i32_w]
              rfl
            refine pure_ (i := 10) (N := some 47) (v := undef) (a' := ?_) #[true, true, true, true, true, true, true, true, true, true, true, false, false, false, false, false, false, false, false, false, false, false, false, false] rfl rfl (by kernel_rfl) (fun _ _ _ h => h) (Or.inr ⟨by rfl, rfl⟩) ?_ ?_
            rotate_left
            · simp only [Act.put, List.setIfInBounds_toArray, List.set_cons_zero, List.set_cons_succ, i64_w, i32_w]
              rfl
            refine pure_ (i := 11) (N := some 48) (v := undef) (a' := ?_) #[true, true, true, true, true, true, true, true, true, true, true, true, false, false, false, false, false, false, false, false, false, false, false, false] rfl rfl (by kernel_rfl) (fun _ _ _ h => h) (Or.inr ⟨by rfl, rfl⟩) ?_ ?_
            rotate_left
            · simp only [Act.put, List.setIfInBounds_toArray, List.set_cons_zero, List.set_cons_succ, i64_w, i32_w]
              rfl
            refine pure_ (i := 12) (N := some 49) (v := undef) (a' := ?_) #[true, true, true, true, true, true, true, true, true, true, true, true, true, false, false, false, false, false, false, false, false, false, false, false] rfl rfl (by kernel_rfl) (fun _ _ _ h => h) (Or.inr ⟨by rfl, rfl⟩) ?_ ?_
            rotate_left
            · simp only [Act.put, List.setIfInBounds_toArray, List.set_cons_zero, List.set_cons_succ, i64_w, i32_w]
              rfl
            refine pure_ (i := 13) (N := some 50) (v := undef) (a' := ?_) #[true, true, true, true, true, true, true, true, true, true, true, true, true, true, false, false, false, false, false, false, false, false, false, false] rfl rfl (by kernel_rfl) (fun _ _ _ h => h) (Or.inr ⟨by rfl, rfl⟩) ?_ ?_
            rotate_left
            · simp only [Act.put, List.setIfInBounds_toArray, List.set_cons_zero, List.set_cons_succ, i64_w, i32_w]
              rfl
            refine pure_ (i := 14) (N := some 51) (v := undef) (a' := ?_) #[true, true, true, true, true, true, true, true, true, true, true, true, true, true, true, false, false, false, false, false, false, false, false, false] rfl rfl (by kernel_rfl) (fun _ _ _ h => h) (Or.inr ⟨by rfl, rfl⟩) ?_ ?_
            rotate_left
            · simp only [Act.put, List.setIfInBounds_toArray, List.set_cons_zero, List.set_cons_succ, i64_w, i32_w]
              rfl
            refine pure_ (i := 15) (N := some 52) (v := undef) (a' := ?_) #[true, true, true, true, true, true, true, true, true, true, true, true, true, true, true, true, false, false, false, false, false, false, false, false] rfl rfl (by kernel_rfl) (fun _ _ _ h => h) (Or.inr ⟨by rfl, rfl⟩) ?_ ?_
            rotate_left
            · simp only [Act.put, List.setIfInBounds_toArray, List.set_cons_zero, List.set_cons_succ, i64_w, i32_w]
              rfl
            refine pure_ (i := 16) (N := some 53) (v := undef) (a' := ?_) #[true, true, true, true, true, true, true, true, true, true, true, true, true, true, true, true, true, false, false, false, false, false, false, false] rfl rfl (by kernel_rfl) (fun _ _ _ h => h) (Or.inr ⟨by rfl, rfl⟩) ?_ ?_
            rotate_left
            · simp only [Act.put, List.setIfInBounds_toArray, List.set_cons_zero, List.set_cons_succ, i64_w, i32_w]
              rfl
            refine pure_ (i := 17) (N := some 54) (v := undef) (a' := ?_) #[true, true, true, true, true, true, true, true, true, true, true, true, true, true, true, true, true, true, false, false, false, false, false, false] rfl rfl (by kernel_rfl) (fun _ _ _ h => h) (Or.inr ⟨by rfl, rfl⟩) ?_ ?_
            rotate_left
            · simp only [Act.put, List.setIfInBounds_toArray, List.set_cons_zero, List.set_cons_succ, i64_w, i32_w]
              rfl
            refine pure_ (i := 18) (N := some 55) (v := undef) (a' := ?_) #[true, true, true, true, true, true, true, true, true, true, true, true, true, true, true, true, true, true, true, false, false, false, false, false] rfl rfl (by kernel_rfl) (fun _ _ _ h => h) (Or.inr ⟨by rfl, rfl⟩) ?_ ?_
            rotate_left
            · simp only [Act.put, List.setIfInBounds_toArray, List.set_cons_zero, List.set_cons_succ, i64_w, i32_w]
              rfl
            refine pure_ (i := 19) (N := some 56) (v := undef) (a' := ?_) #[true, true, true, true, true, true, true, true, true, true, true, true, true, true, true, true, true, true, true, true, false, false, false, false] rfl rfl (by kernel_rfl) (fun _ _ _ h => h) (Or.inr ⟨by rfl, rfl⟩) ?_ ?_
            rotate_left
            · simp only [Act.put, List.setIfInBounds_toArray, List.set_cons_zero, List.set_cons_succ, i64_w, i32_w]
              rfl
            refine pure_ (i := 20) (N := some 57) (v := undef) (a' := ?_) #[true, true, true, true, true, true, true, true, true, true, true, true, true, true, true, true, true, true, true, true, true, false, false, false] rfl rfl (by kernel_rfl) (fun _ _ _ h => h) (Or.inr ⟨by rfl, rfl⟩) ?_ ?_
            rotate_left
            · simp only [Act.put, List.setIfInBounds_toArray, List.set_cons_zero, List.set_cons_succ, i64_w, i32_w]
              rfl
            refine pure_ (i := 21) (N := some 58) (v := undef) (a' := ?_) #[true, true, true, true, true, true, true, true, true, true, true, true, true, true, true, true, true, true, true, true, true, true, false, false] rfl rfl (by kernel_rfl) (fun _ _ _ h => h) (Or.inr ⟨by rfl, rfl⟩) ?_ ?_
            rotate_left
            · simp only [Act.put, List.setIfInBounds_toArray, List.set_cons_zero, List.set_cons_succ, i64_w, i32_w]
              rfl
            refine pure_ (i := 22) (N := some 59) (v := undef) (a' := ?_) #[true, true, true, true, true, true, true, true, true, true, true, true, true, true, true, true, true, true, true, true, true, true, true, false] rfl rfl (by kernel_rfl) (fun _ _ _ h => h) (Or.inr ⟨by rfl, rfl⟩) ?_ ?_
            rotate_left
            · simp only [Act.put, List.setIfInBounds_toArray, List.set_cons_zero, List.set_cons_succ, i64_w, i32_w]
              rfl
            refine pure_ (i := 23) (N := some 60) (v := ?_) (a' := ?_) #[true, true, true, true, true, true, true, true, true, true, true, true, true, true, true, true, true, true, true, true, true, true, true, true] rfl rfl (by kernel_rfl) (fun _ _ _ h => h) (Or.inl ⟨by rfl, ?_⟩) ?_ ?_
            rotate_left
            · intro w'
              go_simp
              with_reducible rfl
            rotate_left
            · simp only [Act.put, List.setIfInBounds_toArray, List.set_cons_zero, List.set_cons_succ, i64_w, i32_w]
              rfl
            refine done_ (by kernel_rfl) ?_
            simp only [Exit.then]
            clear HQd HEd HEe hHeld
            go_wp2
            go_ret
            exact ⟨by rw [HT.out (by simp [*])]; first | done | rfl | simp, below_step HB.out HQe.out⟩
          | true =>
            obtain ⟨b2, h2⟩ : ∃ b, (o.f0 == 2) = b := ⟨_, rfl⟩
            obtain ⟨b3, h3⟩ : ∃ b, (o.f0 == 3) = b := ⟨_, rfl⟩
            obtain ⟨b4, h4⟩ : ∃ b, (o.f0 == 4) = b := ⟨_, rfl⟩
            have n2 : decide (o.f0 = 2) = b2 := by rw [← h2]; exact Bool.eq_iff_iff.2 (by simp)
            have n3 : decide (o.f0 = 3) = b3 := by rw [← h3]; exact Bool.eq_iff_iff.2 (by simp)
            have n4 : decide (o.f0 = 4) = b4 := by rw [← h4]; exact Bool.eq_iff_iff.2 (by simp)
            rw [n2, n3, n4] at HBD HT
            clear n2 n3 n4
            cases b2 with
            | true =>
              refine start_ (n := 24) (S := fun w' => w'.cell? ⟨P0, 0, none⟩ = some (.int .i64 j.w) ∧ w'.cell? ⟨P0, 1, none⟩ = some (.int .i64 j.l) ∧ w'.cell? ⟨P0, 2, none⟩ = some (.int .i64 j.wi) ∧ w'.cell? ⟨P0, 3, none⟩ = some (.int .i64 j.c) ∧ w'.cell? ⟨P0, 4, none⟩ = some (.int .i64 j.d) ∧ w'.cell? ⟨P0, 5, none⟩ = some (.int .i64 j.e) ∧ w'.cell? ⟨P0, 6, none⟩ = some (.slice A j.ts.length n) ∧ w'.cell? ⟨P1, 0, none⟩ = some (.slice (some ad) l.length d) ∧ w'.cell? ⟨P1, 1, none⟩ = some (.bool true) ∧ w'.cell? p = some (.int .i64 o.f0) ∧ w'.cell? ⟨p.block, p.off + 1, none⟩ = some (.int .i64 o.f1) ∧ w'.cell? ⟨p.block, p.off + 2, none⟩ = some (.int .i64 o.f2) ∧ w'.cell? ⟨p.block, p.off + 3, none⟩ = some (.slice A3 o.f3.length c3) ∧ w'.cell? ⟨p.block, p.off + 4, none⟩ = some (.slice A4 o.f4.length c4) ∧ w'.cell? ⟨p.block, p.off + 5, none⟩ = some (.int .i64 o.f5) ∧ w'.cell? ⟨p.block, p.off + 6, none⟩ = some (.slice A6 o.f6.length c6)) (ds := []) #[false, false, false, false, false, false, false, false, false, false, false, false, false, false, false, false, false, false, false, false, false, false, false, false] (by kernel_rfl) rfl rfl ⟨(HJ.out.below HQd.out).cells.1, (HJ.out.below HQd.out).cells.2.1, (HJ.out.below HQd.out).cells.2.2.1, (HJ.out.below HQd.out).cells.2.2.2.1, (HJ.out.below HQd.out).cells.2.2.2.2.1, (HJ.out.below HQd.out).cells.2.2.2.2.2.1, (HJ.out.below HQd.out).cells.2.2.2.2.2.2, (TC.out _ HQd.out).1, (TC.out _ HQd.out).2.1, (HEL.out.below HEd.out).x0, (HEL.out.below HEd.out).x1, (HEL.out.below HEd.out).x2, (HEL.out.below HEd.out).x3, (HEL.out.below HEd.out).x4, (HEL.out.below HEd.out).x5, (HEL.out.below HEd.out).x6⟩ (fun hHeld => ?_)
              generalize wr.drew = wd at hHeld HQd HEd ⊢
              refine take_ (i := 0) (N := some 37) (v := ?_) (a' := ?_) #[true, false, false, false, false, false, false, false, false, false, false, false, false, false, false, false, false, false, false, false, false, false, false, false] rfl rfl (by kernel_rfl) (fun _ _ _ h => h) (Or.inl ⟨by rfl, ?_⟩) hHeld ?_ ?_
              rotate_left
              · rintro w' ⟨s0, s1, s2, s3, s4, s5, s6, s7, s8, s9, s10, s11, s12, s13, s14, s15⟩
                go_simp
                with_reducible rfl
              rotate_left
              · simp only [Act.put, List.setIfInBounds_toArray, List.set_cons_zero, List.set_cons_succ, i64_w, i32_w]
                rfl
              refine pure_ (i := 1) (N := some 38) (v := ?_) (a' := ?_) #[true, true, false, false, false, false, false, false, false, false, false, false, false, false, false, false, false, false, false, false, false, false, false, false] rfl rfl (by kernel_rfl) (fun _ _ _ h => h) (Or.inl ⟨by rfl, ?_⟩) ?_ ?_
              rotate_left
              · intro w'
                go_simp
                with_reducible rfl
              rotate_left
              · simp only [Act.put, List.setIfInBounds_toArray, List.set_cons_zero, List.set_cons_succ, i64_w, i32_w]
                rfl
              refine take_ (i := 2) (N := some 39) (v := ?_) (a' := ?_) #[true, true, true, false, false, false, false, false, false, false, false, false, false, false, false, false, false, false, false, false, false, false, false, false] rfl rfl (by kernel_rfl) (fun _ _ _ h => h) (Or.inl ⟨by rfl, ?_⟩) hHeld ?_ ?_
              rotate_left
              · rintro w' ⟨s0, s1, s2, s3, s4, s5, s6, s7, s8, s9, s10, s11, s12, s13, s14, s15⟩
                go_simp
                with_reducible rfl
              rotate_left
              · simp only [Act.put, List.setIfInBounds_toArray, List.set_cons_zero, List.set_cons_succ, i64_w, i32_w]
                rfl
              refine pure_ (i := 3) (N := some 40) (v := ?_) (a' := ?_) #[true, true, true, true, false, false, false, false, false, false, false, false, false, false, false, false, false, false, false, false, false, false, false, false] rfl rfl (by kernel_rfl) (fun _ _ _ h => h) (Or.inl ⟨by rfl, ?_⟩) ?_ ?_
              rotate_left
              · intro w'
                go_simp
                with_reducible rfl
              rotate_left
              · simp only [Act.put, List.setIfInBounds_toArray, List.set_cons_zero, List.set_cons_succ, i64_w, i32_w]
                rfl
              refine pure_ (i := 4) (N := some 41) (v := ?_) (a' := ?_) #[true, true, true, true, true, false, false, false, false, false, false, false, false, false, false, false, false, false, false, false, false, false, false, false] rfl rfl (by kernel_rfl) (fun _ _ _ h => h) (Or.inl ⟨by rfl, ?_⟩) ?_ ?_
              rotate_left
              · intro w'
                go_simp
                with_reducible rfl
              rotate_left
              · simp only [Act.put, List.setIfInBounds_toArray, List.set_cons_zero, List.set_cons_succ, i64_w, i32_w]
                rfl
              refine take_ (i := 5) (N := some 42) (v := ?_) (a' := ?_) #[true, true, true, true, true, true, false, false, false, false, false, false, false, false, false, false, false, false, false, false, false, false, false, false] rfl rfl (by kernel_rfl) (fun _ _ _ h => h) (Or.inl ⟨by rfl, ?_⟩) hHeld ?_ ?_
              rotate_left
              · rintro w' ⟨s0, s1, s2, s3, s4, s5, s6, s7, s8, s9, s10, s11, s12, s13, s14, s15⟩
                go_simp
                with_reducible rfl
              rotate_left
              · simp only [Act.put, List.setIfInBounds_toArray, List.set_cons_zero, List.set_cons_succ, i64_w, i32_w]
                rfl
              refine one_ (i := 6) (N := some 43) #[true, true, true, true, true, true, true, false, false, false, false, false, false, false, false, false, false, false, false, false, false, false, false, false] rfl rfl (by kernel_rfl) (by decide) (fun K hK => ?_)
              refine goes_ Try.func59 (by kernel_rfl) rfl #[.agg #[.int .i64 j.w, .int .i64 j.l, .int .i64 j.wi, .int .i64 j.c, .int .i64 j.d, .int .i64 j.e, .slice A j.ts.length n], .agg #[.int .i64 o.f0, .int .i64 o.f1, .int .i64 o.f2, .slice A3 o.f3.length c3, .slice A4 o.f4.length c4, .int .i64 o.f5, .slice A6 o.f6.length c6]] (by rfl) rfl rfl (by (try simp only [List.map_toArray, List.map_cons, List.map_nil]); first | done | rfl) ?_
              with_reducible refine (CM.out _ (HJ.out.below HQd.out).inn (HEL.out.below HEd.out).inn).mono ?_
              rintro e we ⟨rfl, hb_⟩
              refine ⟨_, rfl, ?_⟩
              have HQe := Aside0.mk (below_step HQd.out hb_)
              have HEe := Aside0.mk (below_step HEd.out hb_)
              refine hK.out _ _ ⟨(HJ.out.below HQe.out).cells.1, (HJ.out.below HQe.out).cells.2.1, (HJ.out.below HQe.out).cells.2.2.1, (HJ.out.below HQe.out).cells.2.2.2.1, (HJ.out.below HQe.out).cells.2.2.2.2.1, (HJ.out.below HQe.out).cells.2.2.2.2.2.1, (HJ.out.below HQe.out).cells.2.2.2.2.2.2, (TC.out _ HQe.out).1, (TC.out _ HQe.out).2.1, (HEL.out.below HEe.out).x0, (HEL.out.below HEe.out).x1, (HEL.out.below HEe.out).x2, (HEL.out.below HEe.out).x3, (HEL.out.below HEe.out).x4, (HEL.out.below HEe.out).x5, (HEL.out.below HEe.out).x6⟩ (fun hHeld => ?_)
              clear hK K
              refine norm_ (a' := ?_) ?_ ?_
              rotate_left
              · show Act.put _ (some 43) _ = _
                simp only [Act.put, List.setIfInBounds_toArray, List.set_cons_zero, List.set_cons_succ, i64_w, i32_w]
                rfl
              refine pure_ (i := 7) (N := some 44) (v := ?_) (a' := ?_) #[true, true, true, true, true, true, true, true, false, false, false, false, false, false, false, false, false, false, false, false, false, false, false, false] rfl rfl (by kernel_rfl) (fun _ _ _ h => h) (Or.inl ⟨by rfl, ?_⟩) ?_ ?_
              rotate_left
              · intro w'
                go_simp
                with_reducible rfl
              rotate_left
              · simp only [Act.put, List.setIfInBounds_toArray, List.set_cons_zero, List.set_cons_succ, i64_w, i32_w]
                rfl
              refine pure_ (i := 8) (N := some 45) (v := ?_) (a' := ?_) #[true, true, true, true, true, true, true, true, true, false, false, false, false, false, false, false, false, false, false, false, false, false, false, false] rfl rfl (by kernel_rfl) (fun _ _ _ h => h) (Or.inl ⟨by rfl, ?_⟩) ?_ ?_
              rotate_left
              · intro w'
                go_simp
                with_reducible rfl
              rotate_left
              · simp only [Act.put, List.setIfInBounds_toArray, List.set_cons_zero, List.set_cons_succ, i64_w, i32_w]
                rfl
              refine pure_ (i := 9) (N := some 46) (v := ?_) (a' := ?_) #[true, true, true, true, true, true, true, true, true, true, false, false, false, false, false, false, false, false, false, false, false, false, false, false] rfl rfl (by kernel_rfl) (fun _ _ _ h => h) (Or.inl ⟨by rfl, ?_⟩) ?_ ?_
              rotate_left
              · intro w'
                go_simp
                with_reducible rfl
              rotate_left
              · simp only [Act.put, List.setIfInBounds_toArray, List.set_cons_zero, List.set_cons_succ, i64_w, i32_w]
                rfl
              refine take_ (i := 10) (N := some 47) (v := ?_) (a' := ?_) #[true, true, true, true, true, true, true, true, true, true, true, false, false, false, false, false, false, false, false, false, false, false, false, false] rfl rfl (by kernel_rfl) (fun _ _ _ h => h) (Or.inl ⟨by rfl, ?_⟩) hHeld ?_ ?_
              rotate_left
              · rintro w' ⟨s0, s1, s2, s3, s4, s5, s6, s7, s8, s9, s10, s11, s12, s13, s14, s15⟩
                go_simp
                with_reducible rfl
              rotate_left
              · simp only [Act.put, List.setIfInBounds_toArray, List.set_cons_zero, List.set_cons_succ, i64_w, i32_w]
                rfl
              refine pure_ (i := 11) (N := some 48) (v := ?_) (a' := ?_) #[true, true, true, true, true, true, true, true, true, true, true, true, false, false, false, false, false, false, false, false, false, false, false, false] rfl rfl (by kernel_rfl) (fun _ _ _ h => h) (Or.inl ⟨by rfl, ?_⟩) ?_ ?_
              rotate_left
              · intro w'
                go_simp
                with_reducible rfl
              rotate_left
              · simp only [Act.put, List.setIfInBounds_toArray, List.set_cons_zero, List.set_cons_succ, i64_w, i32_w]
                rfl
              refine pure_ (i := 12) (N := some 49) (v := ?_) (a' := ?_) #[true, true, true, true, true, true, true, true, true, true, true, true, true, false, false, false, false, false, false, false, false, false, false, false] rfl rfl (by kernel_rfl) (fun _ _ _ h => h) (Or.inl ⟨by rfl, ?_⟩) ?_ ?_
              rotate_left
              · intro w'
                go_simp
                with_reducible rfl
              rotate_left
              · simp only [Act.put, List.setIfInBounds_toArray, List.set_cons_zero, List.set_cons_succ, i64_w, i32_w]
                rfl
              refine pure_ (i := 13) (N := some 50) (v := ?_) (a' := ?_) #[true, true, true, true, true, true, true, true, true, true, true, true, true, true, false, false, false, false, false, false, false, false, false, false] rfl rfl (by kernel_rfl) (fun _ _ _ h => h) (Or.inl ⟨by rfl, ?_⟩) ?_ ?_
              rotate_left
              · intro w'
                go_simp
                with_reducible rfl
              rotate_left
              · simp only [Act.put, List.setIfInBounds_toArray, List.set_cons_zero, List.set_cons_succ, i64_w, i32_w]
                rfl
              refine pure_ (i := 14) (N := some 51) (v := ?_) (a' := ?_) #[true, true, true, true, true, true, true, true, true, true, true, true, true, true, true, false, false, false, false, false, false, false, false, false] rfl rfl (by kernel_rfl) (fun _ _ _ h => h) (Or.inl ⟨by rfl, ?_⟩) ?_ ?_
              rotate_left
              · intro w'
                go_simp
                with_reducible rfl
              rotate_left
              · simp only [Act.put, List.setIfInBounds_toArray, List.set_cons_zero, List.set_cons_succ, i64_w, i32_w]
                rfl
              refine pure_ (i := 15) (N := some 52) (v := undef) (a' := ?_) #[true, true, true, true, true, true, true, true, true, true, true, true, true, true, true, true, false, false, false, false, false, false, false, false] rfl rfl (by kernel_rfl) (fun _ _ _ h => h) (Or.inr ⟨by rfl, rfl⟩) ?_ ?_
              rotate_left
              · simp only [Act.put, List.setIfInBounds_toArray, List.set_cons_zero, List.set_cons_succ, i64_w, i32_w]
                rfl
              refine pure_ (i := 16) (N := some 53) (v := undef) (a' := ?_) #[true, true, true, true, true, true, true, true, true, true, true, true, true, true, true, true, true, false, false, false, false, false, false, false] rfl rfl (by kernel_rfl) (fun _ _ _ h => h) (Or.inr ⟨by rfl, rfl⟩) ?_ ?_
              rotate_left
              · simp only [Act.put, List.setIfInBounds_toArray, List.set_cons_zero, List.set_cons_succ, i64_w, i32_w]
                rfl
              refine pure_ (i := 17) (N := some 54) (v := ?_) (a' := ?_) #[true, true, true, true, true, true, true, true, true, true, true, true, true, true, true, true, true, true, false, false, false, false, false, false] rfl rfl (by kernel_rfl) (fun _ _ _ h => h) (Or.inl ⟨by rfl, ?_⟩) ?_ ?_
              rotate_left
              · intro w'
                go_simp
                with_reducible rfl
              rotate_left
              · simp only [Act.put, List.setIfInBounds_toArray, List.set_cons_zero, List.set_cons_succ, i64_w, i32_w]
                rfl
              refine pure_ (i := 18) (N := some 55) (v := ?_) (a' := ?_) #[true, true, true, true, true, true, true, true, true, true, true, true, true, true, true, true, true, true, true, false, false, false, false, false] rfl rfl (by kernel_rfl) (fun _ _ _ h => h) (Or.inl ⟨by rfl, ?_⟩) ?_ ?_
              rotate_left
              · intro w'
                go_simp
                with_reducible rfl
              rotate_left
              · simp only [Act.put, List.setIfInBounds_toArray, List.set_cons_zero, List.set_cons_succ, i64_w, i32_w]
                rfl
              refine pure_ (i := 19) (N := some 56) (v := undef) (a' := ?_) #[true, true, true, true, true, true, true, true, true, true, true, true, true, true, true, true, true, true, true, true, false, false, false, false] rfl rfl (by kernel_rfl) (fun _ _ _ h => h) (Or.inr ⟨by rfl, rfl⟩) ?_ ?_
              rotate_left
              · simp only [Act.put, List.setIfInBounds_toArray, List.set_cons_zero, List.set_cons_succ, i64_w, i32_w]
                rfl
              refine pure_ (i := 20) (N := some 57) (v := undef) (a' := ?_) #[true, true, true, true, true, true, true, true, true, true, true, true, true, true, true, true, true, true, true, true, true, false, false, false] rfl rfl (by kernel_rfl) (fun _ _ _ h => h) (Or.inr ⟨by rfl, rfl⟩) ?_ ?_
              rotate_left
              · simp only [Act.put, List.setIfInBounds_toArray, List.set_cons_zero, List.set_cons_succ, i64_w, i32_w]
                rfl
              refine pure_ (i := 21) (N := some 58) (v := ?_) (a' := ?_) #[true, true, true, true, true, true, true, true, true, true, true, true, true, true, true, true, true, true, true, true, true, true, false, false] rfl rfl (by kernel_rfl) (fun _ _ _ h => h) (Or.inl ⟨by rfl, ?_⟩) ?_ ?_
              rotate_left
              · intro w'
                go_simp
                with_reducible rfl
              rotate_left
              · simp only [Act.put, List.setIfInBounds_toArray, List.set_cons_zero, List.set_cons_succ, i64_w, i32_w]
                rfl
              refine pure_ (i := 22) (N := some 59) (v := ?_) (a' := ?_) #[true, true, true, true, true, true, true, true, true, true, true, true, true, true, true, true, true, true, true, true, true, true, true, false] rfl rfl (by kernel_rfl) (fun _ _ _ h => h) (Or.inl ⟨by rfl, ?_⟩) ?_ ?_
              rotate_left
              · intro w'
                go_simp
                with_reducible rfl
              rotate_left
              · simp only [Act.put, List.setIfInBounds_toArray, List.set_cons_zero, List.set_cons_succ, i64_w, i32_w]
                rfl
              refine pure_ (i := 23) (N := some 60) (v := ?_) (a' := ?_) #[true, true, true, true, true, true, true, true, true, true, true, true, true, true, true, true, true, true, true, true, true, true, true, true] rfl rfl (by kernel_rfl) (fun _ _ _ h => h) (Or.inl ⟨by rfl, ?_⟩) ?_ ?_
              rotate_left
              · intro w'
                go_simp
                with_reducible rfl
              rotate_left
              · simp only [Act.put, List.setIfInBounds_toArray, List.set_cons_zero, List.set_cons_succ, i64_w, i32_w]
                rfl
              refine done_ (by kernel_rfl) ?_
              simp only [Exit.then]
              clear HQd HEd HEe hHeld
              go_wp2
              go_ret
              exact ⟨by rw [HT.out (by simp [*])]; first | done | rfl | simp, below_step HB.out HQe.out⟩
            | false =>
            cases b3 with
            | true =>
              refine start_ (n := 24) (S := fun w' => w'.cell? ⟨P0, 0, none⟩ = some (.int .i64 j.w) ∧ w'.cell? ⟨P0, 1, none⟩ = some (.int .i64 j.l) ∧ w'.cell? ⟨P0, 2, none⟩ = some (.int .i64 j.wi) ∧ w'.cell? ⟨P0, 3, none⟩ = some (.int .i64 j.c) ∧ w'.cell? ⟨P0, 4, none⟩ = some (.int .i64 j.d) ∧ w'.cell? ⟨P0, 5, none⟩ = some (.int .i64 j.e) ∧ w'.cell? ⟨P0, 6, none⟩ = some (.slice A j.ts.length n) ∧ w'.cell? ⟨P1, 0, none⟩ = some (.slice (some ad) l.length d) ∧ w'.cell? ⟨P1, 1, none⟩ = some (.bool true) ∧ w'.cell? p = some (.int .i64 o.f0) ∧ w'.cell? ⟨p.block, p.off + 1, none⟩ = some (.int .i64 o.f1) ∧ w'.cell? ⟨p.block, p.off + 2, none⟩ = some (.int .i64 o.f2) ∧ w'.cell? ⟨p.block, p.off + 3, none⟩ = some (.slice A3 o.f3.length c3) ∧ w'.cell? ⟨p.block, p.off + 4, none⟩ = some (.slice A4 o.f4.length c4) ∧ w'.cell? ⟨p.block, p.off + 5, none⟩ = some (.int .i64 o.f5) ∧ w'.cell? ⟨p.block, p.off + 6, none⟩ = some (.slice A6 o.f6.length c6)) (ds := []) #[false, false, false, false, false, false, false, false, false, false, false, false, false, false, false, false, false, false, false, false, false, false, false, false] (by kernel_rfl) rfl rfl ⟨(HJ.out.below HQd.out).cells.1, (HJ.out.below HQd.out).cells.2.1, (HJ.out.below HQd.out).cells.2.2.1, (HJ.out.below HQd.out).cells.2.2.2.1, (HJ.out.below HQd.out).cells.2.2.2.2.1, (HJ.out.below HQd.out).cells.2.2.2.2.2.1, (HJ.out.below HQd.out).cells.2.2.2.2.2.2, (TC.out _ HQd.out).1, (TC.out _ HQd.out).2.1, (HEL.out.below HEd.out).x0, (HEL.out.below HEd.out).x1, (HEL.out.below HEd.out).x2, (HEL.out.below HEd.out).x3, (HEL.out.below HEd.out).x4, (HEL.out.below HEd.out).x5, (HEL.out.below HEd.out).x6⟩ (fun hHeld => ?_)
              generalize wr.drew = wd at hHeld HQd HEd ⊢
              refine take_ (i := 0) (N := some 37) (v := ?_) (a' := ?_) #[true, false, false, false, false, false, false, false, false, false, false, false, false, false, false, false, false, false, false, false, false, false, false, false] rfl rfl (by kernel_rfl) (fun _ _ _ h => h) (Or.inl ⟨by rfl, ?_⟩) hHeld ?_ ?_
              rotate_left
              · rintro w' ⟨s0, s1, s2, s3, s4, s5, s6, s7, s8, s9, s10, s11, s12, s13, s14, s15⟩
                go_simp
                with_reducible rfl
              rotate_left
              · simp only [Act.put, List.setIfInBounds_toArray, List.set_cons_zero, List.set_cons_succ, i64_w, i32_w]
                rfl
              refine pure_ (i := 1) (N := some 38) (v := ?_) (a' := ?_) #[true, true, false, false, false, false, false, false, false, false, false, false, false, false, false, false, false, false, false, false, false, false, false, false] rfl rfl (by kernel_rfl) (fun _ _ _ h => h) (Or.inl ⟨by rfl, ?_⟩) ?_ ?_
              rotate_left
              · intro w'
                go_simp
                with_reducible rfl
              rotate_left
              · simp only [Act.put, List.setIfInBounds_toArray, List.set_cons_zero, List.set_cons_succ, i64_w, i32_w]
                rfl
              refine take_ (i := 2) (N := some 39) (v := ?_) (a' := ?_) #[true, true, true, false, false, false, false, false, false, false, false, false, false, false, false, false, false, false, false, false, false, false, false, false] rfl rfl (by kernel_rfl) (fun _ _ _ h => h) (Or.inl ⟨by rfl, ?_⟩) hHeld ?_ ?_
              rotate_left
              · rintro w' ⟨s0, s1, s2, s3, s4, s5, s6, s7, s8, s9, s10, s11, s12, s13, s14, s15⟩
                go_simp
                with_reducible rfl
              rotate_left
              · simp only [Act.put, List.setIfInBounds_toArray, List.set_cons_zero, List.set_cons_succ, i64_w, i32_w]
                rfl
              refine pure_ (i := 3) (N := some 40) (v := ?_) (a' := ?_) #[true, true, true, true, false, false, false, false, false, false, false, false, false, false, false, false, false, false, false, false, false, false, false, false] rfl rfl (by kernel_rfl) (fun _ _ _ h => h) (Or.inl ⟨by rfl, ?_⟩) ?_ ?_
              rotate_left
              · intro w'
                go_simp
                with_reducible rfl
              rotate_left
              · simp only [Act.put, List.setIfInBounds_toArray, List.set_cons_zero, List.set_cons_succ, i64_w, i32_w]
                rfl
              refine pure_ (i := 4) (N := some 41) (v := ?_) (a' := ?_) #[true, true, true, true, true, false, false, false, false, false, false, false, false, false, false, false, false, false, false, false, false, false, false, false] rfl rfl (by kernel_rfl) (fun _ _ _ h => h) (Or.inl ⟨by rfl, ?_⟩) ?_ ?_
              rotate_left
              · intro w'
                go_simp
                with_reducible rfl
              rotate_left
              · simp only [Act.put, List.setIfInBounds_toArray, List.set_cons_zero, List.set_cons_succ, i64_w, i32_w]
                rfl
              refine take_ (i := 5) (N := some 42) (v := ?_) (a' := ?_) #[true, true, true, true, true, true, false, false, false, false, false, false, false, false, false, false, false, false, false, false, false, false, false, false] rfl rfl (by kernel_rfl) (fun _ _ _ h => h) (Or.inl ⟨by rfl, ?_⟩) hHeld ?_ ?_
              rotate_left
              · rintro w' ⟨s0, s1, s2, s3, s4, s5, s6, s7, s8, s9, s10, s11, s12, s13, s14, s15⟩
                go_simp
                with_reducible rfl
              rotate_left
              · simp only [Act.put, List.setIfInBounds_toArray, List.set_cons_zero, List.set_cons_succ, i64_w, i32_w]
                rfl
              refine one_ (i := 6) (N := some 43) #[true, true, true, true, true, true, true, false, false, false, false, false, false, false, false, false, false, false, false, false, false, false, false, false] rfl rfl (by kernel_rfl) (by decide) (fun K hK => ?_)
              refine goes_ Try.func59 (by kernel_rfl) rfl #[.agg #[.int .i64 j.w, .int .i64 j.l, .int .i64 j.wi, .int .i64 j.c, .int .i64 j.d, .int .i64 j.e, .slice A j.ts.length n], .agg #[.int .i64 o.f0, .int .i64 o.f1, .int .i64 o.f2, .slice A3 o.f3.length c3, .slice A4 o.f4.length c4, .int .i64 o.f5, .slice A6 o.f6.length c6]] (by rfl) rfl rfl (by (try simp only [List.map_toArray, List.map_cons, List.map_nil]); first | done | rfl) ?_
              with_reducible refine (CM.out _ (HJ.out.below HQd.out).inn (HEL.out.below HEd.out).inn).mono ?_
              rintro e we ⟨rfl, hb_⟩
              refine ⟨_, rfl, ?_⟩
              have HQe := Aside0.mk (below_step HQd.out hb_)
              have HEe := Aside0.mk (below_step HEd.out hb_)
              refine hK.out _ _ ⟨(HJ.out.below HQe.out).cells.1, (HJ.out.below HQe.out).cells.2.1, (HJ.out.below HQe.out).cells.2.2.1, (HJ.out.below HQe.out).cells.2.2.2.1, (HJ.out.below HQe.out).cells.2.2.2.2.1, (HJ.out.below HQe.out).cells.2.2.2.2.2.1, (HJ.out.below HQe.out).cells.2.2.2.2.2.2, (TC.out _ HQe.out).1, (TC.out _ HQe.out).2.1, (HEL.out.below HEe.out).x0, (HEL.out.below HEe.out).x1, (HEL.out.below HEe.out).x2, (HEL.out.below HEe.out).x3, (HEL.out.below HEe.out).x4, (HEL.out.below HEe.out).x5, (HEL.out.below HEe.out).x6⟩ (fun hHeld => ?_)
              clear hK K
              refine norm_ (a' := ?_) ?_ ?_
              rotate_left
              · show Act.put _ (some 43) _ = _
                simp only [Act.put, List.setIfInBounds_toArray, List.set_cons_zero, List.set_cons_succ, i64_w, i32_w]
                rfl
              refine pure_ (i := 7) (N := some 44) (v := ?_) (a' := ?_) #[true, true, true, true, true, true, true, true, false, false, false, false, false, false, false, false, false, false, false, false, false, false, false, false] rfl rfl (by kernel_rfl) (fun _ _ _ h => h) (Or.inl ⟨by rfl, ?_⟩) ?_ ?_
              rotate_left
              · intro w'
                go_simp
                with_reducible rfl
              rotate_left
              · simp only [Act.put, List.setIfInBounds_toArray, List.set_cons_zero, List.set_cons_succ, i64_w, i32_w]
                rfl
              refine pure_ (i := 8) (N := some 45) (v := ?_) (a' := ?_) #[true, true, true, true, true, true, true, true, true, false, false, false, false, false, false, false, false, false, false, false, false, false, false, false] rfl rfl (by kernel_rfl) (fun _ _ _ h => h) (Or.inl ⟨by rfl, ?_⟩) ?_ ?_
              rotate_left
              · intro w'
                go_simp
                with_reducible rfl
              rotate_left
              · simp only [Act.put, List.setIfInBounds_toArray, List.set_cons_zero, List.set_cons_succ, i64_w, i32_w]
                rfl
              refine pure_ (i := 9) (N := some 46) (v := ?_) (a' := ?_) #[true, true, true, true, true, true, true, true, true, true, false, false, false, false, false, false, false, false, false, false, false, false, false, false] rfl rfl (by kernel_rfl) (fun _ _ _ h => h) (Or.inl ⟨by rfl, ?_⟩) ?_ ?_
              rotate_left
              · intro w'
                go_simp
                with_reducible rfl
              rotate_left
              · simp only [Act.put, List.setIfInBounds_toArray, List.set_cons_zero, List.set_cons_succ, i64_w, i32_w]
                rfl
              refine take_ (i := 10) (N := some 47) (v := ?_) (a' := ?_) #[true, true, true, true, true, true, true, true, true, true, true, false, false, false, false, false, false, false, false, false, false, false, false, false] rfl rfl (by kernel_rfl) (fun _ _ _ h => h) (Or.inl ⟨by rfl, ?_⟩) hHeld ?_ ?_
              rotate_left
              · rintro w' ⟨s0, s1, s2, s3, s4, s5, s6, s7, s8, s9, s10, s11, s12, s13, s14, s15⟩
                go_simp
                with_reducible rfl
              rotate_left
              · simp only [Act.put, List.setIfInBounds_toArray, List.set_cons_zero, List.set_cons_succ, i64_w, i32_w]
                rfl
              refine pure_ (i := 11) (N := some 48) (v := ?_) (a' := ?_) #[true, true, true, true, true, true, true, true, true, true, true, true, false, false, false, false, false, false, false, false, false, false, false, false] rfl rfl (by kernel_rfl) (fun _ _ _ h => h) (Or.inl ⟨by rfl, ?_⟩) ?_ ?_
              rotate_left
              · intro w'
                go_simp
                with_reducible rfl
              rotate_left
              · simp only [Act.put, List.setIfInBounds_toArray, List.set_cons_zero, List.set_cons_succ, i64_w, i32_w]
                rfl
              refine pure_ (i := 12) (N := some 49) (v := ?_) (a' := ?_) #[true, true, true, true, true, true, true, true, true, true, true, true, true, false, false, false, false, false, false, false, false, false, false, false] rfl rfl (by kernel_rfl) (fun _ _ _ h => h) (Or.inl ⟨by rfl, ?_⟩) ?_ ?_
              rotate_left
              · intro w'
                go_simp
                with_reducible rfl
              rotate_left
              · simp only [Act.put, List.setIfInBounds_toArray, List.set_cons_zero, List.set_cons_succ, i64_w, i32_w]
                rfl
              refine pure_ (i := 13) (N := some 50) (v := ?_) (a' := ?_) #[true, true, true, true, true, true, true, true, true, true, true, true, true, true, false, false, false, false, false, false, false, false, false, false] rfl rfl (by kernel_rfl) (fun _ _ _ h => h) (Or.inl ⟨by rfl, ?_⟩) ?_ ?_
              rotate_left
              · intro w'
                go_simp
                with_reducible rfl
              rotate_left
              · simp only [Act.put, List.setIfInBounds_toArray, List.set_cons_zero, List.set_cons_succ, i64_w, i32_w]
                rfl
              refine pure_ (i := 14) (N := some 51) (v := ?_) (a' := ?_) #[true, true, true, true, true, true, true, true, true, true, true, true, true, true, true, false, false, false, false, false, false, false, false, false] rfl rfl (by kernel_rfl) (fun _ _ _ h => h) (Or.inl ⟨by rfl, ?_⟩) ?_ ?_
              rotate_left
              · intro w'
                go_simp
                with_reducible rfl
              rotate_left
              · simp only [Act.put, List.setIfInBounds_toArray, List.set_cons_zero, List.set_cons_succ, i64_w, i32_w]
                rfl
              refine pure_ (i := 15) (N := some 52) (v := ?_) (a' := ?_) #[true, true, true, true, true, true, true, true, true, true, true, true, true, true, true, true, false, false, false, false, false, false, false, false] rfl rfl (by kernel_rfl) (fun _ _ _ h => h) (Or.inl ⟨by rfl, ?_⟩) ?_ ?_
              rotate_left
              · intro w'
                go_simp
                with_reducible rfl
              rotate_left
              · simp only [Act.put, List.setIfInBounds_toArray, List.set_cons_zero, List.set_cons_succ, i64_w, i32_w]
                rfl
              refine pure_ (i := 16) (N := some 53) (v := ?_) (a' := ?_) #[true, true, true, true, true, true, true, true, true, true, true, true, true, true, true, true, true, false, false, false, false, false, false, false] rfl rfl (by kernel_rfl) (fun _ _ _ h => h) (Or.inl ⟨by rfl, ?_⟩) ?_ ?_
              rotate_left
              · intro w'
                go_simp
                with_reducible rfl
              rotate_left
              · simp only [Act.put, List.setIfInBounds_toArray, List.set_cons_zero, List.set_cons_succ, i64_w, i32_w]
                rfl
              refine pure_ (i := 17) (N := some 54) (v := ?_) (a' := ?_) #[true, true, true, true, true, true, true, true, true, true, true, true, true, true, true, true, true, true, false, false, false, false, false, false] rfl rfl (by kernel_rfl) (fun _ _ _ h => h) (Or.inl ⟨by rfl, ?_⟩) ?_ ?_
              rotate_left
              · intro w'
                go_simp
                with_reducible rfl
              rotate_left
              · simp only [Act.put, List.setIfInBounds_toArray, List.set_cons_zero, List.set_cons_succ, i64_w, i32_w]
                rfl
              refine pure_ (i := 18) (N := some 55) (v := ?_) (a' := ?_) #[true, true, true, true, true, true, true, true, true, true, true, true, true, true, true, true, true, true, true, false, false, false, false, false] rfl rfl (by kernel_rfl) (fun _ _ _ h => h) (Or.inl ⟨by rfl, ?_⟩) ?_ ?_
              rotate_left
              · intro w'
                go_simp
                with_reducible rfl
              rotate_left
              · simp only [Act.put, List.setIfInBounds_toArray, List.set_cons_zero, List.set_cons_succ, i64_w, i32_w]
                rfl
              refine pure_ (i := 19) (N := some 56) (v := undef) (a' := ?_) #[true, true, true, true, true, true, true, true, true, true, true, true, true, true, true, true, true, true, true, true, false, false, false, false] rfl rfl (by kernel_rfl) (fun _ _ _ h => h) (Or.inr ⟨by rfl, rfl⟩) ?_ ?_
              rotate_left
              · simp only [Act.put, List.setIfInBounds_toArray, List.set_cons_zero, List.set_cons_succ, i64_w, i32_w]
                rfl
              refine pure_ (i := 20) (N := some 57) (v := undef) (a' := ?_) #[true, true, true, true, true, true, true, true, true, true, true, true, true, true, true, true, true, true, true, true, true, false, false, false] rfl rfl (by kernel_rfl) (fun _ _ _ h => h) (Or.inr ⟨by rfl, rfl⟩) ?_ ?_
              rotate_left
              · simp only [Act.put, List.setIfInBounds_toArray, List.set_cons_zero, List.set_cons_succ, i64_w, i32_w]
                rfl
              refine pure_ (i := 21) (N := some 58) (v := ?_) (a' := ?_) #[true, true, true, true, true, true, true, true, true, true, true, true, true, true, true, true, true, true, true, true, true, true, false, false] rfl rfl (by kernel_rfl) (fun _ _ _ h => h) (Or.inl ⟨by rfl, ?_⟩) ?_ ?_
              rotate_left
              · intro w'
                go_simp
                with_reducible rfl
              rotate_left
              · simp only [Act.put, List.setIfInBounds_toArray, List.set_cons_zero, List.set_cons_succ, i64_w, i32_w]
                rfl
              refine pure_ (i := 22) (N := some 59) (v := ?_) (a' := ?_) #[true, true, true, true, true, true, true, true, true, true, true, true, true, true, true, true, true, true, true, true, true, true, true, false] rfl rfl (by kernel_rfl) (fun _ _ _ h => h) (Or.inl ⟨by rfl, ?_⟩) ?_ ?_
              rotate_left
              · intro w'
                go_simp
                with_reducible rfl
              rotate_left
              · simp only [Act.put, List.setIfInBounds_toArray, List.set_cons_zero, List.set_cons_succ, i64_w, i32_w]
                rfl
              refine pure_ (i := 23) (N := some 60) (v := ?_) (a' := ?_) #[true, true, true, true, true, true, true, true, true, true, true, true, true, true, true, true, true, true, true, true, true, true, true, true] rfl rfl (by kernel_rfl) (fun _ _ _ h => h) (Or.inl ⟨by rfl, ?_⟩) ?_ ?_
              rotate_left
              · intro w'
                go_simp
                with_reducible rfl
              rotate_left
              · simp only [Act.put, List.setIfInBounds_toArray, List.set_cons_zero, List.set_cons_succ, i64_w, i32_w]
                rfl
              refine done_ (by kernel_rfl) ?_
              simp only [Exit.then]
              clear HQd HEd HEe hHeld
              go_wp2
              go_ret
              exact ⟨by rw [HT.out (by simp [*])]; first | done | rfl | simp, below_step HB.out HQe.out⟩
            | false =>
            cases b4 with
            | true =>
              refine start_ (n := 24) (S := fun w' => w'.cell? ⟨P0, 0, none⟩ = some (.int .i64 j.w) ∧ w'.cell? ⟨P0, 1, none⟩ = some (.int .i64 j.l) ∧ w'.cell? ⟨P0, 2, none⟩ = some (.int .i64 j.wi) ∧ w'.cell? ⟨P0, 3, none⟩ = some (.int .i64 j.c) ∧ w'.cell? ⟨P0, 4, none⟩ = some (.int .i64 j.d) ∧ w'.cell? ⟨P0, 5, none⟩ = some (.int .i64 j.e) ∧ w'.cell? ⟨P0, 6, none⟩ = some (.slice A j.ts.length n) ∧ w'.cell? ⟨P1, 0, none⟩ = some (.slice (some ad) l.length d) ∧ w'.cell? ⟨P1, 1, none⟩ = some (.bool true) ∧ w'.cell? p = some (.int .i64 o.f0) ∧ w'.cell? ⟨p.block, p.off + 1, none⟩ = some (.int .i64 o.f1) ∧ w'.cell? ⟨p.block, p.off + 2, none⟩ = some (.int .i64 o.f2) ∧ w'.cell? ⟨p.block, p.off + 3, none⟩ = some (.slice A3 o.f3.length c3) ∧ w'.cell? ⟨p.block, p.off + 4, none⟩ = some (.slice A4 o.f4.length c4) ∧ w'.cell? ⟨p.block, p.off + 5, none⟩ = some (.int .i64 o.f5) ∧ w'.cell? ⟨p.block, p.off + 6, none⟩ = some (.slice A6 o.f6.length c6)) (ds := []) #[false, false, false, false, false, false, false, false, false, false, false, false, false, false, false, false, false, false, false, false, false, false, false, false] (by kernel_rfl) rfl rfl ⟨(HJ.out.below HQd.out).cells.1, (HJ.out.below HQd.out).cells.2.1, (HJ.out.below HQd.out).cells.2.2.1, (HJ.out.below HQd.out).cells.2.2.2.1, (HJ.out.below HQd.out).cells.2.2.2.2.1, (HJ.out.below HQd.out).cells.2.2.2.2.2.1, (HJ.out.below HQd.out).cells.2.2.2.2.2.2, (TC.out _ HQd.out).1, (TC.out _ HQd.out).2.1, (HEL.out.below HEd.out).x0, (HEL.out.below HEd.out).x1, (HEL.out.below HEd.out).x2, (HEL.out.below HEd.out).x3, (HEL.out.below HEd.out).x4, (HEL.out.below HEd.out).x5, (HEL.out.below HEd.out).x6⟩ (fun hHeld => ?_)
              generalize wr.drew = wd at hHeld HQd HEd ⊢
              refine take_ (i := 0) (N := some 37) (v := ?_) (a' := ?_) #[true, false, false, false, false, false, false, false, false, false, false, false, false, false, false, false, false, false, false, false, false, false, false, false] rfl rfl (by kernel_rfl) (fun _ _ _ h => h) (Or.inl ⟨by rfl, ?_⟩) hHeld ?_ ?_
              rotate_left
              · rintro w' ⟨s0, s1, s2, s3, s4, s5, s6, s7, s8, s9, s10, s11, s12, s13, s14, s15⟩
                go_simp
                with_reducible rfl
              rotate_left
              · simp only [Act.put, List.setIfInBounds_toArray, List.set_cons_zero, List.set_cons_succ, i64_w, i32_w]
                rfl
              refine pure_ (i := 1) (N := some 38) (v := ?_) (a' := ?_) #[true, true, false, false, false, false, false, false, false, false, false, false, false, false, false, false, false, false, false, false, false, false, false, false] rfl rfl (by kernel_rfl) (fun _ _ _ h => h) (Or.inl ⟨by rfl, ?_⟩) ?_ ?_
              rotate_left
              · intro w'
                go_simp
                with_reducible rfl
              rotate_left
              · simp only [Act.put, List.setIfInBounds_toArray, List.set_cons_zero, List.set_cons_succ, i64_w, i32_w]
                rfl
              refine take_ (i := 2) (N := some 39) (v := ?_) (a' := ?_) #[true, true, true, false, false, false, false, false, false, false, false, false, false, false, false, false, false, false, false, false, false, false, false, false] rfl rfl (by kernel_rfl) (fun _ _ _ h => h) (Or.inl ⟨by rfl, ?_⟩) hHeld ?_ ?_
              rotate_left
              · rintro w' ⟨s0, s1, s2, s3, s4, s5, s6, s7, s8, s9, s10, s11, s12, s13, s14, s15⟩
                go_simp
                with_reducible rfl
              rotate_left
              · simp only [Act.put, List.setIfInBounds_toArray, List.set_cons_zero, List.set_cons_succ, i64_w, i32_w]
                rfl
              refine pure_ (i := 3) (N := some 40) (v := ?_) (a' := ?_) #[true, true, true, true, false, false, false, false, false, false, false, false, false, false, false, false, false, false, false, false, false, false, false, false] rfl rfl (by kernel_rfl) (fun _ _ _ h => h) (Or.inl ⟨by rfl, ?_⟩) ?_ ?_
              rotate_left
              · intro w'
                go_simp
                with_reducible rfl
              rotate_left
              · simp only [Act.put, List.setIfInBounds_toArray, List.set_cons_zero, List.set_cons_succ, i64_w, i32_w]
                rfl
              refine pure_ (i := 4) (N := some 41) (v := ?_) (a' := ?_) #[true, true, true, true, true, false, false, false, false, false, false, false, false, false, false, false, false, false, false, false, false, false, false, false] rfl rfl (by kernel_rfl) (fun _ _ _ h => h) (Or.inl ⟨by rfl, ?_⟩) ?_ ?_
              rotate_left
              · intro w'
                go_simp
                with_reducible rfl
              rotate_left
              · simp only [Act.put, List.setIfInBounds_toArray, List.set_cons_zero, List.set_cons_succ, i64_w, i32_w]
                rfl
              refine take_ (i := 5) (N := some 42) (v := ?_) (a' := ?_) #[true, true, true, true, true, true, false, false, false, false, false, false, false, false, false, false, false, false, false, false, false, false, false, false] rfl rfl (by kernel_rfl) (fun _ _ _ h => h) (Or.inl ⟨by rfl, ?_⟩) hHeld ?_ ?_
              rotate_left
              · rintro w' ⟨s0, s1, s2, s3, s4, s5, s6, s7, s8, s9, s10, s11, s12, s13, s14, s15⟩
                go_simp
                with_reducible rfl
              rotate_left
              · simp only [Act.put, List.setIfInBounds_toArray, List.set_cons_zero, List.set_cons_succ, i64_w, i32_w]
                rfl
              refine one_ (i := 6) (N := some 43) #[true, true, true, true, true, true, true, false, false, false, false, false, false, false, false, false, false, false, false, false, false, false, false, false] rfl rfl (by kernel_rfl) (by decide) (fun K hK => ?_)
              refine goes_ Try.func59 (by kernel_rfl) rfl #[.agg #[.int .i64 j.w, .int .i64 j.l, .int .i64 j.wi, .int .i64 j.c, .int .i64 j.d, .int .i64 j.e, .slice A j.ts.length n], .agg #[.int .i64 o.f0, .int .i64 o.f1, .int .i64 o.f2, .slice A3 o.f3.length c3, .slice A4 o.f4.length c4, .int .i64 o.f5, .slice A6 o.f6.length c6]] (by rfl) rfl rfl (by (try simp only [List.map_toArray, List.map_cons, List.map_nil]); first | done | rfl) ?_
              with_reducible refine (CM.out _ (HJ.out.below HQd.out).inn (HEL.out.below HEd.out).inn).mono ?_
              rintro e we ⟨rfl, hb_⟩
              refine ⟨_, rfl, ?_⟩
              have HQe := Aside0.mk (below_step HQd.out hb_)
              have HEe := Aside0.mk (below_step HEd.out hb_)
              refine hK.out _ _ ⟨(HJ.out.below HQe.out).cells.1, (HJ.out.below HQe.out).cells.2.1, (HJ.out.below HQe.out).cells.2.2.1, (HJ.out.below HQe.out).cells.2.2.2.1, (HJ.out.below HQe.out).cells.2.2.2.2.1, (HJ.out.below HQe.out).cells.2.2.2.2.2.1, (HJ.out.below HQe.out).cells.2.2.2.2.2.2, (TC.out _ HQe.out).1, (TC.out _ HQe.out).2.1, (HEL.out.below HEe.out).x0, (HEL.out.below HEe.out).x1, (HEL.out.below HEe.out).x2, (HEL.out.below HEe.out).x3, (HEL.out.below HEe.out).x4, (HEL.out.below HEe.out).x5, (HEL.out.below HEe.out).x6⟩ (fun hHeld => ?_)
              clear hK K
              refine norm_ (a' := ?_) ?_ ?_
              rotate_left
              · show Act.put _ (some 43) _ = _
                simp only [Act.put, List.setIfInBounds_toArray, List.set_cons_zero, List.set_cons_succ, i64_w, i32_w]
                rfl
              refine pure_ (i := 7) (N := some 44) (v := ?_) (a' := ?_) #[true, true, true, true, true, true, true, true, false, false, false, false, false, false, false, false, false, false, false, false, false, false, false, false] rfl rfl (by kernel_rfl) (fun _ _ _ h => h) (Or.inl ⟨by rfl, ?_⟩) ?_ ?_
              rotate_left
              · intro w'
                go_simp
                with_reducible rfl
              rotate_left
              · simp only [Act.put, List.setIfInBounds_toArray, List.set_cons_zero, List.set_cons_succ, i64_w, i32_w]
                rfl
              refine pure_ (i := 8) (N := some 45) (v := ?_) (a' := ?_) #[true, true, true, true, true, true, true, true, true, false, false, false, false, false, false, false, false, false, false, false, false, false, false, false] rfl rfl (by kernel_rfl) (fun _ _ _ h => h) (Or.inl ⟨by rfl, ?_⟩) ?_ ?_
              rotate_left
              · intro w'
                go_simp
                with_reducible rfl
              rotate_left
              · simp only [Act.put, List.setIfInBounds_toArray, List.set_cons_zero, List.set_cons_succ, i64_w, i32_w]
                rfl
              refine pure_ (i := 9) (N := some 46) (v := ?_) (a' := ?_) #[true, true, true, true, true, true, true, true, true, true, false, false, false, false, false, false, false, false, false, false, false, false, false, false] rfl rfl (by kernel_rfl) (fun _ _ _ h => h) (Or.inl ⟨by rfl, ?_⟩) ?_ ?_
              rotate_left
              · intro w'
                go_simp
                with_reducible rfl
              rotate_left
              · simp only [Act.put, List.setIfInBounds_toArray, List.set_cons_zero, List.set_cons_succ, i64_w, i32_w]
                rfl
              refine take_ (i := 10) (N := some 47) (v := ?_) (a' := ?_) #[true, true, true, true, true, true, true, true, true, true, true, false, false, false, false, false, false, false, false, false, false, false, false, false] rfl rfl (by kernel_rfl) (fun _ _ _ h => h) (Or.inl ⟨by rfl, ?_⟩) hHeld ?_ ?_
              rotate_left
              · rintro w' ⟨s0, s1, s2, s3, s4, s5, s6, s7, s8, s9, s10, s11, s12, s13, s14, s15⟩
                go_simp
                with_reducible rfl
              rotate_left
              · simp only [Act.put, List.setIfInBounds_toArray, List.set_cons_zero, List.set_cons_succ, i64_w, i32_w]
                rfl
              refine pure_ (i := 11) (N := some 48) (v := ?_) (a' := ?_) #[true, true, true, true, true, true, true, true, true, true, true, true, false, false, false, false, false, false, false, false, false, false, false, false] rfl rfl (by kernel_rfl) (fun _ _ _ h => h) (Or.inl ⟨by rfl, ?_⟩) ?_ ?_
              rotate_left
              · intro w'
                go_simp
                with_reducible rfl
              rotate_left
              · simp only [Act.put, List.setIfInBounds_toArray, List.set_cons_zero, List.set_cons_succ, i64_w, i32_w]
                rfl
              refine pure_ (i := 12) (N := some 49) (v := ?_) (a' := ?_) #[true, true, true, true, true, true, true, true, true, true, true, true, true, false, false, false, false, false, false, false, false, false, false, false] rfl rfl (by kernel_rfl) (fun _ _ _ h => h) (Or.inl ⟨by rfl, ?_⟩) ?_ ?_
              rotate_left
              · intro w'
                go_simp
                with_reducible rfl
              rotate_left
              · simp only [Act.put, List.setIfInBounds_toArray, List.set_cons_zero, List.set_cons_succ, i64_w, i32_w]
                rfl
              refine pure_ (i := 13) (N := some 50) (v := ?_) (a' := ?_) #[true, true, true, true, true, true, true, true, true, true, true, true, true, true, false, false, false, false, false, false, false, false, false, false] rfl rfl (by kernel_rfl) (fun _ _ _ h => h) (Or.inl ⟨by rfl, ?_⟩) ?_ ?_
              rotate_left
              · intro w'
                go_simp
                with_reducible rfl
              rotate_left
              · simp only [Act.put, List.setIfInBounds_toArray, List.set_cons_zero, List.set_cons_succ, i64_w, i32_w]
                rfl
              refine pure_ (i := 14) (N := some 51) (v := ?_) (a' := ?_) #[true, true, true, true, true, true, true, true, true, true, true, true, true, true, true, false, false, false, false, false, false, false, false, false] rfl rfl (by kernel_rfl) (fun _ _ _ h => h) (Or.inl ⟨by rfl, ?_⟩) ?_ ?_
              rotate_left
              · intro w'
                go_simp
                with_reducible rfl
              rotate_left
              · simp only [Act.put, List.setIfInBounds_toArray, List.set_cons_zero, List.set_cons_succ, i64_w, i32_w]
                rfl
              refine pure_ (i := 15) (N := some 52) (v := ?_) (a' := ?_) #[true, true, true, true, true, true, true, true, true, true, true, true, true, true, true, true, false, false, false, false, false, false, false, false] rfl rfl (by kernel_rfl) (fun _ _ _ h => h) (Or.inl ⟨by rfl, ?_⟩) ?_ ?_
              rotate_left
              · intro w'
                go_simp
                with_reducible rfl
              rotate_left
              · simp only [Act.put, List.setIfInBounds_toArray, List.set_cons_zero, List.set_cons_succ, i64_w, i32_w]
                rfl
              refine pure_ (i := 16) (N := some 53) (v := ?_) (a' := ?_) #[true, true, true, true, true, true, true, true, true, true, true, true, true, true, true, true, true, false, false, false, false, false, false, false] rfl rfl (by kernel_rfl) (fun _ _ _ h => h) (Or.inl ⟨by rfl, ?_⟩) ?_ ?_
              rotate_left
              · intro w'
                go_simp
                with_reducible rfl
              rotate_left
              · simp only [Act.put, List.setIfInBounds_toArray, List.set_cons_zero, List.set_cons_succ, i64_w, i32_w]
                rfl
              refine pure_ (i := 17) (N := some 54) (v := ?_) (a' := ?_) #[true, true, true, true, true, true, true, true, true, true, true, true, true, true, true, true, true, true, false, false, false, false, false, false] rfl rfl (by kernel_rfl) (fun _ _ _ h => h) (Or.inl ⟨by rfl, ?_⟩) ?_ ?_
              rotate_left
              · intro w'
                go_simp
                with_reducible rfl
              rotate_left
              · simp only [Act.put, List.setIfInBounds_toArray, List.set_cons_zero, List.set_cons_succ, i64_w, i32_w]
                rfl
              refine pure_ (i := 18) (N := some 55) (v := ?_) (a' := ?_) #[true, true, true, true, true, true, true, true, true, true, true, true, true, true, true, true, true, true, true, false, false, false, false, false] rfl rfl (by kernel_rfl) (fun _ _ _ h => h) (Or.inl ⟨by rfl, ?_⟩) ?_ ?_
              rotate_left
              · intro w'
                go_simp
                with_reducible rfl
              rotate_left
              · simp only [Act.put, List.setIfInBounds_toArray, List.set_cons_zero, List.set_cons_succ, i64_w, i32_w]
                rfl
              refine pure_ (i := 19) (N := some 56) (v := ?_) (a' := ?_) #[true, true, true, true, true, true, true, true, true, true, true, true, true, true, true, true, true, true, true, true, false, false, false, false] rfl rfl (by kernel_rfl) (fun _ _ _ h => h) (Or.inl ⟨by rfl, ?_⟩) ?_ ?_
              rotate_left
              · intro w'
                go_simp
                with_reducible rfl
              rotate_left
              · simp only [Act.put, List.setIfInBounds_toArray, List.set_cons_zero, List.set_cons_succ, i64_w, i32_w]
                rfl
              refine pure_ (i := 20) (N := some 57) (v := ?_) (a' := ?_) #[true, true, true, true, true, true, true, true, true, true, true, true, true, true, true, true, true, true, true, true, true, false, false, false] rfl rfl (by kernel_rfl) (fun _ _ _ h => h) (Or.inl ⟨by rfl, ?_⟩) ?_ ?_
              rotate_left
              · intro w'
                go_simp
                with_reducible rfl
              rotate_left
              · simp only [Act.put, List.setIfInBounds_toArray, List.set_cons_zero, List.set_cons_succ, i64_w, i32_w]
                rfl
              refine pure_ (i := 21) (N := some 58) (v := ?_) (a' := ?_) #[true, true, true, true, true, true, true, true, true, true, true, true, true, true, true, true, true, true, true, true, true, true, false, false] rfl rfl (by kernel_rfl) (fun _ _ _ h => h) (Or.inl ⟨by rfl, ?_⟩) ?_ ?_
              rotate_left
              · intro w'
                go_simp
                with_reducible rfl
              rotate_left
              · simp only [Act.put, List.setIfInBounds_toArray, List.set_cons_zero, List.set_cons_succ, i64_w, i32_w]
                rfl
              refine pure_ (i := 22) (N := some 59) (v := ?_) (a' := ?_) #[true, true, true, true, true, true, true, true, true, true, true, true, true, true, true, true, true, true, true, true, true, true, true, false] rfl rfl (by kernel_rfl) (fun _ _ _ h => h) (Or.inl ⟨by rfl, ?_⟩) ?_ ?_
              rotate_left
              · intro w'
                go_simp
                with_reducible rfl
              rotate_left
              · simp only [Act.put, List.setIfInBounds_toArray, List.set_cons_zero, List.set_cons_succ, i64_w, i32_w]
                rfl
              refine pure_ (i := 23) (N := some 60) (v := ?_) (a' := ?_) #[true, true, true, true, true, true, true, true, true, true, true, true, true, true, true, true, true, true, true, true, true, true, true, true] rfl rfl (by kernel_rfl) (fun _ _ _ h => h) (Or.inl ⟨by rfl, ?_⟩) ?_ ?_
              rotate_left
              · intro w'
                go_simp
                with_reducible rfl
              rotate_left
              · simp only [Act.put, List.setIfInBounds_toArray, List.set_cons_zero, List.set_cons_succ, i64_w, i32_w]
                rfl
              refine done_ (by kernel_rfl) ?_
              simp only [Exit.then]
              clear HQd HEd HEe hHeld
              go_wp2
              go_ret
              exact ⟨by rw [HT.out (by simp [*])]; first | done | rfl | simp, below_step HB.out HQe.out⟩
            | false =>
              refine start_ (n := 24) (S := fun w' => w'.cell? ⟨P0, 0, none⟩ = some (.int .i64 j.w) ∧ w'.cell? ⟨P0, 1, none⟩ = some (.int .i64 j.l) ∧ w'.cell? ⟨P0, 2, none⟩ = some (.int .i64 j.wi) ∧ w'.cell? ⟨P0, 3, none⟩ = some (.int .i64 j.c) ∧ w'.cell? ⟨P0, 4, none⟩ = some (.int .i64 j.d) ∧ w'.cell? ⟨P0, 5, none⟩ = some (.int .i64 j.e) ∧ w'.cell? ⟨P0, 6, none⟩ = some (.slice A j.ts.length n) ∧ w'.cell? ⟨P1, 0, none⟩ = some (.slice (some ad) l.length d) ∧ w'.cell? ⟨P1, 1, none⟩ = some (.bool true) ∧ w'.cell? p = some (.int .i64 o.f0) ∧ w'.cell? ⟨p.block, p.off + 1, none⟩ = some (.int .i64 o.f1) ∧ w'.cell? ⟨p.block, p.off + 2, none⟩ = some (.int .i64 o.f2) ∧ w'.cell? ⟨p.block, p.off + 3, none⟩ = some (.slice A3 o.f3.length c3) ∧ w'.cell? ⟨p.block, p.off + 4, none⟩ = some (.slice A4 o.f4.length c4) ∧ w'.cell? ⟨p.block, p.off + 5, none⟩ = some (.int .i64 o.f5) ∧ w'.cell? ⟨p.block, p.off + 6, none⟩ = some (.slice A6 o.f6.length c6)) (ds := []) #[false, false, false, false, false, false, false, false, false, false, false, false, false, false, false, false, false, false, false, false, false, false, false, false] (by kernel_rfl) rfl rfl ⟨(HJ.out.below HQd.out).cells.1, (HJ.out.below HQd.out).cells.2.1, (HJ.out.below HQd.out).cells.2.2.1, (HJ.out.below HQd.out).cells.2.2.2.1, (HJ.out.below HQd.out).cells.2.2.2.2.1, (HJ.out.below HQd.out).cells.2.2.2.2.2.1, (HJ.out.below HQd.out).cells.2.2.2.2.2.2, (TC.out _ HQd.out).1, (TC.out _ HQd.out).2.1, (HEL.out.below HEd.out).x0, (HEL.out.below HEd.out).x1, (HEL.out.below HEd.out).x2, (HEL.out.below HEd.out).x3, (HEL.out.below HEd.out).x4, (HEL.out.below HEd.out).x5, (HEL.out.below HEd.out).x6⟩ (fun hHeld => ?_)
              generalize wr.drew = wd at hHeld HQd HEd ⊢
              refine take_ (i := 0) (N := some 37) (v := ?_) (a' := ?_) #[true, false, false, false, false, false, false, false, false, false, false, false, false, false, false, false, false, false, false, false, false, false, false, false] rfl rfl (by kernel_rfl) (fun _ _ _ h => h) (Or.inl ⟨by rfl, ?_⟩) hHeld ?_ ?_
              rotate_left
              · rintro w' ⟨s0, s1, s2, s3, s4, s5, s6, s7, s8, s9, s10, s11, s12, s13, s14, s15⟩
                go_simp
                with_reducible rfl
              rotate_left
              · simp only [Act.put, List.setIfInBounds_toArray, List.set_cons_zero, List.set_cons_succ, i64_w, i32_w]
                rfl
              refine pure_ (i := 1) (N := some 38) (v := ?_) (a' := ?_) #[true, true, false, false, false, false, false, false, false, false, false, false, false, false, false, false, false, false, false, false, false, false, false, false] rfl rfl (by kernel_rfl) (fun _ _ _ h => h) (Or.inl ⟨by rfl, ?_⟩) ?_ ?_
              rotate_left
              · intro w'
                go_simp
                with_reducible rfl
              rotate_left
              · simp only [Act.put, List.setIfInBounds_toArray, List.set_cons_zero, List.set_cons_succ, i64_w, i32_w]
                rfl
              refine take_ (i := 2) (N := some 39) (v := ?_) (a' := ?_) #[true, true, true, false, false, false, false, false, false, false, false, false, false, false, false, false, false, false, false, false, false, false, false, false] rfl rfl (by kernel_rfl) (fun _ _ _ h => h) (Or.inl ⟨by rfl, ?_⟩) hHeld ?_ ?_
              rotate_left
              · rintro w' ⟨s0, s1, s2, s3, s4, s5, s6, s7, s8, s9, s10, s11, s12, s13, s14, s15⟩
                go_simp
                with_reducible rfl
              rotate_left
              · simp only [Act.put, List.setIfInBounds_toArray, List.set_cons_zero, List.set_cons_succ, i64_w, i32_w]
                rfl
              refine pure_ (i := 3) (N := some 40) (v := ?_) (a' := ?_) #[true, true, true, true, false, false, false, false, false, false, false, false, false, false, false, false, false, false, false, false, false, false, false, false] rfl rfl (by kernel_rfl) (fun _ _ _ h => h) (Or.inl ⟨by rfl, ?_⟩) ?_ ?_
              rotate_left
              · intro w'
                go_simp
                with_reducible rfl
              rotate_left
              · simp only [Act.put, List.setIfInBounds_toArray, List.set_cons_zero, List.set_cons_succ, i64_w, i32_w]
                rfl
              refine pure_ (i := 4) (N := some 41) (v := ?_) (a' := ?_) #[true, true, true, true, true, false, false, false, false, false, false, false, false, false, false, false, false, false, false, false, false, false, false, false] rfl rfl (by kernel_rfl) (fun _ _ _ h => h) (Or.inl ⟨by rfl, ?_⟩) ?_ ?_
              rotate_left
              · intro w'
                go_simp
                with_reducible rfl
              rotate_left
              · simp only [Act.put, List.setIfInBounds_toArray, List.set_cons_zero, List.set_cons_succ, i64_w, i32_w]
                rfl
              refine take_ (i := 5) (N := some 42) (v := ?_) (a' := ?_) #[true, true, true, true, true, true, false, false, false, false, false, false, false, false, false, false, false, false, false, false, false, false, false, false] rfl rfl (by kernel_rfl) (fun _ _ _ h => h) (Or.inl ⟨by rfl, ?_⟩) hHeld ?_ ?_
              rotate_left
              · rintro w' ⟨s0, s1, s2, s3, s4, s5, s6, s7, s8, s9, s10, s11, s12, s13, s14, s15⟩
                go_simp
                with_reducible rfl
              rotate_left
              · simp only [Act.put, List.setIfInBounds_toArray, List.set_cons_zero, List.set_cons_succ, i64_w, i32_w]
                rfl
              refine one_ (i := 6) (N := some 43) #[true, true, true, true, true, true, true, false, false, false, false, false, false, false, false, false, false, false, false, false, false, false, false, false] rfl rfl (by kernel_rfl) (by decide) (fun K hK => ?_)
              refine goes_ Try.func59 (by kernel_rfl) rfl #[.agg #[.int .i64 j.w, .int .i64 j.l, .int .i64 j.wi, .int .i64 j.c, .int .i64 j.d, .int .i64 j.e, .slice A j.ts.length n], .agg #[.int .i64 o.f0, .int .i64 o.f1, .int .i64 o.f2, .slice A3 o.f3.length c3, .slice A4 o.f4.length c4, .int .i64 o.f5, .slice A6 o.f6.length c6]] (by rfl) rfl rfl (by (try simp only [List.map_toArray, List.map_cons, List.map_nil]); first | done | rfl) ?_
              with_reducible refine (CM.out _ (HJ.out.below HQd.out).inn (HEL.out.below HEd.out).inn).mono ?_
              rintro e we ⟨rfl, hb_⟩
              refine ⟨_, rfl, ?_⟩
              have HQe := Aside0.mk (below_step HQd.out hb_)
              have HEe := Aside0.mk (below_step HEd.out hb_)
              refine hK.out _ _ ⟨(HJ.out.below HQe.out).cells.1, (HJ.out.below HQe.out).cells.2.1, (HJ.out.below HQe.out).cells.2.2.1, (HJ.out.below HQe.out).cells.2.2.2.1, (HJ.out.below HQe.out).cells.2.2.2.2.1, (HJ.out.below HQe.out).cells.2.2.2.2.2.1, (HJ.out.below HQe.out).cells.2.2.2.2.2.2, (TC.out _ HQe.out).1, (TC.out _ HQe.out).2.1, (HEL.out.below HEe.out).x0, (HEL.out.below HEe.out).x1, (HEL.out.below HEe.out).x2, (HEL.out.below HEe.out).x3, (HEL.out.below HEe.out).x4, (HEL.out.below HEe.out).x5, (HEL.out.below HEe.out).x6⟩ (fun hHeld => ?_)
              clear hK K
              refine norm_ (a' := ?_) ?_ ?_
              rotate_left
              · show Act.put _ (some 43) _ = _
                simp only [Act.put, List.setIfInBounds_toArray, List.set_cons_zero, List.set_cons_succ, i64_w, i32_w]
                rfl
              refine pure_ (i := 7) (N := some 44) (v := ?_) (a' := ?_) #[true, true, true, true, true, true, true, true, false, false, false, false, false, false, false, false, false, false, false, false, false, false, false, false] rfl rfl (by kernel_rfl) (fun _ _ _ h => h) (Or.inl ⟨by rfl, ?_⟩) ?_ ?_
              rotate_left
              · intro w'
                go_simp
                with_reducible rfl
              rotate_left
              · simp only [Act.put, List.setIfInBounds_toArray, List.set_cons_zero, List.set_cons_succ, i64_w, i32_w]
                rfl
              refine pure_ (i := 8) (N := some 45) (v := ?_) (a' := ?_) #[true, true, true, true, true, true, true, true, true, false, false, false, false, false, false, false, false, false, false, false, false, false, false, false] rfl rfl (by kernel_rfl) (fun _ _ _ h => h) (Or.inl ⟨by rfl, ?_⟩) ?_ ?_
              rotate_left
              · intro w'
                go_simp
                with_reducible rfl
              rotate_left
              · simp only [Act.put, List.setIfInBounds_toArray, List.set_cons_zero, List.set_cons_succ, i64_w, i32_w]
                rfl
              refine pure_ (i := 9) (N := some 46) (v := ?_) (a' := ?_) #[true, true, true, true, true, true, true, true, true, true, false, false, false, false, false, false, false, false, false, false, false, false, false, false] rfl rfl (by kernel_rfl) (fun _ _ _ h => h) (Or.inl ⟨by rfl, ?_⟩) ?_ ?_
              rotate_left
              · intro w'
                go_simp
                with_reducible rfl
              rotate_left
              · simp only [Act.put, List.setIfInBounds_toArray, List.set_cons_zero, List.set_cons_succ, i64_w, i32_w]
                rfl
              refine take_ (i := 10) (N := some 47) (v := ?_) (a' := ?_) #[true, true, true, true, true, true, true, true, true, true, true, false, false, false, false, false, false, false, false, false, false, false, false, false] rfl rfl (by kernel_rfl) (fun _ _ _ h => h) (Or.inl ⟨by rfl, ?_⟩) hHeld ?_ ?_
              rotate_left
              · rintro w' ⟨s0, s1, s2, s3, s4, s5, s6, s7, s8, s9, s10, s11, s12, s13, s14, s15⟩
                go_simp
                with_reducible rfl
              rotate_left
              · simp only [Act.put, List.setIfInBounds_toArray, List.set_cons_zero, List.set_cons_succ, i64_w, i32_w]
                rfl
              refine pure_ (i := 11) (N := some 48) (v := ?_) (a' := ?_) #[true, true, true, true, true, true, true, true, true, true, true, true, false, false, false, false, false, false, false, false, false, false, false, false] rfl rfl (by kernel_rfl) (fun _ _ _ h => h) (Or.inl ⟨by rfl, ?_⟩) ?_ ?_
              rotate_left
              · intro w'
                go_simp
                with_reducible rfl
              rotate_left
              · simp only [Act.put, List.setIfInBounds_toArray, List.set_cons_zero, List.set_cons_succ, i64_w, i32_w]
                rfl
              refine pure_ (i := 12) (N := some 49) (v := ?_) (a' := ?_) #[true, true, true, true, true, true, true, true, true, true, true, true, true, false, false, false, false, false, false, false, false, false, false, false] rfl rfl (by kernel_rfl) (fun _ _ _ h => h) (Or.inl ⟨by rfl, ?_⟩) ?_ ?_
              rotate_left
              · intro w'
                go_simp
                with_reducible rfl
              rotate_left
              · simp only [Act.put, List.setIfInBounds_toArray, List.set_cons_zero, List.set_cons_succ, i64_w, i32_w]
                rfl
              refine pure_ (i := 13) (N := some 50) (v := ?_) (a' := ?_) #[true, true, true, true, true, true, true, true, true, true, true, true, true, true, false, false, false, false, false, false, false, false, false, false] rfl rfl (by kernel_rfl) (fun _ _ _ h => h) (Or.inl ⟨by rfl, ?_⟩) ?_ ?_
              rotate_left
              · intro w'
                go_simp
                with_reducible rfl
              rotate_left
              · simp only [Act.put, List.setIfInBounds_toArray, List.set_cons_zero, List.set_cons_succ, i64_w, i32_w]
                rfl
              refine pure_ (i := 14) (N := some 51) (v := ?_) (a' := ?_) #[true, true, true, true, true, true, true, true, true, true, true, true, true, true, true, false, false, false, false, false, false, false, false, false] rfl rfl (by kernel_rfl) (fun _ _ _ h => h) (Or.inl ⟨by rfl, ?_⟩) ?_ ?_
              rotate_left
              · intro w'
                go_simp
                with_reducible rfl
              rotate_left
              · simp only [Act.put, List.setIfInBounds_toArray, List.set_cons_zero, List.set_cons_succ, i64_w, i32_w]
                rfl
              refine pure_ (i := 15) (N := some 52) (v := ?_) (a' := ?_) #[true, true, true, true, true, true, true, true, true, true, true, true, true, true, true, true, false, false, false, false, false, false, false, false] rfl rfl (by kernel_rfl) (fun _ _ _ h => h) (Or.inl ⟨by rfl, ?_⟩) ?_ ?_
              rotate_left
              · intro w'
                go_simp
                with_reducible rfl
              rotate_left
              · simp only [Act.put, List.setIfInBounds_toArray, List.set_cons_zero, List.set_cons_succ, i64_w, i32_w]
                rfl
              refine pure_ (i := 16) (N := some 53) (v := ?_) (a' := ?_) #[true, true, true, true, true, true, true, true, true, true, true, true, true, true, true, true, true, false, false, false, false, false, false, false] rfl rfl (by kernel_rfl) (fun _ _ _ h => h) (Or.inl ⟨by rfl, ?_⟩) ?_ ?_
              rotate_left
              · intro w'
                go_simp
                with_reducible rfl
              rotate_left
              · simp only [Act.put, List.setIfInBounds_toArray, List.set_cons_zero, List.set_cons_succ, i64_w, i32_w]
                rfl
              refine pure_ (i := 17) (N := some 54) (v := ?_) (a' := ?_) #[true, true, true, true, true, true, true, true, true, true, true, true, true, true, true, true, true, true, false, false, false, false, false, false] rfl rfl (by kernel_rfl) (fun _ _ _ h => h) (Or.inl ⟨by rfl, ?_⟩) ?_ ?_
              rotate_left
              · intro w'
                go_simp
                with_reducible rfl
              rotate_left
              · simp only [Act.put, List.setIfInBounds_toArray, List.set_cons_zero, List.set_cons_succ, i64_w, i32_w]
                rfl
              refine pure_ (i := 18) (N := some 55) (v := ?_) (a' := ?_) #[true, true, true, true, true, true, true, true, true, true, true, true, true, true, true, true, true, true, true, false, false, false, false, false] rfl rfl (by kernel_rfl) (fun _ _ _ h => h) (Or.inl ⟨by rfl, ?_⟩) ?_ ?_
              rotate_left
              · intro w'
                go_simp
                with_reducible rfl
              rotate_left
              · simp only [Act.put, List.setIfInBounds_toArray, List.set_cons_zero, List.set_cons_succ, i64_w, i32_w]
                rfl
              refine pure_ (i := 19) (N := some 56) (v := ?_) (a' := ?_) #[true, true, true, true, true, true, true, true, true, true, true, true, true, true, true, true, true, true, true, true, false, false, false, false] rfl rfl (by kernel_rfl) (fun _ _ _ h => h) (Or.inl ⟨by rfl, ?_⟩) ?_ ?_
              rotate_left
              · intro w'
                go_simp
                with_reducible rfl
              rotate_left
              · simp only [Act.put, List.setIfInBounds_toArray, List.set_cons_zero, List.set_cons_succ, i64_w, i32_w]
                rfl
              refine pure_ (i := 20) (N := some 57) (v := ?_) (a' := ?_) #[true, true, true, true, true, true, true, true, true, true, true, true, true, true, true, true, true, true, true, true, true, false, false, false] rfl rfl (by kernel_rfl) (fun _ _ _ h => h) (Or.inl ⟨by rfl, ?_⟩) ?_ ?_
              rotate_left
              · intro w'
                go_simp
                with_reducible rfl
              rotate_left
              · simp only [Act.put, List.setIfInBounds_toArray, List.set_cons_zero, List.set_cons_succ, i64_w, i32_w]
                rfl
              refine pure_ (i := 21) (N := some 58) (v := ?_) (a' := ?_) #[true, true, true, true, true, true, true, true, true, true, true, true, true, true, true, true, true, true, true, true, true, true, false, false] rfl rfl (by kernel_rfl) (fun _ _ _ h => h) (Or.inl ⟨by rfl, ?_⟩) ?_ ?_
              rotate_left
              · intro w'
                go_simp
                with_reducible rfl
              rotate_left
              · simp only [Act.put, List.setIfInBounds_toArray, List.set_cons_zero, List.set_cons_succ, i64_w, i32_w]
                rfl
              refine pure_ (i := 22) (N := some 59) (v := ?_) (a' := ?_) #[true, true, true, true, true, true, true, true, true, true, true, true, true, true, true, true, true, true, true, true, true, true, true, false] rfl rfl (by kernel_rfl) (fun _ _ _ h => h) (Or.inl ⟨by rfl, ?_⟩) ?_ ?_
              rotate_left
              · intro w'
                go_simp
                with_reducible rfl
              rotate_left
              · simp only [Act.put, List.setIfInBounds_toArray, List.set_cons_zero, List.set_cons_succ, i64_w, i32_w]
                rfl
              refine pure_ (i := 23) (N := some 60) (v := ?_) (a' := ?_) #[true, true, true, true, true, true, true, true, true, true, true, true, true, true, true, true, true, true, true, true, true, true, true, true] rfl rfl (by kernel_rfl) (fun _ _ _ h => h) (Or.inl ⟨by rfl, ?_⟩) ?_ ?_
              rotate_left
              · intro w'
                go_simp
                with_reducible rfl
              rotate_left
              · simp only [Act.put, List.setIfInBounds_toArray, List.set_cons_zero, List.set_cons_succ, i64_w, i32_w]
                rfl
              refine done_ (by kernel_rfl) ?_
              simp only [Exit.then]
              clear HQd HEd HEe hHeld
              go_wp2
              go_roundw
              case rel => exact ⟨k + 1, by go_num, by omega, ⟨HBD.out (by simp [*])⟩, HQe⟩
              case measure => simp [intOf]; omega
        · obtain rfl : k = l.length := by omega
          have HRT := Aside0.mk (show R = true by
            rw [HR3.out]
            have : l.any (badOp j true) = false := List.any_eq_false.2 (fun z hz => by
              obtain ⟨q, hq, rfl⟩ := List.mem_iff_getElem.1 hz
              have := hbad.out q hq
              rw [show rd_T80 l (q : Int) = l[q] by simp [rd_T80, List.getD, hq]] at this
              rw [this]; decide)
            rw [this]; rfl)
          go_wp2
          go_ret
          exact ⟨by rw [HRT.out]; first | done | rfl | simp, below_step HB.out hb.out⟩
end Go.Proofs.Ytecdnhmdodedmaa.Ch

