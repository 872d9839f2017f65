/- garnerref16.Range: what it answers. -/
import Derived.Test.YtecdnhmdodedmaaCt
namespace Go.Proofs.Ytecdnhmdodedmaa.Ch
open Go.RowKit Go.Proofs.YtecdnhmdodedmaaW.PrintWords Go.Proofs.YtecdnhmdodedmaaW.PrintLast Go.Proofs.YtecdnhmdodedmaaW.PrintMore Go.Proofs.Ytecdnhmdodedmaa.HS Go.Proofs.Ytecdnhmdodedmaa.Ca Go.Proofs.Ytecdnhmdodedmaa.It
set_option linter.unusedVariables false
set_option linter.unusedSimpArgs false
theorem refTree_call2 (j : Job) (A : Option Addr) (n : Nat) (a b : Int) (w : World) (hj : j.In w A n) (hts : j.ts.length ≤ 1048576) : Calls Try.prog 16 #[.agg (j.v A n), .int .i64 a, .int .i64 b] w fun e w' => e = .returned (.tuple #[.int .i64 (treeL j a b).1, .int .i64 (treeL j a b).2]) ∧ Below w.heap.size w w' :=
  garnerref16_Tree.calls _ j.w j.l j.wi j.c j.d j.e A n j.ts a b (treeL j a b).1 (treeL j a b).2 w hj.C hj.h (refTree_is j hts a b _ (Nat.le_refl _))
set_option maxHeartbeats 16000000 in
set_option maxRecDepth 100000 in
theorem refRange_call (j : Job) (o : S80) (A : Option Addr) (n : Nat) (A3 : Option Addr) (c3 : Nat) (A4 : Option Addr) (c4 : Nat) (A6 : Option Addr) (c6 : Nat) (w : World) (h : j.In w A n) (ho : OpIn o w A3 c3 A4 c4 A6 c6) (hts : j.ts.length ≤ 1048576) (hrow : o.f6.length ≤ 1048576) (h3 : o.f3.length ≤ 1048576) (h4 : o.f4.length ≤ 1048576) :
    Calls Try.prog 60 #[.agg (j.v A n), .agg (opV o A3 c3 A4 c4 A6 c6)] w (RangeP (rangeL j o) w) := by
  obtain ⟨R, hR⟩ : ∃ R, R = rangeL j o := ⟨_, rfl⟩
  rw [← hR]
  obtain ⟨mb, hmb⟩ : ∃ b, b = mayOp j o := ⟨_, rfl⟩
  have CM := Aside0.mk (fun (W : World) (h1 : j.In W A n) (h2 : OpIn o W A3 c3 A4 c4 A6 c6) => refMayOp_call j A n o A3 c3 A4 c4 A6 c6 W h1 h2 hts hrow)
  rw [← hmb] at CM
  have LOOK := Aside0.mk (fun (h : mb = true) (h6 : o.f0 = 6) => mayOp_look (j := j) (o := o) (by rw [← hmb]; exact h) h6)
  unfold rangeL at hR
  rw [← hmb] at hR
  have HR5 := Aside0.mk (fun (h : mb = true) (h5 : o.f0 = 5) => (show R = ((treeL j o.f1 (-1)).1, o.f3, o.f4, decide (0 < o.f4.length), 0) from by rw [hR, if_pos h, if_pos h5]))
  have HR6 := Aside0.mk (fun (h : mb = true) (h6 : o.f0 = 6) => (show R = ((treeL j o.f1 o.f2).1, frontB o.f3, frontB o.f4, decide (0 < o.f4.length), 0) from by rw [hR, if_pos h, if_neg (by omega), if_pos h6]))
  have HRN := Aside0.mk (fun (h : mb = false ∨ (o.f0 ≠ 5 ∧ o.f0 ≠ 6)) => (show R = (0, [], [], false, 2) from by
    rw [hR]
    rcases h with h | ⟨h5, h6⟩
    · rw [h]; rfl
    · rw [if_neg h5, if_neg h6]; split <;> rfl))
  have RNG := Aside0.mk (fun (h : mb = true) => (show 1 ≤ o.f0 ∧ o.f0 ≤ 6 from by
    rw [hmb] at h
    unfold mayOp at h
    simp only [Bool.and_eq_true] at h
    exact (wi_iff _ _ _).1 h.2.1))
  have hb0 := allocs_below [.cells (j.v A n) 24, .cells (opV o A3 c3 A4 c4 A6 c6) 80, .cells #[.int .i64 0, .slice none 0 0, .slice none 0 0, .bool false] 83] w w.heap.size (Nat.le_refl _)
  have hat := allocs_at [.cells (j.v A n) 24, .cells (opV o A3 c3 A4 c4 A6 c6) 80, .cells #[.int .i64 0, .slice none 0 0, .slice none 0 0, .bool false] 83] w
  have e0 := hat 0 _ rfl
  have e1 := hat 1 _ rfl
  have e2 := hat 2 _ rfl
  simp only [List.foldl_cons, List.foldl_nil, List.length_cons, List.length_nil] at hb0 e0 e1 e2
  rw [Nat.add_zero] at e0
  have HJ := Aside0.mk (JobAt.mk e0 (h.below hb0))
  have HO := Aside0.mk (OpAt.mk e1 (ho.below hb0))
  have HB := Aside0.mk hb0
  have L3 := Aside0.mk h3
  have L4 := Aside0.mk h4
  have OI0 := Aside0.mk (fun (W : World) (hW : Below w.heap.size w W) => ho.below hW)
  clear hat h ho hb0 e0 e1 hR hmb h3 h4
  unfold Job.v opV at *
  go_enter Try.func60, Try.ntmps60
  go_upto_region 1 with fail
  obtain ⟨P0, q0⟩ : ∃ B, w.heap.size = B := ⟨_, rfl⟩
  obtain ⟨P1, q1⟩ : ∃ B, P0 + 1 = B := ⟨_, rfl⟩
  obtain ⟨P2, q2⟩ : ∃ B, P0 + 1 + 1 = B := ⟨_, rfl⟩
  rw [show w.heap.size + 2 = w.heap.size + 1 + 1 from rfl, q0, q2] at e2
  rw [q0] at HJ HO ⊢
  rw [q2]
  rw [q1] at HO ⊢
  have HP := Aside0.mk (show w.heap.size ≤ P2 by omega)
  have NP := Aside0.mk (show P1 ≠ P2 by omega)
  clear q0 q1 q2
  generalize World.alloc _ _ = w2 at HJ HO e2 HB ⊢
  have E2 := Aside0.mk e2
  clear e2
  obtain ⟨c0, c1, c2, c3', c4', c5, c6'⟩ := HJ.out.cells
  obtain ⟨o0, o1, o2, o3, o4, o5, o6⟩ := HO.out.cells
  have NO := Aside0.mk (fun (W : World) (hW : Below w2.heap.size w2 W) (h : R = (0, [], [], false, 2)) => (show RangeP R w (.returned (.tuple #[.agg #[.int .i64 0, .slice none 0 0, .slice none 0 0, .bool false], .int .i64 2])) (put4 W P2 (.int .i64 0) (.slice none 0 0) (.slice none 0 0) (.bool false)) from by
    rw [h]
    exact ⟨none, 0, none, 0, rfl, Nat.le_refl _, Kd.C_nil _ _, Nat.le_refl _, Kd.C_nil _ _, (below_step HB.out hW).trans (put4_below HP.out _ _ _ _)⟩))
  have EQ := Aside0.mk (fun (W : World) (hW : Below w2.heap.size w2 W) => (hW.block P2 (blk_lt E2.out)).trans E2.out)

  have CT := Aside0.mk (fun (b : Int) (W : World) (hi : j.In W A n) => refTree_call2 j A n o.f1 b W hi hts)
  unfold Job.v at CT
  clear hts hrow
  cases mb with
  | false =>
    go_wp2_with (first | (go_at_call 59; (with_reducible refine (CM.out _ HJ.out.inn HO.out.inn).mono ?_); rintro e w3 ⟨rfl, hb⟩; have HQ := Aside0.mk hb; obtain ⟨d0, d1, d2, d3', d4', d5, d6'⟩ := (HJ.out.below hb).cells; obtain ⟨u0, u1, u2, u3, u4, u5, u6⟩ := (HO.out.below hb).cells; obtain r0 := (blk_cell (EQ.out _ hb) 0).trans rfl; obtain r1 := (blk_cell (EQ.out _ hb) 1).trans rfl; obtain r2 := (blk_cell (EQ.out _ hb) 2).trans rfl; obtain r3 := (blk_cell (EQ.out _ hb) 3).trans rfl; have z0 := blk_frozen (EQ.out _ hb) 0; have z1 := blk_frozen (EQ.out _ hb) 1; have z2 := blk_frozen (EQ.out _ hb) 2; have z3 := blk_frozen (EQ.out _ hb) 3; clear hb))
    refine bodyPost_ret (range_end _ P2 rfl _ _ (.int .i64 0) (.slice none 0 0) (.slice none 0 0) (.bool false) 2 rfl rfl (put4_blk (EQ.out _ HQ.out) _ _ _ _)) rfl ?_
    exact NO.out _ HQ.out (by exact HRN.out (by simp))
  | true =>
  obtain ⟨r1_, r2_⟩ := RNG.out (by first | trivial | rfl)
  by_cases k5 : o.f0 = 5
  · have HRR := Aside0.mk (HR5.out (by first | trivial | rfl) k5)
    have eq5 : (o.f0 == 5) = true := beq_iff_eq.2 k5
    have ne5 : (o.f0 != 5) = false := bne_eq_false_iff_eq.2 k5
    clear k5
    go_upto_region 4 with (first | (go_at_call 59; (with_reducible refine (CM.out _ HJ.out.inn HO.out.inn).mono ?_); rintro e w3 ⟨rfl, hb⟩; have HQ := Aside0.mk hb; obtain ⟨d0, d1, d2, d3', d4', d5, d6'⟩ := (HJ.out.below hb).cells; obtain ⟨u0, u1, u2, u3, u4, u5, u6⟩ := (HO.out.below hb).cells; obtain r0 := (blk_cell (EQ.out _ hb) 0).trans rfl; obtain r1 := (blk_cell (EQ.out _ hb) 1).trans rfl; obtain r2 := (blk_cell (EQ.out _ hb) 2).trans rfl; obtain r3 := (blk_cell (EQ.out _ hb) 3).trans rfl; have z0 := blk_frozen (EQ.out _ hb) 0; have z1 := blk_frozen (EQ.out _ hb) 1; have z2 := blk_frozen (EQ.out _ hb) 2; have z3 := blk_frozen (EQ.out _ hb) 3; clear hb))
    go_upto_region 5 with (first | (go_at_call 16; (with_reducible refine (CT.out (-1) _ (HJ.out.below HQ.out).inn).mono ?_); rintro e w4 ⟨rfl, hb_⟩; have HQ4 := Aside0.mk (below_step HQ.out hb_); clear hb_ d0 d1 d2 d3' d4' d5 d6' u0 u1 u2 u3 u4 u5 u6 r0 r1 r2 r3 z0 z1 z2 z3; obtain ⟨u0, u1, u2, u3, u4, u5, u6⟩ := (HO.out.below HQ4.out).cells; obtain r0 := (blk_cell (EQ.out _ HQ4.out) 0).trans rfl; obtain r1 := (blk_cell (EQ.out _ HQ4.out) 1).trans rfl; obtain r2 := (blk_cell (EQ.out _ HQ4.out) 2).trans rfl; obtain r3 := (blk_cell (EQ.out _ HQ4.out) 3).trans rfl; have z0 := blk_frozen (EQ.out _ HQ4.out) 0; have z1 := blk_frozen (EQ.out _ HQ4.out) 1; have z2 := blk_frozen (EQ.out _ HQ4.out) 2; have z3 := blk_frozen (EQ.out _ HQ4.out) 3))
    obtain ⟨eb, heb⟩ : ∃ b, b = decide (0 < o.f4.length) := ⟨_, rfl⟩
    rw [← heb] at HRR
    go_wp2
    have HBK := Aside0.mk (put4_blk (EQ.out _ HQ4.out) (.int .i64 (treeL j o.f1 (-1)).1) (.slice A3 o.f3.length c3) (.slice A4 o.f4.length c4) (.bool (decide (0 < o.f4.length))))
    have hbf := (below_step HB.out HQ4.out).trans (put4_below (W := w4) HP.out (.int .i64 (treeL j o.f1 (-1)).1) (.slice A3 o.f3.length c3) (.slice A4 o.f4.length c4) (.bool (decide (0 < o.f4.length))))
    refine bodyPost_ret (range_end _ P2 rfl _ _ (.int .i64 (treeL j o.f1 (-1)).1) (.slice A3 o.f3.length c3) (.slice A4 o.f4.length c4) (.bool (decide (0 < o.f4.length))) 0 rfl rfl HBK.out) rfl ?_
    rw [HRR.out, heb]
    exact ⟨A3, c3, A4, c4, rfl, (OI0.out _ hbf).1, (OI0.out _ hbf).2.1, (OI0.out _ hbf).2.2.1, (OI0.out _ hbf).2.2.2.1, hbf⟩
  · have ne5 : (o.f0 != 5) = true := bne_iff_ne.2 k5
    have eq5 : (o.f0 == 5) = false := beq_eq_false_iff_ne.2 k5
    by_cases k6 : o.f0 = 6
    · have HRR := Aside0.mk (HR6.out (by first | trivial | rfl) k6)
      have ne6 : (o.f0 != 6) = false := bne_eq_false_iff_eq.2 k6
      clear k6 k5
      have FR3 := Aside0.mk (fun (W : World) (hW : Below w2.heap.size w2 W) => refFront_call A3 c3 o.f3 W (HO.out.below hW).inn.2.1 (HO.out.below hW).inn.1 L3.out)
      have FR4 := Aside0.mk (fun (W : World) (hW : Below w2.heap.size w2 W) => refFront_call A4 c4 o.f4 W (HO.out.below hW).inn.2.2.2.1 (HO.out.below hW).inn.2.2.1 L4.out)
      go_upto_region 6 with (first | (go_at_call 59; (with_reducible refine (CM.out _ HJ.out.inn HO.out.inn).mono ?_); rintro e w3 ⟨rfl, hb⟩; have HQ := Aside0.mk hb; obtain ⟨d0, d1, d2, d3', d4', d5, d6'⟩ := (HJ.out.below hb).cells; obtain ⟨u0, u1, u2, u3, u4, u5, u6⟩ := (HO.out.below hb).cells; obtain r0 := (blk_cell (EQ.out _ hb) 0).trans rfl; obtain r1 := (blk_cell (EQ.out _ hb) 1).trans rfl; obtain r2 := (blk_cell (EQ.out _ hb) 2).trans rfl; obtain r3 := (blk_cell (EQ.out _ hb) 3).trans rfl; have z0 := blk_frozen (EQ.out _ hb) 0; have z1 := blk_frozen (EQ.out _ hb) 1; have z2 := blk_frozen (EQ.out _ hb) 2; have z3 := blk_frozen (EQ.out _ hb) 3; clear hb))
      go_upto_region 7 with (first | (go_at_call 16; (with_reducible refine (CT.out o.f2 _ (HJ.out.below HQ.out).inn).mono ?_); rintro e w4 ⟨rfl, hb_⟩; have HQ4 := Aside0.mk (below_step HQ.out hb_); clear hb_ d0 d1 d2 d3' d4' d5 d6' u0 u1 u2 u3 u4 u5 u6 r0 r1 r2 r3 z0 z1 z2 z3; obtain ⟨u0, u1, u2, u3, u4, u5, u6⟩ := (HO.out.below HQ4.out).cells; obtain r0 := (blk_cell (EQ.out _ HQ4.out) 0).trans rfl; obtain r1 := (blk_cell (EQ.out _ HQ4.out) 1).trans rfl; obtain r2 := (blk_cell (EQ.out _ HQ4.out) 2).trans rfl; obtain r3 := (blk_cell (EQ.out _ HQ4.out) 3).trans rfl; have z0 := blk_frozen (EQ.out _ HQ4.out) 0; have z1 := blk_frozen (EQ.out _ HQ4.out) 1; have z2 := blk_frozen (EQ.out _ HQ4.out) 2; have z3 := blk_frozen (EQ.out _ HQ4.out) 3))
      have HQd := Aside0.mk (below_drew1 HQ4.out)
      have hs3 : w4.drew.cell? ⟨P1, 3, none⟩ = some (.slice A3 o.f3.length c3) := u3
      have hs4 : w4.drew.cell? ⟨P1, 4, none⟩ = some (.slice A4 o.f4.length c4) := u4
      clear u0 u1 u2 u3 u4 u5 u6 r0 r1 r2 r3 z0 z1 z2 z3 c0 c1 c2 c3' c4' c5 c6' o0 o1 o2 o3 o4 o5 o6
      refine start_ (n := 14) (S := fun w' => w'.cell? ⟨P1, 3, none⟩ = some (.slice A3 o.f3.length c3) ∧ w'.cell? ⟨P1, 4, none⟩ = some (.slice A4 o.f4.length c4)) (ds := []) #[false, false, false, false, false, false, false, false, false, false, false, false, false, false] (by kernel_rfl) rfl rfl ⟨hs3, hs4⟩ (fun hHeld => ?_)
      generalize w4.drew = wd at hHeld HQd hs3 hs4 ⊢
      refine pure_ (i := 0) (N := some 54) (v := ?_) (a' := ?_) #[true, false, false, false, false, false, false, false, false, false, false, false, false, false] rfl rfl (by kernel_rfl) (fun _ _ _ h => h) (Or.inl ⟨by rfl, ?_⟩) ?_ ?_
      rotate_left
      · intro w'
        go_simp
        with_reducible rfl
      rotate_left
      · simp only [Act.put, List.setIfInBounds_toArray, List.set_cons_zero, List.set_cons_succ, i64_w, i32_w]
        rfl
      refine pure_ (i := 1) (N := some 55) (v := ?_) (a' := ?_) #[true, true, false, false, false, false, false, false, false, false, false, false, false, false] rfl rfl (by kernel_rfl) (fun _ _ _ h => h) (Or.inl ⟨by rfl, ?_⟩) ?_ ?_
      rotate_left
      · intro w'
        go_simp
        with_reducible rfl
      rotate_left
      · simp only [Act.put, List.setIfInBounds_toArray, List.set_cons_zero, List.set_cons_succ, i64_w, i32_w]
        rfl
      refine take_ (i := 2) (N := some 56) (v := ?_) (a' := ?_) #[true, true, true, false, false, false, false, false, false, false, false, false, false, false] rfl rfl (by kernel_rfl) (fun _ _ _ h => h) (Or.inl ⟨by rfl, ?_⟩) hHeld ?_ ?_
      rotate_left
      · rintro w' ⟨s0, s1⟩
        go_simp
        with_reducible rfl
      rotate_left
      · simp only [Act.put, List.setIfInBounds_toArray, List.set_cons_zero, List.set_cons_succ, i64_w, i32_w]
        rfl
      refine pure_ (i := 4) (N := some 58) (v := ?_) (a' := ?_) #[true, true, true, false, true, false, false, false, false, false, false, false, false, false] rfl rfl (by kernel_rfl) (fun _ _ _ h => h) (Or.inl ⟨by rfl, ?_⟩) ?_ ?_
      rotate_left
      · intro w'
        go_simp
        with_reducible rfl
      rotate_left
      · simp only [Act.put, List.setIfInBounds_toArray, List.set_cons_zero, List.set_cons_succ, i64_w, i32_w]
        rfl
      refine take_ (i := 5) (N := some 59) (v := ?_) (a' := ?_) #[true, true, true, false, true, true, false, false, false, false, false, false, false, false] rfl rfl (by kernel_rfl) (fun _ _ _ h => h) (Or.inl ⟨by rfl, ?_⟩) hHeld ?_ ?_
      rotate_left
      · rintro w' ⟨s0, s1⟩
        go_simp
        with_reducible rfl
      rotate_left
      · simp only [Act.put, List.setIfInBounds_toArray, List.set_cons_zero, List.set_cons_succ, i64_w, i32_w]
        rfl
      refine pure_ (i := 7) (N := some 61) (v := ?_) (a' := ?_) #[true, true, true, false, true, true, false, true, false, false, false, false, false, false] rfl rfl (by kernel_rfl) (fun _ _ _ h => h) (Or.inl ⟨by rfl, ?_⟩) ?_ ?_
      rotate_left
      · intro w'
        go_simp
        with_reducible rfl
      rotate_left
      · simp only [Act.put, List.setIfInBounds_toArray, List.set_cons_zero, List.set_cons_succ, i64_w, i32_w]
        rfl
      refine take_ (i := 8) (N := some 62) (v := ?_) (a' := ?_) #[true, true, true, false, true, true, false, true, true, false, false, false, false, false] rfl rfl (by kernel_rfl) (fun _ _ _ h => h) (Or.inl ⟨by rfl, ?_⟩) hHeld ?_ ?_
      rotate_left
      · rintro w' ⟨s0, s1⟩
        go_simp
        with_reducible rfl
      rotate_left
      · simp only [Act.put, List.setIfInBounds_toArray, List.set_cons_zero, List.set_cons_succ, i64_w, i32_w]
        rfl
      refine pure_ (i := 9) (N := some 63) (v := ?_) (a' := ?_) #[true, true, true, false, true, true, false, true, true, true, false, false, false, false] rfl rfl (by kernel_rfl) (fun _ _ _ h => h) (Or.inl ⟨by rfl, ?_⟩) ?_ ?_
      rotate_left
      · intro w'
        go_simp
        with_reducible rfl
      rotate_left
      · simp only [Act.put, List.setIfInBounds_toArray, List.set_cons_zero, List.set_cons_succ, i64_w, i32_w]
        rfl
      refine pure_ (i := 10) (N := some 64) (v := ?_) (a' := ?_) #[true, true, true, false, true, true, false, true, true, true, true, false, false, false] rfl rfl (by kernel_rfl) (fun _ _ _ h => h) (Or.inl ⟨by rfl, ?_⟩) ?_ ?_
      rotate_left
      · intro w'
        go_simp
        with_reducible rfl
      rotate_left
      · simp only [Act.put, List.setIfInBounds_toArray, List.set_cons_zero, List.set_cons_succ, i64_w, i32_w]
        rfl
      refine one_ (i := 3) (N := some 57) #[true, true, true, true, true, true, false, true, true, true, true, false, false, false] rfl rfl (by kernel_rfl) (by decide) (fun K hK => ?_)
      refine goes_ Try.func68 (by kernel_rfl) rfl #[.slice A3 o.f3.length c3] (by rfl) rfl rfl (by (try simp only [List.map_toArray, List.map_cons, List.map_nil]); first | done | rfl) ?_
      with_reducible refine (FR3.out _ HQd.out).mono ?_
      rintro e w7 ⟨v_, rfl, ho7, hb7⟩
      obtain ⟨A7, c7, rfl⟩ := Kd.R_slice ho7
      refine ⟨_, rfl, ?_⟩
      refine hK.out _ _ ⟨pw_cell_below hb7 hs3, pw_cell_below hb7 hs4⟩ (fun hHeld => ?_)
      clear hK K
      refine norm_ (a' := ?_) ?_ ?_
      rotate_left
      · show Act.put _ (some 57) _ = _
        simp only [Act.put, List.setIfInBounds_toArray, List.set_cons_zero, List.set_cons_succ, i64_w, i32_w]
        rfl
      refine one_ (i := 6) (N := some 60) #[true, true, true, true, true, true, true, true, true, true, true, false, false, false] rfl rfl (by kernel_rfl) (by decide) (fun K hK => ?_)
      refine goes_ Try.func68 (by kernel_rfl) rfl #[.slice A4 o.f4.length c4] (by rfl) rfl rfl (by (try simp only [List.map_toArray, List.map_cons, List.map_nil]); first | done | rfl) ?_
      with_reducible refine (FR4.out _ (below_step HQd.out hb7)).mono ?_
      rintro e w8 ⟨v_, rfl, ho8, hb8⟩
      obtain ⟨A8, c8, rfl⟩ := Kd.R_slice ho8
      refine ⟨_, rfl, ?_⟩
      have HQ8 := Aside0.mk (below_step (below_step HQd.out hb7) hb8)
      refine hK.out _ _ ⟨pw_cell_below (below_step hb7 hb8) hs3, pw_cell_below (below_step hb7 hb8) hs4⟩ (fun hHeld => ?_)
      clear hK K
      refine norm_ (a' := ?_) ?_ ?_
      rotate_left
      · show Act.put _ (some 60) _ = _
        simp only [Act.put, List.setIfInBounds_toArray, List.set_cons_zero, List.set_cons_succ, i64_w, i32_w]
        rfl
      refine pure_ (i := 11) (N := some 65) (v := ?_) (a' := ?_) #[true, true, true, true, true, true, true, true, true, true, true, true, false, false] rfl rfl (by kernel_rfl) (fun _ _ _ h => h) (Or.inl ⟨by rfl, ?_⟩) ?_ ?_
      rotate_left
      · intro w'
        go_simp
        with_reducible rfl
      rotate_left
      · simp only [Act.put, List.setIfInBounds_toArray, List.set_cons_zero, List.set_cons_succ, i64_w, i32_w]
        rfl
      refine one_ (i := 12) (N := none) #[true, true, true, true, true, true, true, true, true, true, true, true, true, false] rfl rfl (by kernel_rfl) (by decide) (fun K hK => ?_)
      refine skip_ (w1 := w8.setRow P2 #[.int .i64 (treeL j o.f1 o.f2).1, .slice A7 (frontB o.f3).length c7, .slice A8 (frontB o.f4).length c8, .bool (decide (0 < o.f4.length))]) (by rfl) rfl (store_run 83 (.tmp 4) (.tmp 65) rfl P2 _ rfl rfl 83 _ (EQ.out _ HQ8.out) (by kernel_rfl) rfl (by simp [Value.oneCell'])) ?_
      have hne : P1 ≠ P2 := fun h_ => NP.out h_
      refine hK.out _ _ ⟨(cell_setRow_other w8 P2 _ _ (show P1 ≠ P2 from hne)).trans hHeld.1, (cell_setRow_other w8 P2 _ _ (show P1 ≠ P2 from hne)).trans hHeld.2⟩ (fun hHeld6 => ?_)
      clear hK K
      refine pure_ (i := 13) (N := some 5) (v := ?_) (a' := ?_) #[true, true, true, true, true, true, true, true, true, true, true, true, true, true] rfl rfl (by kernel_rfl) (fun _ _ _ h => h) (Or.inl ⟨by rfl, ?_⟩) ?_ ?_
      rotate_left
      · intro w'
        go_simp
        with_reducible rfl
      rotate_left
      · simp only [Act.put, List.setIfInBounds_toArray, List.set_cons_zero, List.set_cons_succ, i64_w, i32_w]
        rfl
      refine done_ (by kernel_rfl) ?_
      simp only [Exit.then]
      have HBK := Aside0.mk (setRow_heap w8 P2 _ #[.int .i64 (treeL j o.f1 o.f2).1, .slice A7 (frontB o.f3).length c7, .slice A8 (frontB o.f4).length c8, .bool (decide (0 < o.f4.length))] 83 (0, 0) (EQ.out _ HQ8.out))
      have TY : ∀ q, q ∈ 5 :: (Kd.int .u8).E → q ≠ 83 := by intro q_ hq_; rcases List.mem_cons.1 hq_ with rfl | hq_; (· decide); cases hq_
      have hRF := Kd.R_step (Kd.R_types (Kd.R_below ho7 hb8) (EQ.out _ HQ8.out) TY) (fun k_ hk_ _ => setRow_other w8 P2 k_ #[.int .i64 (treeL j o.f1 o.f2).1, .slice A7 (frontB o.f3).length c7, .slice A8 (frontB o.f4).length c8, .bool (decide (0 < o.f4.length))] hk_.2)
      have hRT := Kd.R_step (Kd.R_types ho8 (EQ.out _ HQ8.out) TY) (fun k_ hk_ _ => setRow_other w8 P2 k_ #[.int .i64 (treeL j o.f1 o.f2).1, .slice A7 (frontB o.f3).length c7, .slice A8 (frontB o.f4).length c8, .bool (decide (0 < o.f4.length))] hk_.2)
      have hbf := below_setRow (below_step HB.out HQ8.out) HP.out #[.int .i64 (treeL j o.f1 o.f2).1, .slice A7 (frontB o.f3).length c7, .slice A8 (frontB o.f4).length c8, .bool (decide (0 < o.f4.length))]
      have RF := Aside0.mk hRF
      have RT := Aside0.mk hRT
      have BF := Aside0.mk hbf
      clear hRF hRT hbf ho7 ho8 hb7 hb8 hHeld hHeld6 hs3 hs4
      generalize w8.setRow P2 _ = w9 at HBK RF RT BF ⊢
      go_wp2
      refine bodyPost_ret (range_end _ P2 rfl _ _ (.int .i64 (treeL j o.f1 o.f2).1) (.slice A7 (frontB o.f3).length c7) (.slice A8 (frontB o.f4).length c8) (.bool (decide (0 < o.f4.length))) 0 rfl rfl HBK.out) rfl ?_
      rw [HRR.out]
      obtain ⟨_, _, e1_, k1_, hC1⟩ := Kd.R_reads RF.out
      obtain ⟨_, _, e2_, k2_, hC2⟩ := Kd.R_reads RT.out
      cases e1_
      cases e2_
      exact ⟨_, _, _, _, rfl, k1_, hC1, k2_, hC2, BF.out⟩
    · have ne6 : (o.f0 != 6) = true := bne_iff_ne.2 k6
      go_wp2_with (first | (go_at_call 59; (with_reducible refine (CM.out _ HJ.out.inn HO.out.inn).mono ?_); rintro e w3 ⟨rfl, hb⟩; have HQ := Aside0.mk hb; obtain ⟨d0, d1, d2, d3', d4', d5, d6'⟩ := (HJ.out.below hb).cells; obtain ⟨u0, u1, u2, u3, u4, u5, u6⟩ := (HO.out.below hb).cells; obtain r0 := (blk_cell (EQ.out _ hb) 0).trans rfl; obtain r1 := (blk_cell (EQ.out _ hb) 1).trans rfl; obtain r2 := (blk_cell (EQ.out _ hb) 2).trans rfl; obtain r3 := (blk_cell (EQ.out _ hb) 3).trans rfl; have z0 := blk_frozen (EQ.out _ hb) 0; have z1 := blk_frozen (EQ.out _ hb) 1; have z2 := blk_frozen (EQ.out _ hb) 2; have z3 := blk_frozen (EQ.out _ hb) 3; clear hb))
      refine bodyPost_ret (range_end _ P2 rfl _ _ (.int .i64 0) (.slice none 0 0) (.slice none 0 0) (.bool false) 2 rfl rfl (put4_blk (EQ.out _ HQ.out) _ _ _ _)) rfl ?_
      exact NO.out _ HQ.out (by exact HRN.out (Or.inr ⟨k5, k6⟩))
end Go.Proofs.Ytecdnhmdodedmaa.Ch
