/- Range, of the program and of the reference: from where to where a scan or a look goes. -/
import Derived.Test.YtecdnhmdodedmaaCua
import Derived.Laws.ResultCell
namespace Go.Proofs.Ytecdnhmdodedmaa.Ch
open Go.RowKit Go.Proofs.YtecdnhmdodedmaaW.PrintWords Go.Proofs.YtecdnhmdodedmaaW.PrintLast Go.Proofs.YtecdnhmdodedmaaW.PrintMore Go.Proofs.Ytecdnhmdodedmaa.HS Go.Proofs.Ytecdnhmdodedmaa.Ca Go.Proofs.Ytecdnhmdodedmaa.It
set_option linter.unusedVariables false
set_option linter.unusedSimpArgs false
/-- Tree, from, to, whether it ends, error. -/
def rangeL (j : Job) (o : S80) : Int × List Int × List Int × Bool × Int :=
  if mayOp j o = true then
    if o.f0 = 5 then ((treeL j o.f1 (-1)).1, o.f3, o.f4, decide (0 < o.f4.length), 0)
    else if o.f0 = 6 then ((treeL j o.f1 o.f2).1, frontB o.f3, frontB o.f4, decide (0 < o.f4.length), 0)
    else (0, [], [], false, 2)
  else (0, [], [], false, 2)
def RangeP (R : Int × List Int × List Int × Bool × Int) (w : World) (e : Ending) (w' : World) : Prop :=
  ∃ A c B d, e = .returned (.tuple #[.agg #[.int .i64 R.1, .slice A R.2.1.length c, .slice B R.2.2.1.length d, .bool R.2.2.2.1], .int .i64 R.2.2.2.2]) ∧ R.2.1.length ≤ c ∧ Kd.C (Kd.int .u8) w' A R.2.1.length R.2.1 ∧ R.2.2.1.length ≤ d ∧ Kd.C (Kd.int .u8) w' B R.2.2.1.length R.2.2.1 ∧ Below w.heap.size w w'
theorem mayOp_look {j : Job} {o : S80} (h : mayOp j o = true) (h6 : o.f0 = 6) : o.f3.length ≤ 24 ∧ o.f4.length ≤ 24 := by
  unfold mayOp restOk at h
  rw [h6] at h
  simp at h
  omega
theorem clone_call (A : Option Addr) (c : Nat) (l : List Int) (w : World) (h : Kd.C (Kd.int .u8) w A l.length l) (hc : l.length ≤ c) (hl : l.length ≤ 1048576) : Calls Try.prog 62 #[.slice A l.length c] w fun e w' => ∃ v, e = .returned v ∧ Kd.R (Kd.int .u8) 5 w' w.heap.size (fun _ => True) v l ∧ Below w.heap.size w w' :=
  bytes_Clone.calls A c l l w h hc (by unfold bytes_Clone.f; rw [if_pos (by omega)])
theorem front_call (A : Option Addr) (c : Nat) (l : List Int) (w : World) (h : Kd.C (Kd.int .u8) w A l.length l) (hc : l.length ≤ c) (hl : l.length ≤ 24) : Calls Try.prog 63 #[.slice A l.length c] w fun e w' => ∃ v, e = .returned (.tuple #[v, .int .i64 0]) ∧ Kd.R (Kd.int .u8) 5 w' w.heap.size (fun _ => True) v (frontB l) ∧ Below w.heap.size w w' :=
  row_Front.calls A c l (frontB l) 0 w h hc (by unfold row_Front.f; rw [if_pos hl])
theorem refFront_call (A : Option Addr) (c : Nat) (l : List Int) (w : World) (h : Kd.C (Kd.int .u8) w A l.length l) (hc : l.length ≤ c) (hl : l.length ≤ 1048576) : Calls Try.prog 68 #[.slice A l.length c] w fun e w' => ∃ v, e = .returned v ∧ Kd.R (Kd.int .u8) 5 w' w.heap.size (fun _ => True) v (frontB l) ∧ Below w.heap.size w w' :=
  garnerref13_Front.calls _ A c l (frontB l) w h hc (refFront_is l hl _ (Nat.le_refl _))
theorem blk_is {W : World} {g t : Nat} {cs : Array Value} (h : W.heap[g]? = some (.cells cs t (0, 0))) (j : Nat) (u : Value) (cs' : Array Value) (e : cs.setIfInBounds j u = cs') : (W.setCell ⟨g, j, none⟩ u).heap[g]? = some (.cells cs' t (0, 0)) := by rw [← e]; exact blk_set h j u
theorem rset {W : World} {base g t : Nat} {ok : Nat → Prop} {v : Value} {xs : List Int} {cs : Array Value} (h : Kd.R (Kd.int .u8) 5 W base ok v xs) (hb : W.heap[g]? = some (.cells cs t (0, 0))) (ht : 5 ≠ t) (j : Nat) (u : Value) : Kd.R (Kd.int .u8) 5 (W.setCell ⟨g, j, none⟩ u) base ok v xs :=
  Kd.R_set h hb (by intro q hq; rcases List.mem_cons.1 hq with rfl | hq; (· exact ht); cases hq) j u
/-- Four cells stored, one behind the other. -/
def put4 (W : World) (g : Nat) (x y z u : Value) : World := (((W.setCell ⟨g, 0, none⟩ x).setCell ⟨g, 1, none⟩ y).setCell ⟨g, 2, none⟩ z).setCell ⟨g, 3, none⟩ u
theorem put4_blk {W : World} {g t : Nat} {a b c d : Value} (h : W.heap[g]? = some (.cells #[a, b, c, d] t (0, 0))) (x y z u : Value) : (put4 W g x y z u).heap[g]? = some (.cells #[x, y, z, u] t (0, 0)) :=
  blk_is (blk_is (blk_is (blk_is h 0 x #[x, b, c, d] rfl) 1 y #[x, y, c, d] rfl) 2 z #[x, y, z, d] rfl) 3 u _ rfl
theorem put4_below {W : World} {g base : Nat} (hb : base ≤ g) (x y z u : Value) : Below base W (put4 W g x y z u) :=
  ((((Below.refl base W).setCell (p := ⟨g, 0, none⟩) hb x).setCell (p := ⟨g, 1, none⟩) hb y).setCell (p := ⟨g, 2, none⟩) hb z).setCell (p := ⟨g, 3, none⟩) hb u
theorem put4_R {W : World} {base g t : Nat} {ok : Nat → Prop} {v : Value} {xs : List Int} {a b c d : Value} (h : Kd.R (Kd.int .u8) 5 W base ok v xs) (hb : W.heap[g]? = some (.cells #[a, b, c, d] t (0, 0))) (ht : 5 ≠ t) (x y z u : Value) : Kd.R (Kd.int .u8) 5 (put4 W g x y z u) base ok v xs :=
  have h1 := blk_is hb 0 x #[x, b, c, d] rfl
  have h2 := blk_is h1 1 y #[x, y, c, d] rfl
  have h3 := blk_is h2 2 z #[x, y, z, d] rfl
  rset (rset (rset (rset h hb ht 0 x) h1 ht 1 y) h2 ht 2 z) h3 ht 3 u
theorem info83 : (Try.prog.info? 83).map (·.size) = some 4 := by kernel_rfl
def jv (j : Job) (A : Option Addr) (n : Nat) : Array Value := #[.int .i64 j.w, .int .i64 j.l, .int .i64 j.wi, .int .i64 j.c, .int .i64 j.d, .int .i64 j.e, .slice A j.ts.length n]
structure OpAt (o : S80) (A3 : Option Addr) (c3 : Nat) (A4 : Option Addr) (c4 : Nat) (A6 : Option Addr) (c6 : Nat) (P : Nat) (W : World) : Prop where
  blk : W.heap[P]? = some (.cells (opV o A3 c3 A4 c4 A6 c6) 80 (0, 0))
  inn : OpIn o W A3 c3 A4 c4 A6 c6
theorem OpAt.below {o : S80} {A3 : Option Addr} {c3 : Nat} {A4 : Option Addr} {c4 : Nat} {A6 : Option Addr} {c6 P : Nat} {W V : World} (h : OpAt o A3 c3 A4 c4 A6 c6 P W) (hb : Below W.heap.size W V) : OpAt o A3 c3 A4 c4 A6 c6 P V := ⟨(hb.block P (blk_lt h.blk)).trans h.blk, h.inn.below hb⟩
theorem OpAt.cells {o : S80} {A3 : Option Addr} {c3 : Nat} {A4 : Option Addr} {c4 : Nat} {A6 : Option Addr} {c6 P : Nat} {W : World} (h : OpAt o A3 c3 A4 c4 A6 c6 P W) : W.cell? ⟨P, 0, none⟩ = some (.int .i64 o.f0) ∧ W.cell? ⟨P, 1, none⟩ = some (.int .i64 o.f1) ∧ W.cell? ⟨P, 2, none⟩ = some (.int .i64 o.f2) ∧ W.cell? ⟨P, 3, none⟩ = some (.slice A3 o.f3.length c3) ∧ W.cell? ⟨P, 4, none⟩ = some (.slice A4 o.f4.length c4) ∧ W.cell? ⟨P, 5, none⟩ = some (.int .i64 o.f5) ∧ W.cell? ⟨P, 6, none⟩ = some (.slice A6 o.f6.length c6) :=
  ⟨(blk_cell h.blk 0).trans rfl, (blk_cell h.blk 1).trans rfl, (blk_cell h.blk 2).trans rfl, (blk_cell h.blk 3).trans rfl, (blk_cell h.blk 4).trans rfl, (blk_cell h.blk 5).trans rfl, (blk_cell h.blk 6).trans rfl⟩
theorem range_end (fn : Func) (g : Nat) (hr : fn.results = #[.cell 4 83, .tmp 5]) (tmps : Array Value) (W : World) (x y z u : Value) (er : Int) (h4 : tmps.getD 4 undef = .pointer (some ⟨g, 0, none⟩)) (h5 : tmps.getD 5 undef = .int .i64 er) (hb : W.heap[g]? = some (.cells #[x, y, z, u] 83 (0, 0))) :
    (results fn tmps).run Try.prog W = .ok (.tuple #[.agg #[x, y, z, u], .int .i64 er]) W := by
  rw [results_cell_tmp hr, h4, h5]
  simp only [asAddr, Sem.run_pure, Result.andThen_ok]
  rw [run_loadVar_row W g 83 83 _ _ _ hb (by first | exact Try.underlying83 | kernel_rfl) rfl (by kernel_rfl)]
  rfl
set_option maxHeartbeats 16000000 in
set_option maxRecDepth 100000 in
theorem range_call (j : Job) (o : S80) (A : Option Addr) (n : Nat) (A3 : Option Addr) (c3 : Nat) (A4 : Option Addr) (c4 : Nat) (A6 : Option Addr) (c6 : Nat) (w : World) (h : j.In w A n) (ho : OpIn o w A3 c3 A4 c4 A6 c6)  (h3 : o.f3.length ≤ 1048576) (h4 : o.f4.length ≤ 1048576) :
    Calls Try.prog 36 #[.agg (j.v A n), .agg (opV o A3 c3 A4 c4 A6 c6)] w (RangeP (rangeL j o) w) := by
  obtain ⟨R, hR⟩ : ∃ R, R = rangeL j o := ⟨_, rfl⟩
  rw [← hR]
  obtain ⟨mb, hmb⟩ : ∃ b, b = mayOp j o := ⟨_, rfl⟩
  have CM := Aside0.mk (fun (W : World) (h1 : j.In W A n) (h2 : OpIn o W A3 c3 A4 c4 A6 c6) => mayOp_call j o A n A3 c3 A4 c4 A6 c6 W h1 h2)
  rw [← hmb] at CM
  have LOOK := Aside0.mk (fun (h : mb = true) (h6 : o.f0 = 6) => mayOp_look (j := j) (o := o) (by rw [← hmb]; exact h) h6)
  unfold rangeL at hR
  rw [← hmb] at hR
  have HR5 := Aside0.mk (fun (h : mb = true) (h5 : o.f0 = 5) => (show R = ((treeL j o.f1 (-1)).1, o.f3, o.f4, decide (0 < o.f4.length), 0) from by rw [hR, if_pos h, if_pos h5]))
  have HR6 := Aside0.mk (fun (h : mb = true) (h6 : o.f0 = 6) => (show R = ((treeL j o.f1 o.f2).1, frontB o.f3, frontB o.f4, decide (0 < o.f4.length), 0) from by rw [hR, if_pos h, if_neg (by omega), if_pos h6]))
  have HRN := Aside0.mk (fun (h : mb = false ∨ (o.f0 ≠ 5 ∧ o.f0 ≠ 6)) => (show R = (0, [], [], false, 2) from by
    rw [hR]
    rcases h with h | ⟨h5, h6⟩
    · rw [h]; rfl
    · rw [if_neg h5, if_neg h6]; split <;> rfl))
  have RNG := Aside0.mk (fun (h : mb = true) => (show 1 ≤ o.f0 ∧ o.f0 ≤ 6 from by
    rw [hmb] at h
    unfold mayOp at h
    simp only [Bool.and_eq_true] at h
    exact (wi_iff _ _ _).1 h.2.1))
  have hb0 := allocs_below [.cells (j.v A n) 24, .cells (opV o A3 c3 A4 c4 A6 c6) 80, .cells #[.int .i64 0, .slice none 0 0, .slice none 0 0, .bool false] 83] w w.heap.size (Nat.le_refl _)
  have hat := allocs_at [.cells (j.v A n) 24, .cells (opV o A3 c3 A4 c4 A6 c6) 80, .cells #[.int .i64 0, .slice none 0 0, .slice none 0 0, .bool false] 83] w
  have e0 := hat 0 _ rfl
  have e1 := hat 1 _ rfl
  have e2 := hat 2 _ rfl
  simp only [List.foldl_cons, List.foldl_nil, List.length_cons, List.length_nil] at hb0 e0 e1 e2
  rw [Nat.add_zero] at e0
  have HJ := Aside0.mk (JobAt.mk e0 (h.below hb0))
  have HO := Aside0.mk (OpAt.mk e1 (ho.below hb0))
  have HB := Aside0.mk hb0
  have L3 := Aside0.mk h3
  have L4 := Aside0.mk h4
  clear hat h ho hb0 e0 e1 hR hmb h3 h4
  unfold Job.v opV at *
  go_enter Try.func36, Try.ntmps36
  go_upto_region 1 with fail
  obtain ⟨P0, q0⟩ : ∃ B, w.heap.size = B := ⟨_, rfl⟩
  obtain ⟨P1, q1⟩ : ∃ B, P0 + 1 = B := ⟨_, rfl⟩
  obtain ⟨P2, q2⟩ : ∃ B, P0 + 1 + 1 = B := ⟨_, rfl⟩
  rw [show w.heap.size + 2 = w.heap.size + 1 + 1 from rfl, q0, q2] at e2
  rw [q0] at HJ HO ⊢
  rw [q2]
  rw [q1] at HO ⊢
  have HP := Aside0.mk (show w.heap.size ≤ P2 by omega)
  clear q0 q1 q2
  generalize World.alloc _ _ = w2 at HJ HO e2 HB ⊢
  have E2 := Aside0.mk e2
  clear e2
  obtain ⟨c0, c1, c2, c3', c4', c5, c6'⟩ := HJ.out.cells
  obtain ⟨o0, o1, o2, o3, o4, o5, o6⟩ := HO.out.cells
  have NO := Aside0.mk (fun (W : World) (hW : Below w2.heap.size w2 W) (h : R = (0, [], [], false, 2)) => (show RangeP R w (.returned (.tuple #[.agg #[.int .i64 0, .slice none 0 0, .slice none 0 0, .bool false], .int .i64 2])) (put4 W P2 (.int .i64 0) (.slice none 0 0) (.slice none 0 0) (.bool false)) from by
    rw [h]
    exact ⟨none, 0, none, 0, rfl, Nat.le_refl _, Kd.C_nil _ _, Nat.le_refl _, Kd.C_nil _ _, (below_step HB.out hW).trans (put4_below HP.out _ _ _ _)⟩))
  have EQ := Aside0.mk (fun (W : World) (hW : Below w2.heap.size w2 W) => (hW.block P2 (blk_lt E2.out)).trans E2.out)

  cases mb with
  | false =>
    go_wp2_with (first | (go_at_call 35; (with_reducible refine (CM.out _ HJ.out.inn HO.out.inn).mono ?_); rintro e w3 ⟨rfl, hb⟩; have HQ := Aside0.mk hb; obtain ⟨d0, d1, d2, d3', d4', d5, d6'⟩ := (HJ.out.below hb).cells; obtain ⟨u0, u1, u2, u3, u4, u5, u6⟩ := (HO.out.below hb).cells; obtain r0 := (blk_cell (EQ.out _ hb) 0).trans rfl; obtain r1 := (blk_cell (EQ.out _ hb) 1).trans rfl; obtain r2 := (blk_cell (EQ.out _ hb) 2).trans rfl; obtain r3 := (blk_cell (EQ.out _ hb) 3).trans rfl; have z0 := blk_frozen (EQ.out _ hb) 0; have z1 := blk_frozen (EQ.out _ hb) 1; have z2 := blk_frozen (EQ.out _ hb) 2; have z3 := blk_frozen (EQ.out _ hb) 3; clear hb))
    refine bodyPost_ret (range_end _ P2 rfl _ _ (.int .i64 0) (.slice none 0 0) (.slice none 0 0) (.bool false) 2 rfl rfl (put4_blk (EQ.out _ HQ.out) _ _ _ _)) rfl ?_
    exact NO.out _ HQ.out (by exact HRN.out (by simp))
  | true =>
  obtain ⟨r1_, r2_⟩ := RNG.out (by first | trivial | rfl)
  by_cases k5 : o.f0 < 5
  · go_wp2_with (first | (go_at_call 35; (with_reducible refine (CM.out _ HJ.out.inn HO.out.inn).mono ?_); rintro e w3 ⟨rfl, hb⟩; have HQ := Aside0.mk hb; obtain ⟨d0, d1, d2, d3', d4', d5, d6'⟩ := (HJ.out.below hb).cells; obtain ⟨u0, u1, u2, u3, u4, u5, u6⟩ := (HO.out.below hb).cells; obtain r0 := (blk_cell (EQ.out _ hb) 0).trans rfl; obtain r1 := (blk_cell (EQ.out _ hb) 1).trans rfl; obtain r2 := (blk_cell (EQ.out _ hb) 2).trans rfl; obtain r3 := (blk_cell (EQ.out _ hb) 3).trans rfl; have z0 := blk_frozen (EQ.out _ hb) 0; have z1 := blk_frozen (EQ.out _ hb) 1; have z2 := blk_frozen (EQ.out _ hb) 2; have z3 := blk_frozen (EQ.out _ hb) 3; clear hb))
    refine bodyPost_ret (range_end _ P2 rfl _ _ (.int .i64 0) (.slice none 0 0) (.slice none 0 0) (.bool false) 2 rfl rfl (put4_blk (EQ.out _ HQ.out) _ _ _ _)) rfl ?_
    exact NO.out _ HQ.out (by exact HRN.out (Or.inr ⟨by omega, by omega⟩))
  go_upto_region 3 with (first | (go_at_call 35; (with_reducible refine (CM.out _ HJ.out.inn HO.out.inn).mono ?_); rintro e w3 ⟨rfl, hb⟩; have HQ := Aside0.mk hb; obtain ⟨d0, d1, d2, d3', d4', d5, d6'⟩ := (HJ.out.below hb).cells; obtain ⟨u0, u1, u2, u3, u4, u5, u6⟩ := (HO.out.below hb).cells; obtain r0 := (blk_cell (EQ.out _ hb) 0).trans rfl; obtain r1 := (blk_cell (EQ.out _ hb) 1).trans rfl; obtain r2 := (blk_cell (EQ.out _ hb) 2).trans rfl; obtain r3 := (blk_cell (EQ.out _ hb) 3).trans rfl; have z0 := blk_frozen (EQ.out _ hb) 0; have z1 := blk_frozen (EQ.out _ hb) 1; have z2 := blk_frozen (EQ.out _ hb) 2; have z3 := blk_frozen (EQ.out _ hb) 3; clear hb))
  have HQd := Aside0.mk (below_drew1 HQ.out)
  have hs3 : w3.drew.cell? ⟨P1, 3, none⟩ = some (.slice A3 o.f3.length c3) := u3
  have hs4 : w3.drew.cell? ⟨P1, 4, none⟩ = some (.slice A4 o.f4.length c4) := u4
  clear d0 d1 d2 d3' d4' d5 d6' u0 u1 u2 u3 u4 u5 u6 r0 r1 r2 r3 z0 z1 z2 z3 c0 c1 c2 c3' c4' c5 c6' o0 o1 o2 o3 o4 o5 o6
  have CL := Aside0.mk (fun (W : World) (hW : Below w2.heap.size w2 W) => (HO.out.below hW).inn)
  refine start_ (n := 13) (S := fun w' => w'.cell? ⟨P1, 3, none⟩ = some (.slice A3 o.f3.length c3) ∧ w'.cell? ⟨P1, 4, none⟩ = some (.slice A4 o.f4.length c4)) (ds := []) #[false, false, false, false, false, false, false, false, false, false, false, false, false] (by kernel_rfl) rfl rfl ⟨hs3, hs4⟩ (fun hHeld => ?_)
  generalize w3.drew = wd at hHeld HQd hs3 hs4 ⊢
  refine pure_ (i := 0) (N := some 18) (v := ?_) (a' := ?_) #[true, false, false, false, false, false, false, false, false, false, false, false, false] rfl rfl (by kernel_rfl) (fun _ _ _ h => h) (Or.inl ⟨by rfl, ?_⟩) ?_ ?_
  rotate_left
  · intro w'
    go_simp
    with_reducible rfl
  rotate_left
  · simp only [Act.put, List.setIfInBounds_toArray, List.set_cons_zero, List.set_cons_succ, i64_w, i32_w]
    rfl
  refine take_ (i := 1) (N := some 19) (v := ?_) (a' := ?_) #[true, true, false, false, false, false, false, false, false, false, false, false, false] rfl rfl (by kernel_rfl) (fun _ _ _ h => h) (Or.inl ⟨by rfl, ?_⟩) hHeld ?_ ?_
  rotate_left
  · rintro w' ⟨s0, s1⟩
    go_simp
    with_reducible rfl
  rotate_left
  · simp only [Act.put, List.setIfInBounds_toArray, List.set_cons_zero, List.set_cons_succ, i64_w, i32_w]
    rfl
  refine pure_ (i := 3) (N := some 21) (v := ?_) (a' := ?_) #[true, true, false, true, false, false, false, false, false, false, false, false, false] rfl rfl (by kernel_rfl) (fun _ _ _ h => h) (Or.inl ⟨by rfl, ?_⟩) ?_ ?_
  rotate_left
  · intro w'
    go_simp
    with_reducible rfl
  rotate_left
  · simp only [Act.put, List.setIfInBounds_toArray, List.set_cons_zero, List.set_cons_succ, i64_w, i32_w]
    rfl
  refine take_ (i := 4) (N := some 22) (v := ?_) (a' := ?_) #[true, true, false, true, true, false, false, false, false, false, false, false, false] rfl rfl (by kernel_rfl) (fun _ _ _ h => h) (Or.inl ⟨by rfl, ?_⟩) hHeld ?_ ?_
  rotate_left
  · rintro w' ⟨s0, s1⟩
    go_simp
    with_reducible rfl
  rotate_left
  · simp only [Act.put, List.setIfInBounds_toArray, List.set_cons_zero, List.set_cons_succ, i64_w, i32_w]
    rfl
  refine pure_ (i := 6) (N := some 24) (v := ?_) (a' := ?_) #[true, true, false, true, true, false, true, false, false, false, false, false, false] rfl rfl (by kernel_rfl) (fun _ _ _ h => h) (Or.inl ⟨by rfl, ?_⟩) ?_ ?_
  rotate_left
  · intro w'
    go_simp
    with_reducible rfl
  rotate_left
  · simp only [Act.put, List.setIfInBounds_toArray, List.set_cons_zero, List.set_cons_succ, i64_w, i32_w]
    rfl
  refine take_ (i := 7) (N := some 25) (v := ?_) (a' := ?_) #[true, true, false, true, true, false, true, true, false, false, false, false, false] rfl rfl (by kernel_rfl) (fun _ _ _ h => h) (Or.inl ⟨by rfl, ?_⟩) hHeld ?_ ?_
  rotate_left
  · rintro w' ⟨s0, s1⟩
    go_simp
    with_reducible rfl
  rotate_left
  · simp only [Act.put, List.setIfInBounds_toArray, List.set_cons_zero, List.set_cons_succ, i64_w, i32_w]
    rfl
  refine pure_ (i := 8) (N := some 26) (v := ?_) (a' := ?_) #[true, true, false, true, true, false, true, true, true, false, false, false, false] rfl rfl (by kernel_rfl) (fun _ _ _ h => h) (Or.inl ⟨by rfl, ?_⟩) ?_ ?_
  rotate_left
  · intro w'
    go_simp
    with_reducible rfl
  rotate_left
  · simp only [Act.put, List.setIfInBounds_toArray, List.set_cons_zero, List.set_cons_succ, i64_w, i32_w]
    rfl
  refine pure_ (i := 9) (N := some 27) (v := ?_) (a' := ?_) #[true, true, false, true, true, false, true, true, true, true, false, false, false] rfl rfl (by kernel_rfl) (fun _ _ _ h => h) (Or.inl ⟨by rfl, ?_⟩) ?_ ?_
  rotate_left
  · intro w'
    go_simp
    with_reducible rfl
  rotate_left
  · simp only [Act.put, List.setIfInBounds_toArray, List.set_cons_zero, List.set_cons_succ, i64_w, i32_w]
    rfl
  refine join_ (σ := (Option Addr × Nat) × (Option Addr × Nat) × Nat) 1 #[true, true, true, true, true, true, true, true, true, true, true, true, false] (fun s_ => [(20, .slice s_.1.1 o.f3.length s_.1.2), (23, .slice s_.2.1.1 o.f4.length s_.2.1.2), (6, .pointer (some ⟨s_.2.2, 0, none⟩)), (28, .agg #[.int .i64 0, .slice s_.1.1 o.f3.length s_.1.2, .slice s_.2.1.1 o.f4.length s_.2.1.2, .bool (decide (0 < o.f4.length))])]) (fun s_ w' => Kd.R (Kd.int .u8) 5 w' wd.heap.size (fun _ => True) (.slice s_.1.1 o.f3.length s_.1.2) o.f3 ∧ Kd.R (Kd.int .u8) 5 w' wd.heap.size (fun _ => True) (.slice s_.2.1.1 o.f4.length s_.2.1.2) o.f4 ∧ w'.heap[s_.2.2]? = some (.cells #[.int .i64 0, .slice none 0 0, .slice none 0 0, .bool false] 83 (0, 0)) ∧ Below wd.heap.size wd w' ∧ wd.heap.size ≤ s_.2.2) ?_ ?_
  rotate_left
  · intro hCont
    refine two_ (i := 2) (j := 11) (Ni := some 20) (Nj := some 6) #[true, true, true, true, true, false, true, true, true, true, false, false, false] #[true, true, false, true, true, false, true, true, true, true, false, true, false] rfl rfl rfl rfl (by kernel_rfl) (by decide) (by decide) (fun K hK => ?_) (fun K hK => ?_)
    · refine goes_ Try.func62 (by kernel_rfl) rfl #[.slice A3 o.f3.length c3] (by rfl) rfl rfl (by (try simp only [List.map_toArray, List.map_cons, List.map_nil]); first | done | rfl) ?_
      have op_ := CL.out wd (below_step HQd.out (Below.refl wd.heap.size wd))
      refine (clone_call A3 c3 o.f3 wd op_.2.1 op_.1 L3.out).mono ?_
      rintro e wf1 ⟨v_, rfl, ho_, hb_wf1⟩
      obtain ⟨Awf1, cwf1, rfl⟩ := Kd.R_slice ho_
      have HRwf1 := Kd.R_lower ho_ (show wd.heap.size ≤ wd.heap.size from ((Below.refl wd.heap.size wd)).size)
      clear ho_ op_
      refine ⟨_, rfl, ?_⟩
      refine hK.out _ _ ⟨pw_cell_below hb_wf1 hs3, pw_cell_below hb_wf1 hs4⟩ (fun hHeld => ?_)
      clear hK K
      refine norm_ (a' := ?_) ?_ ?_
      rotate_left
      · show Act.put _ (some 20) _ = _
        simp only [Act.put, List.setIfInBounds_toArray, List.set_cons_zero, List.set_cons_succ, i64_w, i32_w]
        rfl
      refine two_ (i := 5) (j := 11) (Ni := some 23) (Nj := some 6) #[true, true, true, true, true, true, true, true, true, true, false, false, false] #[true, true, true, true, true, false, true, true, true, true, false, true, false] rfl rfl rfl rfl (by kernel_rfl) (by decide) (by decide) (fun K hK => ?_) (fun K hK => ?_)
      · refine goes_ Try.func62 (by kernel_rfl) rfl #[.slice A4 o.f4.length c4] (by rfl) rfl rfl (by (try simp only [List.map_toArray, List.map_cons, List.map_nil]); first | done | rfl) ?_
        have op_ := CL.out wf1 (below_step HQd.out hb_wf1)
        refine (clone_call A4 c4 o.f4 wf1 op_.2.2.2.1 op_.2.2.1 L4.out).mono ?_
        rintro e wf2 ⟨v_, rfl, ho_, hb_wf2⟩
        obtain ⟨Awf2, cwf2, rfl⟩ := Kd.R_slice ho_
        have HRwf2 := Kd.R_lower ho_ (show wd.heap.size ≤ wf1.heap.size from (hb_wf1).size)
        clear ho_ op_
        refine ⟨_, rfl, ?_⟩
        refine hK.out _ _ ⟨pw_cell_below (below_step hb_wf1 hb_wf2) hs3, pw_cell_below (below_step hb_wf1 hb_wf2) hs4⟩ (fun hHeld => ?_)
        clear hK K
        refine norm_ (a' := ?_) ?_ ?_
        rotate_left
        · show Act.put _ (some 23) _ = _
          simp only [Act.put, List.setIfInBounds_toArray, List.set_cons_zero, List.set_cons_succ, i64_w, i32_w]
          rfl
        refine pure_ (i := 10) (N := some 28) (v := ?_) (a' := ?_) #[true, true, true, true, true, true, true, true, true, true, true, false, false] rfl rfl (by kernel_rfl) (fun _ _ _ h => h) (Or.inl ⟨by rfl, ?_⟩) ?_ ?_
        rotate_left
        · intro w'
          go_simp
          with_reducible rfl
        rotate_left
        · simp only [Act.put, List.setIfInBounds_toArray, List.set_cons_zero, List.set_cons_succ, i64_w, i32_w]
          rfl
        refine one_ (i := 11) (N := some 6) #[true, true, true, true, true, true, true, true, true, true, true, true, false] rfl rfl (by kernel_rfl) (by decide) (fun K hK => ?_)
        have hbkwf3 := blk_new wf2 (.cells #[.int .i64 0, .slice none 0 0, .slice none 0 0, .bool false] 83)
        have hb_wf3 := below_alloc (Below.refl wf2.heap.size wf2) (.cells #[.int .i64 0, .slice none 0 0, .slice none 0 0, .bool false] 83)
        refine value_ (v := .pointer (some ⟨wf2.heap.size, 0, none⟩)) (w1 := wf2.alloc (.cells #[.int .i64 0, .slice none 0 0, .slice none 0 0, .bool false] 83)) (by rfl) rfl (by go_simp) ?_
        generalize wf2.alloc (.cells #[.int .i64 0, .slice none 0 0, .slice none 0 0, .bool false] 83) = wf3 at hbkwf3 hb_wf3 ⊢
        have PSZ_wf3 : wd.heap.size ≤ wf2.heap.size := ((below_step hb_wf1 hb_wf2)).size
        refine hK.out _ _ ⟨pw_cell_below (below_step (below_step hb_wf1 hb_wf2) hb_wf3) hs3, pw_cell_below (below_step (below_step hb_wf1 hb_wf2) hb_wf3) hs4⟩ (fun hHeld => ?_)
        clear hK K
        refine norm_ (a' := ?_) ?_ ?_
        rotate_left
        · show Act.put _ (some 6) _ = _
          simp only [Act.put, List.setIfInBounds_toArray, List.set_cons_zero, List.set_cons_succ, i64_w, i32_w]
          rfl
        exact norm_ (by simp only [putAll, Act.put, List.setIfInBounds_toArray, List.set_cons_zero, List.set_cons_succ]) (hCont ((Awf1, cwf1), (Awf2, cwf2), wf2.heap.size) _ ⟨(Kd.R_below HRwf1 (below_step hb_wf2 hb_wf3)), (Kd.R_below HRwf2 hb_wf3), (blk_below hbkwf3 (Below.refl _ _)), (below_step (below_step hb_wf1 hb_wf2) hb_wf3), PSZ_wf3⟩)
      · have hbkwf4 := blk_new wf1 (.cells #[.int .i64 0, .slice none 0 0, .slice none 0 0, .bool false] 83)
        have hb_wf4 := below_alloc (Below.refl wf1.heap.size wf1) (.cells #[.int .i64 0, .slice none 0 0, .slice none 0 0, .bool false] 83)
        refine value_ (v := .pointer (some ⟨wf1.heap.size, 0, none⟩)) (w1 := wf1.alloc (.cells #[.int .i64 0, .slice none 0 0, .slice none 0 0, .bool false] 83)) (by rfl) rfl (by go_simp) ?_
        generalize wf1.alloc (.cells #[.int .i64 0, .slice none 0 0, .slice none 0 0, .bool false] 83) = wf4 at hbkwf4 hb_wf4 ⊢
        have PSZ_wf4 : wd.heap.size ≤ wf1.heap.size := (hb_wf1).size
        refine hK.out _ _ ⟨pw_cell_below (below_step hb_wf1 hb_wf4) hs3, pw_cell_below (below_step hb_wf1 hb_wf4) hs4⟩ (fun hHeld => ?_)
        clear hK K
        refine norm_ (a' := ?_) ?_ ?_
        rotate_left
        · show Act.put _ (some 6) _ = _
          simp only [Act.put, List.setIfInBounds_toArray, List.set_cons_zero, List.set_cons_succ, i64_w, i32_w]
          rfl
        refine one_ (i := 5) (N := some 23) #[true, true, true, true, true, true, true, true, true, true, false, true, false] rfl rfl (by kernel_rfl) (by decide) (fun K hK => ?_)
        refine goes_ Try.func62 (by kernel_rfl) rfl #[.slice A4 o.f4.length c4] (by rfl) rfl rfl (by (try simp only [List.map_toArray, List.map_cons, List.map_nil]); first | done | rfl) ?_
        have op_ := CL.out wf4 (below_step HQd.out (below_step hb_wf1 hb_wf4))
        refine (clone_call A4 c4 o.f4 wf4 op_.2.2.2.1 op_.2.2.1 L4.out).mono ?_
        rintro e wf5 ⟨v_, rfl, ho_, hb_wf5⟩
        obtain ⟨Awf5, cwf5, rfl⟩ := Kd.R_slice ho_
        have HRwf5 := Kd.R_lower ho_ (show wd.heap.size ≤ wf4.heap.size from ((below_step hb_wf1 hb_wf4)).size)
        clear ho_ op_
        refine ⟨_, rfl, ?_⟩
        refine hK.out _ _ ⟨pw_cell_below (below_step (below_step hb_wf1 hb_wf4) hb_wf5) hs3, pw_cell_below (below_step (below_step hb_wf1 hb_wf4) hb_wf5) hs4⟩ (fun hHeld => ?_)
        clear hK K
        refine norm_ (a' := ?_) ?_ ?_
        rotate_left
        · show Act.put _ (some 23) _ = _
          simp only [Act.put, List.setIfInBounds_toArray, List.set_cons_zero, List.set_cons_succ, i64_w, i32_w]
          rfl
        refine pure_ (i := 10) (N := some 28) (v := ?_) (a' := ?_) #[true, true, true, true, true, true, true, true, true, true, true, true, false] rfl rfl (by kernel_rfl) (fun _ _ _ h => h) (Or.inl ⟨by rfl, ?_⟩) ?_ ?_
        rotate_left
        · intro w'
          go_simp
          with_reducible rfl
        rotate_left
        · simp only [Act.put, List.setIfInBounds_toArray, List.set_cons_zero, List.set_cons_succ, i64_w, i32_w]
          rfl
        exact norm_ (by simp only [putAll, Act.put, List.setIfInBounds_toArray, List.set_cons_zero, List.set_cons_succ]) (hCont ((Awf1, cwf1), (Awf5, cwf5), wf1.heap.size) _ ⟨(Kd.R_below HRwf1 (below_step hb_wf4 hb_wf5)), (Kd.R_below HRwf5 (Below.refl _ _)), (blk_below hbkwf4 hb_wf5), (below_step (below_step hb_wf1 hb_wf4) hb_wf5), PSZ_wf4⟩)
    · have hbkwf6 := blk_new wd (.cells #[.int .i64 0, .slice none 0 0, .slice none 0 0, .bool false] 83)
      have hb_wf6 := below_alloc (Below.refl wd.heap.size wd) (.cells #[.int .i64 0, .slice none 0 0, .slice none 0 0, .bool false] 83)
      refine value_ (v := .pointer (some ⟨wd.heap.size, 0, none⟩)) (w1 := wd.alloc (.cells #[.int .i64 0, .slice none 0 0, .slice none 0 0, .bool false] 83)) (by rfl) rfl (by go_simp) ?_
      generalize wd.alloc (.cells #[.int .i64 0, .slice none 0 0, .slice none 0 0, .bool false] 83) = wf6 at hbkwf6 hb_wf6 ⊢
      have PSZ_wf6 : wd.heap.size ≤ wd.heap.size := ((Below.refl wd.heap.size wd)).size
      refine hK.out _ _ ⟨pw_cell_below hb_wf6 hs3, pw_cell_below hb_wf6 hs4⟩ (fun hHeld => ?_)
      clear hK K
      refine norm_ (a' := ?_) ?_ ?_
      rotate_left
      · show Act.put _ (some 6) _ = _
        simp only [Act.put, List.setIfInBounds_toArray, List.set_cons_zero, List.set_cons_succ, i64_w, i32_w]
        rfl
      refine one_ (i := 2) (N := some 20) #[true, true, true, true, true, false, true, true, true, true, false, true, false] rfl rfl (by kernel_rfl) (by decide) (fun K hK => ?_)
      refine goes_ Try.func62 (by kernel_rfl) rfl #[.slice A3 o.f3.length c3] (by rfl) rfl rfl (by (try simp only [List.map_toArray, List.map_cons, List.map_nil]); first | done | rfl) ?_
      have op_ := CL.out wf6 (below_step HQd.out hb_wf6)
      refine (clone_call A3 c3 o.f3 wf6 op_.2.1 op_.1 L3.out).mono ?_
      rintro e wf7 ⟨v_, rfl, ho_, hb_wf7⟩
      obtain ⟨Awf7, cwf7, rfl⟩ := Kd.R_slice ho_
      have HRwf7 := Kd.R_lower ho_ (show wd.heap.size ≤ wf6.heap.size from (hb_wf6).size)
      clear ho_ op_
      refine ⟨_, rfl, ?_⟩
      refine hK.out _ _ ⟨pw_cell_below (below_step hb_wf6 hb_wf7) hs3, pw_cell_below (below_step hb_wf6 hb_wf7) hs4⟩ (fun hHeld => ?_)
      clear hK K
      refine norm_ (a' := ?_) ?_ ?_
      rotate_left
      · show Act.put _ (some 20) _ = _
        simp only [Act.put, List.setIfInBounds_toArray, List.set_cons_zero, List.set_cons_succ, i64_w, i32_w]
        rfl
      refine one_ (i := 5) (N := some 23) #[true, true, true, true, true, true, true, true, true, true, false, true, false] rfl rfl (by kernel_rfl) (by decide) (fun K hK => ?_)
      refine goes_ Try.func62 (by kernel_rfl) rfl #[.slice A4 o.f4.length c4] (by rfl) rfl rfl (by (try simp only [List.map_toArray, List.map_cons, List.map_nil]); first | done | rfl) ?_
      have op_ := CL.out wf7 (below_step HQd.out (below_step hb_wf6 hb_wf7))
      refine (clone_call A4 c4 o.f4 wf7 op_.2.2.2.1 op_.2.2.1 L4.out).mono ?_
      rintro e wf8 ⟨v_, rfl, ho_, hb_wf8⟩
      obtain ⟨Awf8, cwf8, rfl⟩ := Kd.R_slice ho_
      have HRwf8 := Kd.R_lower ho_ (show wd.heap.size ≤ wf7.heap.size from ((below_step hb_wf6 hb_wf7)).size)
      clear ho_ op_
      refine ⟨_, rfl, ?_⟩
      refine hK.out _ _ ⟨pw_cell_below (below_step (below_step hb_wf6 hb_wf7) hb_wf8) hs3, pw_cell_below (below_step (below_step hb_wf6 hb_wf7) hb_wf8) hs4⟩ (fun hHeld => ?_)
      clear hK K
      refine norm_ (a' := ?_) ?_ ?_
      rotate_left
      · show Act.put _ (some 23) _ = _
        simp only [Act.put, List.setIfInBounds_toArray, List.set_cons_zero, List.set_cons_succ, i64_w, i32_w]
        rfl
      refine pure_ (i := 10) (N := some 28) (v := ?_) (a' := ?_) #[true, true, true, true, true, true, true, true, true, true, true, true, false] rfl rfl (by kernel_rfl) (fun _ _ _ h => h) (Or.inl ⟨by rfl, ?_⟩) ?_ ?_
      rotate_left
      · intro w'
        go_simp
        with_reducible rfl
      rotate_left
      · simp only [Act.put, List.setIfInBounds_toArray, List.set_cons_zero, List.set_cons_succ, i64_w, i32_w]
        rfl
      exact norm_ (by simp only [putAll, Act.put, List.setIfInBounds_toArray, List.set_cons_zero, List.set_cons_succ]) (hCont ((Awf7, cwf7), (Awf8, cwf8), wd.heap.size) _ ⟨(Kd.R_below HRwf7 hb_wf8), (Kd.R_below HRwf8 (Below.refl _ _)), (blk_below hbkwf6 (below_step hb_wf7 hb_wf8)), (below_step (below_step hb_wf6 hb_wf7) hb_wf8), PSZ_wf6⟩)
  rintro ⟨⟨A20, c20⟩, ⟨A23, c23⟩, P6⟩ w5 ⟨hR20, hR23, hb6, hb5, hP6⟩
  dsimp only at hR20 hR23 hb6 hP6
  refine norm_ (a' := ?_) ?_ ?_
  rotate_left
  · simp only [putAll, Act.put, List.setIfInBounds_toArray, List.set_cons_zero, List.set_cons_succ]
    rfl
  have hHeld : w5.cell? ⟨P1, 3, none⟩ = some (.slice A3 o.f3.length c3) ∧ w5.cell? ⟨P1, 4, none⟩ = some (.slice A4 o.f4.length c4) := ⟨pw_cell_below hb5 hs3, pw_cell_below hb5 hs4⟩
  have hP61 : P1 ≠ P6 := by have h_ := World.block_lt_of_cell? wd _ hs3; have h2_ : P1 < wd.heap.size := h_; omega
  refine one_ (i := 12) (N := none) #[true, true, true, true, true, true, true, true, true, true, true, true, true] rfl rfl (by kernel_rfl) (by decide) (fun K hK => ?_)
  refine skip_ (w1 := w5.setRow P6 #[.int .i64 0, .slice A20 o.f3.length c20, .slice A23 o.f4.length c23, .bool (decide (0 < o.f4.length))]) (by rfl) rfl (store_run 83 (.tmp 6) (.tmp 28) rfl P6 _ rfl rfl 83 _ hb6 (by kernel_rfl) rfl (by simp [Value.oneCell'])) ?_
  refine hK.out _ _ ⟨(cell_setRow_other w5 P6 _ _ (show P1 ≠ P6 from hP61)).trans hHeld.1, (cell_setRow_other w5 P6 _ _ (show P1 ≠ P6 from hP61)).trans hHeld.2⟩ (fun hHeld6 => ?_)
  clear hK K
  refine done_ (by kernel_rfl) ?_
  simp only [Exit.then]
  have HK6 := Aside0.mk (setRow_heap w5 P6 _ #[.int .i64 0, .slice A20 o.f3.length c20, .slice A23 o.f4.length c23, .bool (decide (0 < o.f4.length))] 83 (0, 0) hb6)
  have RF6 := Aside0.mk (Kd.R_step (Kd.R_types hR20 hb6 (by intro q_ hq_; rcases List.mem_cons.1 hq_ with rfl | hq_; (· decide); cases hq_)) (fun k_ hk_ _ => setRow_other w5 P6 k_ #[.int .i64 0, .slice A20 o.f3.length c20, .slice A23 o.f4.length c23, .bool (decide (0 < o.f4.length))] hk_.2))
  have RT6 := Aside0.mk (Kd.R_step (Kd.R_types hR23 hb6 (by intro q_ hq_; rcases List.mem_cons.1 hq_ with rfl | hq_; (· decide); cases hq_)) (fun k_ hk_ _ => setRow_other w5 P6 k_ #[.int .i64 0, .slice A20 o.f3.length c20, .slice A23 o.f4.length c23, .bool (decide (0 < o.f4.length))] hk_.2))
  have HQ6 := Aside0.mk (below_setRow (below_step HQd.out hb5) (Nat.le_trans HQd.out.size hP6) #[.int .i64 0, .slice A20 o.f3.length c20, .slice A23 o.f4.length c23, .bool (decide (0 < o.f4.length))])
  have PB := Aside0.mk (show w2.heap.size ≤ P6 from Nat.le_trans HQd.out.size hP6)
  clear hR20 hR23 hb6 hb5 hHeld hHeld6 hs3 hs4 HQd
  obtain ⟨eb, heb⟩ : ∃ b, b = decide (0 < o.f4.length) := ⟨_, rfl⟩
  rw [← heb] at HK6 RF6 RT6 HQ6 HR5 HR6 ⊢
  clear heb
  generalize w5.setRow P6 _ = w6 at HK6 RF6 RT6 HQ6 ⊢
  have CT := Aside0.mk (fun (b : Int) (W : World) (hi : j.In W A n) => tree_in j A n o.f1 b W hi)
  unfold Job.v at CT
  by_cases k6 : o.f0 = 6
  · have HRR := Aside0.mk (HR6.out (by first | trivial | rfl) k6)
    obtain ⟨g3, g4⟩ := LOOK.out (by first | trivial | rfl) k6
    have FRf3 := Aside0.mk (fun (W : World) (hW : Below w2.heap.size w2 W) => front_call A3 c3 o.f3 W (CL.out _ hW).2.1 (CL.out _ hW).1 g3)
    have FRf4 := Aside0.mk (fun (W : World) (hW : Below w2.heap.size w2 W) => front_call A4 c4 o.f4 W (CL.out _ hW).2.2.2.1 (CL.out _ hW).2.2.1 g4)
    have eq6 : (o.f0 == 6) = true := beq_iff_eq.2 k6
    clear k6 g3 g4
    obtain ⟨d0, d1, d2, d3', d4', d5, d6'⟩ := (HJ.out.below HQ6.out).cells
    obtain ⟨u0, u1, u2, u3, u4, u5, u6⟩ := (HO.out.below HQ6.out).cells
    have p0 : w6.cell? ⟨P6, 0, none⟩ = some (.int .i64 0) := (blk_cell HK6.out 0).trans rfl
    have p1 : w6.cell? ⟨P6, 1, none⟩ = some (.slice A20 o.f3.length c20) := (blk_cell HK6.out 1).trans rfl
    have p2 : w6.cell? ⟨P6, 2, none⟩ = some (.slice A23 o.f4.length c23) := (blk_cell HK6.out 2).trans rfl
    have p3 : w6.cell? ⟨P6, 3, none⟩ = some (.bool eb) := (blk_cell HK6.out 3).trans rfl
    have z0 := blk_frozen HK6.out 0
    have z1 := blk_frozen HK6.out 1
    have z2 := blk_frozen HK6.out 2
    have z3 := blk_frozen HK6.out 3
    have r0 := (blk_cell (EQ.out _ HQ6.out) 0).trans rfl
    have r1 := (blk_cell (EQ.out _ HQ6.out) 1).trans rfl
    have r2 := (blk_cell (EQ.out _ HQ6.out) 2).trans rfl
    have r3 := (blk_cell (EQ.out _ HQ6.out) 3).trans rfl
    have y0 := blk_frozen (EQ.out _ HQ6.out) 0
    have y1 := blk_frozen (EQ.out _ HQ6.out) 1
    have y2 := blk_frozen (EQ.out _ HQ6.out) 2
    have y3 := blk_frozen (EQ.out _ HQ6.out) 3
    go_upto_region 8 with (go_at_call 63; (with_reducible refine (FRf3.out _ HQ6.out).mono ?_); rintro e w7 ⟨v_, rfl, ho_, hb_⟩; obtain ⟨Aw7, cw7, rfl⟩ := Kd.R_slice ho_; have HQ_ := Aside0.mk (below_step HQ6.out hb_); have HK_ := Aside0.mk ((hb_.block P6 (blk_lt HK6.out)).trans HK6.out); have RF_ := Aside0.mk (Kd.R_below RF6.out hb_); have RT_ := Aside0.mk (Kd.R_below RT6.out hb_); have RN_ := Aside0.mk (Kd.R_lower ho_ (show 0 ≤ w6.heap.size from Nat.zero_le _)); clear hb_ ho_ d0 d1 d2 d3' d4' d5 d6' u0 u1 u2 u3 u4 u5 u6 p0 p1 p2 p3 z0 z1 z2 z3 r0 r1 r2 r3 y0 y1 y2 y3; have p1 := (blk_cell HK_.out 1).trans rfl; have z1 := blk_frozen HK_.out 1)
    clear p1 z1
    have HK7 := Aside0.mk (blk_is HK_.out 1 (.slice Aw7 (frontB o.f3).length cw7) #[.int .i64 0, .slice Aw7 (frontB o.f3).length cw7, .slice A23 o.f4.length c23, .bool eb] rfl)
    have RF7 := Aside0.mk (rset RN_.out HK_.out (by decide) 1 (.slice Aw7 (frontB o.f3).length cw7))
    have RT7 := Aside0.mk (rset RT_.out HK_.out (by decide) 1 (.slice Aw7 (frontB o.f3).length cw7))
    have HQ7 := Aside0.mk (HQ_.out.setCell (p := ⟨P6, 1, none⟩) PB.out (.slice Aw7 (frontB o.f3).length cw7))
    clear HQ_ HK_ RF_ RT_ RN_
    generalize w7.setCell ⟨P6, 1, none⟩ (.slice Aw7 (frontB o.f3).length cw7) = w7b at HK7 RF7 RT7 HQ7 ⊢
    obtain ⟨d0, d1, d2, d3', d4', d5, d6'⟩ := (HJ.out.below HQ7.out).cells
    obtain ⟨u0, u1, u2, u3, u4, u5, u6⟩ := (HO.out.below HQ7.out).cells
    have p0 : w7b.cell? ⟨P6, 0, none⟩ = some (.int .i64 0) := (blk_cell HK7.out 0).trans rfl
    have p1 : w7b.cell? ⟨P6, 1, none⟩ = some (.slice Aw7 (frontB o.f3).length cw7) := (blk_cell HK7.out 1).trans rfl
    have p2 : w7b.cell? ⟨P6, 2, none⟩ = some (.slice A23 o.f4.length c23) := (blk_cell HK7.out 2).trans rfl
    have p3 : w7b.cell? ⟨P6, 3, none⟩ = some (.bool eb) := (blk_cell HK7.out 3).trans rfl
    have z0 := blk_frozen HK7.out 0
    have z1 := blk_frozen HK7.out 1
    have z2 := blk_frozen HK7.out 2
    have z3 := blk_frozen HK7.out 3
    have r0 := (blk_cell (EQ.out _ HQ7.out) 0).trans rfl
    have r1 := (blk_cell (EQ.out _ HQ7.out) 1).trans rfl
    have r2 := (blk_cell (EQ.out _ HQ7.out) 2).trans rfl
    have r3 := (blk_cell (EQ.out _ HQ7.out) 3).trans rfl
    have y0 := blk_frozen (EQ.out _ HQ7.out) 0
    have y1 := blk_frozen (EQ.out _ HQ7.out) 1
    have y2 := blk_frozen (EQ.out _ HQ7.out) 2
    have y3 := blk_frozen (EQ.out _ HQ7.out) 3
    go_upto_region 9 with (go_at_call 63; (with_reducible refine (FRf4.out _ HQ7.out).mono ?_); rintro e w8 ⟨v_, rfl, ho_, hb_⟩; obtain ⟨Aw8, cw8, rfl⟩ := Kd.R_slice ho_; have HQ_ := Aside0.mk (below_step HQ7.out hb_); have HK_ := Aside0.mk ((hb_.block P6 (blk_lt HK7.out)).trans HK7.out); have RF_ := Aside0.mk (Kd.R_below RF7.out hb_); have RT_ := Aside0.mk (Kd.R_below RT7.out hb_); have RN_ := Aside0.mk (Kd.R_lower ho_ (show 0 ≤ w7b.heap.size from Nat.zero_le _)); clear hb_ ho_ d0 d1 d2 d3' d4' d5 d6' u0 u1 u2 u3 u4 u5 u6 p0 p1 p2 p3 z0 z1 z2 z3 r0 r1 r2 r3 y0 y1 y2 y3; have p2 := (blk_cell HK_.out 2).trans rfl; have z2 := blk_frozen HK_.out 2)
    clear p2 z2
    have HK8 := Aside0.mk (blk_is HK_.out 2 (.slice Aw8 (frontB o.f4).length cw8) #[.int .i64 0, .slice Aw7 (frontB o.f3).length cw7, .slice Aw8 (frontB o.f4).length cw8, .bool eb] rfl)
    have RF8 := Aside0.mk (rset RF_.out HK_.out (by decide) 2 (.slice Aw8 (frontB o.f4).length cw8))
    have RT8 := Aside0.mk (rset RN_.out HK_.out (by decide) 2 (.slice Aw8 (frontB o.f4).length cw8))
    have HQ8 := Aside0.mk (HQ_.out.setCell (p := ⟨P6, 2, none⟩) PB.out (.slice Aw8 (frontB o.f4).length cw8))
    clear HQ_ HK_ RF_ RT_ RN_
    generalize w8.setCell ⟨P6, 2, none⟩ (.slice Aw8 (frontB o.f4).length cw8) = w8b at HK8 RF8 RT8 HQ8 ⊢
    obtain ⟨d0, d1, d2, d3', d4', d5, d6'⟩ := (HJ.out.below HQ8.out).cells
    obtain ⟨u0, u1, u2, u3, u4, u5, u6⟩ := (HO.out.below HQ8.out).cells
    have p0 : w8b.cell? ⟨P6, 0, none⟩ = some (.int .i64 0) := (blk_cell HK8.out 0).trans rfl
    have p1 : w8b.cell? ⟨P6, 1, none⟩ = some (.slice Aw7 (frontB o.f3).length cw7) := (blk_cell HK8.out 1).trans rfl
    have p2 : w8b.cell? ⟨P6, 2, none⟩ = some (.slice Aw8 (frontB o.f4).length cw8) := (blk_cell HK8.out 2).trans rfl
    have p3 : w8b.cell? ⟨P6, 3, none⟩ = some (.bool eb) := (blk_cell HK8.out 3).trans rfl
    have z0 := blk_frozen HK8.out 0
    have z1 := blk_frozen HK8.out 1
    have z2 := blk_frozen HK8.out 2
    have z3 := blk_frozen HK8.out 3
    have r0 := (blk_cell (EQ.out _ HQ8.out) 0).trans rfl
    have r1 := (blk_cell (EQ.out _ HQ8.out) 1).trans rfl
    have r2 := (blk_cell (EQ.out _ HQ8.out) 2).trans rfl
    have r3 := (blk_cell (EQ.out _ HQ8.out) 3).trans rfl
    have y0 := blk_frozen (EQ.out _ HQ8.out) 0
    have y1 := blk_frozen (EQ.out _ HQ8.out) 1
    have y2 := blk_frozen (EQ.out _ HQ8.out) 2
    have y3 := blk_frozen (EQ.out _ HQ8.out) 3
    go_upto_region 10 with (go_at_call 15; (with_reducible refine (CT.out o.f2 _ (HJ.out.below HQ8.out).inn).mono ?_); rintro e w9 ⟨rfl, hb9⟩; have HQ9 := Aside0.mk (below_step HQ8.out hb9); have HK9 := Aside0.mk ((hb9.block P6 (blk_lt HK8.out)).trans HK8.out); have RF9 := Aside0.mk (Kd.R_below RF8.out hb9); have RT9 := Aside0.mk (Kd.R_below RT8.out hb9); clear hb9 d0 d1 d2 d3' d4' d5 d6' u0 u1 u2 u3 u4 u5 u6 p0 p1 p2 p3 z0 z1 z2 z3 r0 r1 r2 r3 y0 y1 y2 y3; have p0 := (blk_cell HK9.out 0).trans rfl; have z0 := blk_frozen HK9.out 0)
    clear p0 z0
    have HKa := Aside0.mk (blk_is HK9.out 0 (.int .i64 (treeL j o.f1 o.f2).1) #[.int .i64 (treeL j o.f1 o.f2).1, .slice Aw7 (frontB o.f3).length cw7, .slice Aw8 (frontB o.f4).length cw8, .bool eb] rfl)
    have RFa := Aside0.mk (rset RF9.out HK9.out (by decide) 0 (.int .i64 (treeL j o.f1 o.f2).1))
    have RTa := Aside0.mk (rset RT9.out HK9.out (by decide) 0 (.int .i64 (treeL j o.f1 o.f2).1))
    have HQa := Aside0.mk (HQ9.out.setCell (p := ⟨P6, 0, none⟩) PB.out (.int .i64 (treeL j o.f1 o.f2).1))
    generalize w9.setCell ⟨P6, 0, none⟩ (.int .i64 (treeL j o.f1 o.f2).1) = wa at HKa RFa RTa HQa ⊢
    obtain ⟨d0, d1, d2, d3', d4', d5, d6'⟩ := (HJ.out.below HQa.out).cells
    obtain ⟨u0, u1, u2, u3, u4, u5, u6⟩ := (HO.out.below HQa.out).cells
    have p0 : wa.cell? ⟨P6, 0, none⟩ = some (.int .i64 (treeL j o.f1 o.f2).1) := (blk_cell HKa.out 0).trans rfl
    have p1 : wa.cell? ⟨P6, 1, none⟩ = some (.slice Aw7 (frontB o.f3).length cw7) := (blk_cell HKa.out 1).trans rfl
    have p2 : wa.cell? ⟨P6, 2, none⟩ = some (.slice Aw8 (frontB o.f4).length cw8) := (blk_cell HKa.out 2).trans rfl
    have p3 : wa.cell? ⟨P6, 3, none⟩ = some (.bool eb) := (blk_cell HKa.out 3).trans rfl
    have z0 := blk_frozen HKa.out 0
    have z1 := blk_frozen HKa.out 1
    have z2 := blk_frozen HKa.out 2
    have z3 := blk_frozen HKa.out 3
    have r0 := (blk_cell (EQ.out _ HQa.out) 0).trans rfl
    have r1 := (blk_cell (EQ.out _ HQa.out) 1).trans rfl
    have r2 := (blk_cell (EQ.out _ HQa.out) 2).trans rfl
    have r3 := (blk_cell (EQ.out _ HQa.out) 3).trans rfl
    have y0 := blk_frozen (EQ.out _ HQa.out) 0
    have y1 := blk_frozen (EQ.out _ HQa.out) 1
    have y2 := blk_frozen (EQ.out _ HQa.out) 2
    have y3 := blk_frozen (EQ.out _ HQa.out) 3
    go_wp2
    have HQb := put4_below (W := wa) HP.out (.int .i64 (treeL j o.f1 o.f2).1) (.slice Aw7 (frontB o.f3).length cw7) (.slice Aw8 (frontB o.f4).length cw8) (.bool eb)
    have hRF := put4_R RFa.out (EQ.out _ HQa.out) (by decide) (.int .i64 (treeL j o.f1 o.f2).1) (.slice Aw7 (frontB o.f3).length cw7) (.slice Aw8 (frontB o.f4).length cw8) (.bool eb)
    have hRT := put4_R RTa.out (EQ.out _ HQa.out) (by decide) (.int .i64 (treeL j o.f1 o.f2).1) (.slice Aw7 (frontB o.f3).length cw7) (.slice Aw8 (frontB o.f4).length cw8) (.bool eb)
    refine bodyPost_ret (range_end _ P2 rfl _ _ (.int .i64 (treeL j o.f1 o.f2).1) (.slice Aw7 (frontB o.f3).length cw7) (.slice Aw8 (frontB o.f4).length cw8) (.bool eb) 0 rfl rfl (put4_blk (EQ.out _ HQa.out) _ _ _ _)) rfl ?_
    obtain ⟨_, _, e1_, k1_, hC1⟩ := Kd.R_reads hRF
    obtain ⟨_, _, e2_, k2_, hC2⟩ := Kd.R_reads hRT
    cases e1_
    cases e2_
    rw [HRR.out]
    exact ⟨_, _, _, _, rfl, k1_, hC1, k2_, hC2, (below_step HB.out HQa.out).trans HQb⟩
  · have k5' : o.f0 = 5 := by omega
    have HRR := Aside0.mk (HR5.out (by first | trivial | rfl) k5')
    have ne6 : (o.f0 == 6) = false := beq_eq_false_iff_ne.2 k6
    clear k5' k6
    obtain ⟨d0, d1, d2, d3', d4', d5, d6'⟩ := (HJ.out.below HQ6.out).cells
    obtain ⟨u0, u1, u2, u3, u4, u5, u6⟩ := (HO.out.below HQ6.out).cells
    have p0 : w6.cell? ⟨P6, 0, none⟩ = some (.int .i64 0) := (blk_cell HK6.out 0).trans rfl
    have p1 : w6.cell? ⟨P6, 1, none⟩ = some (.slice A20 o.f3.length c20) := (blk_cell HK6.out 1).trans rfl
    have p2 : w6.cell? ⟨P6, 2, none⟩ = some (.slice A23 o.f4.length c23) := (blk_cell HK6.out 2).trans rfl
    have p3 : w6.cell? ⟨P6, 3, none⟩ = some (.bool eb) := (blk_cell HK6.out 3).trans rfl
    have z0 := blk_frozen HK6.out 0
    have z1 := blk_frozen HK6.out 1
    have z2 := blk_frozen HK6.out 2
    have z3 := blk_frozen HK6.out 3
    have r0 := (blk_cell (EQ.out _ HQ6.out) 0).trans rfl
    have r1 := (blk_cell (EQ.out _ HQ6.out) 1).trans rfl
    have r2 := (blk_cell (EQ.out _ HQ6.out) 2).trans rfl
    have r3 := (blk_cell (EQ.out _ HQ6.out) 3).trans rfl
    have y0 := blk_frozen (EQ.out _ HQ6.out) 0
    have y1 := blk_frozen (EQ.out _ HQ6.out) 1
    have y2 := blk_frozen (EQ.out _ HQ6.out) 2
    have y3 := blk_frozen (EQ.out _ HQ6.out) 3
    go_upto_region 10 with (go_at_call 15; (with_reducible refine (CT.out (-1) _ (HJ.out.below HQ6.out).inn).mono ?_); rintro e w9 ⟨rfl, hb9⟩; have HQ9 := Aside0.mk (below_step HQ6.out hb9); have HK9 := Aside0.mk ((hb9.block P6 (blk_lt HK6.out)).trans HK6.out); have RF9 := Aside0.mk (Kd.R_below RF6.out hb9); have RT9 := Aside0.mk (Kd.R_below RT6.out hb9); clear hb9 d0 d1 d2 d3' d4' d5 d6' u0 u1 u2 u3 u4 u5 u6 p0 p1 p2 p3 z0 z1 z2 z3 r0 r1 r2 r3 y0 y1 y2 y3; have p0 := (blk_cell HK9.out 0).trans rfl; have z0 := blk_frozen HK9.out 0)
    clear p0 z0
    have HKa := Aside0.mk (blk_is HK9.out 0 (.int .i64 (treeL j o.f1 (-1)).1) #[.int .i64 (treeL j o.f1 (-1)).1, .slice A20 o.f3.length c20, .slice A23 o.f4.length c23, .bool eb] rfl)
    have RFa := Aside0.mk (rset RF9.out HK9.out (by decide) 0 (.int .i64 (treeL j o.f1 (-1)).1))
    have RTa := Aside0.mk (rset RT9.out HK9.out (by decide) 0 (.int .i64 (treeL j o.f1 (-1)).1))
    have HQa := Aside0.mk (HQ9.out.setCell (p := ⟨P6, 0, none⟩) PB.out (.int .i64 (treeL j o.f1 (-1)).1))
    generalize w9.setCell ⟨P6, 0, none⟩ (.int .i64 (treeL j o.f1 (-1)).1) = wa at HKa RFa RTa HQa ⊢
    obtain ⟨d0, d1, d2, d3', d4', d5, d6'⟩ := (HJ.out.below HQa.out).cells
    obtain ⟨u0, u1, u2, u3, u4, u5, u6⟩ := (HO.out.below HQa.out).cells
    have p0 : wa.cell? ⟨P6, 0, none⟩ = some (.int .i64 (treeL j o.f1 (-1)).1) := (blk_cell HKa.out 0).trans rfl
    have p1 : wa.cell? ⟨P6, 1, none⟩ = some (.slice A20 o.f3.length c20) := (blk_cell HKa.out 1).trans rfl
    have p2 : wa.cell? ⟨P6, 2, none⟩ = some (.slice A23 o.f4.length c23) := (blk_cell HKa.out 2).trans rfl
    have p3 : wa.cell? ⟨P6, 3, none⟩ = some (.bool eb) := (blk_cell HKa.out 3).trans rfl
    have z0 := blk_frozen HKa.out 0
    have z1 := blk_frozen HKa.out 1
    have z2 := blk_frozen HKa.out 2
    have z3 := blk_frozen HKa.out 3
    have r0 := (blk_cell (EQ.out _ HQa.out) 0).trans rfl
    have r1 := (blk_cell (EQ.out _ HQa.out) 1).trans rfl
    have r2 := (blk_cell (EQ.out _ HQa.out) 2).trans rfl
    have r3 := (blk_cell (EQ.out _ HQa.out) 3).trans rfl
    have y0 := blk_frozen (EQ.out _ HQa.out) 0
    have y1 := blk_frozen (EQ.out _ HQa.out) 1
    have y2 := blk_frozen (EQ.out _ HQa.out) 2
    have y3 := blk_frozen (EQ.out _ HQa.out) 3
    go_wp2
    have HQb := put4_below (W := wa) HP.out (.int .i64 (treeL j o.f1 (-1)).1) (.slice A20 o.f3.length c20) (.slice A23 o.f4.length c23) (.bool eb)
    have hRF := put4_R RFa.out (EQ.out _ HQa.out) (by decide) (.int .i64 (treeL j o.f1 (-1)).1) (.slice A20 o.f3.length c20) (.slice A23 o.f4.length c23) (.bool eb)
    have hRT := put4_R RTa.out (EQ.out _ HQa.out) (by decide) (.int .i64 (treeL j o.f1 (-1)).1) (.slice A20 o.f3.length c20) (.slice A23 o.f4.length c23) (.bool eb)
    refine bodyPost_ret (range_end _ P2 rfl _ _ (.int .i64 (treeL j o.f1 (-1)).1) (.slice A20 o.f3.length c20) (.slice A23 o.f4.length c23) (.bool eb) 0 rfl rfl (put4_blk (EQ.out _ HQa.out) _ _ _ _)) rfl ?_
    obtain ⟨_, _, e1_, k1_, hC1⟩ := Kd.R_reads hRF
    obtain ⟨_, _, e2_, k2_, hC2⟩ := Kd.R_reads hRT
    cases e1_
    cases e2_
    rw [HRR.out]
    exact ⟨_, _, _, _, rfl, k1_, hC1, k2_, hC2, (below_step HB.out HQa.out).trans HQb⟩
end Go.Proofs.Ytecdnhmdodedmaa.Ch
