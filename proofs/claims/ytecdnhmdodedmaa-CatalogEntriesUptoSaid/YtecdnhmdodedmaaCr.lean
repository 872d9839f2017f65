/- The law CatalogJobs' call. -/
import Derived.Test.YtecdnhmdodedmaaCq
import Derived.Test.YtecdnhmdodedmaaCf
namespace Go.Proofs.Ytecdnhmdodedmaa.Ch
open Go.RowKit Go.Proofs.YtecdnhmdodedmaaW.PrintWords Go.Proofs.YtecdnhmdodedmaaW.PrintLast Go.Proofs.YtecdnhmdodedmaaW.PrintMore Go.Proofs.Ytecdnhmdodedmaa.HS Go.Proofs.Ytecdnhmdodedmaa.Ca Go.Proofs.Ytecdnhmdodedmaa.It
set_option linter.unusedVariables false
set_option linter.unusedSimpArgs false
theorem refNamed_call (j : Job) (A : Option Addr) (n : Nat) (w : World) (hj : j.In w A n) (hts : j.ts.length ≤ 1048576) : Calls Try.prog 9 #[.agg (j.v A n)] w fun e w' => ∃ v, e = .returned v ∧ Kd.R k40 40 w' w.heap.size (fun _ => True) v (namedL j) ∧ Below w.heap.size w w' :=
  garnerref16_Named.calls _ j.w j.l j.wi j.c j.d j.e A n j.ts (namedL j) w hj.C hj.h (refNamed_is j hts _ (Nat.le_refl _))
theorem refCheck_call (j : Job) (A : Option Addr) (n : Nat) (w : World) (hj : j.In w A n) (hts : j.ts.length ≤ 1048576) : Calls Try.prog 12 #[.agg (j.v A n)] w fun e w' => e = .returned (.int .i64 (err (ok j))) ∧ Below w.heap.size w w' :=
  garnerref16_Check.calls _ j.w j.l j.wi j.c j.d j.e A n j.ts (err (ok j)) w hj.C hj.h (refCheck_is j hts _ (Nat.le_refl _))
theorem refTree_call (j : Job) (A : Option Addr) (n : Nat) (a b : Int) (w : World) (hj : j.In w A n) (hts : j.ts.length ≤ 1048576) : Calls Try.prog 16 #[.agg (j.v A n), .int .i64 a, .int .i64 b] w fun e w' => e = .returned (.tuple #[.int .i64 (treeL j a b).1, .int .i64 (treeL j a b).2]) ∧ Below w.heap.size w w' :=
  garnerref16_Tree.calls _ j.w j.l j.wi j.c j.d j.e A n j.ts a b (treeL j a b).1 (treeL j a b).2 w hj.C hj.h (refTree_is j hts a b _ (Nat.le_refl _))
set_option maxHeartbeats 16000000 in
set_option maxRecDepth 100000 in
theorem jobs_walk (j : Job) (A : Option Addr) (n : Nat) (a b m : Int) (w : World) (hj : j.In w A n) (hts : j.ts.length ≤ 1048576) :
    Calls Try.prog 3 #[.agg (j.v A n), .int .i64 a, .int .i64 b, .int .i64 m] w (TrueP w) := by
  have hb := below_alloc (Below.refl w.heap.size w) (.cells (j.v A n) 24)
  have hblk := blk_new w (.cells (j.v A n) 24)
  have HJ1 := Aside0.mk (JobAt.mk hblk (hj.below hb))
  have HB1 := Aside0.mk hb
  obtain ⟨L, hL⟩ : ∃ L, L = namedL j := ⟨_, rfl⟩
  have CN := Aside0.mk (fun (W : World) (h : j.In W A n) => refNamed_call j A n W h hts)
  rw [← hL] at CN
  have CK := Aside0.mk (fun (W : World) (h : j.In W A n) => check j A n W h)
  have CR := Aside0.mk (fun (W : World) (h : j.In W A n) => refCheck_call j A n W h hts)
  obtain ⟨E, hE⟩ : ∃ E, E = err (ok j) := ⟨_, rfl⟩
  rw [← hE] at CK CR
  have CT := Aside0.mk (fun (W : World) (h : j.In W A n) => trees j A n W h)
  have hLn := namedL_len j
  rw [← hL] at hLn
  have h12 := names_le j
  rw [← hLn] at CT h12
  have CO := Aside0.mk (fun (m : Int) (Aw : Option Addr) (cw : Nat) (W : World) (h : j.In W A n) (hk : Kd.C k40 W Aw L.length L) => callsIn_calls (once_in j A Aw n cw L m W h hL hk))
  have CA := Aside0.mk (fun (W : World) (h : j.In W A n) => tree_in j A n a b W h)
  have CB := Aside0.mk (fun (W : World) (h : j.In W A n) => refTree_call j A n a b W h hts)
  obtain ⟨T, hT⟩ : ∃ T, T = treeL j a b := ⟨_, rfl⟩
  rw [← hT] at CA CB
  have OF := Aside0.mk (fun (i : Int) (W : World) (h : j.In W A n) => of_in j A n i W h)
  have OI := Aside0.mk (fun (i : Nat) (h : i < L.length) => And.intro (ofL_is j i (by rw [← hLn]; exact h)) (show rd_T40 L (i : Int) = ⟨(at_ (names j) i).1, (at_ (names j) i).2⟩ by rw [hL]; exact namedL_at j i (by rw [← hLn]; exact h)))
  have ON := Aside0.mk (fun (i : Int) (h : i < 0 ∨ (L.length : Int) ≤ i) => ofL_none j i (by rw [← hLn]; exact h))
  have H12 := Aside0.mk h12
  clear hj hb hblk hL hE hLn hT hts h12
  unfold Job.v at *
  go_enter Try.func3, Try.ntmps3
  go_upto_region 1 with fail
  obtain ⟨P, hP⟩ : ∃ P, w.heap.size = P := ⟨_, rfl⟩
  rw [hP] at HJ1 ⊢
  clear hP
  generalize World.alloc _ _ = w1 at HJ1 HB1 ⊢
  obtain ⟨c0, c1, c2, c3, c4, c5, c6⟩ := HJ1.out.cells
  by_cases hbig : 2000 < j.ts.length
  · go_wp2_with (go_at_call 8; (with_reducible refine (known_walk _).mono ?_); rintro e w2 ⟨rfl, hb⟩; have HB2 := Aside0.mk (below_step HB1.out hb); clear hb)
    go_ret
    exact ⟨rfl, HB2.out⟩
  · go_upto_region 4 with (go_at_call 9; (with_reducible refine (CN.out _ HJ1.out.inn).mono ?_); rintro e w2 ⟨v, rfl, ho, hb⟩; obtain ⟨AL, cl, rfl, hcl, hC⟩ := Kd.R_reads ho; have HL2 := Aside0.mk hC; have HB2 := Aside0.mk (below_step HB1.out hb); have HJ2 := Aside0.mk (HJ1.out.below hb); clear hb ho hC)
    clear c0 c1 c2 c3 c4 c5 c6
    have HD := Aside0.mk (below_drew (Below.refl w2.heap.size w2))
    obtain ⟨c0, c1, c2, c3, c4, c5, c6⟩ := HJ2.out.cells
    refine start_ (n := 26) (S := fun w' => w'.cell? ⟨P, 0, none⟩ = some (.int .i64 j.w) ∧ w'.cell? ⟨P, 1, none⟩ = some (.int .i64 j.l) ∧ w'.cell? ⟨P, 2, none⟩ = some (.int .i64 j.wi) ∧ w'.cell? ⟨P, 3, none⟩ = some (.int .i64 j.c) ∧ w'.cell? ⟨P, 4, none⟩ = some (.int .i64 j.d) ∧ w'.cell? ⟨P, 5, none⟩ = some (.int .i64 j.e) ∧ w'.cell? ⟨P, 6, none⟩ = some (.slice A j.ts.length n)) (ds := []) #[false, false, false, false, false, false, false, false, false, false, false, false, false, false, false, false, false, false, false, false, false, false, false, false, false, false] (by kernel_rfl) rfl rfl ⟨c0, c1, c2, c3, c4, c5, c6⟩ (fun hHeld => ?_)
    generalize w2.drew = w3 at hHeld HD ⊢
    refine take_ (i := 0) (N := some 25) (v := ?_) (a' := ?_) #[true, false, false, false, false, false, false, false, false, false, false, false, false, false, false, false, false, false, false, false, false, false, false, false, false, false] rfl rfl (by kernel_rfl) (fun _ _ _ h => h) (Or.inl ⟨by rfl, ?_⟩) hHeld ?_ ?_
    rotate_left
    · rintro w' ⟨s0, s1, s2, s3, s4, s5, s6⟩
      go_simp
      with_reducible rfl
    rotate_left
    · simp only [Act.put, List.setIfInBounds_toArray, List.set_cons_zero, List.set_cons_succ, i64_w, i32_w]
      rfl
    refine take_ (i := 3) (N := some 28) (v := ?_) (a' := ?_) #[true, false, false, true, false, false, false, false, false, false, false, false, false, false, false, false, false, false, false, false, false, false, false, false, false, false] rfl rfl (by kernel_rfl) (fun _ _ _ h => h) (Or.inl ⟨by rfl, ?_⟩) hHeld ?_ ?_
    rotate_left
    · rintro w' ⟨s0, s1, s2, s3, s4, s5, s6⟩
      go_simp
      with_reducible rfl
    rotate_left
    · simp only [Act.put, List.setIfInBounds_toArray, List.set_cons_zero, List.set_cons_succ, i64_w, i32_w]
      rfl
    refine one_ (i := 1) (N := some 26) #[true, true, false, true, false, false, false, false, false, false, false, false, false, false, false, false, false, false, false, false, false, false, false, false, false, false] rfl rfl (by kernel_rfl) (by decide) (fun K hK => ?_)
    refine goes_ Try.func11 (by kernel_rfl) rfl #[.agg #[.int .i64 j.w, .int .i64 j.l, .int .i64 j.wi, .int .i64 j.c, .int .i64 j.d, .int .i64 j.e, .slice A j.ts.length n]] (by rfl) rfl rfl (by (try simp only [List.map_toArray, List.map_cons, List.map_nil]); first | done | rfl) ?_
    have J3 := Aside0.mk (HJ2.out.below HD.out)
    with_reducible refine (CK.out _ J3.out.inn).mono ?_
    rintro e w4 ⟨rfl, hb⟩
    have HD4 := Aside0.mk (below_step HD.out hb)
    have J4 := Aside0.mk (J3.out.below hb)
    refine ⟨_, rfl, ?_⟩
    refine hK.out _ _ (J4.out.cells) (fun hHeld => ?_)
    clear hK K
    refine norm_ (a' := ?_) ?_ ?_
    rotate_left
    · show Act.put _ (some 26) _ = _
      simp only [Act.put, List.setIfInBounds_toArray, List.set_cons_zero, List.set_cons_succ, i64_w, i32_w]
      rfl
    refine one_ (i := 2) (N := some 27) #[true, true, true, true, false, false, false, false, false, false, false, false, false, false, false, false, false, false, false, false, false, false, false, false, false, false] rfl rfl (by kernel_rfl) (by decide) (fun K hK => ?_)
    refine goes_ Try.func10 (by kernel_rfl) rfl #[.int .i64 E] (by rfl) rfl rfl (by (try simp only [List.map_toArray, List.map_cons, List.map_nil]); first | done | rfl) ?_
    with_reducible refine (num_call _ _).mono ?_
    rintro e w5 ⟨rfl, hd⟩
    have HD5 := Aside0.mk (below_step HD4.out (drawn_below hd))
    have J5 := Aside0.mk (J4.out.below (drawn_below hd))
    refine ⟨_, rfl, ?_⟩
    refine hK.out _ _ (J5.out.cells) (fun hHeld => ?_)
    clear hK K
    refine norm_ (a' := ?_) ?_ ?_
    rotate_left
    · show Act.put _ (some 27) _ = _
      simp only [Act.put, List.setIfInBounds_toArray, List.set_cons_zero, List.set_cons_succ, i64_w, i32_w]
      rfl
    refine one_ (i := 4) (N := some 29) #[true, true, true, true, true, false, false, false, false, false, false, false, false, false, false, false, false, false, false, false, false, false, false, false, false, false] rfl rfl (by kernel_rfl) (by decide) (fun K hK => ?_)
    refine goes_ Try.func12 (by kernel_rfl) rfl #[.agg #[.int .i64 j.w, .int .i64 j.l, .int .i64 j.wi, .int .i64 j.c, .int .i64 j.d, .int .i64 j.e, .slice A j.ts.length n]] (by rfl) rfl rfl (by (try simp only [List.map_toArray, List.map_cons, List.map_nil]); first | done | rfl) ?_
    with_reducible refine (CR.out _ J5.out.inn).mono ?_
    rintro e w6 ⟨rfl, hb⟩
    have HD6 := Aside0.mk (below_step HD5.out hb)
    have J6 := Aside0.mk (J5.out.below hb)
    refine ⟨_, rfl, ?_⟩
    refine hK.out _ _ (J6.out.cells) (fun hHeld => ?_)
    clear hK K
    refine norm_ (a' := ?_) ?_ ?_
    rotate_left
    · show Act.put _ (some 29) _ = _
      simp only [Act.put, List.setIfInBounds_toArray, List.set_cons_zero, List.set_cons_succ, i64_w, i32_w]
      rfl
    refine pure_ (i := 5) (N := some 30) (v := ?_) (a' := ?_) #[true, true, true, true, true, true, false, false, false, false, false, false, false, false, false, false, false, false, false, false, false, false, false, false, false, false] rfl rfl (by kernel_rfl) (fun _ _ _ h => h) (Or.inl ⟨by rfl, ?_⟩) ?_ ?_
    rotate_left
    · intro w'
      go_simp
      with_reducible rfl
    rotate_left
    · simp only [Act.put, List.setIfInBounds_toArray, List.set_cons_zero, List.set_cons_succ, i64_w, i32_w]
      rfl
    refine pure_ (i := 6) (N := some 31) (v := ?_) (a' := ?_) #[true, true, true, true, true, true, true, false, false, false, false, false, false, false, false, false, false, false, false, false, false, false, false, false, false, false] rfl rfl (by kernel_rfl) (fun _ _ _ h => h) (Or.inl ⟨by rfl, ?_⟩) ?_ ?_
    rotate_left
    · intro w'
      go_simp
      with_reducible rfl
    rotate_left
    · simp only [Act.put, List.setIfInBounds_toArray, List.set_cons_zero, List.set_cons_succ, i64_w, i32_w]
      rfl
    refine take_ (i := 7) (N := some 32) (v := ?_) (a' := ?_) #[true, true, true, true, true, true, true, true, false, false, false, false, false, false, false, false, false, false, false, false, false, false, false, false, false, false] rfl rfl (by kernel_rfl) (fun _ _ _ h => h) (Or.inl ⟨by rfl, ?_⟩) hHeld ?_ ?_
    rotate_left
    · rintro w' ⟨s0, s1, s2, s3, s4, s5, s6⟩
      go_simp
      with_reducible rfl
    rotate_left
    · simp only [Act.put, List.setIfInBounds_toArray, List.set_cons_zero, List.set_cons_succ, i64_w, i32_w]
      rfl
    refine pure_ (i := 9) (N := some 34) (v := ?_) (a' := ?_) #[true, true, true, true, true, true, true, true, false, true, false, false, false, false, false, false, false, false, false, false, false, false, false, false, false, false] rfl rfl (by kernel_rfl) (fun _ _ _ h => h) (Or.inl ⟨by rfl, ?_⟩) ?_ ?_
    rotate_left
    · intro w'
      go_simp
      with_reducible rfl
    rotate_left
    · simp only [Act.put, List.setIfInBounds_toArray, List.set_cons_zero, List.set_cons_succ, i64_w, i32_w]
      rfl
    refine pure_ (i := 10) (N := some 35) (v := ?_) (a' := ?_) #[true, true, true, true, true, true, true, true, false, true, true, false, false, false, false, false, false, false, false, false, false, false, false, false, false, false] rfl rfl (by kernel_rfl) (fun _ _ _ h => h) (Or.inl ⟨by rfl, ?_⟩) ?_ ?_
    rotate_left
    · intro w'
      go_simp
      with_reducible rfl
    rotate_left
    · simp only [Act.put, List.setIfInBounds_toArray, List.set_cons_zero, List.set_cons_succ, i64_w, i32_w]
      rfl
    refine one_ (i := 8) (N := some 33) #[true, true, true, true, true, true, true, true, true, true, true, false, false, false, false, false, false, false, false, false, false, false, false, false, false, false] rfl rfl (by kernel_rfl) (by decide) (fun K hK => ?_)
    refine goes_ Try.func13 (by kernel_rfl) rfl #[.agg #[.int .i64 j.w, .int .i64 j.l, .int .i64 j.wi, .int .i64 j.c, .int .i64 j.d, .int .i64 j.e, .slice A j.ts.length n]] (by rfl) rfl rfl (by (try simp only [List.map_toArray, List.map_cons, List.map_nil]); first | done | rfl) ?_
    with_reducible refine (CT.out _ J6.out.inn).mono ?_
    rintro e w7 ⟨rfl, hb⟩
    have HD7 := Aside0.mk (below_step HD6.out hb)
    have J7 := Aside0.mk (J6.out.below hb)
    refine ⟨_, rfl, ?_⟩
    refine hK.out _ _ (J7.out.cells) (fun hHeld => ?_)
    clear hK K
    refine norm_ (a' := ?_) ?_ ?_
    rotate_left
    · show Act.put _ (some 33) _ = _
      simp only [Act.put, List.setIfInBounds_toArray, List.set_cons_zero, List.set_cons_succ, i64_w, i32_w]
      rfl
    refine pure_ (i := 11) (N := some 36) (v := ?_) (a' := ?_) #[true, true, true, true, true, true, true, true, true, true, true, true, false, false, false, false, false, false, false, false, false, false, false, false, false, false] rfl rfl (by kernel_rfl) (fun _ _ _ h => h) (Or.inl ⟨by rfl, ?_⟩) ?_ ?_
    rotate_left
    · intro w'
      go_simp
      with_reducible rfl
    rotate_left
    · simp only [Act.put, List.setIfInBounds_toArray, List.set_cons_zero, List.set_cons_succ, i64_w, i32_w]
      rfl
    refine pure_ (i := 12) (N := some 37) (v := ?_) (a' := ?_) #[true, true, true, true, true, true, true, true, true, true, true, true, true, false, false, false, false, false, false, false, false, false, false, false, false, false] rfl rfl (by kernel_rfl) (fun _ _ _ h => h) (Or.inl ⟨by rfl, ?_⟩) ?_ ?_
    rotate_left
    · intro w'
      go_simp
      with_reducible rfl
    rotate_left
    · simp only [Act.put, List.setIfInBounds_toArray, List.set_cons_zero, List.set_cons_succ, i64_w, i32_w]
      rfl
    refine pure_ (i := 13) (N := some 38) (v := ?_) (a' := ?_) #[true, true, true, true, true, true, true, true, true, true, true, true, true, true, false, false, false, false, false, false, false, false, false, false, false, false] rfl rfl (by kernel_rfl) (fun _ _ _ h => h) (Or.inl ⟨by rfl, ?_⟩) ?_ ?_
    rotate_left
    · intro w'
      go_simp
      with_reducible rfl
    rotate_left
    · simp only [Act.put, List.setIfInBounds_toArray, List.set_cons_zero, List.set_cons_succ, i64_w, i32_w]
      rfl
    refine take_ (i := 14) (N := some 39) (v := ?_) (a' := ?_) #[true, true, true, true, true, true, true, true, true, true, true, true, true, true, true, false, false, false, false, false, false, false, false, false, false, false] rfl rfl (by kernel_rfl) (fun _ _ _ h => h) (Or.inl ⟨by rfl, ?_⟩) hHeld ?_ ?_
    rotate_left
    · rintro w' ⟨s0, s1, s2, s3, s4, s5, s6⟩
      go_simp
      with_reducible rfl
    rotate_left
    · simp only [Act.put, List.setIfInBounds_toArray, List.set_cons_zero, List.set_cons_succ, i64_w, i32_w]
      rfl
    refine pure_ (i := 15) (N := some 40) (v := ?_) (a' := ?_) #[true, true, true, true, true, true, true, true, true, true, true, true, true, true, true, true, false, false, false, false, false, false, false, false, false, false] rfl rfl (by kernel_rfl) (fun _ _ _ h => h) (Or.inl ⟨by rfl, ?_⟩) ?_ ?_
    rotate_left
    · intro w'
      go_simp
      with_reducible rfl
    rotate_left
    · simp only [Act.put, List.setIfInBounds_toArray, List.set_cons_zero, List.set_cons_succ, i64_w, i32_w]
      rfl
    refine pure_ (i := 16) (N := some 41) (v := ?_) (a' := ?_) #[true, true, true, true, true, true, true, true, true, true, true, true, true, true, true, true, true, false, false, false, false, false, false, false, false, false] rfl rfl (by kernel_rfl) (fun _ _ _ h => h) (Or.inl ⟨by rfl, ?_⟩) ?_ ?_
    rotate_left
    · intro w'
      go_simp
      with_reducible rfl
    rotate_left
    · simp only [Act.put, List.setIfInBounds_toArray, List.set_cons_zero, List.set_cons_succ, i64_w, i32_w]
      rfl
    refine one_ (i := 17) (N := some 42) #[true, true, true, true, true, true, true, true, true, true, true, true, true, true, true, true, true, true, false, false, false, false, false, false, false, false] rfl rfl (by kernel_rfl) (by decide) (fun K hK => ?_)
    refine goes_ Try.func14 (by kernel_rfl) rfl #[.agg #[.int .i64 j.w, .int .i64 j.l, .int .i64 j.wi, .int .i64 j.c, .int .i64 j.d, .int .i64 j.e, .slice A j.ts.length n], .slice AL L.length cl, .int .i64 m] (by rfl) rfl rfl (by (try simp only [List.map_toArray, List.map_cons, List.map_nil]); first | done | rfl) ?_
    with_reducible refine (CO.out m _ _ _ J7.out.inn (Kd.C_below HL2.out HD7.out)).mono ?_
    rintro e w8 ⟨rfl, hb⟩
    have HD8 := Aside0.mk (below_step HD7.out hb)
    have J8 := Aside0.mk (J7.out.below hb)
    refine ⟨_, rfl, ?_⟩
    refine hK.out _ _ (J8.out.cells) (fun hHeld => ?_)
    clear hK K
    refine norm_ (a' := ?_) ?_ ?_
    rotate_left
    · show Act.put _ (some 42) _ = _
      simp only [Act.put, List.setIfInBounds_toArray, List.set_cons_zero, List.set_cons_succ, i64_w, i32_w]
      rfl
    refine pure_ (i := 18) (N := some 43) (v := ?_) (a' := ?_) #[true, true, true, true, true, true, true, true, true, true, true, true, true, true, true, true, true, true, true, false, false, false, false, false, false, false] rfl rfl (by kernel_rfl) (fun _ _ _ h => h) (Or.inl ⟨by rfl, ?_⟩) ?_ ?_
    rotate_left
    · intro w'
      go_simp
      with_reducible rfl
    rotate_left
    · simp only [Act.put, List.setIfInBounds_toArray, List.set_cons_zero, List.set_cons_succ, i64_w, i32_w]
      rfl
    refine pure_ (i := 19) (N := some 44) (v := ?_) (a' := ?_) #[true, true, true, true, true, true, true, true, true, true, true, true, true, true, true, true, true, true, true, true, false, false, false, false, false, false] rfl rfl (by kernel_rfl) (fun _ _ _ h => h) (Or.inl ⟨by rfl, ?_⟩) ?_ ?_
    rotate_left
    · intro w'
      go_simp
      with_reducible rfl
    rotate_left
    · simp only [Act.put, List.setIfInBounds_toArray, List.set_cons_zero, List.set_cons_succ, i64_w, i32_w]
      rfl
    refine pure_ (i := 20) (N := some 45) (v := ?_) (a' := ?_) #[true, true, true, true, true, true, true, true, true, true, true, true, true, true, true, true, true, true, true, true, true, false, false, false, false, false] rfl rfl (by kernel_rfl) (fun _ _ _ h => h) (Or.inl ⟨by rfl, ?_⟩) ?_ ?_
    rotate_left
    · intro w'
      go_simp
      with_reducible rfl
    rotate_left
    · simp only [Act.put, List.setIfInBounds_toArray, List.set_cons_zero, List.set_cons_succ, i64_w, i32_w]
      rfl
    refine take_ (i := 21) (N := some 46) (v := ?_) (a' := ?_) #[true, true, true, true, true, true, true, true, true, true, true, true, true, true, true, true, true, true, true, true, true, true, false, false, false, false] rfl rfl (by kernel_rfl) (fun _ _ _ h => h) (Or.inl ⟨by rfl, ?_⟩) hHeld ?_ ?_
    rotate_left
    · rintro w' ⟨s0, s1, s2, s3, s4, s5, s6⟩
      go_simp
      with_reducible rfl
    rotate_left
    · simp only [Act.put, List.setIfInBounds_toArray, List.set_cons_zero, List.set_cons_succ, i64_w, i32_w]
      rfl
    refine pure_ (i := 22) (N := some 47) (v := ?_) (a' := ?_) #[true, true, true, true, true, true, true, true, true, true, true, true, true, true, true, true, true, true, true, true, true, true, true, false, false, false] rfl rfl (by kernel_rfl) (fun _ _ _ h => h) (Or.inl ⟨by rfl, ?_⟩) ?_ ?_
    rotate_left
    · intro w'
      go_simp
      with_reducible rfl
    rotate_left
    · simp only [Act.put, List.setIfInBounds_toArray, List.set_cons_zero, List.set_cons_succ, i64_w, i32_w]
      rfl
    refine one_ (i := 23) (N := some 48) #[true, true, true, true, true, true, true, true, true, true, true, true, true, true, true, true, true, true, true, true, true, true, true, true, false, false] rfl rfl (by kernel_rfl) (by decide) (fun K hK => ?_)
    refine goes_ Try.func14 (by kernel_rfl) rfl #[.agg #[.int .i64 j.w, .int .i64 j.l, .int .i64 j.wi, .int .i64 j.c, .int .i64 j.d, .int .i64 j.e, .slice A j.ts.length n], .slice AL L.length cl, .int .i64 0] (by rfl) rfl rfl (by (try simp only [List.map_toArray, List.map_cons, List.map_nil]); first | done | rfl) ?_
    with_reducible refine (CO.out 0 _ _ _ J8.out.inn (Kd.C_below HL2.out HD8.out)).mono ?_
    rintro e w9 ⟨rfl, hb⟩
    have HD9 := Aside0.mk (below_step HD8.out hb)
    have J9 := Aside0.mk (J8.out.below hb)
    refine ⟨_, rfl, ?_⟩
    refine hK.out _ _ (J9.out.cells) (fun hHeld => ?_)
    clear hK K
    refine norm_ (a' := ?_) ?_ ?_
    rotate_left
    · show Act.put _ (some 48) _ = _
      simp only [Act.put, List.setIfInBounds_toArray, List.set_cons_zero, List.set_cons_succ, i64_w, i32_w]
      rfl
    refine pure_ (i := 24) (N := some 49) (v := ?_) (a' := ?_) #[true, true, true, true, true, true, true, true, true, true, true, true, true, true, true, true, true, true, true, true, true, true, true, true, true, false] rfl rfl (by kernel_rfl) (fun _ _ _ h => h) (Or.inl ⟨by rfl, ?_⟩) ?_ ?_
    rotate_left
    · intro w'
      go_simp
      with_reducible rfl
    rotate_left
    · simp only [Act.put, List.setIfInBounds_toArray, List.set_cons_zero, List.set_cons_succ, i64_w, i32_w]
      rfl
    refine pure_ (i := 25) (N := some 50) (v := ?_) (a' := ?_) #[true, true, true, true, true, true, true, true, true, true, true, true, true, true, true, true, true, true, true, true, true, true, true, true, true, true] rfl rfl (by kernel_rfl) (fun _ _ _ h => h) (Or.inl ⟨by rfl, ?_⟩) ?_ ?_
    rotate_left
    · intro w'
      go_simp
      with_reducible rfl
    rotate_left
    · simp only [Act.put, List.setIfInBounds_toArray, List.set_cons_zero, List.set_cons_succ, i64_w, i32_w]
      rfl
    refine done_ (by kernel_rfl) ?_
    simp only [Exit.then]
    have HB9 := Aside0.mk (below_step HB2.out HD9.out)
    have HL9 := Aside0.mk (Kd.C_below HL2.out HD9.out)
    clear HD HD4 HD5 HD6 HD7 HD8 HD9 J3 J4 J5 J6 J7 J8 hHeld c0 c1 c2 c3 c4 c5 c6 HL2 HB2 HJ2
    obtain ⟨c0, c1, c2, c3, c4, c5, c6⟩ := J9.out.cells
    go_upto_region 7 with (go_at_call 15; (with_reducible refine (CA.out _ J9.out.inn).mono ?_); rintro e w10 ⟨rfl, hb⟩; have HB10 := Aside0.mk (below_step HB9.out hb); have HL10 := Aside0.mk (Kd.C_below HL9.out hb); have J10 := Aside0.mk (J9.out.below hb); clear hb)
    clear c0 c1 c2 c3 c4 c5 c6
    obtain ⟨c0, c1, c2, c3, c4, c5, c6⟩ := J10.out.cells
    go_upto_region 8 with (go_at_call 16; (with_reducible refine (CB.out _ J10.out.inn).mono ?_); rintro e w11 ⟨rfl, hb⟩; have HB11 := Aside0.mk (below_step HB10.out hb); have HL11 := Aside0.mk (Kd.C_below HL10.out hb); have J11 := Aside0.mk (J10.out.below hb); clear hb)
    clear c0 c1 c2 c3 c4 c5 c6
    go_wp2_with (go_at_call 10; (with_reducible refine (num_call _ _).mono ?_); rintro e w12 ⟨rfl, hd⟩; have HB12 := Aside0.mk (below_step HB11.out (drawn_below hd)); have HL12 := Aside0.mk (Kd.C_below HL11.out (drawn_below hd)); have J12 := Aside0.mk (J11.out.below (drawn_below hd)); clear hd)
    have HLT := Aside0.mk (show L.length ≤ 12 from H12.out)
    have q12 := H12.out
    go_loopw [14] (fun v w' => ∃ i : Int, v = .int .i64 i ∧ -1 ≤ i ∧ i ≤ (L.length : Int) + 1 ∧ Aside0 (Below w.heap.size w w') ∧ Aside0 (Kd.C k40 w' AL L.length L) ∧ Aside0 (JobAt j A n P w')) (fun v _ => ((L.length : Int) + 1 - intOf v).toNat)
    case atStart => exact ⟨-1, rfl, by omega, by omega, HB12, HL12, J12⟩
    case round =>
      obtain ⟨i, rfl, i1, i2, hb, hl, hj⟩ := hrel
      by_cases hle : i ≤ (L.length : Int)
      · obtain ⟨c0, c1, c2, c3, c4, c5, c6⟩ := hj.out.cells
        by_cases h0 : i < 0
        · have OF1 := Aside0.mk (OF.out i wr hj.out.inn)
          rw [ON.out i (Or.inl h0)] at OF1
          dsimp only at OF1
          go_wp2_with (first | (go_at_call 17; (with_reducible refine OF1.out.mono ?_); rintro e w2 ⟨rfl, hb2⟩; have HB2 := Aside0.mk (below_step hb.out hb2); have HL2 := Aside0.mk (Kd.C_below hl.out hb2); have J2 := Aside0.mk (hj.out.below hb2); clear hb2) | (go_at_call 10; (with_reducible refine (num_call _ _).mono ?_); rintro e w3 ⟨rfl, hd⟩; have HB3 := Aside0.mk (below_step HB2.out (drawn_below hd)); have HL3 := Aside0.mk (Kd.C_below HL2.out (drawn_below hd)); have J3 := Aside0.mk (J2.out.below (drawn_below hd)); clear hd))
          go_roundw
          case rel => exact ⟨i + 1, rfl, by omega, by omega, HB3, HL3, J3⟩
          case measure => simp [intOf]; omega
        · by_cases h1 : (L.length : Int) ≤ i
          · have OF1 := Aside0.mk (OF.out i wr hj.out.inn)
            rw [ON.out i (Or.inr h1)] at OF1
            dsimp only at OF1
            go_wp2_with (first | (go_at_call 17; (with_reducible refine OF1.out.mono ?_); rintro e w2 ⟨rfl, hb2⟩; have HB2 := Aside0.mk (below_step hb.out hb2); have HL2 := Aside0.mk (Kd.C_below hl.out hb2); have J2 := Aside0.mk (hj.out.below hb2); clear hb2) | (go_at_call 10; (with_reducible refine (num_call _ _).mono ?_); rintro e w3 ⟨rfl, hd⟩; have HB3 := Aside0.mk (below_step HB2.out (drawn_below hd)); have HL3 := Aside0.mk (Kd.C_below HL2.out (drawn_below hd)); have J3 := Aside0.mk (J2.out.below (drawn_below hd)); clear hd))
            go_roundw
            case rel => exact ⟨i + 1, rfl, by omega, by omega, HB3, HL3, J3⟩
            case measure => simp [intOf]; omega
          · obtain ⟨q, rfl⟩ := Int.eq_ofNat_of_zero_le (show 0 ≤ i by omega)
            have hq : q < L.length := by omega
            have OF1 := Aside0.mk (OF.out (q : Int) wr hj.out.inn)
            rw [(OI.out q hq).1] at OF1
            dsimp only at OF1
            obtain ⟨ad, ea, x0, x1⟩ := at_T40 hl.out (q : Int) (by omega) (by omega)
            subst ea
            rw [(OI.out q hq).2] at x0 x1
            dsimp only at x0 x1
            rw [Int.toNat_natCast] at x0 x1
            generalize at_ (names j) q = y at OF1 x0 x1
            have X0 := Aside0.mk x0
            have X1 := Aside0.mk x1
            have k0 : (0 : Int) ≤ (q : Int) := by omega
            have k1 : (q : Int) < (L.length : Int) := by omega
            clear x0 x1
            go_wp2_with (first | (go_at_call 17; (with_reducible refine OF1.out.mono ?_); rintro e w2 ⟨rfl, hb2⟩; have HB2 := Aside0.mk (below_step hb.out hb2); have HL2 := Aside0.mk (Kd.C_below hl.out hb2); have J2 := Aside0.mk (hj.out.below hb2); have x0 := pw_cell_below hb2 X0.out; have x1 := pw_cell_below hb2 X1.out; clear hb2) | (go_at_call 10; (with_reducible refine (num_call _ _).mono ?_); rintro e w3 ⟨rfl, hd⟩; have HB3 := Aside0.mk (below_step HB2.out (drawn_below hd)); have HL3 := Aside0.mk (Kd.C_below HL2.out (drawn_below hd)); have J3 := Aside0.mk (J2.out.below (drawn_below hd)); have y0 := pw_cell_below (drawn_below hd) x0; have y1 := pw_cell_below (drawn_below hd) x1; clear hd))
            go_roundw
            case rel => exact ⟨(q : Int) + 1, rfl, by omega, by omega, HB3, HL3, J3⟩
            case measure => simp [intOf]; omega
      · go_wp2_with (go_at_call 8; (with_reducible refine (known_walk _).mono ?_); rintro e w2 ⟨rfl, hb2⟩; have HB2 := Aside0.mk (below_step hb.out hb2); clear hb2)
        go_ret
        exact ⟨rfl, HB2.out⟩
abbrev kj : Kd (Int × Int × Int × Int × Int × Int × List Int) := Kd.pair (Kd.int .i64) (Kd.pair (Kd.int .i64) (Kd.pair (Kd.int .i64) (Kd.pair (Kd.int .i64) (Kd.pair (Kd.int .i64) (Kd.pair (Kd.int .i64) (Kd.slice 3 (Kd.int .i64)))))))
def jobX (x : Int × Int × Int × Int × Int × Int × List Int) : Job := ⟨x.1, x.2.1, x.2.2.1, x.2.2.2.1, x.2.2.2.2.1, x.2.2.2.2.2.1, x.2.2.2.2.2.2⟩
theorem job_open {W : World} {x : Int × Int × Int × Int × Int × Int × List Int} {cs : Array Value} (h : kj.K W x cs.toList) : ∃ A n, cs = (jobX x).v A n ∧ (jobX x).In W A n := by
  obtain ⟨_, _, e, rfl, ⟨_, _, rfl, rfl, ⟨_, _, rfl, rfl, ⟨_, _, rfl, rfl, ⟨_, _, rfl, rfl, ⟨_, _, rfl, rfl, ⟨A, n, rfl, hn, hC⟩⟩⟩⟩⟩⟩⟩ := h
  exact ⟨A, n, by rw [← Array.toArray_toList (xs := cs), e]; rfl, hC, hn⟩
theorem jobs_law (x : Int × Int × Int × Int × Int × Int × List Int) (cs : Array Value) (a b m : Int) (W : World) (h : kj.K W x cs.toList) (hl : x.2.2.2.2.2.2.length ≤ 1048576) :
    Calls Try.prog 3 #[.agg cs, .int .i64 a, .int .i64 b, .int .i64 m] W (TrueP W) := by
  obtain ⟨A, n, rfl, hj⟩ := job_open h
  exact jobs_walk (jobX x) A n a b m W hj hl
end Go.Proofs.Ytecdnhmdodedmaa.Ch
