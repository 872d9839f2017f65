/- The references' reader, more of its calls: Signed, Flag, Numbers. -/
import Derived.Test.YtmghnbdbhdljjaaRr
import Derived.Test.YtmghnbdbhdljjaaTk
namespace Go.Proofs.Ytmghnbdbhdljjaa.Rr
open Go.RowKit Go.Proofs.YtmghnbdbhdljjaaW.PrintWords Go.Proofs.YtmghnbdbhdljjaaW.PrintLast Go.Proofs.YtmghnbdbhdljjaaW.PrintMore
set_option linter.unusedVariables false
set_option linter.unusedSimpArgs false
def unf (a0 : Int) : Int := if (Int.tmod a0 2) = 1 then (wrap64 ((wrap64 (-(wrap64 (IntKind.u64.wrap (Int.tdiv a0 2))))) - 1)) else (wrap64 (IntKind.u64.wrap (Int.tdiv a0 2)))
theorem unf_sgn (x : Nat) (hx : x < 18446744073709551616) : unf (x : Int) = Rd.sgn x := by
  unfold unf Rd.sgn
  rw [Int.tmod_eq_emod_of_nonneg (by omega), Int.tdiv_eq_ediv_of_nonneg (by omega), show (x : Int) / 2 = ((x / 2 : Nat) : Int) by omega]
  by_cases h : x % 2 = 1
  · rw [if_pos (by omega), if_pos h, IntKind.wrap_u64]; unfold wrap64; omega
  · rw [if_neg (by omega), if_neg h, IntKind.wrap_u64]; unfold wrap64; omega
set_option maxRecDepth 100000 in
theorem unfolded (a0 : Int) (w : World) : Calls Try.prog 46 #[.int .u64 a0] w fun e w' => e = .returned (.int .i64 (unf a0)) ∧ Drawn0 w w' := by
  unfold unf
  by_cases c2 : (Int.tmod a0 2) = 1
  · rw [if_pos c2]
    have c2b0 : ((Int.tmod a0 2) == 1) = true := beq_iff_eq.mpr c2
    have c2b1 : ((Int.tmod a0 2) != 1) = false := bne_eq_false_iff_eq.mpr c2
    clear c2
    go_enter Try.func46, Try.ntmps46
    go_wp2
    go_ret
    exact ⟨by first | rfl | (simp; done) | (simp [*]; done), by repeat (first | exact Drawn0.refl _ | apply Drawn0.step)⟩
  · rw [if_neg c2]
    have c2b0 : ((Int.tmod a0 2) == 1) = false := beq_eq_false_iff_ne.mpr c2
    have c2b1 : ((Int.tmod a0 2) != 1) = true := bne_iff_ne.mpr c2
    clear c2
    go_enter Try.func46, Try.ntmps46
    go_wp2
    go_ret
    exact ⟨by first | rfl | (simp; done) | (simp [*]; done), by repeat (first | exact Drawn0.refl _ | apply Drawn0.step)⟩
def OnePost (R : Int × Int × Nat) (g N : Nat) (b : List Int) (w : World) (e : Ending) (w' : World) : Prop := e = .returned (.tuple #[.int .u64 R.2.1, .int .i64 R.1]) ∧ Is w' g N b R.2.2 ∧ w.grownBy w' (some g)
theorem one_call (g N : Nat) (b : List Int) (n : Nat) (w : World) (h : Is w g N b n) (hbl : b.length ≤ 140737488355328) : Calls Try.prog 40 #[.pointer (some ⟨g, 0, none⟩)] w (OnePost (Tk.num1 b n) g N b w) := by
  cases hr : Rd.rnum b 10 n 0 0 with
  | none =>
    have e : Tk.num1 b n = (4, 0, n) := by unfold Tk.num1; rw [hr]
    rw [e]
    exact (number_none w h hbl hr).mono fun e w' ⟨h1, h2, h3⟩ => ⟨h1, h2, h3.but _⟩
  | some q =>
    obtain ⟨x, m⟩ := q
    have e : Tk.num1 b n = (0, (x : Int), m) := by unfold Tk.num1; rw [hr]
    rw [e]
    exact (number_some w h hbl hr).mono fun e w' ⟨h1, h2, h3⟩ => ⟨h1, h2, h3⟩
/-- A signed number read: error, number, place. -/
def sig1 (b : List Int) (n : Nat) : Int × Int × Nat := match Rd.rnum b 10 n 0 0 with
  | some (x, m) => (0, Rd.sgn x, m)
  | none => (4, 0, n)
def SigPost (R : Int × Int × Nat) (g N : Nat) (b : List Int) (w : World) (e : Ending) (w' : World) : Prop := e = .returned (.tuple #[.int .i64 R.2.1, .int .i64 R.1]) ∧ Is w' g N b R.2.2 ∧ w.grownBy w' (some g)
theorem sig_unf (b : List Int) (n : Nat) : sig1 b n = ((Tk.num1 b n).1, unf (Tk.num1 b n).2.1, (Tk.num1 b n).2.2) := by
  unfold sig1 Tk.num1
  cases hr : Rd.rnum b 10 n 0 0 with
  | none =>
    show ((4 : Int), (0 : Int), n) = (4, unf 0, n)
    rw [show unf 0 = 0 from unf_sgn 0 (by decide)]
  | some q =>
    obtain ⟨x, m⟩ := q
    have := Rd.rnum_bd hr
    dsimp only
    rw [unf_sgn x this.1]
set_option maxRecDepth 100000 in
theorem signed (g N : Nat) (b : List Int) (n : Nat) (w : World) (h : Is w g N b n) (hbl : b.length ≤ 140737488355328) : Calls Try.prog 41 #[.pointer (some ⟨g, 0, none⟩)] w (SigPost (sig1 b n) g N b w) := by
  have HC := Aside0.mk (one_call g N b n w h hbl)
  rw [sig_unf]
  generalize Tk.num1 b n = R at HC ⊢
  obtain ⟨e1, x1, m1⟩ := R
  clear h
  go_enter Try.func41, Try.ntmps41
  go_wp2_with (first | (go_at_call 40; refine HC.out.mono ?_; rintro e w1 ⟨rfl, hi, hg⟩; dsimp only at hi; have HI := Aside0.mk hi; have HG := Aside0.mk hg; clear hi hg) | (go_at_call 46; refine (unfolded _ _).mono ?_; rintro e w2 ⟨rfl, hd⟩; have HD := Aside0.mk hd; clear hd))
  go_ret2
  exact ⟨rfl, HI.out.below HD.out.below, HG.out.trans (Rd.grown_drawn HD.out _)⟩
def FlagPost (R : Option Bool) (g N : Nat) (b : List Int) (n : Nat) (w : World) (e : Ending) (w' : World) : Prop := match R with
  | some f => e = .returned (.tuple #[.bool f, .int .i64 0]) ∧ Is w' g N b (n + 1) ∧ w.grownBy w' (some g)
  | none => e = .returned (.tuple #[.bool false, .int .i64 4]) ∧ Is w' g N b n ∧ w.grownBy w' none
set_option maxHeartbeats 4000000 in
set_option maxRecDepth 100000 in
theorem flag (g N : Nat) (b : List Int) (n : Nat) (w : World) (h : Is w g N b n) :
    Calls Try.prog 42 #[.pointer (some ⟨g, 0, none⟩)] w (FlagPost (Rd.rflag b n) g N b n w) := by
  have H := Aside0.mk h
  obtain ⟨A, c, c0, c1, cf, hc, hr⟩ := h.open_
  have hn := h.le
  have hm := h.max
  obtain ⟨q, hq⟩ : ∃ q : Int, q = ((b.length - n : Nat) : Int) := ⟨_, rfl⟩
  have CL := Aside0.mk (fun (W : World) (h : Is W g N b n) => left g N b n W h)
  rw [← hq] at CL
  have HD := Aside0.mk (h.drewN 1)
  have HG := Aside0.mk (Rd.grown_drewN w 1 none)
  change Aside0 (Is w.drew g N b n) at HD
  change Aside0 (w.grownBy w.drew none) at HG
  by_cases hlt : n < b.length
  · obtain ⟨A1, k1, d0, d1, df, dc, dr⟩ := HD.out.open_
    obtain ⟨ad1, e', hx⟩ := Kd.at_int dr.out (n : Int) (by omega) (by omega)
    subst e'
    have hb := Rd.byt_rd H.out.byt hlt
    simp only [Int.toNat_natCast, Nat.mul_one] at hx
    have hr1 : Rd.rflag b n = if rd b n ≤ 1 then some (rd b n == 1) else none := if_pos hlt
    rw [hr1]
    obtain ⟨v, hv⟩ : ∃ v, v = rd b (n : Int) := ⟨_, rfl⟩
    rw [← hv] at hx hb ⊢
    have gq : (q == 0) = false := by rw [beq_eq_false_iff_ne]; omega
    have n0 : (0 : Int) ≤ (n : Int) := by omega
    have n1 : (n : Int) < (b.length : Int) := by omega
    have HLT := Aside0.mk hlt
    have HV := Aside0.mk hv
    have hw : wrap64 ((n : Int) + 1) = ((n + 1 : Nat) : Int) := Rd.wrap_up n (Nat.lt_of_lt_of_le hlt hm)
    have hw2 : wrap64 (((n + 1 : Nat) : Int) - 1) = (n : Int) := Rd.wrap_back n (Nat.lt_of_lt_of_le hlt hm)
    clear h hq hlt hr1 hr hv c0 c1 cf
    by_cases hv1 : v ≤ 1
    · rw [if_pos hv1]
      have gv : decide (1 < v) = false := decide_eq_false (by omega)
      clear hv1 hb
      go_enter Try.func42, Try.ntmps42
      go_wp2
      refine start_ (n := 16) (S := fun w' => w'.cell? ⟨g, 0, none⟩ = some (.slice (some ad1) b.length k1) ∧ w'.cell? ⟨g, 1, none⟩ = some (.int .i64 n) ∧ w'.cell? (ad1.add n) = some (.int .u8 v)) (ds := []) #[false, false, false, false, false, false, false, false, false, false, false, false, false, false, false, false] (by kernel_rfl) rfl rfl ⟨d0, d1, hx⟩ (fun hHeld => ?_)
      generalize w.drew = w1 at hHeld HD HG d0 d1 df dr hx ⊢
      refine pure_ (i := 0) (N := some 4) (v := ?_) (a' := ?_) #[true, false, false, false, false, false, false, false, false, false, false, false, false, false, false, false] rfl rfl (by kernel_rfl) (fun _ _ _ h => h) (Or.inl ⟨by rfl, ?_⟩) ?_ ?_
      rotate_left
      · intro w'
        go_simp
        with_reducible rfl
      rotate_left
      · simp only [Act.put, List.setIfInBounds_toArray, List.set_cons_zero, List.set_cons_succ, i64_w, i32_w]
        rfl
      refine one_ (i := 1) (N := some 5) #[true, true, false, false, false, false, false, false, false, false, false, false, false, false, false, false] rfl rfl (by kernel_rfl) (by decide) (fun K hK => ?_)
      refine goes_ Try.func32 (by kernel_rfl) rfl #[.pointer (some ⟨g, 0, none⟩)] (by rfl) rfl rfl (by (try simp only [List.map_toArray, List.map_cons, List.map_nil]); first | done | rfl) ?_
      with_reducible refine (CL.out _ HD.out).mono ?_
      rintro e w2 ⟨rfl, ⟨m, rfl⟩⟩
      refine ⟨_, rfl, ?_⟩
      refine hK.out _ _ ⟨d0, d1, hx⟩ (fun hHeld => ?_)
      clear hK K
      refine norm_ (a' := ?_) ?_ ?_
      rotate_left
      · show Act.put _ (some 5) _ = _
        simp only [Act.put, List.setIfInBounds_toArray, List.set_cons_zero, List.set_cons_succ, i64_w, i32_w]
        rfl
      refine pure_ (i := 2) (N := some 6) (v := ?_) (a' := ?_) #[true, true, true, false, false, false, false, false, false, false, false, false, false, false, false, false] rfl rfl (by kernel_rfl) (fun _ _ _ h => h) (Or.inl ⟨by rfl, ?_⟩) ?_ ?_
      rotate_left
      · intro w'
        go_simp
        with_reducible rfl
      rotate_left
      · simp only [Act.put, List.setIfInBounds_toArray, List.set_cons_zero, List.set_cons_succ, i64_w, i32_w]
        rfl
      refine pure_ (i := 3) (N := some 7) (v := ?_) (a' := ?_) #[true, true, true, true, false, false, false, false, false, false, false, false, false, false, false, false] rfl rfl (by kernel_rfl) (fun _ _ _ h => h) (Or.inl ⟨by rfl, ?_⟩) ?_ ?_
      rotate_left
      · intro w'
        go_simp
        with_reducible rfl
      rotate_left
      · simp only [Act.put, List.setIfInBounds_toArray, List.set_cons_zero, List.set_cons_succ, i64_w, i32_w]
        rfl
      refine pure_ (i := 4) (N := some 8) (v := ?_) (a' := ?_) #[true, true, true, true, true, false, false, false, false, false, false, false, false, false, false, false] rfl rfl (by kernel_rfl) (fun _ _ _ h => h) (Or.inl ⟨by rfl, ?_⟩) ?_ ?_
      rotate_left
      · intro w'
        go_simp
        with_reducible rfl
      rotate_left
      · simp only [Act.put, List.setIfInBounds_toArray, List.set_cons_zero, List.set_cons_succ, i64_w, i32_w]
        rfl
      refine pure_ (i := 5) (N := some 9) (v := ?_) (a' := ?_) #[true, true, true, true, true, true, false, false, false, false, false, false, false, false, false, false] rfl rfl (by kernel_rfl) (fun _ _ _ h => h) (Or.inl ⟨by rfl, ?_⟩) ?_ ?_
      rotate_left
      · intro w'
        go_simp
        with_reducible rfl
      rotate_left
      · simp only [Act.put, List.setIfInBounds_toArray, List.set_cons_zero, List.set_cons_succ, i64_w, i32_w]
        rfl
      refine pure_ (i := 6) (N := some 10) (v := ?_) (a' := ?_) #[true, true, true, true, true, true, true, false, false, false, false, false, false, false, false, false] rfl rfl (by kernel_rfl) (fun _ _ _ h => h) (Or.inl ⟨by rfl, ?_⟩) ?_ ?_
      rotate_left
      · intro w'
        go_simp
        with_reducible rfl
      rotate_left
      · simp only [Act.put, List.setIfInBounds_toArray, List.set_cons_zero, List.set_cons_succ, i64_w, i32_w]
        rfl
      refine take_ (i := 7) (N := some 11) (v := ?_) (a' := ?_) #[true, true, true, true, true, true, true, true, false, false, false, false, false, false, false, false] rfl rfl (by kernel_rfl) (fun _ _ _ h => h) (Or.inl ⟨by rfl, ?_⟩) hHeld ?_ ?_
      rotate_left
      · rintro w' ⟨s0, s1, s2⟩
        go_simp
        with_reducible rfl
      rotate_left
      · simp only [Act.put, List.setIfInBounds_toArray, List.set_cons_zero, List.set_cons_succ, i64_w, i32_w]
        rfl
      refine pure_ (i := 8) (N := some 12) (v := ?_) (a' := ?_) #[true, true, true, true, true, true, true, true, true, false, false, false, false, false, false, false] rfl rfl (by kernel_rfl) (fun _ _ _ h => h) (Or.inl ⟨by rfl, ?_⟩) ?_ ?_
      rotate_left
      · intro w'
        go_simp
        with_reducible rfl
      rotate_left
      · simp only [Act.put, List.setIfInBounds_toArray, List.set_cons_zero, List.set_cons_succ, i64_w, i32_w]
        rfl
      refine pure_ (i := 9) (N := some 13) (v := ?_) (a' := ?_) #[true, true, true, true, true, true, true, true, true, true, false, false, false, false, false, false] rfl rfl (by kernel_rfl) (fun _ _ _ h => h) (Or.inl ⟨by rfl, ?_⟩) ?_ ?_
      rotate_left
      · intro w'
        go_simp
        with_reducible rfl
      rotate_left
      · simp only [Act.put, List.setIfInBounds_toArray, List.set_cons_zero, List.set_cons_succ, i64_w, i32_w]
        rfl
      refine pure_ (i := 10) (N := some 14) (v := ?_) (a' := ?_) #[true, true, true, true, true, true, true, true, true, true, true, false, false, false, false, false] rfl rfl (by kernel_rfl) (fun _ _ _ h => h) (Or.inl ⟨by rfl, ?_⟩) ?_ ?_
      rotate_left
      · intro w'
        go_simp
        with_reducible rfl
      rotate_left
      · simp only [Act.put, List.setIfInBounds_toArray, List.set_cons_zero, List.set_cons_succ, i64_w, i32_w]
        rfl
      refine take_ (i := 11) (N := some 15) (v := ?_) (a' := ?_) #[true, true, true, true, true, true, true, true, true, true, true, true, false, false, false, false] rfl rfl (by kernel_rfl) (fun _ _ _ h => h) (Or.inl ⟨by rfl, ?_⟩) hHeld ?_ ?_
      rotate_left
      · rintro w' ⟨s0, s1, s2⟩
        go_simp
        with_reducible rfl
      rotate_left
      · simp only [Act.put, List.setIfInBounds_toArray, List.set_cons_zero, List.set_cons_succ, i64_w, i32_w]
        rfl
      refine pure_ (i := 12) (N := some 16) (v := ?_) (a' := ?_) #[true, true, true, true, true, true, true, true, true, true, true, true, true, false, false, false] rfl rfl (by kernel_rfl) (fun _ _ _ h => h) (Or.inl ⟨by rfl, ?_⟩) ?_ ?_
      rotate_left
      · intro w'
        go_simp
        with_reducible rfl
      rotate_left
      · simp only [Act.put, List.setIfInBounds_toArray, List.set_cons_zero, List.set_cons_succ, i64_w, i32_w]
        rfl
      refine take_ (i := 13) (N := some 17) (v := ?_) (a' := ?_) #[true, true, true, true, true, true, true, true, true, true, true, true, true, true, false, false] rfl rfl (by kernel_rfl) (fun _ _ _ h => h) (Or.inl ⟨by rfl, ?_⟩) hHeld ?_ ?_
      rotate_left
      · rintro w' ⟨s0, s1, s2⟩
        go_simp
        with_reducible rfl
      rotate_left
      · simp only [Act.put, List.setIfInBounds_toArray, List.set_cons_zero, List.set_cons_succ, i64_w, i32_w]
        rfl
      refine pure_ (i := 14) (N := some 18) (v := ?_) (a' := ?_) #[true, true, true, true, true, true, true, true, true, true, true, true, true, true, true, false] rfl rfl (by kernel_rfl) (fun _ _ _ h => h) (Or.inl ⟨by rfl, ?_⟩) ?_ ?_
      rotate_left
      · intro w'
        go_simp
        with_reducible rfl
      rotate_left
      · simp only [Act.put, List.setIfInBounds_toArray, List.set_cons_zero, List.set_cons_succ, i64_w, i32_w]
        rfl
      refine pure_ (i := 15) (N := some 19) (v := ?_) (a' := ?_) #[true, true, true, true, true, true, true, true, true, true, true, true, true, true, true, true] rfl rfl (by kernel_rfl) (fun _ _ _ h => h) (Or.inl ⟨by rfl, ?_⟩) ?_ ?_
      rotate_left
      · intro w'
        go_simp
        with_reducible rfl
      rotate_left
      · simp only [Act.put, List.setIfInBounds_toArray, List.set_cons_zero, List.set_cons_succ, i64_w, i32_w]
        rfl
      refine done_ (by kernel_rfl) ?_
      go_wp2
      have H5 : Aside0 (Is ((w1.drewN m).setCell ⟨g, 1, none⟩ (.int .i64 ((n : Int) + 1))) g N b (n + 1)) := ⟨(show ((n : Int) + 1) = ((n + 1 : Nat) : Int) from rfl) ▸ ((HD.out.drewN m).set (n + 1) HLT.out)⟩
      have G5 := Aside0.mk (World.grownBy.trans (World.grownBy.but (HG.out.trans (Rd.grown_drewN w1 m none)) (some g)) (Rd.set_grown (w1.drewN m) ⟨g, 1, none⟩ (.int .i64 ((n : Int) + 1))))
      generalize (w1.drewN m).setCell ⟨g, 1, none⟩ (.int .i64 ((n : Int) + 1)) = W at H5 G5 ⊢
      obtain ⟨A2, k2, e0, e1, ef, ec, er⟩ := H5.out.open_
      obtain ⟨ad3, e3, hx2⟩ := Kd.at_int er.out (n : Int) n0 n1
      subst e3
      simp only [Int.toNat_natCast, Nat.mul_one] at hx2
      rw [← HV.out] at hx2
      clear d0 d1 df dr hx
      obtain ⟨p, hp⟩ : ∃ p : Int, p = (n : Int) + 1 := ⟨_, rfl⟩
      rw [show (((n + 1 : Nat) : Int)) = p from (Int.natCast_succ n).trans hp.symm] at e1
      have hw3 : wrap64 (p - 1) = (n : Int) := by rw [hp]; exact Rd.wrap_back2 n (Nat.lt_of_lt_of_le HLT.out hm)
      clear hw hw2 hp
      as_aux_lemma =>
        go_wp2
        repeat (go_quiet (fail); try go_wp2)
        go_ret2
        exact ⟨rfl, H5.out.drewN _, G5.out.trans (Rd.grown_drewN _ _ _)⟩
    · rw [if_neg hv1]
      have gv : decide (1 < v) = true := decide_eq_true (by omega)
      clear hv1 hb
      go_enter Try.func42, Try.ntmps42
      go_wp2
      refine start_ (n := 16) (S := fun w' => w'.cell? ⟨g, 0, none⟩ = some (.slice (some ad1) b.length k1) ∧ w'.cell? ⟨g, 1, none⟩ = some (.int .i64 n) ∧ w'.cell? (ad1.add n) = some (.int .u8 v)) (ds := []) #[false, false, false, false, false, false, false, false, false, false, false, false, false, false, false, false] (by kernel_rfl) rfl rfl ⟨d0, d1, hx⟩ (fun hHeld => ?_)
      generalize w.drew = w1 at hHeld HD HG d0 d1 df dr hx ⊢
      refine pure_ (i := 0) (N := some 4) (v := ?_) (a' := ?_) #[true, false, false, false, false, false, false, false, false, false, false, false, false, false, false, false] rfl rfl (by kernel_rfl) (fun _ _ _ h => h) (Or.inl ⟨by rfl, ?_⟩) ?_ ?_
      rotate_left
      · intro w'
        go_simp
        with_reducible rfl
      rotate_left
      · simp only [Act.put, List.setIfInBounds_toArray, List.set_cons_zero, List.set_cons_succ, i64_w, i32_w]
        rfl
      refine one_ (i := 1) (N := some 5) #[true, true, false, false, false, false, false, false, false, false, false, false, false, false, false, false] rfl rfl (by kernel_rfl) (by decide) (fun K hK => ?_)
      refine goes_ Try.func32 (by kernel_rfl) rfl #[.pointer (some ⟨g, 0, none⟩)] (by rfl) rfl rfl (by (try simp only [List.map_toArray, List.map_cons, List.map_nil]); first | done | rfl) ?_
      with_reducible refine (CL.out _ HD.out).mono ?_
      rintro e w2 ⟨rfl, ⟨m, rfl⟩⟩
      refine ⟨_, rfl, ?_⟩
      refine hK.out _ _ ⟨d0, d1, hx⟩ (fun hHeld => ?_)
      clear hK K
      refine norm_ (a' := ?_) ?_ ?_
      rotate_left
      · show Act.put _ (some 5) _ = _
        simp only [Act.put, List.setIfInBounds_toArray, List.set_cons_zero, List.set_cons_succ, i64_w, i32_w]
        rfl
      refine pure_ (i := 2) (N := some 6) (v := ?_) (a' := ?_) #[true, true, true, false, false, false, false, false, false, false, false, false, false, false, false, false] rfl rfl (by kernel_rfl) (fun _ _ _ h => h) (Or.inl ⟨by rfl, ?_⟩) ?_ ?_
      rotate_left
      · intro w'
        go_simp
        with_reducible rfl
      rotate_left
      · simp only [Act.put, List.setIfInBounds_toArray, List.set_cons_zero, List.set_cons_succ, i64_w, i32_w]
        rfl
      refine pure_ (i := 3) (N := some 7) (v := ?_) (a' := ?_) #[true, true, true, true, false, false, false, false, false, false, false, false, false, false, false, false] rfl rfl (by kernel_rfl) (fun _ _ _ h => h) (Or.inl ⟨by rfl, ?_⟩) ?_ ?_
      rotate_left
      · intro w'
        go_simp
        with_reducible rfl
      rotate_left
      · simp only [Act.put, List.setIfInBounds_toArray, List.set_cons_zero, List.set_cons_succ, i64_w, i32_w]
        rfl
      refine pure_ (i := 4) (N := some 8) (v := ?_) (a' := ?_) #[true, true, true, true, true, false, false, false, false, false, false, false, false, false, false, false] rfl rfl (by kernel_rfl) (fun _ _ _ h => h) (Or.inl ⟨by rfl, ?_⟩) ?_ ?_
      rotate_left
      · intro w'
        go_simp
        with_reducible rfl
      rotate_left
      · simp only [Act.put, List.setIfInBounds_toArray, List.set_cons_zero, List.set_cons_succ, i64_w, i32_w]
        rfl
      refine pure_ (i := 5) (N := some 9) (v := ?_) (a' := ?_) #[true, true, true, true, true, true, false, false, false, false, false, false, false, false, false, false] rfl rfl (by kernel_rfl) (fun _ _ _ h => h) (Or.inl ⟨by rfl, ?_⟩) ?_ ?_
      rotate_left
      · intro w'
        go_simp
        with_reducible rfl
      rotate_left
      · simp only [Act.put, List.setIfInBounds_toArray, List.set_cons_zero, List.set_cons_succ, i64_w, i32_w]
        rfl
      refine pure_ (i := 6) (N := some 10) (v := ?_) (a' := ?_) #[true, true, true, true, true, true, true, false, false, false, false, false, false, false, false, false] rfl rfl (by kernel_rfl) (fun _ _ _ h => h) (Or.inl ⟨by rfl, ?_⟩) ?_ ?_
      rotate_left
      · intro w'
        go_simp
        with_reducible rfl
      rotate_left
      · simp only [Act.put, List.setIfInBounds_toArray, List.set_cons_zero, List.set_cons_succ, i64_w, i32_w]
        rfl
      refine take_ (i := 7) (N := some 11) (v := ?_) (a' := ?_) #[true, true, true, true, true, true, true, true, false, false, false, false, false, false, false, false] rfl rfl (by kernel_rfl) (fun _ _ _ h => h) (Or.inl ⟨by rfl, ?_⟩) hHeld ?_ ?_
      rotate_left
      · rintro w' ⟨s0, s1, s2⟩
        go_simp
        with_reducible rfl
      rotate_left
      · simp only [Act.put, List.setIfInBounds_toArray, List.set_cons_zero, List.set_cons_succ, i64_w, i32_w]
        rfl
      refine pure_ (i := 8) (N := some 12) (v := ?_) (a' := ?_) #[true, true, true, true, true, true, true, true, true, false, false, false, false, false, false, false] rfl rfl (by kernel_rfl) (fun _ _ _ h => h) (Or.inl ⟨by rfl, ?_⟩) ?_ ?_
      rotate_left
      · intro w'
        go_simp
        with_reducible rfl
      rotate_left
      · simp only [Act.put, List.setIfInBounds_toArray, List.set_cons_zero, List.set_cons_succ, i64_w, i32_w]
        rfl
      refine pure_ (i := 9) (N := some 13) (v := ?_) (a' := ?_) #[true, true, true, true, true, true, true, true, true, true, false, false, false, false, false, false] rfl rfl (by kernel_rfl) (fun _ _ _ h => h) (Or.inl ⟨by rfl, ?_⟩) ?_ ?_
      rotate_left
      · intro w'
        go_simp
        with_reducible rfl
      rotate_left
      · simp only [Act.put, List.setIfInBounds_toArray, List.set_cons_zero, List.set_cons_succ, i64_w, i32_w]
        rfl
      refine pure_ (i := 10) (N := some 14) (v := ?_) (a' := ?_) #[true, true, true, true, true, true, true, true, true, true, true, false, false, false, false, false] rfl rfl (by kernel_rfl) (fun _ _ _ h => h) (Or.inl ⟨by rfl, ?_⟩) ?_ ?_
      rotate_left
      · intro w'
        go_simp
        with_reducible rfl
      rotate_left
      · simp only [Act.put, List.setIfInBounds_toArray, List.set_cons_zero, List.set_cons_succ, i64_w, i32_w]
        rfl
      refine take_ (i := 11) (N := some 15) (v := ?_) (a' := ?_) #[true, true, true, true, true, true, true, true, true, true, true, true, false, false, false, false] rfl rfl (by kernel_rfl) (fun _ _ _ h => h) (Or.inl ⟨by rfl, ?_⟩) hHeld ?_ ?_
      rotate_left
      · rintro w' ⟨s0, s1, s2⟩
        go_simp
        with_reducible rfl
      rotate_left
      · simp only [Act.put, List.setIfInBounds_toArray, List.set_cons_zero, List.set_cons_succ, i64_w, i32_w]
        rfl
      refine pure_ (i := 12) (N := some 16) (v := ?_) (a' := ?_) #[true, true, true, true, true, true, true, true, true, true, true, true, true, false, false, false] rfl rfl (by kernel_rfl) (fun _ _ _ h => h) (Or.inl ⟨by rfl, ?_⟩) ?_ ?_
      rotate_left
      · intro w'
        go_simp
        with_reducible rfl
      rotate_left
      · simp only [Act.put, List.setIfInBounds_toArray, List.set_cons_zero, List.set_cons_succ, i64_w, i32_w]
        rfl
      refine take_ (i := 13) (N := some 17) (v := ?_) (a' := ?_) #[true, true, true, true, true, true, true, true, true, true, true, true, true, true, false, false] rfl rfl (by kernel_rfl) (fun _ _ _ h => h) (Or.inl ⟨by rfl, ?_⟩) hHeld ?_ ?_
      rotate_left
      · rintro w' ⟨s0, s1, s2⟩
        go_simp
        with_reducible rfl
      rotate_left
      · simp only [Act.put, List.setIfInBounds_toArray, List.set_cons_zero, List.set_cons_succ, i64_w, i32_w]
        rfl
      refine pure_ (i := 14) (N := some 18) (v := ?_) (a' := ?_) #[true, true, true, true, true, true, true, true, true, true, true, true, true, true, true, false] rfl rfl (by kernel_rfl) (fun _ _ _ h => h) (Or.inl ⟨by rfl, ?_⟩) ?_ ?_
      rotate_left
      · intro w'
        go_simp
        with_reducible rfl
      rotate_left
      · simp only [Act.put, List.setIfInBounds_toArray, List.set_cons_zero, List.set_cons_succ, i64_w, i32_w]
        rfl
      refine pure_ (i := 15) (N := some 19) (v := ?_) (a' := ?_) #[true, true, true, true, true, true, true, true, true, true, true, true, true, true, true, true] rfl rfl (by kernel_rfl) (fun _ _ _ h => h) (Or.inl ⟨by rfl, ?_⟩) ?_ ?_
      rotate_left
      · intro w'
        go_simp
        with_reducible rfl
      rotate_left
      · simp only [Act.put, List.setIfInBounds_toArray, List.set_cons_zero, List.set_cons_succ, i64_w, i32_w]
        rfl
      refine done_ (by kernel_rfl) ?_
      go_wp2
      go_ret2
      exact ⟨rfl, HD.out.drewN _, HG.out.trans (Rd.grown_drewN _ _ _)⟩
  · have hr0 : Rd.rflag b n = none := if_neg hlt
    rw [hr0]
    have q0 : q = 0 := by omega
    subst q0
    clear h hq hlt hr0 hr
    go_enter Try.func42, Try.ntmps42
    go_wp2
    refine start_ (n := 16) (S := fun w' => True) (ds := []) #[false, false, false, false, false, false, false, false, false, false, false, false, false, false, false, false] (by kernel_rfl) rfl rfl trivial (fun hHeld => ?_)
    generalize w.drew = w1 at hHeld HD HG ⊢
    refine pure_ (i := 0) (N := some 4) (v := ?_) (a' := ?_) #[true, false, false, false, false, false, false, false, false, false, false, false, false, false, false, false] rfl rfl (by kernel_rfl) (fun _ _ _ h => h) (Or.inl ⟨by rfl, ?_⟩) ?_ ?_
    rotate_left
    · intro w'
      go_simp
      with_reducible rfl
    rotate_left
    · simp only [Act.put, List.setIfInBounds_toArray, List.set_cons_zero, List.set_cons_succ, i64_w, i32_w]
      rfl
    refine one_ (i := 1) (N := some 5) #[true, true, false, false, false, false, false, false, false, false, false, false, false, false, false, false] rfl rfl (by kernel_rfl) (by decide) (fun K hK => ?_)
    refine goes_ Try.func32 (by kernel_rfl) rfl #[.pointer (some ⟨g, 0, none⟩)] (by rfl) rfl rfl (by (try simp only [List.map_toArray, List.map_cons, List.map_nil]); first | done | rfl) ?_
    with_reducible refine (CL.out _ HD.out).mono ?_
    rintro e w2 ⟨rfl, ⟨m, rfl⟩⟩
    refine ⟨_, rfl, ?_⟩
    refine hK.out _ _ trivial (fun hHeld => ?_)
    clear hK K
    refine norm_ (a' := ?_) ?_ ?_
    rotate_left
    · show Act.put _ (some 5) _ = _
      simp only [Act.put, List.setIfInBounds_toArray, List.set_cons_zero, List.set_cons_succ, i64_w, i32_w]
      rfl
    refine pure_ (i := 2) (N := some 6) (v := ?_) (a' := ?_) #[true, true, true, false, false, false, false, false, false, false, false, false, false, false, false, false] rfl rfl (by kernel_rfl) (fun _ _ _ h => h) (Or.inl ⟨by rfl, ?_⟩) ?_ ?_
    rotate_left
    · intro w'
      go_simp
      with_reducible rfl
    rotate_left
    · simp only [Act.put, List.setIfInBounds_toArray, List.set_cons_zero, List.set_cons_succ, i64_w, i32_w]
      rfl
    refine pure_ (i := 3) (N := some 7) (v := ?_) (a' := ?_) #[true, true, true, true, false, false, false, false, false, false, false, false, false, false, false, false] rfl rfl (by kernel_rfl) (fun _ _ _ h => h) (Or.inl ⟨by rfl, ?_⟩) ?_ ?_
    rotate_left
    · intro w'
      go_simp
      with_reducible rfl
    rotate_left
    · simp only [Act.put, List.setIfInBounds_toArray, List.set_cons_zero, List.set_cons_succ, i64_w, i32_w]
      rfl
    refine pure_ (i := 4) (N := some 8) (v := undef) (a' := ?_) #[true, true, true, true, true, false, false, false, false, false, false, false, false, false, false, false] rfl rfl (by kernel_rfl) (fun _ _ _ h => h) (Or.inr ⟨by rfl, rfl⟩) ?_ ?_
    rotate_left
    · simp only [Act.put, List.setIfInBounds_toArray, List.set_cons_zero, List.set_cons_succ, i64_w, i32_w]
      rfl
    refine pure_ (i := 5) (N := some 9) (v := undef) (a' := ?_) #[true, true, true, true, true, true, false, false, false, false, false, false, false, false, false, false] rfl rfl (by kernel_rfl) (fun _ _ _ h => h) (Or.inr ⟨by rfl, rfl⟩) ?_ ?_
    rotate_left
    · simp only [Act.put, List.setIfInBounds_toArray, List.set_cons_zero, List.set_cons_succ, i64_w, i32_w]
      rfl
    refine pure_ (i := 6) (N := some 10) (v := undef) (a' := ?_) #[true, true, true, true, true, true, true, false, false, false, false, false, false, false, false, false] rfl rfl (by kernel_rfl) (fun _ _ _ h => h) (Or.inr ⟨by rfl, rfl⟩) ?_ ?_
    rotate_left
    · simp only [Act.put, List.setIfInBounds_toArray, List.set_cons_zero, List.set_cons_succ, i64_w, i32_w]
      rfl
    refine pure_ (i := 7) (N := some 11) (v := undef) (a' := ?_) #[true, true, true, true, true, true, true, true, false, false, false, false, false, false, false, false] rfl rfl (by kernel_rfl) (fun _ _ _ h => h) (Or.inr ⟨by rfl, rfl⟩) ?_ ?_
    rotate_left
    · simp only [Act.put, List.setIfInBounds_toArray, List.set_cons_zero, List.set_cons_succ, i64_w, i32_w]
      rfl
    refine pure_ (i := 8) (N := some 12) (v := undef) (a' := ?_) #[true, true, true, true, true, true, true, true, true, false, false, false, false, false, false, false] rfl rfl (by kernel_rfl) (fun _ _ _ h => h) (Or.inr ⟨by rfl, rfl⟩) ?_ ?_
    rotate_left
    · simp only [Act.put, List.setIfInBounds_toArray, List.set_cons_zero, List.set_cons_succ, i64_w, i32_w]
      rfl
    refine pure_ (i := 9) (N := some 13) (v := undef) (a' := ?_) #[true, true, true, true, true, true, true, true, true, true, false, false, false, false, false, false] rfl rfl (by kernel_rfl) (fun _ _ _ h => h) (Or.inr ⟨by rfl, rfl⟩) ?_ ?_
    rotate_left
    · simp only [Act.put, List.setIfInBounds_toArray, List.set_cons_zero, List.set_cons_succ, i64_w, i32_w]
      rfl
    refine pure_ (i := 10) (N := some 14) (v := undef) (a' := ?_) #[true, true, true, true, true, true, true, true, true, true, true, false, false, false, false, false] rfl rfl (by kernel_rfl) (fun _ _ _ h => h) (Or.inr ⟨by rfl, rfl⟩) ?_ ?_
    rotate_left
    · simp only [Act.put, List.setIfInBounds_toArray, List.set_cons_zero, List.set_cons_succ, i64_w, i32_w]
      rfl
    refine pure_ (i := 11) (N := some 15) (v := undef) (a' := ?_) #[true, true, true, true, true, true, true, true, true, true, true, true, false, false, false, false] rfl rfl (by kernel_rfl) (fun _ _ _ h => h) (Or.inr ⟨by rfl, rfl⟩) ?_ ?_
    rotate_left
    · simp only [Act.put, List.setIfInBounds_toArray, List.set_cons_zero, List.set_cons_succ, i64_w, i32_w]
      rfl
    refine pure_ (i := 12) (N := some 16) (v := undef) (a' := ?_) #[true, true, true, true, true, true, true, true, true, true, true, true, true, false, false, false] rfl rfl (by kernel_rfl) (fun _ _ _ h => h) (Or.inr ⟨by rfl, rfl⟩) ?_ ?_
    rotate_left
    · simp only [Act.put, List.setIfInBounds_toArray, List.set_cons_zero, List.set_cons_succ, i64_w, i32_w]
      rfl
    refine pure_ (i := 13) (N := some 17) (v := undef) (a' := ?_) #[true, true, true, true, true, true, true, true, true, true, true, true, true, true, false, false] rfl rfl (by kernel_rfl) (fun _ _ _ h => h) (Or.inr ⟨by rfl, rfl⟩) ?_ ?_
    rotate_left
    · simp only [Act.put, List.setIfInBounds_toArray, List.set_cons_zero, List.set_cons_succ, i64_w, i32_w]
      rfl
    refine pure_ (i := 14) (N := some 18) (v := undef) (a' := ?_) #[true, true, true, true, true, true, true, true, true, true, true, true, true, true, true, false] rfl rfl (by kernel_rfl) (fun _ _ _ h => h) (Or.inr ⟨by rfl, rfl⟩) ?_ ?_
    rotate_left
    · simp only [Act.put, List.setIfInBounds_toArray, List.set_cons_zero, List.set_cons_succ, i64_w, i32_w]
      rfl
    refine pure_ (i := 15) (N := some 19) (v := ?_) (a' := ?_) #[true, true, true, true, true, true, true, true, true, true, true, true, true, true, true, true] rfl rfl (by kernel_rfl) (fun _ _ _ h => h) (Or.inl ⟨by rfl, ?_⟩) ?_ ?_
    rotate_left
    · intro w'
      go_simp
      with_reducible rfl
    rotate_left
    · simp only [Act.put, List.setIfInBounds_toArray, List.set_cons_zero, List.set_cons_succ, i64_w, i32_w]
      rfl
    refine done_ (by kernel_rfl) ?_
    go_wp2
    go_ret2
    exact ⟨rfl, HD.out.drewN _, HG.out.trans (Rd.grown_drewN _ _ _)⟩
def NumsPost (R : Int × List Int × Nat) (g N : Nat) (b : List Int) (w : World) (e : Ending) (w' : World) : Prop :=
  ∃ v : Value, e = .returned (.tuple #[v, .int .i64 R.1]) ∧ Tk.Own w' w.heap.size v R.2.1 ∧ Is w' g N b R.2.2 ∧ w.grownBy w' (some g)
set_option maxHeartbeats 8000000 in
set_option maxRecDepth 100000 in
theorem numbers_no (g N : Nat) (b : List Int) (n most : Nat) (w : World) (h : Is w g N b n) (hb : b.length ≤ 1048576) (hmost : most ≤ 9223372036854775807) (hr : Rd.rnum b 10 n 0 0 = none) :
    Calls Try.prog 45 #[.pointer (some ⟨g, 0, none⟩), .int .i64 most] w (NumsPost (4, [], n) g N b w) := by
  have hn := h.le
  have HN := Aside0.mk (number_none w h (by omega) hr)
  obtain ⟨A, c, c0, c1, cf, hc, hrr⟩ := h.open_
  clear h hr hrr
  go_enter Try.func45, Try.ntmps45
  go_wp2_with (first | (go_at_call 40; refine HN.out.mono ?_; rintro e w1 ⟨rfl, hi, hgr⟩; obtain ⟨A2, c2, d0, d1, df, hc2, hr2⟩ := hi.open_; have H1 := Aside0.mk hi; have H2 := Aside0.mk hgr; clear hi hgr hr2))
  refine wp_loop_rounds 1 ?_
  rw [rounds_succ]
  go_wp2
  go_ret2
  exact ⟨_, rfl, Tk.Own.nil _ _, (by simpa using H1.out.set n (by omega)), (World.grownBy.but H2.out _).trans (Rd.set_grown _ _ _)⟩
set_option maxHeartbeats 8000000 in
set_option maxRecDepth 100000 in
theorem numbers_big (g N : Nat) (b : List Int) (n most x m : Nat) (w : World) (h : Is w g N b n) (hb : b.length ≤ 1048576) (hmost : most ≤ 9223372036854775807) (hr : Rd.rnum b 10 n 0 0 = some (x, m)) (hlt : most < x) :
    Calls Try.prog 45 #[.pointer (some ⟨g, 0, none⟩), .int .i64 most] w (NumsPost (3, [], n) g N b w) := by
  have hn := h.le
  have hx := (Rd.rnum_bd hr).1
  have hw : IntKind.u64.wrap (most : Int) = (most : Int) := Rd.wrap_u64_nat most (by omega)
  have HN := Aside0.mk (number_some w h (by omega) hr)
  obtain ⟨A, c, c0, c1, cf, hc, hrr⟩ := h.open_
  clear h hr hrr
  go_enter Try.func45, Try.ntmps45
  go_wp2_with (first | (go_at_call 40; refine HN.out.mono ?_; rintro e w1 ⟨rfl, hi, hgr⟩; obtain ⟨A2, c2, d0, d1, df, hc2, hr2⟩ := hi.open_; have H1 := Aside0.mk hi; have H2 := Aside0.mk hgr; clear hi hgr hr2))
  refine wp_loop_rounds 1 ?_
  rw [rounds_succ]
  go_wp2
  go_ret2
  exact ⟨_, rfl, Tk.Own.nil _ _, (by simpa using H1.out.set n (by omega)), H2.out.trans (Rd.set_grown _ _ _)⟩
set_option maxHeartbeats 8000000 in
set_option maxRecDepth 100000 in
theorem numbers_go (g N : Nat) (b : List Int) (n most x m0 : Nat) (w : World) (h : Is w g N b n) (hb : b.length ≤ 1048576) (hmost : most ≤ 9223372036854775807) (hr : Rd.rnum b 10 n 0 0 = some (x, m0)) (hle : x ≤ most) (R V : Int × List Int × Nat) (hV : V = Tk.go (Tk.num1 b) x m0 []) (hA : R = if V.1 = 0 then V else (V.1, [], n)) :
    Calls Try.prog 45 #[.pointer (some ⟨g, 0, none⟩), .int .i64 most] w (NumsPost R g N b w) := by
  have hn := h.le
  have hg := h.lt
  have hw : IntKind.u64.wrap (most : Int) = (most : Int) := Rd.wrap_u64_nat most (by omega)
  have hlt : ¬ most < x := by omega
  have HN := Aside0.mk (number_some w h (by omega) hr)
  have HA := Aside0.mk hA
  have HV := Aside0.mk hV
  have HB := Aside0.mk hb
  obtain ⟨A, c, c0, c1, cf, hc, hrr⟩ := h.open_
  clear h hr hrr hA hV hb
  go_enter Try.func45, Try.ntmps45
  go_wp2_with (first | (go_at_call 40; refine HN.out.mono ?_; rintro e w1 ⟨rfl, hi, hgr⟩; have H1 := Aside0.mk hi; have H2 := Aside0.mk hgr; clear hi hgr))
  clear c0 c1 cf HN
  go_loopw [8, 9, 10] (fun e l i w' => ∃ (ev : Int) (k m : Nat) (acc : List Int), e = .int .i64 ev ∧ i = .int .u64 k ∧ k ≤ x ∧ Aside0 (Tk.Own w' w.heap.size l acc) ∧ Aside0 (Is w' g N b m) ∧ Aside0 (w.grownBy w' (some g)) ∧ acc.length ≤ m + 1 ∧ Aside0 (ev = 0 → acc.length ≤ m) ∧ Aside0 (if ev = 0 then V = Tk.go (Tk.num1 b) (x - k) m acc else V = (ev, acc, m))) (fun _ _ i _ => x - (intOf i).toNat)
  case atStart => exact ⟨0, 0, m0, [], rfl, rfl, Nat.zero_le _, ⟨Tk.Own.nil _ _⟩, H1, H2, Nat.zero_le _, ⟨fun _ => Nat.zero_le _⟩, ⟨by rw [if_pos rfl, HV.out]; rfl⟩⟩
  case round =>
    clear H1 H2 HV
    obtain ⟨ev, k, m, acc, rfl, rfl, hkx, hro, hi, hgr, hal, hal2, hv⟩ := hrel
    by_cases hev : ev = 0
    · subst hev
      have hal3 := hal2.out rfl
      have hmb := hi.out.le
      have hbl := HB.out
      by_cases hlt2 : k < x
      · cases hrbs : Tk.num1 b m with
        | mk e1 q1 =>
        obtain ⟨r1, m1⟩ := q1
        have hv' := hv.out
        rw [if_pos rfl, show x - k = x - (k + 1) + 1 by omega] at hv'
        have HV2 := Aside0.mk (Tk.go_step (Tk.num1 b) hv' hrbs)
        have hcl := one_call g N b m wr hi.out (by omega)
        rw [hrbs] at hcl
        have HCL := Aside0.mk hcl
        have hm1 : e1 = 0 → acc.length + 1 ≤ m1 := fun h0 => by subst h0; have := Tk.num1_on hrbs; omega
        have hm2 : acc.length + 1 ≤ m1 + 1 := by
          by_cases h0 : e1 = 0
          · have := hm1 h0; omega
          · rcases Tk.num1_or b m with h2 | h2
            · rw [hrbs] at h2; exact absurd h2 h0
            · rw [hrbs] at h2; simp only [Prod.mk.injEq] at h2; omega
        have HM := Aside0.mk (And.intro hm1 hm2)
        clear hcl hrbs hv hv' hal2 hm1 hm2
        go_wp2_with (first | (go_at_call 40; refine HCL.out.mono ?_; rintro e w2 ⟨rfl, hi2, hg2⟩; dsimp only at hi2; have HI2 := Aside0.mk hi2; have HG2 := Aside0.mk hg2; clear hi2 hg2) | ((with_reducible refine gate_builtin (b := .append) (xs := #[.tmp 45, .tmp 47]) rfl ?_); at_builtin; refine Tk.append_one (W := w2) w.heap.size rfl (.tmp 45) (.tmp 47) rfl _ acc r1 rfl rfl (hro.out.grown HG2.out hg) (Nat.le_trans hgr.out.size HG2.out.size) (by omega) ?_; intro v3 w3 ho3 hb3; have HO3 := Aside0.mk ho3; have HB3 := Aside0.mk hb3; clear ho3 hb3))
        have hIs : Is w3 g N b m1 := HI2.out.under HB3.out hg
        have hGr : w.grownBy w3 (some g) := Rd.grown_under (hgr.out.trans HG2.out) HB3.out (Nat.le_refl _)
        have hln : (acc ++ [r1]).length = acc.length + 1 := by rw [List.length_append]; rfl
        exact ⟨⟨e1, k + 1, m1, acc ++ [r1], rfl, by simp, by omega, HO3, ⟨hIs⟩, ⟨hGr⟩, by rw [hln]; exact HM.out.2, ⟨fun h0 => by rw [hln]; exact HM.out.1 h0⟩, HV2⟩, by simp only [intOf]; omega⟩
      · obtain rfl : k = x := by omega
        have hvv : V = (0, acc, m) := by have := hv.out; rw [if_pos rfl, Nat.sub_self] at this; exact this
        clear hv hal2
        have HA2 := Aside0.mk (show R = (0, acc, m) by rw [HA.out, hvv]; exact if_pos rfl)
        clear hvv
        go_wp2
        go_ret2
        rw [HA2.out]
        exact ⟨_, rfl, hro.out, hi.out, hgr.out⟩
    · have hvv : V = (ev, acc, m) := by have := hv.out; rwa [if_neg hev] at this
      have hbe : (ev == 0) = false := beq_eq_false_iff_ne.mpr hev
      have HEV := Aside0.mk hev
      obtain ⟨A2, c2, d0, d1, df, hc2, hr2⟩ := hi.out.open_
      clear hv hev hal2
      have HA2 := Aside0.mk (show R = (ev, [], n) by rw [HA.out, hvv]; exact if_neg HEV.out)
      clear hvv
      go_wp2
      go_ret2
      rw [HA2.out]
      exact ⟨_, rfl, Tk.Own.nil _ _, by simpa using hi.out.set n hn, hgr.out.trans (Rd.set_grown _ _ _)⟩
theorem numbers (g N : Nat) (b : List Int) (n most : Nat) (w : World) (h : Is w g N b n) (hb : b.length ≤ 1048576) (hmost : most ≤ 9223372036854775807) :
    Calls Try.prog 45 #[.pointer (some ⟨g, 0, none⟩), .int .i64 most] w (NumsPost (Tk.ans (Tk.num1 b) b n most) g N b w) := by
  cases hr : Rd.rnum b 10 n 0 0 with
  | none =>
    have e : Tk.ans (Tk.num1 b) b n most = (4, [], n) := by unfold Tk.ans Tk.all Rd.cnt; rw [hr]; rfl
    rw [e]
    exact numbers_no g N b n most w h hb hmost hr
  | some q =>
    obtain ⟨x, m0⟩ := q
    by_cases hlt : most < x
    · have e : Tk.ans (Tk.num1 b) b n most = (3, [], n) := by
        have : Rd.cnt b n most = (3, 0, m0) := by unfold Rd.cnt; rw [hr]; exact if_pos hlt
        unfold Tk.ans Tk.all
        rw [this]
        rfl
      rw [e]
      exact numbers_big g N b n most x m0 w h hb hmost hr hlt
    · have e : Rd.cnt b n most = (0, x, m0) := by unfold Rd.cnt; rw [hr]; exact if_neg hlt
      refine numbers_go g N b n most x m0 w h hb hmost hr (by omega) _ (Tk.go (Tk.num1 b) x m0 []) rfl ?_
      unfold Tk.ans Tk.all
      rw [e]
      rfl
end Go.Proofs.Ytmghnbdbhdljjaa.Rr
