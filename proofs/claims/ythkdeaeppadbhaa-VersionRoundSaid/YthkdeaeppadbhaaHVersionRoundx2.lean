-- Written for this claim by a program of this session, hp.py.
import Derived.Test.YthkdeaeppadbhaaHVersionRoundx0
import Derived.Test.YthkdeaeppadbhaaHVersionRoundx1
namespace Go.Proofs.Ythkdeaeppadbhaa.HVersionRound
open Go.RowKit Go.Proofs.YthkdeaeppadbhaaW.PrintWords Go.Proofs.YthkdeaeppadbhaaW.PrintLast Go.Proofs.YthkdeaeppadbhaaW.PrintMore
attribute [local go_sem] max2_int min2_int max_two min_two max_three min_three max_four min_four   -- for this text's walks alone
set_option linter.unusedVariables false
set_option linter.unusedSimpArgs false

/-! ### garnerlaw10_VersionRound: function 7 -/
mutual
def garnerlaw10_VersionRound.j0 : Nat → Int → Int → Bool → Option (Bool)
  | 0, _, _, _ => none
  | k + 1, x0, x5, x69 => if x69 = true then (some false) else ((garnerlaw10_bit.f x0 2).bind fun t118 => (if t118 = true then (garnerlaw10_VersionRound.j1 k x0 false) else ((garnerlaw10_bit.f x0 4).bind fun t119 => (if t119 = true then (garnerlaw10_VersionRound.j1 k x0 false) else (garnerlaw10_VersionRound.j1 k x0 (x5 != x0))))))
def garnerlaw10_VersionRound.j1 : Nat → Int → Bool → Option (Bool)
  | 0, _, _ => none
  | k + 1, x0, x82 => if x82 = true then (some false) else ((version_Root.f x0 true).bind fun t120 => ((version_Root.f t120 false).bind fun t121 => ((version_Root.f x0 false).bind fun t122 => (if t121 = t122 then ((version_Gone.f x0).bind fun t123 => ((version_Gone.f t123).bind fun t124 => (if t124 = t123 then ((garnerlaw10_known.f).bind fun t125 => (some t125)) else (some false)))) else (some false)))))
end
def garnerlaw10_VersionRound.f (k : Nat) (a0 : Int) : Option (Bool) := (version_Lock.f a0).bind fun bt103 => (if bt103.2 = 0 then ((version_Unlock.f bt103.1).bind fun bt106 => ((version_Insert.f bt103.1).bind fun bt108 => ((version_Split.f bt108.1).bind fun bt110 => ((version_Unlock.f bt110.1).bind fun bt112 => (if bt112.2 = 0 then ((version_Still.f bt112.1).bind fun t114 => (if t114 = true then ((version_Has.f bt112.1 1).bind fun t115 => (if t115 = true then (garnerlaw10_VersionRound.j0 k a0 bt106.1 true) else (if (Go.bits .and .u64 bt112.1 56) = (Go.bits .and .u64 a0 56) then ((version_Inserts.f bt112.1).bind fun t116 => ((version_Inserts.f a0).bind fun t117 => (garnerlaw10_VersionRound.j0 k a0 bt106.1 (t116 != t117)))) else (garnerlaw10_VersionRound.j0 k a0 bt106.1 true)))) else (garnerlaw10_VersionRound.j0 k a0 bt106.1 true))) else (garnerlaw10_VersionRound.j0 k a0 bt106.1 true)))))) else (if bt103.1 = 0 then ((garnerlaw10_known.f).bind fun t105 => (some t105)) else (some false)))
theorem garnerlaw10_VersionRound.mono_l : ∀ k, (∀ y0 y1 y2, LeO (garnerlaw10_VersionRound.j0 k y0 y1 y2) (garnerlaw10_VersionRound.j0 (k + 1) y0 y1 y2)) ∧ (∀ y0 y1, LeO (garnerlaw10_VersionRound.j1 k y0 y1) (garnerlaw10_VersionRound.j1 (k + 1) y0 y1))
  | 0 => ⟨fun _ _ _ r h => by simp [garnerlaw10_VersionRound.j0] at h, fun _ _ r h => by simp [garnerlaw10_VersionRound.j1] at h⟩
  | k + 1 => by
    obtain ⟨ih0, ih1⟩ := garnerlaw10_VersionRound.mono_l k
    refine ⟨?_, ?_⟩
    · intro y0 y1 y2
      unfold garnerlaw10_VersionRound.j0
      repeat' first
      | (with_reducible exact ih0 _ _ _)
      | (with_reducible exact ih1 _ _)
      | (with_reducible exact LeO.refl _)
      | (with_reducible exact LeO.none _)
      | (with_reducible refine LeO.ite ?_ ?_)
      | (with_reducible refine LeO.bind ?_ (fun _ => ?_))
      | exact ih0 _ _ _
      | exact ih1 _ _
      | exact LeO.none _
      | refine LeO.ite ?_ ?_
      | refine LeO.bind ?_ (fun _ => ?_)
    · intro y0 y1
      unfold garnerlaw10_VersionRound.j1
      repeat' first
      | (with_reducible exact ih0 _ _ _)
      | (with_reducible exact ih1 _ _)
      | (with_reducible exact LeO.refl _)
      | (with_reducible exact LeO.none _)
      | (with_reducible refine LeO.ite ?_ ?_)
      | (with_reducible refine LeO.bind ?_ (fun _ => ?_))
      | exact ih0 _ _ _
      | exact ih1 _ _
      | exact LeO.none _
      | refine LeO.ite ?_ ?_
      | refine LeO.bind ?_ (fun _ => ?_)
theorem garnerlaw10_VersionRound.mono : ∀ a0 k, LeO (garnerlaw10_VersionRound.f k a0) (garnerlaw10_VersionRound.f (k + 1) a0) := by
  intro a0 k
  obtain ⟨ih0, ih1⟩ := garnerlaw10_VersionRound.mono_l k
  unfold garnerlaw10_VersionRound.f
  repeat' first
      | (with_reducible exact ih0 _ _ _)
      | (with_reducible exact ih1 _ _)
      | (with_reducible exact LeO.refl _)
      | (with_reducible exact LeO.none _)
      | (with_reducible refine LeO.ite ?_ ?_)
      | (with_reducible refine LeO.bind ?_ (fun _ => ?_))
      | exact ih0 _ _ _
      | exact ih1 _ _
      | exact LeO.none _
      | refine LeO.ite ?_ ?_
      | refine LeO.bind ?_ (fun _ => ?_)
set_option maxHeartbeats 8000000 in
set_option maxRecDepth 100000 in
theorem garnerlaw10_VersionRound.calls (k : Nat) (a0 : Int) (r : Bool) (w : World) (h : garnerlaw10_VersionRound.f k a0 = some r) :
    Calls Try.prog 7 #[.int .u64 a0] w fun e w' => e = .returned (.bool r) ∧ Below w.heap.size w w' := by
  have HB := Aside0.mk (Below.refl w.heap.size w)
  have H : ((version_Lock.f a0).bind fun bt103 => (if bt103.2 = 0 then ((version_Unlock.f bt103.1).bind fun bt106 => ((version_Insert.f bt103.1).bind fun bt108 => ((version_Split.f bt108.1).bind fun bt110 => ((version_Unlock.f bt110.1).bind fun bt112 => (if bt112.2 = 0 then ((version_Still.f bt112.1).bind fun t114 => (if t114 = true then ((version_Has.f bt112.1 1).bind fun t115 => (if t115 = true then (garnerlaw10_VersionRound.j0 k a0 bt106.1 true) else (if (Go.bits .and .u64 bt112.1 56) = (Go.bits .and .u64 a0 56) then ((version_Inserts.f bt112.1).bind fun t116 => ((version_Inserts.f a0).bind fun t117 => (garnerlaw10_VersionRound.j0 k a0 bt106.1 (t116 != t117)))) else (garnerlaw10_VersionRound.j0 k a0 bt106.1 true)))) else (garnerlaw10_VersionRound.j0 k a0 bt106.1 true))) else (garnerlaw10_VersionRound.j0 k a0 bt106.1 true)))))) else (if bt103.1 = 0 then ((garnerlaw10_known.f).bind fun t105 => (some t105)) else (some false)))) = some r := h
  clear h
  replace H := Option.bind_eq_some_iff.mp H
  obtain ⟨⟨t103, t104⟩, A20, H⟩ := H
  replace H : (if t104 = 0 then ((version_Unlock.f t103).bind fun bt106 => ((version_Insert.f t103).bind fun bt108 => ((version_Split.f bt108.1).bind fun bt110 => ((version_Unlock.f bt110.1).bind fun bt112 => (if bt112.2 = 0 then ((version_Still.f bt112.1).bind fun t114 => (if t114 = true then ((version_Has.f bt112.1 1).bind fun t115 => (if t115 = true then (garnerlaw10_VersionRound.j0 k a0 bt106.1 true) else (if (Go.bits .and .u64 bt112.1 56) = (Go.bits .and .u64 a0 56) then ((version_Inserts.f bt112.1).bind fun t116 => ((version_Inserts.f a0).bind fun t117 => (garnerlaw10_VersionRound.j0 k a0 bt106.1 (t116 != t117)))) else (garnerlaw10_VersionRound.j0 k a0 bt106.1 true)))) else (garnerlaw10_VersionRound.j0 k a0 bt106.1 true))) else (garnerlaw10_VersionRound.j0 k a0 bt106.1 true)))))) else (if t103 = 0 then ((garnerlaw10_known.f).bind fun t105 => (some t105)) else (some false))) = some r := H
  have A2 := Aside0.mk A20
  clear A20
  by_cases c3 : t104 = 0
  · rw [if_pos c3] at H
    have c3b0 : (t104 == 0) = true := beq_iff_eq.mpr c3
    have c3b1 : (t104 != 0) = false := bne_eq_false_iff_eq.mpr c3
    clear c3
    replace H := Option.bind_eq_some_iff.mp H
    obtain ⟨⟨t106, t107⟩, A40, H⟩ := H
    replace H : ((version_Insert.f t103).bind fun bt108 => ((version_Split.f bt108.1).bind fun bt110 => ((version_Unlock.f bt110.1).bind fun bt112 => (if bt112.2 = 0 then ((version_Still.f bt112.1).bind fun t114 => (if t114 = true then ((version_Has.f bt112.1 1).bind fun t115 => (if t115 = true then (garnerlaw10_VersionRound.j0 k a0 t106 true) else (if (Go.bits .and .u64 bt112.1 56) = (Go.bits .and .u64 a0 56) then ((version_Inserts.f bt112.1).bind fun t116 => ((version_Inserts.f a0).bind fun t117 => (garnerlaw10_VersionRound.j0 k a0 t106 (t116 != t117)))) else (garnerlaw10_VersionRound.j0 k a0 t106 true)))) else (garnerlaw10_VersionRound.j0 k a0 t106 true))) else (garnerlaw10_VersionRound.j0 k a0 t106 true))))) = some r := H
    have A4 := Aside0.mk A40
    clear A40
    replace H := Option.bind_eq_some_iff.mp H
    obtain ⟨⟨t108, t109⟩, A50, H⟩ := H
    replace H : ((version_Split.f t108).bind fun bt110 => ((version_Unlock.f bt110.1).bind fun bt112 => (if bt112.2 = 0 then ((version_Still.f bt112.1).bind fun t114 => (if t114 = true then ((version_Has.f bt112.1 1).bind fun t115 => (if t115 = true then (garnerlaw10_VersionRound.j0 k a0 t106 true) else (if (Go.bits .and .u64 bt112.1 56) = (Go.bits .and .u64 a0 56) then ((version_Inserts.f bt112.1).bind fun t116 => ((version_Inserts.f a0).bind fun t117 => (garnerlaw10_VersionRound.j0 k a0 t106 (t116 != t117)))) else (garnerlaw10_VersionRound.j0 k a0 t106 true)))) else (garnerlaw10_VersionRound.j0 k a0 t106 true))) else (garnerlaw10_VersionRound.j0 k a0 t106 true)))) = some r := H
    have A5 := Aside0.mk A50
    clear A50
    replace H := Option.bind_eq_some_iff.mp H
    obtain ⟨⟨t110, t111⟩, A60, H⟩ := H
    replace H : ((version_Unlock.f t110).bind fun bt112 => (if bt112.2 = 0 then ((version_Still.f bt112.1).bind fun t114 => (if t114 = true then ((version_Has.f bt112.1 1).bind fun t115 => (if t115 = true then (garnerlaw10_VersionRound.j0 k a0 t106 true) else (if (Go.bits .and .u64 bt112.1 56) = (Go.bits .and .u64 a0 56) then ((version_Inserts.f bt112.1).bind fun t116 => ((version_Inserts.f a0).bind fun t117 => (garnerlaw10_VersionRound.j0 k a0 t106 (t116 != t117)))) else (garnerlaw10_VersionRound.j0 k a0 t106 true)))) else (garnerlaw10_VersionRound.j0 k a0 t106 true))) else (garnerlaw10_VersionRound.j0 k a0 t106 true))) = some r := H
    have A6 := Aside0.mk A60
    clear A60
    replace H := Option.bind_eq_some_iff.mp H
    obtain ⟨⟨t112, t113⟩, A70, H⟩ := H
    replace H : (if t113 = 0 then ((version_Still.f t112).bind fun t114 => (if t114 = true then ((version_Has.f t112 1).bind fun t115 => (if t115 = true then (garnerlaw10_VersionRound.j0 k a0 t106 true) else (if (Go.bits .and .u64 t112 56) = (Go.bits .and .u64 a0 56) then ((version_Inserts.f t112).bind fun t116 => ((version_Inserts.f a0).bind fun t117 => (garnerlaw10_VersionRound.j0 k a0 t106 (t116 != t117)))) else (garnerlaw10_VersionRound.j0 k a0 t106 true)))) else (garnerlaw10_VersionRound.j0 k a0 t106 true))) else (garnerlaw10_VersionRound.j0 k a0 t106 true)) = some r := H
    have A7 := Aside0.mk A70
    clear A70
    have HC8 := Aside0.mk H
    clear H
    go_enter Try.func7, Try.ntmps7
    go_upto_region 8 with (first | ((with_reducible refine gate_callee (f := 13) rfl ?_); refine goesL_ (some 15) rfl rfl Try.func13 (by kernel_rfl) rfl #[.int .u64 a0] rfl (by (try simp only [List.map_toArray, List.map_cons, List.map_nil]); first | done | rfl | (simp only [List.length_drop, List.length_take]; rfl)) ?_; (with_reducible refine (version_Lock.calls a0 t103 t104 _ A2.out).mono ?_); rintro e w9 ⟨rfl, hb⟩; refine ⟨_, rfl, ?_⟩; have n0_ := Aside0.mk (below_step (by repeat (first | (with_reducible first | exact HB.out | apply below_alloc | apply pw_below_drewN | apply below_drew1) | exact HB.out)) hb); clear HB; have HB := n0_; clear n0_; (try clear hb); (try clear hb2); (try clear hk); (try clear hi)) | ((with_reducible refine gate_callee (f := 16) rfl ?_); refine goesL_ (some 27) rfl rfl Try.func16 (by kernel_rfl) rfl #[.int .u64 t103] rfl (by (try simp only [List.map_toArray, List.map_cons, List.map_nil]); first | done | rfl | (simp only [List.length_drop, List.length_take]; rfl)) ?_; (with_reducible refine (version_Unlock.calls t103 t106 t107 _ A4.out).mono ?_); rintro e w10 ⟨rfl, hb⟩; refine ⟨_, rfl, ?_⟩; have n0_ := Aside0.mk (below_step (by repeat (first | (with_reducible first | exact HB.out | apply below_alloc | apply pw_below_drewN | apply below_drew1) | exact HB.out)) hb); clear HB; have HB := n0_; clear n0_; (try clear hb); (try clear hb2); (try clear hk); (try clear hi)) | ((with_reducible refine gate_callee (f := 14) rfl ?_); refine goesL_ (some 32) rfl rfl Try.func14 (by kernel_rfl) rfl #[.int .u64 t103] rfl (by (try simp only [List.map_toArray, List.map_cons, List.map_nil]); first | done | rfl | (simp only [List.length_drop, List.length_take]; rfl)) ?_; (with_reducible refine (version_Insert.calls t103 t108 t109 _ A5.out).mono ?_); rintro e w11 ⟨rfl, hb⟩; refine ⟨_, rfl, ?_⟩; have n0_ := Aside0.mk (below_step (by repeat (first | (with_reducible first | exact HB.out | apply below_alloc | apply pw_below_drewN | apply below_drew1) | exact HB.out)) hb); clear HB; have HB := n0_; clear n0_; (try clear hb); (try clear hb2); (try clear hk); (try clear hi)) | ((with_reducible refine gate_callee (f := 15) rfl ?_); refine goesL_ (some 37) rfl rfl Try.func15 (by kernel_rfl) rfl #[.int .u64 t108] rfl (by (try simp only [List.map_toArray, List.map_cons, List.map_nil]); first | done | rfl | (simp only [List.length_drop, List.length_take]; rfl)) ?_; (with_reducible refine (version_Split.calls t108 t110 t111 _ A6.out).mono ?_); rintro e w12 ⟨rfl, hb⟩; refine ⟨_, rfl, ?_⟩; have n0_ := Aside0.mk (below_step (by repeat (first | (with_reducible first | exact HB.out | apply below_alloc | apply pw_below_drewN | apply below_drew1) | exact HB.out)) hb); clear HB; have HB := n0_; clear n0_; (try clear hb); (try clear hb2); (try clear hk); (try clear hi)) | ((with_reducible refine gate_callee (f := 16) rfl ?_); refine goesL_ (some 42) rfl rfl Try.func16 (by kernel_rfl) rfl #[.int .u64 t110] rfl (by (try simp only [List.map_toArray, List.map_cons, List.map_nil]); first | done | rfl | (simp only [List.length_drop, List.length_take]; rfl)) ?_; (with_reducible refine (version_Unlock.calls t110 t112 t113 _ A7.out).mono ?_); rintro e w13 ⟨rfl, hb⟩; refine ⟨_, rfl, ?_⟩; have n0_ := Aside0.mk (below_step (by repeat (first | (with_reducible first | exact HB.out | apply below_alloc | apply pw_below_drewN | apply below_drew1) | exact HB.out)) hb); clear HB; have HB := n0_; clear n0_; (try clear hb); (try clear hb2); (try clear hk); (try clear hi)))
    (try simp only [Act.put, List.setIfInBounds_toArray, List.set_cons_zero, List.set_cons_succ])
    go_cut [69] (fun v69 wc => ∃ (kq : Nat) (x69_7 : Bool), v69 = .bool x69_7 ∧ Aside0 (garnerlaw10_VersionRound.j0 kq a0 t106 x69_7 = some r) ∧ Aside0 (kq ≤ k) ∧ Aside0 (Below w.heap.size w wc))
    case first =>
      have H := HC8.out
      clear HC8
      by_cases c14 : t113 = 0
      · rw [if_pos c14] at H
        have c14b0 : (t113 == 0) = true := beq_iff_eq.mpr c14
        have c14b1 : (t113 != 0) = false := bne_eq_false_iff_eq.mpr c14
        clear c14
        (first | rw [c14b0] | (simp only [i64_w, i32_w]; rw [c14b0]) | skip)
        replace H := Option.bind_eq_some_iff.mp H
        obtain ⟨t114, A150, H⟩ := H
        replace H : (if t114 = true then ((version_Has.f t112 1).bind fun t115 => (if t115 = true then (garnerlaw10_VersionRound.j0 k a0 t106 true) else (if (Go.bits .and .u64 t112 56) = (Go.bits .and .u64 a0 56) then ((version_Inserts.f t112).bind fun t116 => ((version_Inserts.f a0).bind fun t117 => (garnerlaw10_VersionRound.j0 k a0 t106 (t116 != t117)))) else (garnerlaw10_VersionRound.j0 k a0 t106 true)))) else (garnerlaw10_VersionRound.j0 k a0 t106 true)) = some r := H
        have A15 := Aside0.mk A150
        clear A150
        by_cases c16 : t114 = true
        · subst c16
          have H1 : ((version_Has.f t112 1).bind fun t115 => (if t115 = true then (garnerlaw10_VersionRound.j0 k a0 t106 true) else (if (Go.bits .and .u64 t112 56) = (Go.bits .and .u64 a0 56) then ((version_Inserts.f t112).bind fun t116 => ((version_Inserts.f a0).bind fun t117 => (garnerlaw10_VersionRound.j0 k a0 t106 (t116 != t117)))) else (garnerlaw10_VersionRound.j0 k a0 t106 true)))) = some r := by rw [if_pos rfl] at H; exact H
          clear H
          have H := H1
          clear H1
          replace H := Option.bind_eq_some_iff.mp H
          obtain ⟨t115, A170, H⟩ := H
          replace H : (if t115 = true then (garnerlaw10_VersionRound.j0 k a0 t106 true) else (if (Go.bits .and .u64 t112 56) = (Go.bits .and .u64 a0 56) then ((version_Inserts.f t112).bind fun t116 => ((version_Inserts.f a0).bind fun t117 => (garnerlaw10_VersionRound.j0 k a0 t106 (t116 != t117)))) else (garnerlaw10_VersionRound.j0 k a0 t106 true))) = some r := H
          have A17 := Aside0.mk A170
          clear A170
          by_cases c18 : t115 = true
          · subst c18
            have H1 : (garnerlaw10_VersionRound.j0 k a0 t106 true) = some r := by rw [if_pos rfl] at H; exact H
            clear H
            have H := H1
            clear H1
            have H' := Aside0.mk H
            clear H
            go_wp2_with (first | (go_at_call 23; (with_reducible refine (version_Still.calls t112 true _ A15.out).mono ?_); rintro e w' ⟨rfl, ⟨nd, rfl⟩⟩) | (go_at_call 24; (with_reducible refine (version_Has.calls t112 1 true _ A17.out).mono ?_); rintro e w' ⟨rfl, ⟨nd, rfl⟩⟩))
            go_meet
            case rel => exact ⟨_, (true), (by first | rfl | (simp; done) | (simp [*]; done)), H', ⟨by first | omega | exact Nat.le_refl _⟩, ⟨by repeat (first | (with_reducible first | exact HB.out | apply below_alloc | apply pw_below_drewN | apply below_drew1) | exact HB.out)⟩⟩
          · replace c18 := Bool.eq_false_iff.mpr c18
            subst c18
            have H1 : (if (Go.bits .and .u64 t112 56) = (Go.bits .and .u64 a0 56) then ((version_Inserts.f t112).bind fun t116 => ((version_Inserts.f a0).bind fun t117 => (garnerlaw10_VersionRound.j0 k a0 t106 (t116 != t117)))) else (garnerlaw10_VersionRound.j0 k a0 t106 true)) = some r := by rw [if_neg (show ¬ (false = true) by decide)] at H; exact H
            clear H
            have H := H1
            clear H1
            by_cases c19 : (Go.bits .and .u64 t112 56) = (Go.bits .and .u64 a0 56)
            · rw [if_pos c19] at H
              have c19b0 : ((Go.bits .and .u64 t112 56) == (Go.bits .and .u64 a0 56)) = true := beq_iff_eq.mpr c19
              have c19b1 : ((Go.bits .and .u64 t112 56) != (Go.bits .and .u64 a0 56)) = false := bne_eq_false_iff_eq.mpr c19
              clear c19
              replace H := Option.bind_eq_some_iff.mp H
              obtain ⟨t116, A200, H⟩ := H
              replace H : ((version_Inserts.f a0).bind fun t117 => (garnerlaw10_VersionRound.j0 k a0 t106 (t116 != t117))) = some r := H
              have A20 := Aside0.mk A200
              clear A200
              replace H := Option.bind_eq_some_iff.mp H
              obtain ⟨t117, A210, H⟩ := H
              replace H : (garnerlaw10_VersionRound.j0 k a0 t106 (t116 != t117)) = some r := H
              have A21 := Aside0.mk A210
              clear A210
              have H' := Aside0.mk H
              clear H
              go_wp2_with (first | (go_at_call 23; (with_reducible refine (version_Still.calls t112 true _ A15.out).mono ?_); rintro e w' ⟨rfl, ⟨nd, rfl⟩⟩) | (go_at_call 24; (with_reducible refine (version_Has.calls t112 1 false _ A17.out).mono ?_); rintro e w' ⟨rfl, ⟨nd, rfl⟩⟩) | (go_at_call 19; (with_reducible refine (version_Inserts.calls t112 t116 _ A20.out).mono ?_); rintro e w' ⟨rfl, ⟨nd, rfl⟩⟩) | (go_at_call 19; (with_reducible refine (version_Inserts.calls a0 t117 _ A21.out).mono ?_); rintro e w' ⟨rfl, ⟨nd, rfl⟩⟩))
              go_meet
              case rel => exact ⟨_, ((t116 != t117)), (by first | rfl | (simp; done) | (simp [*]; done)), H', ⟨by first | omega | exact Nat.le_refl _⟩, ⟨by repeat (first | (with_reducible first | exact HB.out | apply below_alloc | apply pw_below_drewN | apply below_drew1) | exact HB.out)⟩⟩
            · rw [if_neg c19] at H
              have c19b0 : ((Go.bits .and .u64 t112 56) == (Go.bits .and .u64 a0 56)) = false := beq_eq_false_iff_ne.mpr c19
              have c19b1 : ((Go.bits .and .u64 t112 56) != (Go.bits .and .u64 a0 56)) = true := bne_iff_ne.mpr c19
              have H' := Aside0.mk H
              clear H
              go_wp2_with (first | (go_at_call 23; (with_reducible refine (version_Still.calls t112 true _ A15.out).mono ?_); rintro e w' ⟨rfl, ⟨nd, rfl⟩⟩) | (go_at_call 24; (with_reducible refine (version_Has.calls t112 1 false _ A17.out).mono ?_); rintro e w' ⟨rfl, ⟨nd, rfl⟩⟩))
              go_meet
              case rel => exact ⟨_, (true), (by first | rfl | (simp; done) | (simp [*]; done)), H', ⟨by first | omega | exact Nat.le_refl _⟩, ⟨by repeat (first | (with_reducible first | exact HB.out | apply below_alloc | apply pw_below_drewN | apply below_drew1) | exact HB.out)⟩⟩
        · replace c16 := Bool.eq_false_iff.mpr c16
          subst c16
          have H1 : (garnerlaw10_VersionRound.j0 k a0 t106 true) = some r := by rw [if_neg (show ¬ (false = true) by decide)] at H; exact H
          clear H
          have H := H1
          clear H1
          have H' := Aside0.mk H
          clear H
          go_wp2_with (first | (go_at_call 23; (with_reducible refine (version_Still.calls t112 false _ A15.out).mono ?_); rintro e w' ⟨rfl, ⟨nd, rfl⟩⟩))
          go_meet
          case rel => exact ⟨_, (true), (by first | rfl | (simp; done) | (simp [*]; done)), H', ⟨by first | omega | exact Nat.le_refl _⟩, ⟨by repeat (first | (with_reducible first | exact HB.out | apply below_alloc | apply pw_below_drewN | apply below_drew1) | exact HB.out)⟩⟩
      · rw [if_neg c14] at H
        have c14b0 : (t113 == 0) = false := beq_eq_false_iff_ne.mpr c14
        have c14b1 : (t113 != 0) = true := bne_iff_ne.mpr c14
        (first | rw [c14b0] | (simp only [i64_w, i32_w]; rw [c14b0]) | skip)
        have H' := Aside0.mk H
        clear H
        go_wp2
        go_meet
        case rel => exact ⟨_, (true), (by first | rfl | (simp; done) | (simp [*]; done)), H', ⟨by first | omega | exact Nat.le_refl _⟩, ⟨by repeat (first | (with_reducible first | exact HB.out | apply below_alloc | apply pw_below_drewN | apply below_drew1) | exact HB.out)⟩⟩
    case rest =>
      clear HC8
      try clear c1
      try clear p2
      try clear c3
      try clear c3b0
      try clear c3b1
      try clear c7
      try clear c13
      try clear c14
      try clear c14b0
      try clear c14b1
      try clear c15
      try clear c16
      try clear c18
      try clear c19
      try clear c19b0
      try clear c19b1
      obtain ⟨kq, x69_7, rfl, HA, HJ7, HB⟩ := hcut
      cases kq with
      | zero => exact absurd HA.out (by simp [garnerlaw10_VersionRound.j0])
      | succ kj7 =>
        have H := HA.out
        clear HA
        simp only [garnerlaw10_VersionRound.j0] at H
        by_cases c22 : x69_7 = true
        · subst c22
          have H1 : (some false) = some r := by rw [if_pos rfl] at H; exact H
          clear H
          have H := H1
          clear H1
          obtain rfl := Option.some.inj H
          go_wp2
          go_ret
          exact ⟨by first | rfl | (simp [errW_none, errW_some] <;> rfl) | (simp [*, errW_none, errW_some] <;> rfl), by repeat (first | (with_reducible first | exact HB.out | apply below_alloc | apply pw_below_drewN | apply below_drew1) | exact HB.out)⟩
        · replace c22 := Bool.eq_false_iff.mpr c22
          subst c22
          have H1 : ((garnerlaw10_bit.f a0 2).bind fun t118 => (if t118 = true then (garnerlaw10_VersionRound.j1 kj7 a0 false) else ((garnerlaw10_bit.f a0 4).bind fun t119 => (if t119 = true then (garnerlaw10_VersionRound.j1 kj7 a0 false) else (garnerlaw10_VersionRound.j1 kj7 a0 (t106 != a0)))))) = some r := by rw [if_neg (show ¬ (false = true) by decide)] at H; exact H
          clear H
          have H := H1
          clear H1
          have HC23 := Aside0.mk H
          clear H
          go_upto_region 10 with (fail)
          go_cut [82] (fun v82 wc => ∃ (kq : Nat) (x82_22 : Bool), v82 = .bool x82_22 ∧ Aside0 (garnerlaw10_VersionRound.j1 kq a0 x82_22 = some r) ∧ Aside0 (kq ≤ kj7) ∧ Aside0 (Below w.heap.size w wc))
          case first =>
            have H := HC23.out
            clear HC23
            replace H := Option.bind_eq_some_iff.mp H
            obtain ⟨t118, A240, H⟩ := H
            replace H : (if t118 = true then (garnerlaw10_VersionRound.j1 kj7 a0 false) else ((garnerlaw10_bit.f a0 4).bind fun t119 => (if t119 = true then (garnerlaw10_VersionRound.j1 kj7 a0 false) else (garnerlaw10_VersionRound.j1 kj7 a0 (t106 != a0))))) = some r := H
            have A24 := Aside0.mk A240
            clear A240
            by_cases c25 : t118 = true
            · subst c25
              have H1 : (garnerlaw10_VersionRound.j1 kj7 a0 false) = some r := by rw [if_pos rfl] at H; exact H
              clear H
              have H := H1
              clear H1
              have H' := Aside0.mk H
              clear H
              go_wp2_with (first | ((with_reducible refine gate_callee (f := 8) rfl ?_); refine goesL_ (some 71) rfl rfl Try.func8 (by kernel_rfl) rfl #[.int .u64 a0, .int .u64 2] rfl (by (try simp only [List.map_toArray, List.map_cons, List.map_nil]); first | done | rfl | (simp only [List.length_drop, List.length_take]; rfl)) ?_; (with_reducible refine (garnerlaw10_bit.calls a0 2 true _ A24.out).mono ?_); rintro e w' ⟨rfl, ⟨nd, rfl⟩⟩; refine ⟨_, rfl, ?_⟩) | (go_at_call 8; (with_reducible refine (garnerlaw10_bit.calls a0 2 true _ A24.out).mono ?_); rintro e w' ⟨rfl, ⟨nd, rfl⟩⟩))
              go_meet
              case rel => exact ⟨_, (false), (by first | rfl | (simp; done) | (simp [*]; done)), H', ⟨by have := HJ7.out; first | omega | exact Nat.le_refl _⟩, ⟨by repeat (first | (with_reducible first | exact HB.out | apply below_alloc | apply pw_below_drewN | apply below_drew1) | exact HB.out)⟩⟩
            · replace c25 := Bool.eq_false_iff.mpr c25
              subst c25
              have H1 : ((garnerlaw10_bit.f a0 4).bind fun t119 => (if t119 = true then (garnerlaw10_VersionRound.j1 kj7 a0 false) else (garnerlaw10_VersionRound.j1 kj7 a0 (t106 != a0)))) = some r := by rw [if_neg (show ¬ (false = true) by decide)] at H; exact H
              clear H
              have H := H1
              clear H1
              replace H := Option.bind_eq_some_iff.mp H
              obtain ⟨t119, A260, H⟩ := H
              replace H : (if t119 = true then (garnerlaw10_VersionRound.j1 kj7 a0 false) else (garnerlaw10_VersionRound.j1 kj7 a0 (t106 != a0))) = some r := H
              have A26 := Aside0.mk A260
              clear A260
              by_cases c27 : t119 = true
              · subst c27
                have H1 : (garnerlaw10_VersionRound.j1 kj7 a0 false) = some r := by rw [if_pos rfl] at H; exact H
                clear H
                have H := H1
                clear H1
                have H' := Aside0.mk H
                clear H
                go_wp2_with (first | ((with_reducible refine gate_callee (f := 8) rfl ?_); refine goesL_ (some 71) rfl rfl Try.func8 (by kernel_rfl) rfl #[.int .u64 a0, .int .u64 2] rfl (by (try simp only [List.map_toArray, List.map_cons, List.map_nil]); first | done | rfl | (simp only [List.length_drop, List.length_take]; rfl)) ?_; (with_reducible refine (garnerlaw10_bit.calls a0 2 false _ A24.out).mono ?_); rintro e w' ⟨rfl, ⟨nd, rfl⟩⟩; refine ⟨_, rfl, ?_⟩) | (go_at_call 8; (with_reducible refine (garnerlaw10_bit.calls a0 2 false _ A24.out).mono ?_); rintro e w' ⟨rfl, ⟨nd, rfl⟩⟩) | (go_at_call 8; (with_reducible refine (garnerlaw10_bit.calls a0 4 true _ A26.out).mono ?_); rintro e w' ⟨rfl, ⟨nd, rfl⟩⟩))
                go_meet
                case rel => exact ⟨_, (false), (by first | rfl | (simp; done) | (simp [*]; done)), H', ⟨by have := HJ7.out; first | omega | exact Nat.le_refl _⟩, ⟨by repeat (first | (with_reducible first | exact HB.out | apply below_alloc | apply pw_below_drewN | apply below_drew1) | exact HB.out)⟩⟩
              · replace c27 := Bool.eq_false_iff.mpr c27
                subst c27
                have H1 : (garnerlaw10_VersionRound.j1 kj7 a0 (t106 != a0)) = some r := by rw [if_neg (show ¬ (false = true) by decide)] at H; exact H
                clear H
                have H := H1
                clear H1
                have H' := Aside0.mk H
                clear H
                go_wp2_with (first | ((with_reducible refine gate_callee (f := 8) rfl ?_); refine goesL_ (some 71) rfl rfl Try.func8 (by kernel_rfl) rfl #[.int .u64 a0, .int .u64 2] rfl (by (try simp only [List.map_toArray, List.map_cons, List.map_nil]); first | done | rfl | (simp only [List.length_drop, List.length_take]; rfl)) ?_; (with_reducible refine (garnerlaw10_bit.calls a0 2 false _ A24.out).mono ?_); rintro e w' ⟨rfl, ⟨nd, rfl⟩⟩; refine ⟨_, rfl, ?_⟩) | (go_at_call 8; (with_reducible refine (garnerlaw10_bit.calls a0 2 false _ A24.out).mono ?_); rintro e w' ⟨rfl, ⟨nd, rfl⟩⟩) | (go_at_call 8; (with_reducible refine (garnerlaw10_bit.calls a0 4 false _ A26.out).mono ?_); rintro e w' ⟨rfl, ⟨nd, rfl⟩⟩))
                go_meet
                case rel => exact ⟨_, ((t106 != a0)), (by first | rfl | (simp; done) | (simp [*]; done)), H', ⟨by have := HJ7.out; first | omega | exact Nat.le_refl _⟩, ⟨by repeat (first | (with_reducible first | exact HB.out | apply below_alloc | apply pw_below_drewN | apply below_drew1) | exact HB.out)⟩⟩
          case rest =>
            clear HC23
            try clear c1
            try clear c2
            try clear p2
            try clear c3
            try clear c3b0
            try clear c3b1
            try clear c7
            try clear c8
            try clear c13
            try clear c14
            try clear c14b0
            try clear c14b1
            try clear c15
            try clear c16
            try clear c18
            try clear c19
            try clear c19b0
            try clear c19b1
            try clear c22
            try clear c25
            try clear c27
            try clear p2
            obtain ⟨kq, x82_22, rfl, HA, HJ22, HB⟩ := hcut
            cases kq with
            | zero => exact absurd HA.out (by simp [garnerlaw10_VersionRound.j1])
            | succ kj22 =>
              have H := HA.out
              clear HA
              simp only [garnerlaw10_VersionRound.j1] at H
              by_cases c28 : x82_22 = true
              · subst c28
                have H1 : (some false) = some r := by rw [if_pos rfl] at H; exact H
                clear H
                have H := H1
                clear H1
                obtain rfl := Option.some.inj H
                go_wp2
                go_ret
                exact ⟨by first | rfl | (simp [errW_none, errW_some] <;> rfl) | (simp [*, errW_none, errW_some] <;> rfl), by repeat (first | (with_reducible first | exact HB.out | apply below_alloc | apply pw_below_drewN | apply below_drew1) | exact HB.out)⟩
              · replace c28 := Bool.eq_false_iff.mpr c28
                subst c28
                have H1 : ((version_Root.f a0 true).bind fun t120 => ((version_Root.f t120 false).bind fun t121 => ((version_Root.f a0 false).bind fun t122 => (if t121 = t122 then ((version_Gone.f a0).bind fun t123 => ((version_Gone.f t123).bind fun t124 => (if t124 = t123 then ((garnerlaw10_known.f).bind fun t125 => (some t125)) else (some false)))) else (some false))))) = some r := by rw [if_neg (show ¬ (false = true) by decide)] at H; exact H
                clear H
                have H := H1
                clear H1
                replace H := Option.bind_eq_some_iff.mp H
                obtain ⟨t120, A290, H⟩ := H
                replace H : ((version_Root.f t120 false).bind fun t121 => ((version_Root.f a0 false).bind fun t122 => (if t121 = t122 then ((version_Gone.f a0).bind fun t123 => ((version_Gone.f t123).bind fun t124 => (if t124 = t123 then ((garnerlaw10_known.f).bind fun t125 => (some t125)) else (some false)))) else (some false)))) = some r := H
                have A29 := Aside0.mk A290
                clear A290
                replace H := Option.bind_eq_some_iff.mp H
                obtain ⟨t121, A300, H⟩ := H
                replace H : ((version_Root.f a0 false).bind fun t122 => (if t121 = t122 then ((version_Gone.f a0).bind fun t123 => ((version_Gone.f t123).bind fun t124 => (if t124 = t123 then ((garnerlaw10_known.f).bind fun t125 => (some t125)) else (some false)))) else (some false))) = some r := H
                have A30 := Aside0.mk A300
                clear A300
                replace H := Option.bind_eq_some_iff.mp H
                obtain ⟨t122, A310, H⟩ := H
                replace H : (if t121 = t122 then ((version_Gone.f a0).bind fun t123 => ((version_Gone.f t123).bind fun t124 => (if t124 = t123 then ((garnerlaw10_known.f).bind fun t125 => (some t125)) else (some false)))) else (some false)) = some r := H
                have A31 := Aside0.mk A310
                clear A310
                by_cases c32 : t121 = t122
                · rw [if_pos c32] at H
                  have c32b0 : (t121 == t122) = true := beq_iff_eq.mpr c32
                  have c32b1 : (t121 != t122) = false := bne_eq_false_iff_eq.mpr c32
                  clear c32
                  replace H := Option.bind_eq_some_iff.mp H
                  obtain ⟨t123, A330, H⟩ := H
                  replace H : ((version_Gone.f t123).bind fun t124 => (if t124 = t123 then ((garnerlaw10_known.f).bind fun t125 => (some t125)) else (some false))) = some r := H
                  have A33 := Aside0.mk A330
                  clear A330
                  replace H := Option.bind_eq_some_iff.mp H
                  obtain ⟨t124, A340, H⟩ := H
                  replace H : (if t124 = t123 then ((garnerlaw10_known.f).bind fun t125 => (some t125)) else (some false)) = some r := H
                  have A34 := Aside0.mk A340
                  clear A340
                  by_cases c35 : t124 = t123
                  · rw [if_pos c35] at H
                    have c35b0 : (t124 == t123) = true := beq_iff_eq.mpr c35
                    have c35b1 : (t124 != t123) = false := bne_eq_false_iff_eq.mpr c35
                    clear c35
                    replace H := Option.bind_eq_some_iff.mp H
                    obtain ⟨t125, A360, H⟩ := H
                    replace H : (some t125) = some r := H
                    have A36 := Aside0.mk A360
                    clear A360
                    obtain rfl := Option.some.inj H
                    go_wp2_with (first | ((with_reducible refine gate_callee (f := 25) rfl ?_); refine goesL_ (some 84) rfl rfl Try.func25 (by kernel_rfl) rfl #[.int .u64 a0, .bool true] rfl (by (try simp only [List.map_toArray, List.map_cons, List.map_nil]); first | done | rfl | (simp only [List.length_drop, List.length_take]; rfl)) ?_; (with_reducible refine (version_Root.calls a0 true t120 _ A29.out).mono ?_); rintro e w' ⟨rfl, ⟨nd, rfl⟩⟩; refine ⟨_, rfl, ?_⟩) | (go_at_call 25; (with_reducible refine (version_Root.calls a0 true t120 _ A29.out).mono ?_); rintro e w' ⟨rfl, ⟨nd, rfl⟩⟩) | ((with_reducible refine gate_callee (f := 25) rfl ?_); refine goesL_ (some 85) rfl rfl Try.func25 (by kernel_rfl) rfl #[.int .u64 t120, .bool false] rfl (by (try simp only [List.map_toArray, List.map_cons, List.map_nil]); first | done | rfl | (simp only [List.length_drop, List.length_take]; rfl)) ?_; (with_reducible refine (version_Root.calls t120 false t121 _ A30.out).mono ?_); rintro e w' ⟨rfl, ⟨nd, rfl⟩⟩; refine ⟨_, rfl, ?_⟩) | (go_at_call 25; (with_reducible refine (version_Root.calls t120 false t121 _ A30.out).mono ?_); rintro e w' ⟨rfl, ⟨nd, rfl⟩⟩) | ((with_reducible refine gate_callee (f := 25) rfl ?_); refine goesL_ (some 87) rfl rfl Try.func25 (by kernel_rfl) rfl #[.int .u64 a0, .bool false] rfl (by (try simp only [List.map_toArray, List.map_cons, List.map_nil]); first | done | rfl | (simp only [List.length_drop, List.length_take]; rfl)) ?_; (with_reducible refine (version_Root.calls a0 false t122 _ A31.out).mono ?_); rintro e w' ⟨rfl, ⟨nd, rfl⟩⟩; refine ⟨_, rfl, ?_⟩) | (go_at_call 25; (with_reducible refine (version_Root.calls a0 false t122 _ A31.out).mono ?_); rintro e w' ⟨rfl, ⟨nd, rfl⟩⟩) | (go_at_call 26; (with_reducible refine (version_Gone.calls a0 t123 _ A33.out).mono ?_); rintro e w' ⟨rfl, ⟨nd, rfl⟩⟩) | (go_at_call 26; (with_reducible refine (version_Gone.calls t123 t124 _ A34.out).mono ?_); rintro e w' ⟨rfl, ⟨nd, rfl⟩⟩) | (go_at_call 11; (with_reducible refine (garnerlaw10_known.calls  t125 _ A36.out).mono ?_); rintro e w37 ⟨rfl, hb⟩; have n0_ := Aside0.mk (below_step (by repeat (first | (with_reducible first | exact HB.out | apply below_alloc | apply pw_below_drewN | apply below_drew1) | exact HB.out)) hb); clear HB; have HB := n0_; clear n0_; (try clear hb); (try clear hb2); (try clear hk); (try clear hi)))
                    go_ret
                    exact ⟨by first | rfl | (simp [errW_none, errW_some] <;> rfl) | (simp [*, errW_none, errW_some] <;> rfl), by repeat (first | (with_reducible first | exact HB.out | apply below_alloc | apply pw_below_drewN | apply below_drew1) | exact HB.out)⟩
                  · rw [if_neg c35] at H
                    have c35b0 : (t124 == t123) = false := beq_eq_false_iff_ne.mpr c35
                    have c35b1 : (t124 != t123) = true := bne_iff_ne.mpr c35
                    obtain rfl := Option.some.inj H
                    go_wp2_with (first | ((with_reducible refine gate_callee (f := 25) rfl ?_); refine goesL_ (some 84) rfl rfl Try.func25 (by kernel_rfl) rfl #[.int .u64 a0, .bool true] rfl (by (try simp only [List.map_toArray, List.map_cons, List.map_nil]); first | done | rfl | (simp only [List.length_drop, List.length_take]; rfl)) ?_; (with_reducible refine (version_Root.calls a0 true t120 _ A29.out).mono ?_); rintro e w' ⟨rfl, ⟨nd, rfl⟩⟩; refine ⟨_, rfl, ?_⟩) | (go_at_call 25; (with_reducible refine (version_Root.calls a0 true t120 _ A29.out).mono ?_); rintro e w' ⟨rfl, ⟨nd, rfl⟩⟩) | ((with_reducible refine gate_callee (f := 25) rfl ?_); refine goesL_ (some 85) rfl rfl Try.func25 (by kernel_rfl) rfl #[.int .u64 t120, .bool false] rfl (by (try simp only [List.map_toArray, List.map_cons, List.map_nil]); first | done | rfl | (simp only [List.length_drop, List.length_take]; rfl)) ?_; (with_reducible refine (version_Root.calls t120 false t121 _ A30.out).mono ?_); rintro e w' ⟨rfl, ⟨nd, rfl⟩⟩; refine ⟨_, rfl, ?_⟩) | (go_at_call 25; (with_reducible refine (version_Root.calls t120 false t121 _ A30.out).mono ?_); rintro e w' ⟨rfl, ⟨nd, rfl⟩⟩) | ((with_reducible refine gate_callee (f := 25) rfl ?_); refine goesL_ (some 87) rfl rfl Try.func25 (by kernel_rfl) rfl #[.int .u64 a0, .bool false] rfl (by (try simp only [List.map_toArray, List.map_cons, List.map_nil]); first | done | rfl | (simp only [List.length_drop, List.length_take]; rfl)) ?_; (with_reducible refine (version_Root.calls a0 false t122 _ A31.out).mono ?_); rintro e w' ⟨rfl, ⟨nd, rfl⟩⟩; refine ⟨_, rfl, ?_⟩) | (go_at_call 25; (with_reducible refine (version_Root.calls a0 false t122 _ A31.out).mono ?_); rintro e w' ⟨rfl, ⟨nd, rfl⟩⟩) | (go_at_call 26; (with_reducible refine (version_Gone.calls a0 t123 _ A33.out).mono ?_); rintro e w' ⟨rfl, ⟨nd, rfl⟩⟩) | (go_at_call 26; (with_reducible refine (version_Gone.calls t123 t124 _ A34.out).mono ?_); rintro e w' ⟨rfl, ⟨nd, rfl⟩⟩))
                    go_ret
                    exact ⟨by first | rfl | (simp [errW_none, errW_some] <;> rfl) | (simp [*, errW_none, errW_some] <;> rfl), by repeat (first | (with_reducible first | exact HB.out | apply below_alloc | apply pw_below_drewN | apply below_drew1) | exact HB.out)⟩
                · rw [if_neg c32] at H
                  have c32b0 : (t121 == t122) = false := beq_eq_false_iff_ne.mpr c32
                  have c32b1 : (t121 != t122) = true := bne_iff_ne.mpr c32
                  obtain rfl := Option.some.inj H
                  go_wp2_with (first | ((with_reducible refine gate_callee (f := 25) rfl ?_); refine goesL_ (some 84) rfl rfl Try.func25 (by kernel_rfl) rfl #[.int .u64 a0, .bool true] rfl (by (try simp only [List.map_toArray, List.map_cons, List.map_nil]); first | done | rfl | (simp only [List.length_drop, List.length_take]; rfl)) ?_; (with_reducible refine (version_Root.calls a0 true t120 _ A29.out).mono ?_); rintro e w' ⟨rfl, ⟨nd, rfl⟩⟩; refine ⟨_, rfl, ?_⟩) | (go_at_call 25; (with_reducible refine (version_Root.calls a0 true t120 _ A29.out).mono ?_); rintro e w' ⟨rfl, ⟨nd, rfl⟩⟩) | ((with_reducible refine gate_callee (f := 25) rfl ?_); refine goesL_ (some 85) rfl rfl Try.func25 (by kernel_rfl) rfl #[.int .u64 t120, .bool false] rfl (by (try simp only [List.map_toArray, List.map_cons, List.map_nil]); first | done | rfl | (simp only [List.length_drop, List.length_take]; rfl)) ?_; (with_reducible refine (version_Root.calls t120 false t121 _ A30.out).mono ?_); rintro e w' ⟨rfl, ⟨nd, rfl⟩⟩; refine ⟨_, rfl, ?_⟩) | (go_at_call 25; (with_reducible refine (version_Root.calls t120 false t121 _ A30.out).mono ?_); rintro e w' ⟨rfl, ⟨nd, rfl⟩⟩) | ((with_reducible refine gate_callee (f := 25) rfl ?_); refine goesL_ (some 87) rfl rfl Try.func25 (by kernel_rfl) rfl #[.int .u64 a0, .bool false] rfl (by (try simp only [List.map_toArray, List.map_cons, List.map_nil]); first | done | rfl | (simp only [List.length_drop, List.length_take]; rfl)) ?_; (with_reducible refine (version_Root.calls a0 false t122 _ A31.out).mono ?_); rintro e w' ⟨rfl, ⟨nd, rfl⟩⟩; refine ⟨_, rfl, ?_⟩) | (go_at_call 25; (with_reducible refine (version_Root.calls a0 false t122 _ A31.out).mono ?_); rintro e w' ⟨rfl, ⟨nd, rfl⟩⟩))
                  go_ret
                  exact ⟨by first | rfl | (simp [errW_none, errW_some] <;> rfl) | (simp [*, errW_none, errW_some] <;> rfl), by repeat (first | (with_reducible first | exact HB.out | apply below_alloc | apply pw_below_drewN | apply below_drew1) | exact HB.out)⟩
  · rw [if_neg c3] at H
    have c3b0 : (t104 == 0) = false := beq_eq_false_iff_ne.mpr c3
    have c3b1 : (t104 != 0) = true := bne_iff_ne.mpr c3
    by_cases c38 : t103 = 0
    · rw [if_pos c38] at H
      have c38b0 : (t103 == 0) = true := beq_iff_eq.mpr c38
      have c38b1 : (t103 != 0) = false := bne_eq_false_iff_eq.mpr c38
      clear c38
      replace H := Option.bind_eq_some_iff.mp H
      obtain ⟨t105, A390, H⟩ := H
      replace H : (some t105) = some r := H
      have A39 := Aside0.mk A390
      clear A390
      obtain rfl := Option.some.inj H
      go_enter Try.func7, Try.ntmps7
      go_wp2_with (first | ((with_reducible refine gate_callee (f := 13) rfl ?_); refine goesL_ (some 15) rfl rfl Try.func13 (by kernel_rfl) rfl #[.int .u64 a0] rfl (by (try simp only [List.map_toArray, List.map_cons, List.map_nil]); first | done | rfl | (simp only [List.length_drop, List.length_take]; rfl)) ?_; (with_reducible refine (version_Lock.calls a0 t103 t104 _ A2.out).mono ?_); rintro e w40 ⟨rfl, hb⟩; refine ⟨_, rfl, ?_⟩; have n0_ := Aside0.mk (below_step (by repeat (first | (with_reducible first | exact HB.out | apply below_alloc | apply pw_below_drewN | apply below_drew1) | exact HB.out)) hb); clear HB; have HB := n0_; clear n0_; (try clear hb); (try clear hb2); (try clear hk); (try clear hi)) | (go_at_call 11; (with_reducible refine (garnerlaw10_known.calls  t105 _ A39.out).mono ?_); rintro e w41 ⟨rfl, hb⟩; have n0_ := Aside0.mk (below_step (by repeat (first | (with_reducible first | exact HB.out | apply below_alloc | apply pw_below_drewN | apply below_drew1) | exact HB.out)) hb); clear HB; have HB := n0_; clear n0_; (try clear hb); (try clear hb2); (try clear hk); (try clear hi)))
      go_ret
      exact ⟨by first | rfl | (simp [errW_none, errW_some] <;> rfl) | (simp [*, errW_none, errW_some] <;> rfl), by repeat (first | (with_reducible first | exact HB.out | apply below_alloc | apply pw_below_drewN | apply below_drew1) | exact HB.out)⟩
    · rw [if_neg c38] at H
      have c38b0 : (t103 == 0) = false := beq_eq_false_iff_ne.mpr c38
      have c38b1 : (t103 != 0) = true := bne_iff_ne.mpr c38
      obtain rfl := Option.some.inj H
      go_enter Try.func7, Try.ntmps7
      go_wp2_with (first | ((with_reducible refine gate_callee (f := 13) rfl ?_); refine goesL_ (some 15) rfl rfl Try.func13 (by kernel_rfl) rfl #[.int .u64 a0] rfl (by (try simp only [List.map_toArray, List.map_cons, List.map_nil]); first | done | rfl | (simp only [List.length_drop, List.length_take]; rfl)) ?_; (with_reducible refine (version_Lock.calls a0 t103 t104 _ A2.out).mono ?_); rintro e w42 ⟨rfl, hb⟩; refine ⟨_, rfl, ?_⟩; have n0_ := Aside0.mk (below_step (by repeat (first | (with_reducible first | exact HB.out | apply below_alloc | apply pw_below_drewN | apply below_drew1) | exact HB.out)) hb); clear HB; have HB := n0_; clear n0_; (try clear hb); (try clear hb2); (try clear hk); (try clear hi)))
      go_ret
      exact ⟨by first | rfl | (simp [errW_none, errW_some] <;> rfl) | (simp [*, errW_none, errW_some] <;> rfl), by repeat (first | (with_reducible first | exact HB.out | apply below_alloc | apply pw_below_drewN | apply below_drew1) | exact HB.out)⟩

/-- THE ONE PURE STATEMENT of garnerlaw10_VersionRound: yours. -/
def garnerlaw10_VersionRound.Pure : Prop := ∀ (a0 : Int), (Lit.int .u64 a0).wf = true → ∃ k, garnerlaw10_VersionRound.f k a0 = some true
theorem garnerlaw10_VersionRound.walk (P : garnerlaw10_VersionRound.Pure) (a0 : Int) (w : World) (w0 : (Lit.int .u64 a0).wf = true) :
    Calls Try.prog 7 #[.int .u64 a0] w fun e w' => e = .returned (.bool true) ∧ Below w.heap.size w w' := by
  obtain ⟨k, h⟩ := P a0 w0
  refine (garnerlaw10_VersionRound.calls k a0 true w h).mono ?_
  rintro e w' ⟨rfl, hd⟩
  exact ⟨rfl, hd⟩

end Go.Proofs.Ythkdeaeppadbhaa.HVersionRound
