-- Written for this claim by a program of this session, hp.py.
import Derived.Test.YthkdeaeppadbhaaHVersionTellsx0
import Derived.Test.YthkdeaeppadbhaaHVersionTellsx1
namespace Go.Proofs.Ythkdeaeppadbhaa.HVersionTells
open Go.RowKit Go.Proofs.YthkdeaeppadbhaaW.PrintWords Go.Proofs.YthkdeaeppadbhaaW.PrintLast Go.Proofs.YthkdeaeppadbhaaW.PrintMore
attribute [local go_sem] max2_int min2_int max_two min_two max_three min_three max_four min_four   -- for this text's walks alone
set_option linter.unusedVariables false
set_option linter.unusedSimpArgs false

/-! ### garnerlaw10_VersionTells: function 6 -/
mutual
def garnerlaw10_VersionTells.j0 : Nat → Int → Bool → Bool → Int → Int → Option (Bool)
  | 0, _, _, _, _, _ => none
  | k + 1, x0, x1, x2, x3, x9 => if x2 = true then (garnerlaw10_VersionTells.j1 k x0 x1 x2 x3 (IntKind.u64.wrap (x9 + 32))) else (garnerlaw10_VersionTells.j1 k x0 x1 x2 x3 x9)
def garnerlaw10_VersionTells.j1 : Nat → Int → Bool → Bool → Int → Int → Option (Bool)
  | 0, _, _, _, _, _ => none
  | k + 1, x0, x1, x2, x3, x9 => (version_New.f x1 x2).bind fun t103 => (if t103 = x9 then ((version_May.f x0).bind fun t104 => ((garnerlaw10_may.f x0).bind fun t105 => (if (t104 != t105) = true then (garnerlaw10_VersionTells.j2 k x0 x3 true) else ((version_Still.f x0).bind fun t106 => ((garnerlaw10_bit.f x0 2).bind fun t107 => (if t107 = true then (garnerlaw10_VersionTells.j2 k x0 x3 (t106 != false)) else ((garnerlaw10_bit.f x0 4).bind fun t108 => (garnerlaw10_VersionTells.j2 k x0 x3 (t106 != (!t108)))))))))) else (garnerlaw10_VersionTells.j2 k x0 x3 true))
def garnerlaw10_VersionTells.j2 : Nat → Int → Int → Bool → Option (Bool)
  | 0, _, _, _ => none
  | k + 1, x0, x3, x45 => if x45 = true then (some false) else (garnerlaw10_VersionTells.l0 k x0 x3 true 0)
def garnerlaw10_VersionTells.l0 : Nat → Int → Int → Bool → Int → Option (Bool)
  | 0, _, _, _, _ => none
  | k + 1, x0, x3, x10, x11 => if x11 < 64 then (if 0 ≤ (IntKind.u64.wrap (x11)) then ((garnerlaw10_bit.f x3 (shl .u64 1 (IntKind.u64.wrap (x11)))).bind fun t109 => (if t109 = true then ((garnerlaw10_bit.f x0 (shl .u64 1 (IntKind.u64.wrap (x11)))).bind fun t110 => (if t110 = true then (garnerlaw10_VersionTells.l0 k x0 x3 x10 (wrap64 (x11 + 1))) else (garnerlaw10_VersionTells.l0 k x0 x3 false (wrap64 (x11 + 1))))) else (garnerlaw10_VersionTells.l0 k x0 x3 x10 (wrap64 (x11 + 1))))) else (none)) else ((version_Has.f x0 x3).bind fun t111 => (if (t111 != x10) = true then (garnerlaw10_VersionTells.j4 k x0 true) else ((version_Inserts.f x0).bind fun t112 => (if t112 = (wrap64 (Int.tmod (IntKind.u64.wrap (Int.tdiv x0 256)) 65536)) then ((version_Splits.f x0).bind fun t113 => (garnerlaw10_VersionTells.j4 k x0 (t113 != (wrap64 (Int.tmod (IntKind.u64.wrap (Int.tdiv x0 16777216)) 4294967296))))) else (garnerlaw10_VersionTells.j4 k x0 true)))))
def garnerlaw10_VersionTells.j4 : Nat → Int → Bool → Option (Bool)
  | 0, _, _ => none
  | k + 1, x0, x85 => if x85 = true then (some false) else ((garnerlaw10_bit.f x0 16).bind fun t114 => (if t114 = true then (garnerlaw10_VersionTells.j5 k x0 x0 (IntKind.u64.wrap (x0 - 16))) else (garnerlaw10_VersionTells.j5 k x0 (IntKind.u64.wrap (x0 + 16)) x0)))
def garnerlaw10_VersionTells.j5 : Nat → Int → Int → Int → Option (Bool)
  | 0, _, _, _ => none
  | k + 1, x0, x12, x13 => (garnerlaw10_bit.f x0 8).bind fun t115 => (if t115 = true then (garnerlaw10_VersionTells.j6 k x0 x12 x13 x0) else (garnerlaw10_VersionTells.j6 k x0 x12 x13 (IntKind.u64.wrap (x0 + 8))))
def garnerlaw10_VersionTells.j6 : Nat → Int → Int → Int → Int → Option (Bool)
  | 0, _, _, _, _ => none
  | k + 1, x0, x12, x13, x14 => (version_Root.f x0 true).bind fun t116 => (if t116 = x12 then ((version_Root.f x0 false).bind fun t117 => (if t117 = x13 then ((version_Gone.f x0).bind fun t118 => (if t118 = x14 then ((garnerlaw10_known.f).bind fun t119 => (some t119)) else (some false))) else (some false))) else (some false))
end
def garnerlaw10_VersionTells.f (k : Nat) (a0 : Int) (a1 : Bool) (a2 : Bool) (a3 : Int) : Option (Bool) := if a1 = true then (garnerlaw10_VersionTells.j0 k a0 a1 a2 a3 (0 + 16)) else (garnerlaw10_VersionTells.j0 k a0 a1 a2 a3 0)
theorem garnerlaw10_VersionTells.mono_l : ∀ k, (∀ y0 y1 y2 y3 y4, LeO (garnerlaw10_VersionTells.j0 k y0 y1 y2 y3 y4) (garnerlaw10_VersionTells.j0 (k + 1) y0 y1 y2 y3 y4)) ∧ (∀ y0 y1 y2 y3 y4, LeO (garnerlaw10_VersionTells.j1 k y0 y1 y2 y3 y4) (garnerlaw10_VersionTells.j1 (k + 1) y0 y1 y2 y3 y4)) ∧ (∀ y0 y1 y2, LeO (garnerlaw10_VersionTells.j2 k y0 y1 y2) (garnerlaw10_VersionTells.j2 (k + 1) y0 y1 y2)) ∧ (∀ y0 y1 y2 y3, LeO (garnerlaw10_VersionTells.l0 k y0 y1 y2 y3) (garnerlaw10_VersionTells.l0 (k + 1) y0 y1 y2 y3)) ∧ (∀ y0 y1, LeO (garnerlaw10_VersionTells.j4 k y0 y1) (garnerlaw10_VersionTells.j4 (k + 1) y0 y1)) ∧ (∀ y0 y1 y2, LeO (garnerlaw10_VersionTells.j5 k y0 y1 y2) (garnerlaw10_VersionTells.j5 (k + 1) y0 y1 y2)) ∧ (∀ y0 y1 y2 y3, LeO (garnerlaw10_VersionTells.j6 k y0 y1 y2 y3) (garnerlaw10_VersionTells.j6 (k + 1) y0 y1 y2 y3))
  | 0 => ⟨fun _ _ _ _ _ r h => by simp [garnerlaw10_VersionTells.j0] at h, fun _ _ _ _ _ r h => by simp [garnerlaw10_VersionTells.j1] at h, fun _ _ _ r h => by simp [garnerlaw10_VersionTells.j2] at h, fun _ _ _ _ r h => by simp [garnerlaw10_VersionTells.l0] at h, fun _ _ r h => by simp [garnerlaw10_VersionTells.j4] at h, fun _ _ _ r h => by simp [garnerlaw10_VersionTells.j5] at h, fun _ _ _ _ r h => by simp [garnerlaw10_VersionTells.j6] at h⟩
  | k + 1 => by
    obtain ⟨ih0, ih1, ih2, ih3, ih4, ih5, ih6⟩ := garnerlaw10_VersionTells.mono_l k
    refine ⟨?_, ?_, ?_, ?_, ?_, ?_, ?_⟩
    · intro y0 y1 y2 y3 y4
      unfold garnerlaw10_VersionTells.j0
      repeat' first
      | (with_reducible exact ih0 _ _ _ _ _)
      | (with_reducible exact ih1 _ _ _ _ _)
      | (with_reducible exact ih2 _ _ _)
      | (with_reducible exact ih3 _ _ _ _)
      | (with_reducible exact ih4 _ _)
      | (with_reducible exact ih5 _ _ _)
      | (with_reducible exact ih6 _ _ _ _)
      | (with_reducible exact LeO.refl _)
      | (with_reducible exact LeO.none _)
      | (with_reducible refine LeO.ite ?_ ?_)
      | (with_reducible refine LeO.bind ?_ (fun _ => ?_))
      | exact ih0 _ _ _ _ _
      | exact ih1 _ _ _ _ _
      | exact ih2 _ _ _
      | exact ih3 _ _ _ _
      | exact ih4 _ _
      | exact ih5 _ _ _
      | exact ih6 _ _ _ _
      | exact LeO.none _
      | refine LeO.ite ?_ ?_
      | refine LeO.bind ?_ (fun _ => ?_)
    · intro y0 y1 y2 y3 y4
      unfold garnerlaw10_VersionTells.j1
      repeat' first
      | (with_reducible exact ih0 _ _ _ _ _)
      | (with_reducible exact ih1 _ _ _ _ _)
      | (with_reducible exact ih2 _ _ _)
      | (with_reducible exact ih3 _ _ _ _)
      | (with_reducible exact ih4 _ _)
      | (with_reducible exact ih5 _ _ _)
      | (with_reducible exact ih6 _ _ _ _)
      | (with_reducible exact LeO.refl _)
      | (with_reducible exact LeO.none _)
      | (with_reducible refine LeO.ite ?_ ?_)
      | (with_reducible refine LeO.bind ?_ (fun _ => ?_))
      | exact ih0 _ _ _ _ _
      | exact ih1 _ _ _ _ _
      | exact ih2 _ _ _
      | exact ih3 _ _ _ _
      | exact ih4 _ _
      | exact ih5 _ _ _
      | exact ih6 _ _ _ _
      | exact LeO.none _
      | refine LeO.ite ?_ ?_
      | refine LeO.bind ?_ (fun _ => ?_)
    · intro y0 y1 y2
      unfold garnerlaw10_VersionTells.j2
      repeat' first
      | (with_reducible exact ih0 _ _ _ _ _)
      | (with_reducible exact ih1 _ _ _ _ _)
      | (with_reducible exact ih2 _ _ _)
      | (with_reducible exact ih3 _ _ _ _)
      | (with_reducible exact ih4 _ _)
      | (with_reducible exact ih5 _ _ _)
      | (with_reducible exact ih6 _ _ _ _)
      | (with_reducible exact LeO.refl _)
      | (with_reducible exact LeO.none _)
      | (with_reducible refine LeO.ite ?_ ?_)
      | (with_reducible refine LeO.bind ?_ (fun _ => ?_))
      | exact ih0 _ _ _ _ _
      | exact ih1 _ _ _ _ _
      | exact ih2 _ _ _
      | exact ih3 _ _ _ _
      | exact ih4 _ _
      | exact ih5 _ _ _
      | exact ih6 _ _ _ _
      | exact LeO.none _
      | refine LeO.ite ?_ ?_
      | refine LeO.bind ?_ (fun _ => ?_)
    · intro y0 y1 y2 y3
      unfold garnerlaw10_VersionTells.l0
      repeat' first
      | (with_reducible exact ih0 _ _ _ _ _)
      | (with_reducible exact ih1 _ _ _ _ _)
      | (with_reducible exact ih2 _ _ _)
      | (with_reducible exact ih3 _ _ _ _)
      | (with_reducible exact ih4 _ _)
      | (with_reducible exact ih5 _ _ _)
      | (with_reducible exact ih6 _ _ _ _)
      | (with_reducible exact LeO.refl _)
      | (with_reducible exact LeO.none _)
      | (with_reducible refine LeO.ite ?_ ?_)
      | (with_reducible refine LeO.bind ?_ (fun _ => ?_))
      | exact ih0 _ _ _ _ _
      | exact ih1 _ _ _ _ _
      | exact ih2 _ _ _
      | exact ih3 _ _ _ _
      | exact ih4 _ _
      | exact ih5 _ _ _
      | exact ih6 _ _ _ _
      | exact LeO.none _
      | refine LeO.ite ?_ ?_
      | refine LeO.bind ?_ (fun _ => ?_)
    · intro y0 y1
      unfold garnerlaw10_VersionTells.j4
      repeat' first
      | (with_reducible exact ih0 _ _ _ _ _)
      | (with_reducible exact ih1 _ _ _ _ _)
      | (with_reducible exact ih2 _ _ _)
      | (with_reducible exact ih3 _ _ _ _)
      | (with_reducible exact ih4 _ _)
      | (with_reducible exact ih5 _ _ _)
      | (with_reducible exact ih6 _ _ _ _)
      | (with_reducible exact LeO.refl _)
      | (with_reducible exact LeO.none _)
      | (with_reducible refine LeO.ite ?_ ?_)
      | (with_reducible refine LeO.bind ?_ (fun _ => ?_))
      | exact ih0 _ _ _ _ _
      | exact ih1 _ _ _ _ _
      | exact ih2 _ _ _
      | exact ih3 _ _ _ _
      | exact ih4 _ _
      | exact ih5 _ _ _
      | exact ih6 _ _ _ _
      | exact LeO.none _
      | refine LeO.ite ?_ ?_
      | refine LeO.bind ?_ (fun _ => ?_)
    · intro y0 y1 y2
      unfold garnerlaw10_VersionTells.j5
      repeat' first
      | (with_reducible exact ih0 _ _ _ _ _)
      | (with_reducible exact ih1 _ _ _ _ _)
      | (with_reducible exact ih2 _ _ _)
      | (with_reducible exact ih3 _ _ _ _)
      | (with_reducible exact ih4 _ _)
      | (with_reducible exact ih5 _ _ _)
      | (with_reducible exact ih6 _ _ _ _)
      | (with_reducible exact LeO.refl _)
      | (with_reducible exact LeO.none _)
      | (with_reducible refine LeO.ite ?_ ?_)
      | (with_reducible refine LeO.bind ?_ (fun _ => ?_))
      | exact ih0 _ _ _ _ _
      | exact ih1 _ _ _ _ _
      | exact ih2 _ _ _
      | exact ih3 _ _ _ _
      | exact ih4 _ _
      | exact ih5 _ _ _
      | exact ih6 _ _ _ _
      | exact LeO.none _
      | refine LeO.ite ?_ ?_
      | refine LeO.bind ?_ (fun _ => ?_)
    · intro y0 y1 y2 y3
      unfold garnerlaw10_VersionTells.j6
      repeat' first
      | (with_reducible exact ih0 _ _ _ _ _)
      | (with_reducible exact ih1 _ _ _ _ _)
      | (with_reducible exact ih2 _ _ _)
      | (with_reducible exact ih3 _ _ _ _)
      | (with_reducible exact ih4 _ _)
      | (with_reducible exact ih5 _ _ _)
      | (with_reducible exact ih6 _ _ _ _)
      | (with_reducible exact LeO.refl _)
      | (with_reducible exact LeO.none _)
      | (with_reducible refine LeO.ite ?_ ?_)
      | (with_reducible refine LeO.bind ?_ (fun _ => ?_))
      | exact ih0 _ _ _ _ _
      | exact ih1 _ _ _ _ _
      | exact ih2 _ _ _
      | exact ih3 _ _ _ _
      | exact ih4 _ _
      | exact ih5 _ _ _
      | exact ih6 _ _ _ _
      | exact LeO.none _
      | refine LeO.ite ?_ ?_
      | refine LeO.bind ?_ (fun _ => ?_)
theorem garnerlaw10_VersionTells.mono : ∀ a0 a1 a2 a3 k, LeO (garnerlaw10_VersionTells.f k a0 a1 a2 a3) (garnerlaw10_VersionTells.f (k + 1) a0 a1 a2 a3) := by
  intro a0 a1 a2 a3 k
  obtain ⟨ih0, ih1, ih2, ih3, ih4, ih5, ih6⟩ := garnerlaw10_VersionTells.mono_l k
  unfold garnerlaw10_VersionTells.f
  repeat' first
      | (with_reducible exact ih0 _ _ _ _ _)
      | (with_reducible exact ih1 _ _ _ _ _)
      | (with_reducible exact ih2 _ _ _)
      | (with_reducible exact ih3 _ _ _ _)
      | (with_reducible exact ih4 _ _)
      | (with_reducible exact ih5 _ _ _)
      | (with_reducible exact ih6 _ _ _ _)
      | (with_reducible exact LeO.refl _)
      | (with_reducible exact LeO.none _)
      | (with_reducible refine LeO.ite ?_ ?_)
      | (with_reducible refine LeO.bind ?_ (fun _ => ?_))
      | exact ih0 _ _ _ _ _
      | exact ih1 _ _ _ _ _
      | exact ih2 _ _ _
      | exact ih3 _ _ _ _
      | exact ih4 _ _
      | exact ih5 _ _ _
      | exact ih6 _ _ _ _
      | exact LeO.none _
      | refine LeO.ite ?_ ?_
      | refine LeO.bind ?_ (fun _ => ?_)
set_option maxHeartbeats 8000000 in
set_option maxRecDepth 100000 in
theorem garnerlaw10_VersionTells.calls (k : Nat) (a0 : Int) (a1 : Bool) (a2 : Bool) (a3 : Int) (r : Bool) (w : World) (h : garnerlaw10_VersionTells.f k a0 a1 a2 a3 = some r) :
    Calls Try.prog 6 #[.int .u64 a0, .bool a1, .bool a2, .int .u64 a3] w fun e w' => e = .returned (.bool r) ∧ Below w.heap.size w w' := by
  have HB := Aside0.mk (Below.refl w.heap.size w)
  have H : (if a1 = true then (garnerlaw10_VersionTells.j0 k a0 a1 a2 a3 (0 + 16)) else (garnerlaw10_VersionTells.j0 k a0 a1 a2 a3 0)) = some r := h
  clear h
  have HC5 := Aside0.mk H
  clear H
  go_enter Try.func6, Try.ntmps6
  go_upto_if 15 with (fail)
  go_cut [9] (fun v9 wc => ∃ (kq : Nat) (x9_4 : Int), v9 = .int .u64 x9_4 ∧ Aside0 (garnerlaw10_VersionTells.j0 kq a0 a1 a2 a3 x9_4 = some r) ∧ Aside0 (kq ≤ k) ∧ Aside0 (Below w.heap.size w wc))
  case first =>
    have H := HC5.out
    clear HC5
    by_cases c6 : a1 = true
    · subst c6
      have H1 : (garnerlaw10_VersionTells.j0 k a0 true a2 a3 (0 + 16)) = some r := by rw [if_pos rfl] at H; exact H
      clear H
      have H := H1
      clear H1
      have H' := Aside0.mk H
      clear H
      go_wp2
      go_meet
      case rel => exact ⟨_, (0 + 16), (by first | rfl | (simp; done) | (simp [*]; done)), H', ⟨by first | omega | exact Nat.le_refl _⟩, ⟨by repeat (first | (with_reducible first | exact HB.out | apply below_alloc | apply pw_below_drewN | apply below_drew1) | exact HB.out)⟩⟩
    · replace c6 := Bool.eq_false_iff.mpr c6
      subst c6
      have H1 : (garnerlaw10_VersionTells.j0 k a0 false a2 a3 0) = some r := by rw [if_neg (show ¬ (false = true) by decide)] at H; exact H
      clear H
      have H := H1
      clear H1
      have H' := Aside0.mk H
      clear H
      go_wp2
      go_meet
      case rel => exact ⟨_, (0), (by first | rfl | (simp; done) | (simp [*]; done)), H', ⟨by first | omega | exact Nat.le_refl _⟩, ⟨by repeat (first | (with_reducible first | exact HB.out | apply below_alloc | apply pw_below_drewN | apply below_drew1) | exact HB.out)⟩⟩
  case rest =>
    clear HC5
    try clear p2
    try clear c6
    obtain ⟨kq, x9_4, rfl, HA, HJ4, HB⟩ := hcut
    cases kq with
    | zero => exact absurd HA.out (by simp [garnerlaw10_VersionTells.j0])
    | succ kj4 =>
      have H := HA.out
      clear HA
      simp only [garnerlaw10_VersionTells.j0] at H
      have HC7 := Aside0.mk H
      clear H
      go_upto_if 18 with (fail)
      go_cut [9] (fun v9 wc => ∃ (kq : Nat) (x9_6 : Int), v9 = .int .u64 x9_6 ∧ Aside0 (garnerlaw10_VersionTells.j1 kq a0 a1 a2 a3 x9_6 = some r) ∧ Aside0 (kq ≤ kj4) ∧ Aside0 (Below w.heap.size w wc))
      case first =>
        have H := HC7.out
        clear HC7
        by_cases c8 : a2 = true
        · subst c8
          have H1 : (garnerlaw10_VersionTells.j1 kj4 a0 a1 true a3 (IntKind.u64.wrap (x9_4 + 32))) = some r := by rw [if_pos rfl] at H; exact H
          clear H
          have H := H1
          clear H1
          have H' := Aside0.mk H
          clear H
          go_wp2
          go_meet
          case rel => exact ⟨_, (IntKind.u64.wrap (x9_4 + 32)), (by first | rfl | (simp; done) | (simp [*]; done)), H', ⟨by have := HJ4.out; first | omega | exact Nat.le_refl _⟩, ⟨by repeat (first | (with_reducible first | exact HB.out | apply below_alloc | apply pw_below_drewN | apply below_drew1) | exact HB.out)⟩⟩
        · replace c8 := Bool.eq_false_iff.mpr c8
          subst c8
          have H1 : (garnerlaw10_VersionTells.j1 kj4 a0 a1 false a3 x9_4) = some r := by rw [if_neg (show ¬ (false = true) by decide)] at H; exact H
          clear H
          have H := H1
          clear H1
          have H' := Aside0.mk H
          clear H
          go_wp2
          go_meet
          case rel => exact ⟨_, (x9_4), (by first | rfl | (simp; done) | (simp [*]; done)), H', ⟨by have := HJ4.out; first | omega | exact Nat.le_refl _⟩, ⟨by repeat (first | (with_reducible first | exact HB.out | apply below_alloc | apply pw_below_drewN | apply below_drew1) | exact HB.out)⟩⟩
      case rest =>
        clear HC7
        try clear p2
        try clear c6
        try clear c8
        try clear p2
        obtain ⟨kq, x9_6, rfl, HA, HJ6, HB⟩ := hcut
        cases kq with
        | zero => exact absurd HA.out (by simp [garnerlaw10_VersionTells.j1])
        | succ kj6 =>
          have H := HA.out
          clear HA
          simp only [garnerlaw10_VersionTells.j1] at H
          have HC9 := Aside0.mk H
          clear H
          go_upto_region 6 with (fail)
          go_cut [45] (fun v45 wc => ∃ (kq : Nat) (x45_8 : Bool), v45 = .bool x45_8 ∧ Aside0 (garnerlaw10_VersionTells.j2 kq a0 a3 x45_8 = some r) ∧ Aside0 (kq ≤ kj6) ∧ Aside0 (Below w.heap.size w wc))
          case first =>
            have H := HC9.out
            clear HC9
            replace H := Option.bind_eq_some_iff.mp H
            obtain ⟨t103, A100, H⟩ := H
            replace H : (if t103 = x9_6 then ((version_May.f a0).bind fun t104 => ((garnerlaw10_may.f a0).bind fun t105 => (if (t104 != t105) = true then (garnerlaw10_VersionTells.j2 kj6 a0 a3 true) else ((version_Still.f a0).bind fun t106 => ((garnerlaw10_bit.f a0 2).bind fun t107 => (if t107 = true then (garnerlaw10_VersionTells.j2 kj6 a0 a3 (t106 != false)) else ((garnerlaw10_bit.f a0 4).bind fun t108 => (garnerlaw10_VersionTells.j2 kj6 a0 a3 (t106 != (!t108)))))))))) else (garnerlaw10_VersionTells.j2 kj6 a0 a3 true)) = some r := H
            have A10 := Aside0.mk A100
            clear A100
            by_cases c11 : t103 = x9_6
            · rw [if_pos c11] at H
              have c11b0 : (t103 == x9_6) = true := beq_iff_eq.mpr c11
              have c11b1 : (t103 != x9_6) = false := bne_eq_false_iff_eq.mpr c11
              clear c11
              (first | rw [c11b0] | (simp only [i64_w, i32_w]; rw [c11b0]) | skip)
              replace H := Option.bind_eq_some_iff.mp H
              obtain ⟨t104, A120, H⟩ := H
              replace H : ((garnerlaw10_may.f a0).bind fun t105 => (if (t104 != t105) = true then (garnerlaw10_VersionTells.j2 kj6 a0 a3 true) else ((version_Still.f a0).bind fun t106 => ((garnerlaw10_bit.f a0 2).bind fun t107 => (if t107 = true then (garnerlaw10_VersionTells.j2 kj6 a0 a3 (t106 != false)) else ((garnerlaw10_bit.f a0 4).bind fun t108 => (garnerlaw10_VersionTells.j2 kj6 a0 a3 (t106 != (!t108))))))))) = some r := H
              have A12 := Aside0.mk A120
              clear A120
              replace H := Option.bind_eq_some_iff.mp H
              obtain ⟨t105, A130, H⟩ := H
              replace H : (if (t104 != t105) = true then (garnerlaw10_VersionTells.j2 kj6 a0 a3 true) else ((version_Still.f a0).bind fun t106 => ((garnerlaw10_bit.f a0 2).bind fun t107 => (if t107 = true then (garnerlaw10_VersionTells.j2 kj6 a0 a3 (t106 != false)) else ((garnerlaw10_bit.f a0 4).bind fun t108 => (garnerlaw10_VersionTells.j2 kj6 a0 a3 (t106 != (!t108)))))))) = some r := H
              have A13 := Aside0.mk A130
              clear A130
              by_cases c14 : (t104 != t105) = true
              · rw [if_pos c14] at H
                have c14b0 : (t104 != t105) = true := c14
                (try (have c14b1 : decide (t104 = t105) = false := by simpa using c14))
                (try (have c14b2 : (t104 == t105) = false := by simpa using c14))
                (try (have c14b3 : ¬ (t104 = t105) := by simpa using c14))
                (try (have c14b4 : (!t104 == t105) = true := by simp only [show ∀ p q : Bool, (!(p == q)) = (p != q) from by decide]; exact c14))
                clear c14
                have H' := Aside0.mk H
                clear H
                go_wp2_with (first | ((with_reducible refine gate_callee (f := 21) rfl ?_); refine goesL_ (some 23) rfl rfl Try.func21 (by kernel_rfl) rfl #[.bool a1, .bool a2] rfl (by (try simp only [List.map_toArray, List.map_cons, List.map_nil]); first | done | rfl | (simp only [List.length_drop, List.length_take]; rfl)) ?_; (with_reducible refine (version_New.calls a1 a2 t103 _ A10.out).mono ?_); rintro e w' ⟨rfl, ⟨nd, rfl⟩⟩; refine ⟨_, rfl, ?_⟩) | (go_at_call 21; (with_reducible refine (version_New.calls a1 a2 t103 _ A10.out).mono ?_); rintro e w' ⟨rfl, ⟨nd, rfl⟩⟩) | (go_at_call 22; (with_reducible refine (version_May.calls a0 t104 _ A12.out).mono ?_); rintro e w' ⟨rfl, ⟨nd, rfl⟩⟩) | (go_at_call 17; (with_reducible refine (garnerlaw10_may.calls a0 t105 _ A13.out).mono ?_); rintro e w' ⟨rfl, ⟨nd, rfl⟩⟩))
                go_meet
                case rel => exact ⟨_, (true), (by first | rfl | (simp; done) | (simp [*]; done)), H', ⟨by have := HJ4.out; have := HJ6.out; first | omega | exact Nat.le_refl _⟩, ⟨by repeat (first | (with_reducible first | exact HB.out | apply below_alloc | apply pw_below_drewN | apply below_drew1) | exact HB.out)⟩⟩
              · rw [if_neg c14] at H
                have c14b0 : (t104 != t105) = false := by simpa using c14
                (try (have c14b1 : decide (t104 = t105) = true := by simpa using c14))
                (try (have c14b2 : (t104 == t105) = true := by simpa using c14))
                (try (have c14b3 : (!t104 == t105) = false := by simp only [show ∀ p q : Bool, (!(p == q)) = (p != q) from by decide]; exact (by simpa using c14)))
                clear c14
                replace H := Option.bind_eq_some_iff.mp H
                obtain ⟨t106, A150, H⟩ := H
                replace H : ((garnerlaw10_bit.f a0 2).bind fun t107 => (if t107 = true then (garnerlaw10_VersionTells.j2 kj6 a0 a3 (t106 != false)) else ((garnerlaw10_bit.f a0 4).bind fun t108 => (garnerlaw10_VersionTells.j2 kj6 a0 a3 (t106 != (!t108)))))) = some r := H
                have A15 := Aside0.mk A150
                clear A150
                replace H := Option.bind_eq_some_iff.mp H
                obtain ⟨t107, A160, H⟩ := H
                replace H : (if t107 = true then (garnerlaw10_VersionTells.j2 kj6 a0 a3 (t106 != false)) else ((garnerlaw10_bit.f a0 4).bind fun t108 => (garnerlaw10_VersionTells.j2 kj6 a0 a3 (t106 != (!t108))))) = some r := H
                have A16 := Aside0.mk A160
                clear A160
                by_cases c17 : t107 = true
                · subst c17
                  have H1 : (garnerlaw10_VersionTells.j2 kj6 a0 a3 (t106 != false)) = some r := by rw [if_pos rfl] at H; exact H
                  clear H
                  have H := H1
                  clear H1
                  have H' := Aside0.mk H
                  clear H
                  go_wp2_with (first | ((with_reducible refine gate_callee (f := 21) rfl ?_); refine goesL_ (some 23) rfl rfl Try.func21 (by kernel_rfl) rfl #[.bool a1, .bool a2] rfl (by (try simp only [List.map_toArray, List.map_cons, List.map_nil]); first | done | rfl | (simp only [List.length_drop, List.length_take]; rfl)) ?_; (with_reducible refine (version_New.calls a1 a2 t103 _ A10.out).mono ?_); rintro e w' ⟨rfl, ⟨nd, rfl⟩⟩; refine ⟨_, rfl, ?_⟩) | (go_at_call 21; (with_reducible refine (version_New.calls a1 a2 t103 _ A10.out).mono ?_); rintro e w' ⟨rfl, ⟨nd, rfl⟩⟩) | (go_at_call 22; (with_reducible refine (version_May.calls a0 t104 _ A12.out).mono ?_); rintro e w' ⟨rfl, ⟨nd, rfl⟩⟩) | (go_at_call 17; (with_reducible refine (garnerlaw10_may.calls a0 t105 _ A13.out).mono ?_); rintro e w' ⟨rfl, ⟨nd, rfl⟩⟩) | (go_at_call 23; (with_reducible refine (version_Still.calls a0 t106 _ A15.out).mono ?_); rintro e w' ⟨rfl, ⟨nd, rfl⟩⟩) | (go_at_call 8; (with_reducible refine (garnerlaw10_bit.calls a0 2 true _ A16.out).mono ?_); rintro e w' ⟨rfl, ⟨nd, rfl⟩⟩))
                  go_meet
                  case rel => exact ⟨_, ((t106 != false)), (by first | rfl | (simp; done) | (simp [*]; done)), H', ⟨by have := HJ4.out; have := HJ6.out; first | omega | exact Nat.le_refl _⟩, ⟨by repeat (first | (with_reducible first | exact HB.out | apply below_alloc | apply pw_below_drewN | apply below_drew1) | exact HB.out)⟩⟩
                · replace c17 := Bool.eq_false_iff.mpr c17
                  subst c17
                  have H1 : ((garnerlaw10_bit.f a0 4).bind fun t108 => (garnerlaw10_VersionTells.j2 kj6 a0 a3 (t106 != (!t108)))) = some r := by rw [if_neg (show ¬ (false = true) by decide)] at H; exact H
                  clear H
                  have H := H1
                  clear H1
                  replace H := Option.bind_eq_some_iff.mp H
                  obtain ⟨t108, A180, H⟩ := H
                  replace H : (garnerlaw10_VersionTells.j2 kj6 a0 a3 (t106 != (!t108))) = some r := H
                  have A18 := Aside0.mk A180
                  clear A180
                  have H' := Aside0.mk H
                  clear H
                  go_wp2_with (first | ((with_reducible refine gate_callee (f := 21) rfl ?_); refine goesL_ (some 23) rfl rfl Try.func21 (by kernel_rfl) rfl #[.bool a1, .bool a2] rfl (by (try simp only [List.map_toArray, List.map_cons, List.map_nil]); first | done | rfl | (simp only [List.length_drop, List.length_take]; rfl)) ?_; (with_reducible refine (version_New.calls a1 a2 t103 _ A10.out).mono ?_); rintro e w' ⟨rfl, ⟨nd, rfl⟩⟩; refine ⟨_, rfl, ?_⟩) | (go_at_call 21; (with_reducible refine (version_New.calls a1 a2 t103 _ A10.out).mono ?_); rintro e w' ⟨rfl, ⟨nd, rfl⟩⟩) | (go_at_call 22; (with_reducible refine (version_May.calls a0 t104 _ A12.out).mono ?_); rintro e w' ⟨rfl, ⟨nd, rfl⟩⟩) | (go_at_call 17; (with_reducible refine (garnerlaw10_may.calls a0 t105 _ A13.out).mono ?_); rintro e w' ⟨rfl, ⟨nd, rfl⟩⟩) | (go_at_call 23; (with_reducible refine (version_Still.calls a0 t106 _ A15.out).mono ?_); rintro e w' ⟨rfl, ⟨nd, rfl⟩⟩) | (go_at_call 8; (with_reducible refine (garnerlaw10_bit.calls a0 2 false _ A16.out).mono ?_); rintro e w' ⟨rfl, ⟨nd, rfl⟩⟩) | (go_at_call 8; (with_reducible refine (garnerlaw10_bit.calls a0 4 t108 _ A18.out).mono ?_); rintro e w' ⟨rfl, ⟨nd, rfl⟩⟩))
                  go_meet
                  case rel => exact ⟨_, ((t106 != (!t108))), (by first | rfl | (simp; done) | (simp [*]; done)), H', ⟨by have := HJ4.out; have := HJ6.out; first | omega | exact Nat.le_refl _⟩, ⟨by repeat (first | (with_reducible first | exact HB.out | apply below_alloc | apply pw_below_drewN | apply below_drew1) | exact HB.out)⟩⟩
            · rw [if_neg c11] at H
              have c11b0 : (t103 == x9_6) = false := beq_eq_false_iff_ne.mpr c11
              have c11b1 : (t103 != x9_6) = true := bne_iff_ne.mpr c11
              (first | rw [c11b0] | (simp only [i64_w, i32_w]; rw [c11b0]) | skip)
              have H' := Aside0.mk H
              clear H
              go_wp2_with (first | ((with_reducible refine gate_callee (f := 21) rfl ?_); refine goesL_ (some 23) rfl rfl Try.func21 (by kernel_rfl) rfl #[.bool a1, .bool a2] rfl (by (try simp only [List.map_toArray, List.map_cons, List.map_nil]); first | done | rfl | (simp only [List.length_drop, List.length_take]; rfl)) ?_; (with_reducible refine (version_New.calls a1 a2 t103 _ A10.out).mono ?_); rintro e w' ⟨rfl, ⟨nd, rfl⟩⟩; refine ⟨_, rfl, ?_⟩) | (go_at_call 21; (with_reducible refine (version_New.calls a1 a2 t103 _ A10.out).mono ?_); rintro e w' ⟨rfl, ⟨nd, rfl⟩⟩))
              go_meet
              case rel => exact ⟨_, (true), (by first | rfl | (simp; done) | (simp [*]; done)), H', ⟨by have := HJ4.out; have := HJ6.out; first | omega | exact Nat.le_refl _⟩, ⟨by repeat (first | (with_reducible first | exact HB.out | apply below_alloc | apply pw_below_drewN | apply below_drew1) | exact HB.out)⟩⟩
          case rest =>
            clear HC9
            try clear c1
            try clear c2
            try clear p2
            try clear c6
            try clear c8
            try clear c11
            try clear c11b0
            try clear c11b1
            try clear c14
            try clear c14b0
            try clear c14b1
            try clear c14b2
            try clear c17
            try clear p2
            obtain ⟨kq, x45_8, rfl, HA, HJ8, HB⟩ := hcut
            cases kq with
            | zero => exact absurd HA.out (by simp [garnerlaw10_VersionTells.j2])
            | succ kj8 =>
              have H := HA.out
              clear HA
              simp only [garnerlaw10_VersionTells.j2] at H
              by_cases c19 : x45_8 = true
              · subst c19
                have H1 : (some false) = some r := by rw [if_pos rfl] at H; exact H
                clear H
                have H := H1
                clear H1
                obtain rfl := Option.some.inj H
                go_wp2
                go_ret
                exact ⟨by first | rfl | (simp [errW_none, errW_some] <;> rfl) | (simp [*, errW_none, errW_some] <;> rfl), by repeat (first | (with_reducible first | exact HB.out | apply below_alloc | apply pw_below_drewN | apply below_drew1) | exact HB.out)⟩
              · replace c19 := Bool.eq_false_iff.mpr c19
                subst c19
                have H1 : (garnerlaw10_VersionTells.l0 kj8 a0 a3 true 0) = some r := by rw [if_neg (show ¬ (false = true) by decide)] at H; exact H
                clear H
                have H := H1
                clear H1
                have H' := Aside0.mk H
                clear H
                go_wp2
                go_loopg [10, 11] kj8 (fun kq v10 v11 w' => ∃ (x10_4 : Bool) (x11_4 : Int), v10 = .bool x10_4 ∧ v11 = .int .i64 x11_4 ∧ Aside0 (garnerlaw10_VersionTells.l0 kq a0 a3 x10_4 x11_4 = some r) ∧ Aside0 (kq ≤ kj8) ∧ Aside0 (Below w.heap.size w w'))
                case atStart => exact ⟨(true), (0), (by first | rfl | (simp; done) | (simp [*]; done)), (by first | rfl | (simp; done) | (simp [*]; done)), H', ⟨Nat.le_refl _⟩, ⟨by repeat (first | (with_reducible first | exact HB.out | apply below_alloc | apply pw_below_drewN | apply below_drew1) | exact HB.out)⟩⟩
                case round =>
                  clear H'
                  try clear c1
                  try clear c2
                  try clear p2
                  try clear c6
                  try clear c8
                  try clear c11
                  try clear c11b0
                  try clear c11b1
                  try clear c14
                  try clear c14b0
                  try clear c14b1
                  try clear c14b2
                  try clear c17
                  try clear c19
                  try clear p2
                  obtain ⟨x10_4, x11_4, rfl, rfl, HA, HK4, HB⟩ := hrel
                  cases gk with
                  | zero => exact absurd HA.out (by simp [garnerlaw10_VersionTells.l0])
                  | succ k4 =>
                    have H := HA.out
                    clear HA
                    simp only [garnerlaw10_VersionTells.l0] at H
                    by_cases c20 : x11_4 < 64
                    · rw [if_pos c20] at H
                      have c20b0 : decide (x11_4 < 64) = true := decide_eq_true c20
                      clear c20
                      obtain ⟨ji21, hji21⟩ : ∃ j_ : Int, (IntKind.u64.wrap (x11_4)) = j_ := ⟨_, rfl⟩
                      replace H : (if 0 ≤ (ji21) then ((garnerlaw10_bit.f a3 (shl .u64 1 (ji21))).bind fun t109 => (if t109 = true then ((garnerlaw10_bit.f a0 (shl .u64 1 (ji21))).bind fun t110 => (if t110 = true then (garnerlaw10_VersionTells.l0 k4 a0 a3 x10_4 (wrap64 (x11_4 + 1))) else (garnerlaw10_VersionTells.l0 k4 a0 a3 false (wrap64 (x11_4 + 1))))) else (garnerlaw10_VersionTells.l0 k4 a0 a3 x10_4 (wrap64 (x11_4 + 1))))) else (none)) = some r := by first | (rw [hji21] at H; exact H) | (simp only [hji21] at H ⊢; exact H)
                      by_cases c22 : 0 ≤ (ji21)
                      · rw [if_pos c22] at H
                        have c22b0 := eq_true c22
                        have c22b1 : decide (0 ≤ (ji21)) = true := decide_eq_true c22
                        clear c22
                        obtain ⟨ji23, hji23⟩ : ∃ j_ : Int, (shl .u64 1 (ji21)) = j_ := ⟨_, rfl⟩
                        replace H : ((garnerlaw10_bit.f a3 (ji23)).bind fun t109 => (if t109 = true then ((garnerlaw10_bit.f a0 (ji23)).bind fun t110 => (if t110 = true then (garnerlaw10_VersionTells.l0 k4 a0 a3 x10_4 (wrap64 (x11_4 + 1))) else (garnerlaw10_VersionTells.l0 k4 a0 a3 false (wrap64 (x11_4 + 1))))) else (garnerlaw10_VersionTells.l0 k4 a0 a3 x10_4 (wrap64 (x11_4 + 1))))) = some r := by first | (rw [hji23] at H; exact H) | (simp only [hji23] at H ⊢; exact H)
                        have hji23_ : (IntKind.u64.wrap (1 * 2 ^ min (ji21).toNat 64)) = ji23 := hji23
                        have hji23z : (ji21) ≤ 64 → (IntKind.u64.wrap (1 * 2 ^ (ji21).toNat)) = ji23 := shl_small hji23
                        have hji23u : (IntKind.u64.wrap (2 ^ min (ji21).toNat 64)) = ji23 := by have h_ := hji23_; rw [Int.one_mul] at h_; exact h_
                        have hji23v : (ji21) ≤ 64 → (IntKind.u64.wrap (2 ^ (ji21).toNat)) = ji23 := fun hle_ => by have h_ := hji23z hle_; rw [Int.one_mul] at h_; exact h_
                        replace H := Option.bind_eq_some_iff.mp H
                        obtain ⟨t109, A240, H⟩ := H
                        replace H : (if t109 = true then ((garnerlaw10_bit.f a0 (ji23)).bind fun t110 => (if t110 = true then (garnerlaw10_VersionTells.l0 k4 a0 a3 x10_4 (wrap64 (x11_4 + 1))) else (garnerlaw10_VersionTells.l0 k4 a0 a3 false (wrap64 (x11_4 + 1))))) else (garnerlaw10_VersionTells.l0 k4 a0 a3 x10_4 (wrap64 (x11_4 + 1)))) = some r := H
                        have A24 := Aside0.mk A240
                        clear A240
                        by_cases c25 : t109 = true
                        · subst c25
                          have H1 : ((garnerlaw10_bit.f a0 (ji23)).bind fun t110 => (if t110 = true then (garnerlaw10_VersionTells.l0 k4 a0 a3 x10_4 (wrap64 (x11_4 + 1))) else (garnerlaw10_VersionTells.l0 k4 a0 a3 false (wrap64 (x11_4 + 1))))) = some r := by rw [if_pos rfl] at H; exact H
                          clear H
                          have H := H1
                          clear H1
                          have c26b0 := eq_true (of_decide_eq_true (by first | (with_reducible assumption) | assumption) : 0 ≤ (ji21))
                          replace H := Option.bind_eq_some_iff.mp H
                          obtain ⟨t110, A270, H⟩ := H
                          replace H : (if t110 = true then (garnerlaw10_VersionTells.l0 k4 a0 a3 x10_4 (wrap64 (x11_4 + 1))) else (garnerlaw10_VersionTells.l0 k4 a0 a3 false (wrap64 (x11_4 + 1)))) = some r := H
                          have A27 := Aside0.mk A270
                          clear A270
                          by_cases c28 : t110 = true
                          · subst c28
                            have H1 : (garnerlaw10_VersionTells.l0 k4 a0 a3 x10_4 (wrap64 (x11_4 + 1))) = some r := by rw [if_pos rfl] at H; exact H
                            clear H
                            have H := H1
                            clear H1
                            have H' := Aside0.mk H
                            clear H
                            go_wp2_with (first | ((with_reducible refine gate_callee (f := 8) rfl ?_); refine goesL_ (some 54) rfl rfl Try.func8 (by kernel_rfl) rfl #[.int .u64 a3, .int .u64 ji23] rfl (by (try simp only [List.map_toArray, List.map_cons, List.map_nil]); first | done | (simp only [hji23]; rfl) | rfl | (simp only [List.length_drop, List.length_take]; rfl)) ?_; (with_reducible refine (garnerlaw10_bit.calls a3 ji23 true _ A24.out).mono ?_); rintro e w' ⟨rfl, ⟨nd, rfl⟩⟩; refine ⟨_, rfl, ?_⟩) | (go_at_call 8; (with_reducible refine (garnerlaw10_bit.calls a3 ji23 true _ A24.out).mono ?_); rintro e w' ⟨rfl, ⟨nd, rfl⟩⟩) | (go_at_call 8; (with_reducible refine (garnerlaw10_bit.calls a0 ji23 true _ A27.out).mono ?_); rintro e w' ⟨rfl, ⟨nd, rfl⟩⟩))
                            go_roundg k4
                            case measure => have := HJ4.out; have := HJ6.out; have := HJ8.out; have := HK4.out; omega
                            case rel => exact ⟨(x10_4), (wrap64 (x11_4 + 1)), (by first | rfl | (simp; done) | (simp [*]; done)), (by first | rfl | (simp; done) | (simp [*]; done)), H', ⟨by have := HJ4.out; have := HJ6.out; have := HJ8.out; have := HK4.out; omega⟩, ⟨by repeat (first | (with_reducible first | exact HB.out | apply below_alloc | apply pw_below_drewN | apply below_drew1) | exact HB.out)⟩⟩
                          · replace c28 := Bool.eq_false_iff.mpr c28
                            subst c28
                            have H1 : (garnerlaw10_VersionTells.l0 k4 a0 a3 false (wrap64 (x11_4 + 1))) = some r := by rw [if_neg (show ¬ (false = true) by decide)] at H; exact H
                            clear H
                            have H := H1
                            clear H1
                            have H' := Aside0.mk H
                            clear H
                            go_wp2_with (first | ((with_reducible refine gate_callee (f := 8) rfl ?_); refine goesL_ (some 54) rfl rfl Try.func8 (by kernel_rfl) rfl #[.int .u64 a3, .int .u64 ji23] rfl (by (try simp only [List.map_toArray, List.map_cons, List.map_nil]); first | done | (simp only [hji23]; rfl) | rfl | (simp only [List.length_drop, List.length_take]; rfl)) ?_; (with_reducible refine (garnerlaw10_bit.calls a3 ji23 true _ A24.out).mono ?_); rintro e w' ⟨rfl, ⟨nd, rfl⟩⟩; refine ⟨_, rfl, ?_⟩) | (go_at_call 8; (with_reducible refine (garnerlaw10_bit.calls a3 ji23 true _ A24.out).mono ?_); rintro e w' ⟨rfl, ⟨nd, rfl⟩⟩) | (go_at_call 8; (with_reducible refine (garnerlaw10_bit.calls a0 ji23 false _ A27.out).mono ?_); rintro e w' ⟨rfl, ⟨nd, rfl⟩⟩))
                            go_roundg k4
                            case measure => have := HJ4.out; have := HJ6.out; have := HJ8.out; have := HK4.out; omega
                            case rel => exact ⟨(false), (wrap64 (x11_4 + 1)), (by first | rfl | (simp; done) | (simp [*]; done)), (by first | rfl | (simp; done) | (simp [*]; done)), H', ⟨by have := HJ4.out; have := HJ6.out; have := HJ8.out; have := HK4.out; omega⟩, ⟨by repeat (first | (with_reducible first | exact HB.out | apply below_alloc | apply pw_below_drewN | apply below_drew1) | exact HB.out)⟩⟩
                        · replace c25 := Bool.eq_false_iff.mpr c25
                          subst c25
                          have H1 : (garnerlaw10_VersionTells.l0 k4 a0 a3 x10_4 (wrap64 (x11_4 + 1))) = some r := by rw [if_neg (show ¬ (false = true) by decide)] at H; exact H
                          clear H
                          have H := H1
                          clear H1
                          have H' := Aside0.mk H
                          clear H
                          go_wp2_with (first | ((with_reducible refine gate_callee (f := 8) rfl ?_); refine goesL_ (some 54) rfl rfl Try.func8 (by kernel_rfl) rfl #[.int .u64 a3, .int .u64 ji23] rfl (by (try simp only [List.map_toArray, List.map_cons, List.map_nil]); first | done | (simp only [hji23]; rfl) | rfl | (simp only [List.length_drop, List.length_take]; rfl)) ?_; (with_reducible refine (garnerlaw10_bit.calls a3 ji23 false _ A24.out).mono ?_); rintro e w' ⟨rfl, ⟨nd, rfl⟩⟩; refine ⟨_, rfl, ?_⟩) | (go_at_call 8; (with_reducible refine (garnerlaw10_bit.calls a3 ji23 false _ A24.out).mono ?_); rintro e w' ⟨rfl, ⟨nd, rfl⟩⟩))
                          go_roundg k4
                          case measure => have := HJ4.out; have := HJ6.out; have := HJ8.out; have := HK4.out; omega
                          case rel => exact ⟨(x10_4), (wrap64 (x11_4 + 1)), (by first | rfl | (simp; done) | (simp [*]; done)), (by first | rfl | (simp; done) | (simp [*]; done)), H', ⟨by have := HJ4.out; have := HJ6.out; have := HJ8.out; have := HK4.out; omega⟩, ⟨by repeat (first | (with_reducible first | exact HB.out | apply below_alloc | apply pw_below_drewN | apply below_drew1) | exact HB.out)⟩⟩
                      · rw [if_neg c22] at H
                        exact absurd H (by simp)
                    · rw [if_neg c20] at H
                      have c20b0 : decide (x11_4 < 64) = false := decide_eq_false c20
                      clear c20
                      have HC29 := Aside0.mk H
                      clear H
                      go_upto_region 14 with (fail)
                      go_cut [85] (fun v85 wc => ∃ (kq : Nat) (x85_28 : Bool), v85 = .bool x85_28 ∧ Aside0 (garnerlaw10_VersionTells.j4 kq a0 x85_28 = some r) ∧ Aside0 (kq ≤ k4) ∧ Aside0 (Below w.heap.size w wc))
                      case first =>
                        have H := HC29.out
                        clear HC29
                        replace H := Option.bind_eq_some_iff.mp H
                        obtain ⟨t111, A300, H⟩ := H
                        replace H : (if (t111 != x10_4) = true then (garnerlaw10_VersionTells.j4 k4 a0 true) else ((version_Inserts.f a0).bind fun t112 => (if t112 = (wrap64 (Int.tmod (IntKind.u64.wrap (Int.tdiv a0 256)) 65536)) then ((version_Splits.f a0).bind fun t113 => (garnerlaw10_VersionTells.j4 k4 a0 (t113 != (wrap64 (Int.tmod (IntKind.u64.wrap (Int.tdiv a0 16777216)) 4294967296))))) else (garnerlaw10_VersionTells.j4 k4 a0 true)))) = some r := H
                        have A30 := Aside0.mk A300
                        clear A300
                        by_cases c31 : (t111 != x10_4) = true
                        · rw [if_pos c31] at H
                          have c31b0 : (t111 != x10_4) = true := c31
                          (try (have c31b1 : decide (t111 = x10_4) = false := by simpa using c31))
                          (try (have c31b2 : (t111 == x10_4) = false := by simpa using c31))
                          (try (have c31b3 : ¬ (t111 = x10_4) := by simpa using c31))
                          (try (have c31b4 : (!t111 == x10_4) = true := by simp only [show ∀ p q : Bool, (!(p == q)) = (p != q) from by decide]; exact c31))
                          clear c31
                          (first | rw [c31b0] | (simp only [i64_w, i32_w]; rw [c31b0]) | skip)
                          have H' := Aside0.mk H
                          clear H
                          go_wp2_with (first | ((with_reducible refine gate_callee (f := 24) rfl ?_); refine goesL_ (some 65) rfl rfl Try.func24 (by kernel_rfl) rfl #[.int .u64 a0, .int .u64 a3] rfl (by (try simp only [List.map_toArray, List.map_cons, List.map_nil]); first | done | rfl | (simp only [List.length_drop, List.length_take]; rfl)) ?_; (with_reducible refine (version_Has.calls a0 a3 t111 _ A30.out).mono ?_); rintro e w' ⟨rfl, ⟨nd, rfl⟩⟩; refine ⟨_, rfl, ?_⟩) | (go_at_call 24; (with_reducible refine (version_Has.calls a0 a3 t111 _ A30.out).mono ?_); rintro e w' ⟨rfl, ⟨nd, rfl⟩⟩))
                          go_meet
                          case rel => exact ⟨_, (true), (by first | rfl | (simp; done) | (simp [*]; done)), H', ⟨by have := HJ4.out; have := HJ6.out; have := HJ8.out; have := HK4.out; first | omega | exact Nat.le_refl _⟩, ⟨by repeat (first | (with_reducible first | exact HB.out | apply below_alloc | apply pw_below_drewN | apply below_drew1) | exact HB.out)⟩⟩
                        · rw [if_neg c31] at H
                          have c31b0 : (t111 != x10_4) = false := by simpa using c31
                          (try (have c31b1 : decide (t111 = x10_4) = true := by simpa using c31))
                          (try (have c31b2 : (t111 == x10_4) = true := by simpa using c31))
                          (try (have c31b3 : (!t111 == x10_4) = false := by simp only [show ∀ p q : Bool, (!(p == q)) = (p != q) from by decide]; exact (by simpa using c31)))
                          clear c31
                          (first | rw [c31b0] | (simp only [i64_w, i32_w]; rw [c31b0]) | skip)
                          replace H := Option.bind_eq_some_iff.mp H
                          obtain ⟨t112, A320, H⟩ := H
                          replace H : (if t112 = (wrap64 (Int.tmod (IntKind.u64.wrap (Int.tdiv a0 256)) 65536)) then ((version_Splits.f a0).bind fun t113 => (garnerlaw10_VersionTells.j4 k4 a0 (t113 != (wrap64 (Int.tmod (IntKind.u64.wrap (Int.tdiv a0 16777216)) 4294967296))))) else (garnerlaw10_VersionTells.j4 k4 a0 true)) = some r := H
                          have A32 := Aside0.mk A320
                          clear A320
                          by_cases c33 : t112 = (wrap64 (Int.tmod (IntKind.u64.wrap (Int.tdiv a0 256)) 65536))
                          · rw [if_pos c33] at H
                            have c33b0 : (t112 == (wrap64 (Int.tmod (IntKind.u64.wrap (Int.tdiv a0 256)) 65536))) = true := beq_iff_eq.mpr c33
                            have c33b1 : (t112 != (wrap64 (Int.tmod (IntKind.u64.wrap (Int.tdiv a0 256)) 65536))) = false := bne_eq_false_iff_eq.mpr c33
                            clear c33
                            replace H := Option.bind_eq_some_iff.mp H
                            obtain ⟨t113, A340, H⟩ := H
                            replace H : (garnerlaw10_VersionTells.j4 k4 a0 (t113 != (wrap64 (Int.tmod (IntKind.u64.wrap (Int.tdiv a0 16777216)) 4294967296)))) = some r := H
                            have A34 := Aside0.mk A340
                            clear A340
                            have H' := Aside0.mk H
                            clear H
                            go_wp2_with (first | ((with_reducible refine gate_callee (f := 24) rfl ?_); refine goesL_ (some 65) rfl rfl Try.func24 (by kernel_rfl) rfl #[.int .u64 a0, .int .u64 a3] rfl (by (try simp only [List.map_toArray, List.map_cons, List.map_nil]); first | done | rfl | (simp only [List.length_drop, List.length_take]; rfl)) ?_; (with_reducible refine (version_Has.calls a0 a3 t111 _ A30.out).mono ?_); rintro e w' ⟨rfl, ⟨nd, rfl⟩⟩; refine ⟨_, rfl, ?_⟩) | (go_at_call 24; (with_reducible refine (version_Has.calls a0 a3 t111 _ A30.out).mono ?_); rintro e w' ⟨rfl, ⟨nd, rfl⟩⟩) | (go_at_call 19; (with_reducible refine (version_Inserts.calls a0 t112 _ A32.out).mono ?_); rintro e w' ⟨rfl, ⟨nd, rfl⟩⟩) | (go_at_call 20; (with_reducible refine (version_Splits.calls a0 t113 _ A34.out).mono ?_); rintro e w' ⟨rfl, ⟨nd, rfl⟩⟩))
                            go_meet
                            case rel => exact ⟨_, ((t113 != (wrap64 (Int.tmod (IntKind.u64.wrap (Int.tdiv a0 16777216)) 4294967296)))), (by first | rfl | (simp; done) | (simp [*]; done)), H', ⟨by have := HJ4.out; have := HJ6.out; have := HJ8.out; have := HK4.out; first | omega | exact Nat.le_refl _⟩, ⟨by repeat (first | (with_reducible first | exact HB.out | apply below_alloc | apply pw_below_drewN | apply below_drew1) | exact HB.out)⟩⟩
                          · rw [if_neg c33] at H
                            have c33b0 : (t112 == (wrap64 (Int.tmod (IntKind.u64.wrap (Int.tdiv a0 256)) 65536))) = false := beq_eq_false_iff_ne.mpr c33
                            have c33b1 : (t112 != (wrap64 (Int.tmod (IntKind.u64.wrap (Int.tdiv a0 256)) 65536))) = true := bne_iff_ne.mpr c33
                            have H' := Aside0.mk H
                            clear H
                            go_wp2_with (first | ((with_reducible refine gate_callee (f := 24) rfl ?_); refine goesL_ (some 65) rfl rfl Try.func24 (by kernel_rfl) rfl #[.int .u64 a0, .int .u64 a3] rfl (by (try simp only [List.map_toArray, List.map_cons, List.map_nil]); first | done | rfl | (simp only [List.length_drop, List.length_take]; rfl)) ?_; (with_reducible refine (version_Has.calls a0 a3 t111 _ A30.out).mono ?_); rintro e w' ⟨rfl, ⟨nd, rfl⟩⟩; refine ⟨_, rfl, ?_⟩) | (go_at_call 24; (with_reducible refine (version_Has.calls a0 a3 t111 _ A30.out).mono ?_); rintro e w' ⟨rfl, ⟨nd, rfl⟩⟩) | (go_at_call 19; (with_reducible refine (version_Inserts.calls a0 t112 _ A32.out).mono ?_); rintro e w' ⟨rfl, ⟨nd, rfl⟩⟩))
                            go_meet
                            case rel => exact ⟨_, (true), (by first | rfl | (simp; done) | (simp [*]; done)), H', ⟨by have := HJ4.out; have := HJ6.out; have := HJ8.out; have := HK4.out; first | omega | exact Nat.le_refl _⟩, ⟨by repeat (first | (with_reducible first | exact HB.out | apply below_alloc | apply pw_below_drewN | apply below_drew1) | exact HB.out)⟩⟩
                      case rest =>
                        clear HC29
                        try clear c1
                        try clear c2
                        try clear p2
                        try clear c3
                        try clear c6
                        try clear p6
                        try clear c8
                        try clear c11
                        try clear c11b0
                        try clear c11b1
                        try clear c14
                        try clear c14b0
                        try clear c14b1
                        try clear c14b2
                        try clear c17
                        try clear c19
                        try clear c20
                        try clear c20b0
                        try clear c21
                        try clear c22
                        try clear c22b0
                        try clear c22b1
                        try clear c24
                        try clear c25
                        try clear c26
                        try clear c26b0
                        try clear c28
                        try clear c31
                        try clear c31b0
                        try clear c31b1
                        try clear c31b2
                        try clear c33
                        try clear c33b0
                        try clear c33b1
                        try clear p2
                        obtain ⟨kq, x85_28, rfl, HA, HJ28, HB⟩ := hcut
                        cases kq with
                        | zero => exact absurd HA.out (by simp [garnerlaw10_VersionTells.j4])
                        | succ kj28 =>
                          have H := HA.out
                          clear HA
                          simp only [garnerlaw10_VersionTells.j4] at H
                          by_cases c35 : x85_28 = true
                          · subst c35
                            have H1 : (some false) = some r := by rw [if_pos rfl] at H; exact H
                            clear H
                            have H := H1
                            clear H1
                            obtain rfl := Option.some.inj H
                            go_wp2
                            go_ret
                            exact ⟨by first | rfl | (simp [errW_none, errW_some] <;> rfl) | (simp [*, errW_none, errW_some] <;> rfl), by repeat (first | (with_reducible first | exact HB.out | apply below_alloc | apply pw_below_drewN | apply below_drew1) | exact HB.out)⟩
                          · replace c35 := Bool.eq_false_iff.mpr c35
                            subst c35
                            have H1 : ((garnerlaw10_bit.f a0 16).bind fun t114 => (if t114 = true then (garnerlaw10_VersionTells.j5 kj28 a0 a0 (IntKind.u64.wrap (a0 - 16))) else (garnerlaw10_VersionTells.j5 kj28 a0 (IntKind.u64.wrap (a0 + 16)) a0))) = some r := by rw [if_neg (show ¬ (false = true) by decide)] at H; exact H
                            clear H
                            have H := H1
                            clear H1
                            replace H := Option.bind_eq_some_iff.mp H
                            obtain ⟨t114, A360, H⟩ := H
                            replace H : (if t114 = true then (garnerlaw10_VersionTells.j5 kj28 a0 a0 (IntKind.u64.wrap (a0 - 16))) else (garnerlaw10_VersionTells.j5 kj28 a0 (IntKind.u64.wrap (a0 + 16)) a0)) = some r := H
                            have A36 := Aside0.mk A360
                            clear A360
                            have HC37 := Aside0.mk H
                            clear H
                            go_upto_if 89 with (first | ((with_reducible refine gate_callee (f := 8) rfl ?_); refine goesL_ (some 89) rfl rfl Try.func8 (by kernel_rfl) rfl #[.int .u64 a0, .int .u64 16] rfl (by (try simp only [List.map_toArray, List.map_cons, List.map_nil]); first | done | rfl | (simp only [List.length_drop, List.length_take]; rfl)) ?_; (with_reducible refine (garnerlaw10_bit.calls a0 16 t114 _ A36.out).mono ?_); rintro e w' ⟨rfl, ⟨nd, rfl⟩⟩; refine ⟨_, rfl, ?_⟩) | (go_at_call 8; (with_reducible refine (garnerlaw10_bit.calls a0 16 t114 _ A36.out).mono ?_); rintro e w' ⟨rfl, ⟨nd, rfl⟩⟩))
                            (try simp only [Act.put, List.setIfInBounds_toArray, List.set_cons_zero, List.set_cons_succ])
                            go_cut [12, 13] (fun v12 v13 wc => ∃ (kq : Nat) (x12_36 : Int) (x13_36 : Int), v12 = .int .u64 x12_36 ∧ v13 = .int .u64 x13_36 ∧ Aside0 (garnerlaw10_VersionTells.j5 kq a0 x12_36 x13_36 = some r) ∧ Aside0 (kq ≤ kj28) ∧ Aside0 (Below w.heap.size w wc))
                            case first =>
                              have H := HC37.out
                              clear HC37
                              by_cases c38 : t114 = true
                              · subst c38
                                have H1 : (garnerlaw10_VersionTells.j5 kj28 a0 a0 (IntKind.u64.wrap (a0 - 16))) = some r := by rw [if_pos rfl] at H; exact H
                                clear H
                                have H := H1
                                clear H1
                                have H' := Aside0.mk H
                                clear H
                                go_wp2
                                go_meet
                                case rel => exact ⟨_, (a0), (IntKind.u64.wrap (a0 - 16)), (by first | rfl | (simp; done) | (simp [*]; done)), (by first | rfl | (simp; done) | (simp [*]; done)), H', ⟨by have := HJ4.out; have := HJ6.out; have := HJ8.out; have := HK4.out; have := HJ28.out; first | omega | exact Nat.le_refl _⟩, ⟨by repeat (first | (with_reducible first | exact HB.out | apply below_alloc | apply pw_below_drewN | apply below_drew1) | exact HB.out)⟩⟩
                              · replace c38 := Bool.eq_false_iff.mpr c38
                                subst c38
                                have H1 : (garnerlaw10_VersionTells.j5 kj28 a0 (IntKind.u64.wrap (a0 + 16)) a0) = some r := by rw [if_neg (show ¬ (false = true) by decide)] at H; exact H
                                clear H
                                have H := H1
                                clear H1
                                have H' := Aside0.mk H
                                clear H
                                go_wp2
                                go_meet
                                case rel => exact ⟨_, (IntKind.u64.wrap (a0 + 16)), (a0), (by first | rfl | (simp; done) | (simp [*]; done)), (by first | rfl | (simp; done) | (simp [*]; done)), H', ⟨by have := HJ4.out; have := HJ6.out; have := HJ8.out; have := HK4.out; have := HJ28.out; first | omega | exact Nat.le_refl _⟩, ⟨by repeat (first | (with_reducible first | exact HB.out | apply below_alloc | apply pw_below_drewN | apply below_drew1) | exact HB.out)⟩⟩
                            case rest =>
                              clear HC37
                              try clear c1
                              try clear c2
                              try clear p2
                              try clear c3
                              try clear c6
                              try clear p6
                              try clear c8
                              try clear c11
                              try clear c11b0
                              try clear c11b1
                              try clear c14
                              try clear c14b0
                              try clear c14b1
                              try clear c14b2
                              try clear c17
                              try clear c19
                              try clear c20
                              try clear c20b0
                              try clear c21
                              try clear c22
                              try clear c22b0
                              try clear c22b1
                              try clear c24
                              try clear c25
                              try clear c26
                              try clear c26b0
                              try clear c28
                              try clear c31
                              try clear c31b0
                              try clear c31b1
                              try clear c31b2
                              try clear c33
                              try clear c33b0
                              try clear c33b1
                              try clear c35
                              try clear c38
                              try clear p2
                              try clear p6
                              obtain ⟨kq, x12_36, x13_36, rfl, rfl, HA, HJ36, HB⟩ := hcut
                              cases kq with
                              | zero => exact absurd HA.out (by simp [garnerlaw10_VersionTells.j5])
                              | succ kj36 =>
                                have H := HA.out
                                clear HA
                                simp only [garnerlaw10_VersionTells.j5] at H
                                replace H := Option.bind_eq_some_iff.mp H
                                obtain ⟨t115, A390, H⟩ := H
                                replace H : (if t115 = true then (garnerlaw10_VersionTells.j6 kj36 a0 x12_36 x13_36 a0) else (garnerlaw10_VersionTells.j6 kj36 a0 x12_36 x13_36 (IntKind.u64.wrap (a0 + 8)))) = some r := H
                                have A39 := Aside0.mk A390
                                clear A390
                                have HC40 := Aside0.mk H
                                clear H
                                go_upto_if 97 with (first | ((with_reducible refine gate_callee (f := 8) rfl ?_); refine goesL_ (some 96) rfl rfl Try.func8 (by kernel_rfl) rfl #[.int .u64 a0, .int .u64 8] rfl (by (try simp only [List.map_toArray, List.map_cons, List.map_nil]); first | done | rfl | (simp only [List.length_drop, List.length_take]; rfl)) ?_; (with_reducible refine (garnerlaw10_bit.calls a0 8 t115 _ A39.out).mono ?_); rintro e w' ⟨rfl, ⟨nd, rfl⟩⟩; refine ⟨_, rfl, ?_⟩) | (go_at_call 8; (with_reducible refine (garnerlaw10_bit.calls a0 8 t115 _ A39.out).mono ?_); rintro e w' ⟨rfl, ⟨nd, rfl⟩⟩))
                                (try simp only [Act.put, List.setIfInBounds_toArray, List.set_cons_zero, List.set_cons_succ])
                                go_cut [14] (fun v14 wc => ∃ (kq : Nat) (x14_39 : Int), v14 = .int .u64 x14_39 ∧ Aside0 (garnerlaw10_VersionTells.j6 kq a0 x12_36 x13_36 x14_39 = some r) ∧ Aside0 (kq ≤ kj36) ∧ Aside0 (Below w.heap.size w wc))
                                case first =>
                                  have H := HC40.out
                                  clear HC40
                                  by_cases c41 : t115 = true
                                  · subst c41
                                    have H1 : (garnerlaw10_VersionTells.j6 kj36 a0 x12_36 x13_36 a0) = some r := by rw [if_pos rfl] at H; exact H
                                    clear H
                                    have H := H1
                                    clear H1
                                    have H' := Aside0.mk H
                                    clear H
                                    go_wp2
                                    go_meet
                                    case rel => exact ⟨_, (a0), (by first | rfl | (simp; done) | (simp [*]; done)), H', ⟨by have := HJ4.out; have := HJ6.out; have := HJ8.out; have := HK4.out; have := HJ28.out; have := HJ36.out; first | omega | exact Nat.le_refl _⟩, ⟨by repeat (first | (with_reducible first | exact HB.out | apply below_alloc | apply pw_below_drewN | apply below_drew1) | exact HB.out)⟩⟩
                                  · replace c41 := Bool.eq_false_iff.mpr c41
                                    subst c41
                                    have H1 : (garnerlaw10_VersionTells.j6 kj36 a0 x12_36 x13_36 (IntKind.u64.wrap (a0 + 8))) = some r := by rw [if_neg (show ¬ (false = true) by decide)] at H; exact H
                                    clear H
                                    have H := H1
                                    clear H1
                                    have H' := Aside0.mk H
                                    clear H
                                    go_wp2
                                    go_meet
                                    case rel => exact ⟨_, (IntKind.u64.wrap (a0 + 8)), (by first | rfl | (simp; done) | (simp [*]; done)), H', ⟨by have := HJ4.out; have := HJ6.out; have := HJ8.out; have := HK4.out; have := HJ28.out; have := HJ36.out; first | omega | exact Nat.le_refl _⟩, ⟨by repeat (first | (with_reducible first | exact HB.out | apply below_alloc | apply pw_below_drewN | apply below_drew1) | exact HB.out)⟩⟩
                                case rest =>
                                  clear HC40
                                  try clear c1
                                  try clear c2
                                  try clear p2
                                  try clear c3
                                  try clear c4
                                  try clear c6
                                  try clear p6
                                  try clear c8
                                  try clear c11
                                  try clear c11b0
                                  try clear c11b1
                                  try clear c14
                                  try clear c14b0
                                  try clear c14b1
                                  try clear c14b2
                                  try clear c17
                                  try clear c19
                                  try clear c20
                                  try clear c20b0
                                  try clear c21
                                  try clear c22
                                  try clear c22b0
                                  try clear c22b1
                                  try clear c24
                                  try clear c25
                                  try clear c26
                                  try clear c26b0
                                  try clear c28
                                  try clear c31
                                  try clear c31b0
                                  try clear c31b1
                                  try clear c31b2
                                  try clear c33
                                  try clear c33b0
                                  try clear c33b1
                                  try clear c35
                                  try clear c38
                                  try clear c41
                                  try clear p2
                                  try clear p6
                                  obtain ⟨kq, x14_39, rfl, HA, HJ39, HB⟩ := hcut
                                  cases kq with
                                  | zero => exact absurd HA.out (by simp [garnerlaw10_VersionTells.j6])
                                  | succ kj39 =>
                                    have H := HA.out
                                    clear HA
                                    simp only [garnerlaw10_VersionTells.j6] at H
                                    replace H := Option.bind_eq_some_iff.mp H
                                    obtain ⟨t116, A420, H⟩ := H
                                    replace H : (if t116 = x12_36 then ((version_Root.f a0 false).bind fun t117 => (if t117 = x13_36 then ((version_Gone.f a0).bind fun t118 => (if t118 = x14_39 then ((garnerlaw10_known.f).bind fun t119 => (some t119)) else (some false))) else (some false))) else (some false)) = some r := H
                                    have A42 := Aside0.mk A420
                                    clear A420
                                    by_cases c43 : t116 = x12_36
                                    · rw [if_pos c43] at H
                                      have c43b0 : (t116 == x12_36) = true := beq_iff_eq.mpr c43
                                      have c43b1 : (t116 != x12_36) = false := bne_eq_false_iff_eq.mpr c43
                                      clear c43
                                      replace H := Option.bind_eq_some_iff.mp H
                                      obtain ⟨t117, A440, H⟩ := H
                                      replace H : (if t117 = x13_36 then ((version_Gone.f a0).bind fun t118 => (if t118 = x14_39 then ((garnerlaw10_known.f).bind fun t119 => (some t119)) else (some false))) else (some false)) = some r := H
                                      have A44 := Aside0.mk A440
                                      clear A440
                                      by_cases c45 : t117 = x13_36
                                      · rw [if_pos c45] at H
                                        have c45b0 : (t117 == x13_36) = true := beq_iff_eq.mpr c45
                                        have c45b1 : (t117 != x13_36) = false := bne_eq_false_iff_eq.mpr c45
                                        clear c45
                                        replace H := Option.bind_eq_some_iff.mp H
                                        obtain ⟨t118, A460, H⟩ := H
                                        replace H : (if t118 = x14_39 then ((garnerlaw10_known.f).bind fun t119 => (some t119)) else (some false)) = some r := H
                                        have A46 := Aside0.mk A460
                                        clear A460
                                        by_cases c47 : t118 = x14_39
                                        · rw [if_pos c47] at H
                                          have c47b0 : (t118 == x14_39) = true := beq_iff_eq.mpr c47
                                          have c47b1 : (t118 != x14_39) = false := bne_eq_false_iff_eq.mpr c47
                                          clear c47
                                          replace H := Option.bind_eq_some_iff.mp H
                                          obtain ⟨t119, A480, H⟩ := H
                                          replace H : (some t119) = some r := H
                                          have A48 := Aside0.mk A480
                                          clear A480
                                          obtain rfl := Option.some.inj H
                                          go_wp2_with (first | ((with_reducible refine gate_callee (f := 25) rfl ?_); refine goesL_ (some 101) rfl rfl Try.func25 (by kernel_rfl) rfl #[.int .u64 a0, .bool true] rfl (by (try simp only [List.map_toArray, List.map_cons, List.map_nil]); first | done | rfl | (simp only [List.length_drop, List.length_take]; rfl)) ?_; (with_reducible refine (version_Root.calls a0 true t116 _ A42.out).mono ?_); rintro e w' ⟨rfl, ⟨nd, rfl⟩⟩; refine ⟨_, rfl, ?_⟩) | (go_at_call 25; (with_reducible refine (version_Root.calls a0 true t116 _ A42.out).mono ?_); rintro e w' ⟨rfl, ⟨nd, rfl⟩⟩) | (go_at_call 25; (with_reducible refine (version_Root.calls a0 false t117 _ A44.out).mono ?_); rintro e w' ⟨rfl, ⟨nd, rfl⟩⟩) | (go_at_call 26; (with_reducible refine (version_Gone.calls a0 t118 _ A46.out).mono ?_); rintro e w' ⟨rfl, ⟨nd, rfl⟩⟩) | (go_at_call 11; (with_reducible refine (garnerlaw10_known.calls  t119 _ A48.out).mono ?_); rintro e w49 ⟨rfl, hb⟩; have n0_ := Aside0.mk (below_step (by repeat (first | (with_reducible first | exact HB.out | apply below_alloc | apply pw_below_drewN | apply below_drew1) | exact HB.out)) hb); clear HB; have HB := n0_; clear n0_; (try clear hb); (try clear hb2); (try clear hk); (try clear hi)))
                                          go_ret
                                          exact ⟨by first | rfl | (simp [errW_none, errW_some] <;> rfl) | (simp [*, errW_none, errW_some] <;> rfl), by repeat (first | (with_reducible first | exact HB.out | apply below_alloc | apply pw_below_drewN | apply below_drew1) | exact HB.out)⟩
                                        · rw [if_neg c47] at H
                                          have c47b0 : (t118 == x14_39) = false := beq_eq_false_iff_ne.mpr c47
                                          have c47b1 : (t118 != x14_39) = true := bne_iff_ne.mpr c47
                                          obtain rfl := Option.some.inj H
                                          go_wp2_with (first | ((with_reducible refine gate_callee (f := 25) rfl ?_); refine goesL_ (some 101) rfl rfl Try.func25 (by kernel_rfl) rfl #[.int .u64 a0, .bool true] rfl (by (try simp only [List.map_toArray, List.map_cons, List.map_nil]); first | done | rfl | (simp only [List.length_drop, List.length_take]; rfl)) ?_; (with_reducible refine (version_Root.calls a0 true t116 _ A42.out).mono ?_); rintro e w' ⟨rfl, ⟨nd, rfl⟩⟩; refine ⟨_, rfl, ?_⟩) | (go_at_call 25; (with_reducible refine (version_Root.calls a0 true t116 _ A42.out).mono ?_); rintro e w' ⟨rfl, ⟨nd, rfl⟩⟩) | (go_at_call 25; (with_reducible refine (version_Root.calls a0 false t117 _ A44.out).mono ?_); rintro e w' ⟨rfl, ⟨nd, rfl⟩⟩) | (go_at_call 26; (with_reducible refine (version_Gone.calls a0 t118 _ A46.out).mono ?_); rintro e w' ⟨rfl, ⟨nd, rfl⟩⟩))
                                          go_ret
                                          exact ⟨by first | rfl | (simp [errW_none, errW_some] <;> rfl) | (simp [*, errW_none, errW_some] <;> rfl), by repeat (first | (with_reducible first | exact HB.out | apply below_alloc | apply pw_below_drewN | apply below_drew1) | exact HB.out)⟩
                                      · rw [if_neg c45] at H
                                        have c45b0 : (t117 == x13_36) = false := beq_eq_false_iff_ne.mpr c45
                                        have c45b1 : (t117 != x13_36) = true := bne_iff_ne.mpr c45
                                        obtain rfl := Option.some.inj H
                                        go_wp2_with (first | ((with_reducible refine gate_callee (f := 25) rfl ?_); refine goesL_ (some 101) rfl rfl Try.func25 (by kernel_rfl) rfl #[.int .u64 a0, .bool true] rfl (by (try simp only [List.map_toArray, List.map_cons, List.map_nil]); first | done | rfl | (simp only [List.length_drop, List.length_take]; rfl)) ?_; (with_reducible refine (version_Root.calls a0 true t116 _ A42.out).mono ?_); rintro e w' ⟨rfl, ⟨nd, rfl⟩⟩; refine ⟨_, rfl, ?_⟩) | (go_at_call 25; (with_reducible refine (version_Root.calls a0 true t116 _ A42.out).mono ?_); rintro e w' ⟨rfl, ⟨nd, rfl⟩⟩) | (go_at_call 25; (with_reducible refine (version_Root.calls a0 false t117 _ A44.out).mono ?_); rintro e w' ⟨rfl, ⟨nd, rfl⟩⟩))
                                        go_ret
                                        exact ⟨by first | rfl | (simp [errW_none, errW_some] <;> rfl) | (simp [*, errW_none, errW_some] <;> rfl), by repeat (first | (with_reducible first | exact HB.out | apply below_alloc | apply pw_below_drewN | apply below_drew1) | exact HB.out)⟩
                                    · rw [if_neg c43] at H
                                      have c43b0 : (t116 == x12_36) = false := beq_eq_false_iff_ne.mpr c43
                                      have c43b1 : (t116 != x12_36) = true := bne_iff_ne.mpr c43
                                      obtain rfl := Option.some.inj H
                                      go_wp2_with (first | ((with_reducible refine gate_callee (f := 25) rfl ?_); refine goesL_ (some 101) rfl rfl Try.func25 (by kernel_rfl) rfl #[.int .u64 a0, .bool true] rfl (by (try simp only [List.map_toArray, List.map_cons, List.map_nil]); first | done | rfl | (simp only [List.length_drop, List.length_take]; rfl)) ?_; (with_reducible refine (version_Root.calls a0 true t116 _ A42.out).mono ?_); rintro e w' ⟨rfl, ⟨nd, rfl⟩⟩; refine ⟨_, rfl, ?_⟩) | (go_at_call 25; (with_reducible refine (version_Root.calls a0 true t116 _ A42.out).mono ?_); rintro e w' ⟨rfl, ⟨nd, rfl⟩⟩))
                                      go_ret
                                      exact ⟨by first | rfl | (simp [errW_none, errW_some] <;> rfl) | (simp [*, errW_none, errW_some] <;> rfl), by repeat (first | (with_reducible first | exact HB.out | apply below_alloc | apply pw_below_drewN | apply below_drew1) | exact HB.out)⟩

/-- THE ONE PURE STATEMENT of garnerlaw10_VersionTells: yours. -/
def garnerlaw10_VersionTells.Pure : Prop := ∀ (a0 : Int) (a1 : Bool) (a2 : Bool) (a3 : Int), (Lit.int .u64 a0).wf = true → (Lit.int .u64 a3).wf = true → ∃ k, garnerlaw10_VersionTells.f k a0 a1 a2 a3 = some true
theorem garnerlaw10_VersionTells.walk (P : garnerlaw10_VersionTells.Pure) (a0 : Int) (a1 : Bool) (a2 : Bool) (a3 : Int) (w : World) (w0 : (Lit.int .u64 a0).wf = true) (w3 : (Lit.int .u64 a3).wf = true) :
    Calls Try.prog 6 #[.int .u64 a0, .bool a1, .bool a2, .int .u64 a3] w fun e w' => e = .returned (.bool true) ∧ Below w.heap.size w w' := by
  obtain ⟨k, h⟩ := P a0 a1 a2 a3 w0 w3
  refine (garnerlaw10_VersionTells.calls k a0 a1 a2 a3 true w h).mono ?_
  rintro e w' ⟨rfl, hd⟩
  exact ⟨rfl, hd⟩

end Go.Proofs.Ythkdeaeppadbhaa.HVersionTells
