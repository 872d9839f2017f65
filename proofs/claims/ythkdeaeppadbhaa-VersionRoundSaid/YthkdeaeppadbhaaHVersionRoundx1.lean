-- Written for this claim by a program of this session, hp.py.
import Derived.Test.YthkdeaeppadbhaaHVersionRoundx0
namespace Go.Proofs.Ythkdeaeppadbhaa.HVersionRound
open Go.RowKit Go.Proofs.YthkdeaeppadbhaaW.PrintWords Go.Proofs.YthkdeaeppadbhaaW.PrintLast Go.Proofs.YthkdeaeppadbhaaW.PrintMore
attribute [local go_sem] max2_int min2_int max_two min_two max_three min_three max_four min_four   -- for this text's walks alone
set_option linter.unusedVariables false
set_option linter.unusedSimpArgs false

/-! ### garnerlaw10_bit: function 8 -/
def garnerlaw10_bit.f (a0 : Int) (a1 : Int) : Option (Bool) := if a1 = 0 then (none) else (some ((Int.tmod (IntKind.u64.wrap (Int.tdiv a0 a1)) 2) == 1))
set_option maxHeartbeats 8000000 in
set_option maxRecDepth 100000 in
theorem garnerlaw10_bit.calls (a0 : Int) (a1 : Int) (r : Bool) (w : World) (h : garnerlaw10_bit.f a0 a1 = some r) :
    Calls Try.prog 8 #[.int .u64 a0, .int .u64 a1] w fun e w' => e = .returned (.bool r) ∧ Drawn0 w w' := by
  have H : (if a1 = 0 then (none) else (some ((Int.tmod (IntKind.u64.wrap (Int.tdiv a0 a1)) 2) == 1))) = some r := h
  clear h
  by_cases c3 : a1 = 0
  · rw [if_pos c3] at H
    exact absurd H (by simp)
  · rw [if_neg c3] at H
    have c3b0 : (a1 == 0) = false := beq_eq_false_iff_ne.mpr c3
    have c3b1 : (a1 != 0) = true := bne_iff_ne.mpr c3
    obtain rfl := Option.some.inj H
    go_enter Try.func8, Try.ntmps8
    go_wp2
    go_ret
    exact ⟨by first | rfl | (simp; done) | (simp [*]; done), by repeat (first | exact Drawn0.refl _ | apply Drawn0.step)⟩

/-! ### version_Same: function 9 -/
def version_Same.f (a0 : Int) (a1 : Int) : Option (Bool) := some ((Go.bits .andNot .u64 a0 1) == (Go.bits .andNot .u64 a1 1))
set_option maxHeartbeats 8000000 in
set_option maxRecDepth 100000 in
theorem version_Same.calls (a0 : Int) (a1 : Int) (r : Bool) (w : World) (h : version_Same.f a0 a1 = some r) :
    Calls Try.prog 9 #[.int .u64 a0, .int .u64 a1] w fun e w' => e = .returned (.bool r) ∧ Drawn0 w w' := by
  have H : (some ((Go.bits .andNot .u64 a0 1) == (Go.bits .andNot .u64 a1 1))) = some r := h
  clear h
  obtain rfl := Option.some.inj H
  go_enter Try.func9, Try.ntmps9
  go_wp2
  go_ret
  exact ⟨by first | rfl | (simp; done) | (simp [*]; done), by repeat (first | exact Drawn0.refl _ | apply Drawn0.step)⟩

/-! ### version_Splits: function 20 -/
def version_Splits.f (a0 : Int) : Option (Int) := some (wrap64 (Go.bits .and .u64 (a0 / 16777216) 4294967295))
set_option maxHeartbeats 8000000 in
set_option maxRecDepth 100000 in
theorem version_Splits.calls (a0 : Int) (r : Int) (w : World) (h : version_Splits.f a0 = some r) :
    Calls Try.prog 20 #[.int .u64 a0] w fun e w' => e = .returned (.int .i64 r) ∧ Drawn0 w w' := by
  have H : (some (wrap64 (Go.bits .and .u64 (a0 / 16777216) 4294967295))) = some r := h
  clear h
  obtain rfl := Option.some.inj H
  go_enter Try.func20, Try.ntmps20
  go_wp2
  go_ret
  exact ⟨by first | rfl | (simp; done) | (simp [*]; done), by repeat (first | exact Drawn0.refl _ | apply Drawn0.step)⟩

/-! ### version_Moved: function 10 -/
def version_Moved.f (a0 : Int) (a1 : Int) : Option (Bool) := (version_Splits.f a0).bind fun t101 => ((version_Splits.f a1).bind fun t102 => (if t101 = t102 then (some ((Go.bits .and .u64 (Go.bits .xor .u64 a0 a1) 8) != 0)) else (some true)))
set_option maxHeartbeats 8000000 in
set_option maxRecDepth 100000 in
theorem version_Moved.calls (a0 : Int) (a1 : Int) (r : Bool) (w : World) (h : version_Moved.f a0 a1 = some r) :
    Calls Try.prog 10 #[.int .u64 a0, .int .u64 a1] w fun e w' => e = .returned (.bool r) ∧ Drawn0 w w' := by
  have H : ((version_Splits.f a0).bind fun t101 => ((version_Splits.f a1).bind fun t102 => (if t101 = t102 then (some ((Go.bits .and .u64 (Go.bits .xor .u64 a0 a1) 8) != 0)) else (some true)))) = some r := h
  clear h
  replace H := Option.bind_eq_some_iff.mp H
  obtain ⟨t101, A30, H⟩ := H
  replace H : ((version_Splits.f a1).bind fun t102 => (if t101 = t102 then (some ((Go.bits .and .u64 (Go.bits .xor .u64 a0 a1) 8) != 0)) else (some true))) = some r := H
  have A3 := Aside0.mk A30
  clear A30
  replace H := Option.bind_eq_some_iff.mp H
  obtain ⟨t102, A40, H⟩ := H
  replace H : (if t101 = t102 then (some ((Go.bits .and .u64 (Go.bits .xor .u64 a0 a1) 8) != 0)) else (some true)) = some r := H
  have A4 := Aside0.mk A40
  clear A40
  by_cases c5 : t101 = t102
  · rw [if_pos c5] at H
    have c5b0 : (t101 == t102) = true := beq_iff_eq.mpr c5
    have c5b1 : (t101 != t102) = false := bne_eq_false_iff_eq.mpr c5
    clear c5
    obtain rfl := Option.some.inj H
    go_enter Try.func10, Try.ntmps10
    go_wp2_with (first | ((with_reducible refine gate_callee (f := 20) rfl ?_); refine goesL_ (some 6) rfl rfl Try.func20 (by kernel_rfl) rfl #[.int .u64 a0] rfl (by (try simp only [List.map_toArray, List.map_cons, List.map_nil]); first | done | rfl | (simp only [List.length_drop, List.length_take]; rfl)) ?_; (with_reducible refine (version_Splits.calls a0 t101 _ A3.out).mono ?_); rintro e w' ⟨rfl, ⟨nd, rfl⟩⟩; refine ⟨_, rfl, ?_⟩) | (go_at_call 20; (with_reducible refine (version_Splits.calls a0 t101 _ A3.out).mono ?_); rintro e w' ⟨rfl, ⟨nd, rfl⟩⟩) | ((with_reducible refine gate_callee (f := 20) rfl ?_); refine goesL_ (some 8) rfl rfl Try.func20 (by kernel_rfl) rfl #[.int .u64 a1] rfl (by (try simp only [List.map_toArray, List.map_cons, List.map_nil]); first | done | rfl | (simp only [List.length_drop, List.length_take]; rfl)) ?_; (with_reducible refine (version_Splits.calls a1 t102 _ A4.out).mono ?_); rintro e w' ⟨rfl, ⟨nd, rfl⟩⟩; refine ⟨_, rfl, ?_⟩) | (go_at_call 20; (with_reducible refine (version_Splits.calls a1 t102 _ A4.out).mono ?_); rintro e w' ⟨rfl, ⟨nd, rfl⟩⟩))
    go_ret
    exact ⟨by first | rfl | (simp; done) | (simp [*]; done), by repeat (first | exact Drawn0.refl _ | apply Drawn0.step)⟩
  · rw [if_neg c5] at H
    have c5b0 : (t101 == t102) = false := beq_eq_false_iff_ne.mpr c5
    have c5b1 : (t101 != t102) = true := bne_iff_ne.mpr c5
    obtain rfl := Option.some.inj H
    go_enter Try.func10, Try.ntmps10
    go_wp2_with (first | ((with_reducible refine gate_callee (f := 20) rfl ?_); refine goesL_ (some 6) rfl rfl Try.func20 (by kernel_rfl) rfl #[.int .u64 a0] rfl (by (try simp only [List.map_toArray, List.map_cons, List.map_nil]); first | done | rfl | (simp only [List.length_drop, List.length_take]; rfl)) ?_; (with_reducible refine (version_Splits.calls a0 t101 _ A3.out).mono ?_); rintro e w' ⟨rfl, ⟨nd, rfl⟩⟩; refine ⟨_, rfl, ?_⟩) | (go_at_call 20; (with_reducible refine (version_Splits.calls a0 t101 _ A3.out).mono ?_); rintro e w' ⟨rfl, ⟨nd, rfl⟩⟩) | ((with_reducible refine gate_callee (f := 20) rfl ?_); refine goesL_ (some 8) rfl rfl Try.func20 (by kernel_rfl) rfl #[.int .u64 a1] rfl (by (try simp only [List.map_toArray, List.map_cons, List.map_nil]); first | done | rfl | (simp only [List.length_drop, List.length_take]; rfl)) ?_; (with_reducible refine (version_Splits.calls a1 t102 _ A4.out).mono ?_); rintro e w' ⟨rfl, ⟨nd, rfl⟩⟩; refine ⟨_, rfl, ?_⟩) | (go_at_call 20; (with_reducible refine (version_Splits.calls a1 t102 _ A4.out).mono ?_); rintro e w' ⟨rfl, ⟨nd, rfl⟩⟩))
    go_ret
    exact ⟨by first | rfl | (simp; done) | (simp [*]; done), by repeat (first | exact Drawn0.refl _ | apply Drawn0.step)⟩

/-! ### garnerlaw10_got: function 12 -/
def garnerlaw10_got.f (a0 : Int) (a1 : Int) : Option (Int) := if a1 = 0 then (some a0) else (some (IntKind.u64.wrap (9223372036854775808 + (IntKind.u64.wrap (a1)))))
set_option maxHeartbeats 8000000 in
set_option maxRecDepth 100000 in
theorem garnerlaw10_got.calls (a0 : Int) (a1 : Int) (r : Int) (w : World) (h : garnerlaw10_got.f a0 a1 = some r) :
    Calls Try.prog 12 #[.int .u64 a0, .int .i64 a1] w fun e w' => e = .returned (.int .u64 r) ∧ Drawn0 w w' := by
  have H : (if a1 = 0 then (some a0) else (some (IntKind.u64.wrap (9223372036854775808 + (IntKind.u64.wrap (a1)))))) = some r := h
  clear h
  by_cases c3 : a1 = 0
  · rw [if_pos c3] at H
    have c3b0 : (a1 == 0) = true := beq_iff_eq.mpr c3
    have c3b1 : (a1 != 0) = false := bne_eq_false_iff_eq.mpr c3
    clear c3
    obtain rfl := Option.some.inj H
    go_enter Try.func12, Try.ntmps12
    go_wp2
    go_ret
    exact ⟨by first | rfl | (simp; done) | (simp [*]; done), by repeat (first | exact Drawn0.refl _ | apply Drawn0.step)⟩
  · rw [if_neg c3] at H
    have c3b0 : (a1 == 0) = false := beq_eq_false_iff_ne.mpr c3
    have c3b1 : (a1 != 0) = true := bne_iff_ne.mpr c3
    obtain rfl := Option.some.inj H
    go_enter Try.func12, Try.ntmps12
    go_wp2
    go_ret
    exact ⟨by first | rfl | (simp; done) | (simp [*]; done), by repeat (first | exact Drawn0.refl _ | apply Drawn0.step)⟩

/-! ### version_May: function 22 -/
def version_May.f (a0 : Int) : Option (Bool) := if (a0 / 72057594037927936) = 0 then (some ((Go.bits .and .u64 (a0 / 64) 3) == 0)) else (some false)
set_option maxHeartbeats 8000000 in
set_option maxRecDepth 100000 in
theorem version_May.calls (a0 : Int) (r : Bool) (w : World) (h : version_May.f a0 = some r) :
    Calls Try.prog 22 #[.int .u64 a0] w fun e w' => e = .returned (.bool r) ∧ Drawn0 w w' := by
  have H : (if (a0 / 72057594037927936) = 0 then (some ((Go.bits .and .u64 (a0 / 64) 3) == 0)) else (some false)) = some r := h
  clear h
  by_cases c2 : (a0 / 72057594037927936) = 0
  · rw [if_pos c2] at H
    have c2b0 : ((a0 / 72057594037927936) == 0) = true := beq_iff_eq.mpr c2
    have c2b1 : ((a0 / 72057594037927936) != 0) = false := bne_eq_false_iff_eq.mpr c2
    clear c2
    obtain rfl := Option.some.inj H
    go_enter Try.func22, Try.ntmps22
    go_wp2
    go_ret
    exact ⟨by first | rfl | (simp; done) | (simp [*]; done), by repeat (first | exact Drawn0.refl _ | apply Drawn0.step)⟩
  · rw [if_neg c2] at H
    have c2b0 : ((a0 / 72057594037927936) == 0) = false := beq_eq_false_iff_ne.mpr c2
    have c2b1 : ((a0 / 72057594037927936) != 0) = true := bne_iff_ne.mpr c2
    obtain rfl := Option.some.inj H
    go_enter Try.func22, Try.ntmps22
    go_wp2
    go_ret
    exact ⟨by first | rfl | (simp; done) | (simp [*]; done), by repeat (first | exact Drawn0.refl _ | apply Drawn0.step)⟩

/-! ### version_Has: function 24 -/
def version_Has.f (a0 : Int) (a1 : Int) : Option (Bool) := some ((Go.bits .and .u64 a0 a1) == a1)
set_option maxHeartbeats 8000000 in
set_option maxRecDepth 100000 in
theorem version_Has.calls (a0 : Int) (a1 : Int) (r : Bool) (w : World) (h : version_Has.f a0 a1 = some r) :
    Calls Try.prog 24 #[.int .u64 a0, .int .u64 a1] w fun e w' => e = .returned (.bool r) ∧ Drawn0 w w' := by
  have H : (some ((Go.bits .and .u64 a0 a1) == a1)) = some r := h
  clear h
  obtain rfl := Option.some.inj H
  go_enter Try.func24, Try.ntmps24
  go_wp2
  go_ret
  exact ⟨by first | rfl | (simp; done) | (simp [*]; done), by repeat (first | exact Drawn0.refl _ | apply Drawn0.step)⟩

-- NOT PRINTED: function 27 (version_asked)

/-! ### version_Lock: function 13 -/
def version_Lock.f (a0 : Int) : Option (Int × Int) := if a0 / 72057594037927936 = 0 then (if Go.bits .and .u64 (a0 / 64) 3 = 0 then (if Go.bits .and .u64 a0 1 = 1 then (some (0, 9)) else (some (Go.bits .or .u64 a0 1, 0))) else some (0, 2)) else some (0, 2)
set_option maxHeartbeats 4000000 in
set_option maxRecDepth 100000 in
theorem version_Lock.calls (a0 : Int) (r1 : Int) (r2 : Int) (w : World) (h : version_Lock.f a0 = some (r1, r2)) :
    Calls Try.prog 13 #[.int .u64 a0] w fun e w' => e = .returned (.tuple #[.int .u64 r1, .int .i64 r2]) ∧ Below w.heap.size w w' := by
  have H : (if a0 / 72057594037927936 = 0 then (if Go.bits .and .u64 (a0 / 64) 3 = 0 then (if Go.bits .and .u64 a0 1 = 1 then (some (0, 9)) else (some (Go.bits .or .u64 a0 1, 0))) else some (0, 2)) else some (0, 2)) = some (r1, r2) := h
  clear h
  by_cases c1 : a0 / 72057594037927936 = 0
  · rw [if_pos c1] at H
    have c1b : (a0 / 72057594037927936 == 0) = true := beq_iff_eq.mpr c1
    clear c1
    by_cases c2 : Go.bits .and .u64 (a0 / 64) 3 = 0
    · rw [if_pos c2] at H
      have c2b : (Go.bits .and .u64 (a0 / 64) 3 == 0) = true := beq_iff_eq.mpr c2
      clear c2
      by_cases c3 : Go.bits .and .u64 a0 1 = 1
      · rw [if_pos c3] at H
        have c3b : (Go.bits .and .u64 a0 1 == 1) = true := beq_iff_eq.mpr c3
        have c3c : (Go.bits .and .u64 a0 1 != 1) = false := bne_eq_false_iff_eq.mpr c3
        clear c3
        obtain ⟨rfl, rfl⟩ := Prod.mk.inj (Option.some.inj H)
        go_enter Try.func13, Try.ntmps13
        go_wp2
        go_ret2
        exact ⟨rfl, by repeat (first | exact Below.refl _ _ | (refine Below.drew ?_) | (refine Below.alloc ?_ (by simp) _) | (refine Below.setCell ?_ (by simp) _))⟩
      · rw [if_neg c3] at H
        have c3b : (Go.bits .and .u64 a0 1 == 1) = false := beq_eq_false_iff_ne.mpr c3
        have c3c : (Go.bits .and .u64 a0 1 != 1) = true := bne_iff_ne.mpr c3
        clear c3
        obtain ⟨rfl, rfl⟩ := Prod.mk.inj (Option.some.inj H)
        go_enter Try.func13, Try.ntmps13
        go_wp2
        go_ret2
        exact ⟨rfl, by repeat (first | exact Below.refl _ _ | (refine Below.drew ?_) | (refine Below.alloc ?_ (by simp) _) | (refine Below.setCell ?_ (by simp) _))⟩
    · rw [if_neg c2] at H
      have c2b : (Go.bits .and .u64 (a0 / 64) 3 == 0) = false := beq_eq_false_iff_ne.mpr c2
      clear c2
      obtain ⟨rfl, rfl⟩ := Prod.mk.inj (Option.some.inj H)
      go_enter Try.func13, Try.ntmps13
      go_wp2
      go_ret2
      exact ⟨rfl, by repeat (first | exact Below.refl _ _ | (refine Below.drew ?_) | (refine Below.alloc ?_ (by simp) _) | (refine Below.setCell ?_ (by simp) _))⟩
  · rw [if_neg c1] at H
    have c1b : (a0 / 72057594037927936 == 0) = false := beq_eq_false_iff_ne.mpr c1
    clear c1
    obtain ⟨rfl, rfl⟩ := Prod.mk.inj (Option.some.inj H)
    go_enter Try.func13, Try.ntmps13
    go_wp2
    go_ret2
    exact ⟨rfl, by repeat (first | exact Below.refl _ _ | (refine Below.drew ?_) | (refine Below.alloc ?_ (by simp) _) | (refine Below.setCell ?_ (by simp) _))⟩

/-! ### version_Insert: function 14 -/
def version_Insert.f (a0 : Int) : Option (Int × Int) := if a0 / 72057594037927936 = 0 then (if Go.bits .and .u64 (a0 / 64) 3 = 0 then (if Go.bits .and .u64 a0 1 = 1 then (some (Go.bits .or .u64 a0 2, 0)) else (some (0, 9))) else some (0, 2)) else some (0, 2)
set_option maxHeartbeats 4000000 in
set_option maxRecDepth 100000 in
theorem version_Insert.calls (a0 : Int) (r1 : Int) (r2 : Int) (w : World) (h : version_Insert.f a0 = some (r1, r2)) :
    Calls Try.prog 14 #[.int .u64 a0] w fun e w' => e = .returned (.tuple #[.int .u64 r1, .int .i64 r2]) ∧ Below w.heap.size w w' := by
  have H : (if a0 / 72057594037927936 = 0 then (if Go.bits .and .u64 (a0 / 64) 3 = 0 then (if Go.bits .and .u64 a0 1 = 1 then (some (Go.bits .or .u64 a0 2, 0)) else (some (0, 9))) else some (0, 2)) else some (0, 2)) = some (r1, r2) := h
  clear h
  by_cases c1 : a0 / 72057594037927936 = 0
  · rw [if_pos c1] at H
    have c1b : (a0 / 72057594037927936 == 0) = true := beq_iff_eq.mpr c1
    clear c1
    by_cases c2 : Go.bits .and .u64 (a0 / 64) 3 = 0
    · rw [if_pos c2] at H
      have c2b : (Go.bits .and .u64 (a0 / 64) 3 == 0) = true := beq_iff_eq.mpr c2
      clear c2
      by_cases c3 : Go.bits .and .u64 a0 1 = 1
      · rw [if_pos c3] at H
        have c3b : (Go.bits .and .u64 a0 1 == 1) = true := beq_iff_eq.mpr c3
        have c3c : (Go.bits .and .u64 a0 1 != 1) = false := bne_eq_false_iff_eq.mpr c3
        clear c3
        obtain ⟨rfl, rfl⟩ := Prod.mk.inj (Option.some.inj H)
        go_enter Try.func14, Try.ntmps14
        go_wp2
        go_ret2
        exact ⟨rfl, by repeat (first | exact Below.refl _ _ | (refine Below.drew ?_) | (refine Below.alloc ?_ (by simp) _) | (refine Below.setCell ?_ (by simp) _))⟩
      · rw [if_neg c3] at H
        have c3b : (Go.bits .and .u64 a0 1 == 1) = false := beq_eq_false_iff_ne.mpr c3
        have c3c : (Go.bits .and .u64 a0 1 != 1) = true := bne_iff_ne.mpr c3
        clear c3
        obtain ⟨rfl, rfl⟩ := Prod.mk.inj (Option.some.inj H)
        go_enter Try.func14, Try.ntmps14
        go_wp2
        go_ret2
        exact ⟨rfl, by repeat (first | exact Below.refl _ _ | (refine Below.drew ?_) | (refine Below.alloc ?_ (by simp) _) | (refine Below.setCell ?_ (by simp) _))⟩
    · rw [if_neg c2] at H
      have c2b : (Go.bits .and .u64 (a0 / 64) 3 == 0) = false := beq_eq_false_iff_ne.mpr c2
      clear c2
      obtain ⟨rfl, rfl⟩ := Prod.mk.inj (Option.some.inj H)
      go_enter Try.func14, Try.ntmps14
      go_wp2
      go_ret2
      exact ⟨rfl, by repeat (first | exact Below.refl _ _ | (refine Below.drew ?_) | (refine Below.alloc ?_ (by simp) _) | (refine Below.setCell ?_ (by simp) _))⟩
  · rw [if_neg c1] at H
    have c1b : (a0 / 72057594037927936 == 0) = false := beq_eq_false_iff_ne.mpr c1
    clear c1
    obtain ⟨rfl, rfl⟩ := Prod.mk.inj (Option.some.inj H)
    go_enter Try.func14, Try.ntmps14
    go_wp2
    go_ret2
    exact ⟨rfl, by repeat (first | exact Below.refl _ _ | (refine Below.drew ?_) | (refine Below.alloc ?_ (by simp) _) | (refine Below.setCell ?_ (by simp) _))⟩

/-! ### version_Unlock: function 16 -/
theorem below_up_drewN {B : Nat} {a w : World} (h : Below B a w) (n : Nat) : Below B a (w.drewN n) := h.trans ⟨rfl, rfl, rfl, Nat.le_refl _, fun _ _ => rfl⟩
def count24 (x : Int) : Int := Go.bits .or .u64 (Go.bits .andNot .u64 x 72057594021150720) (IntKind.u64.wrap (Go.bits .and .u64 (IntKind.u64.wrap (x / 16777216 + 1)) 4294967295 * 16777216))
def count8 (x : Int) : Int := Go.bits .or .u64 (Go.bits .andNot .u64 x 16776960) (IntKind.u64.wrap (Go.bits .and .u64 (IntKind.u64.wrap (x / 256 + 1)) 65535 * 256))
theorem count24_calls (a0 : Int) (w : World) :
    Calls Try.prog 32 #[.int .u64 a0, .int .i64 24, .int .u64 4294967295] w fun e w' => e = .returned (.int .u64 (count24 a0)) ∧ ∃ n, w' = w.drewN n := by
  go_enter Try.func32, Try.ntmps32
  go_wp2
  go_quiet (fail)
  go_wp2
  go_ret
  exact ⟨rfl, _, rfl⟩
theorem count8_calls (a0 : Int) (w : World) :
    Calls Try.prog 32 #[.int .u64 a0, .int .i64 8, .int .u64 65535] w fun e w' => e = .returned (.int .u64 (count8 a0)) ∧ ∃ n, w' = w.drewN n := by
  go_enter Try.func32, Try.ntmps32
  go_wp2
  go_quiet (fail)
  go_wp2
  go_ret
  exact ⟨rfl, _, rfl⟩
def version_Unlock.f (a0 : Int) : Option (Int × Int) := if a0 / 72057594037927936 = 0 then (if Go.bits .and .u64 (a0 / 64) 3 = 0 then (if Go.bits .and .u64 a0 1 = 1 then (if Go.bits .and .u64 a0 4 = 4 then some (count24 (Go.bits .andNot .u64 a0 7), 0) else if Go.bits .and .u64 a0 2 = 2 then some (count8 (Go.bits .andNot .u64 a0 7), 0) else some (Go.bits .andNot .u64 a0 7, 0)) else some (0, 9)) else some (0, 2)) else some (0, 2)
set_option maxHeartbeats 8000000 in
set_option maxRecDepth 100000 in
theorem version_Unlock.calls (a0 : Int) (r1 : Int) (r2 : Int) (w : World) (h : version_Unlock.f a0 = some (r1, r2)) :
    Calls Try.prog 16 #[.int .u64 a0] w fun e w' => e = .returned (.tuple #[.int .u64 r1, .int .i64 r2]) ∧ Below w.heap.size w w' := by
  have H := h
  unfold version_Unlock.f at H
  clear h
  by_cases c0 : a0 / 72057594037927936 = 0
  · rw [if_pos c0] at H
    have d0 : (a0 / 72057594037927936 == 0) = true := beq_iff_eq.mpr c0
    have e0 : (a0 / 72057594037927936 != 0) = false := bne_eq_false_iff_eq.mpr c0
    clear c0
    by_cases c1 : Go.bits .and .u64 (a0 / 64) 3 = 0
    · rw [if_pos c1] at H
      have d1 : (Go.bits .and .u64 (a0 / 64) 3 == 0) = true := beq_iff_eq.mpr c1
      have e1 : (Go.bits .and .u64 (a0 / 64) 3 != 0) = false := bne_eq_false_iff_eq.mpr c1
      clear c1
      by_cases c2 : Go.bits .and .u64 a0 1 = 1
      · rw [if_pos c2] at H
        have d2 : (Go.bits .and .u64 a0 1 == 1) = true := beq_iff_eq.mpr c2
        have e2 : (Go.bits .and .u64 a0 1 != 1) = false := bne_eq_false_iff_eq.mpr c2
        clear c2
        by_cases c3 : Go.bits .and .u64 a0 4 = 4
        · rw [if_pos c3] at H
          have d3 : (Go.bits .and .u64 a0 4 == 4) = true := beq_iff_eq.mpr c3
          have e3 : (Go.bits .and .u64 a0 4 != 4) = false := bne_eq_false_iff_eq.mpr c3
          clear c3
          obtain ⟨rfl, rfl⟩ := Prod.mk.inj (Option.some.inj H)
          go_enter Try.func16, Try.ntmps16
          go_wp2_with (first | (go_at_call 32; refine (count24_calls _ _).mono ?_; rintro e w1 ⟨rfl, n, rfl⟩) | go_in)
          go_ret2
          exact ⟨rfl, by repeat (first | exact Below.refl _ _ | (refine Below.drew ?_) | (refine below_up_drewN ?_ _) | (refine Below.alloc ?_ (by simp) _) | (refine Below.setCell ?_ (by simp) _))⟩
        · rw [if_neg c3] at H
          have d3 : (Go.bits .and .u64 a0 4 == 4) = false := beq_eq_false_iff_ne.mpr c3
          have e3 : (Go.bits .and .u64 a0 4 != 4) = true := bne_iff_ne.mpr c3
          clear c3
          by_cases c4 : Go.bits .and .u64 a0 2 = 2
          · rw [if_pos c4] at H
            have d4 : (Go.bits .and .u64 a0 2 == 2) = true := beq_iff_eq.mpr c4
            have e4 : (Go.bits .and .u64 a0 2 != 2) = false := bne_eq_false_iff_eq.mpr c4
            clear c4
            obtain ⟨rfl, rfl⟩ := Prod.mk.inj (Option.some.inj H)
            go_enter Try.func16, Try.ntmps16
            go_wp2_with (first | (go_at_call 32; refine (count8_calls _ _).mono ?_; rintro e w1 ⟨rfl, n, rfl⟩) | go_in)
            go_ret2
            exact ⟨rfl, by repeat (first | exact Below.refl _ _ | (refine Below.drew ?_) | (refine below_up_drewN ?_ _) | (refine Below.alloc ?_ (by simp) _) | (refine Below.setCell ?_ (by simp) _))⟩
          · rw [if_neg c4] at H
            have d4 : (Go.bits .and .u64 a0 2 == 2) = false := beq_eq_false_iff_ne.mpr c4
            have e4 : (Go.bits .and .u64 a0 2 != 2) = true := bne_iff_ne.mpr c4
            clear c4
            obtain ⟨rfl, rfl⟩ := Prod.mk.inj (Option.some.inj H)
            go_enter Try.func16, Try.ntmps16
            go_wp2_with (first | (go_at_call 32; refine (count8_calls _ _).mono ?_; rintro e w1 ⟨rfl, n, rfl⟩) | go_in)
            go_ret2
            exact ⟨rfl, by repeat (first | exact Below.refl _ _ | (refine Below.drew ?_) | (refine below_up_drewN ?_ _) | (refine Below.alloc ?_ (by simp) _) | (refine Below.setCell ?_ (by simp) _))⟩
      · rw [if_neg c2] at H
        have d2 : (Go.bits .and .u64 a0 1 == 1) = false := beq_eq_false_iff_ne.mpr c2
        have e2 : (Go.bits .and .u64 a0 1 != 1) = true := bne_iff_ne.mpr c2
        clear c2
        obtain ⟨rfl, rfl⟩ := Prod.mk.inj (Option.some.inj H)
        go_enter Try.func16, Try.ntmps16
        go_wp2_with (first | (go_at_call 32; refine (count8_calls _ _).mono ?_; rintro e w1 ⟨rfl, n, rfl⟩) | go_in)
        go_ret2
        exact ⟨rfl, by repeat (first | exact Below.refl _ _ | (refine Below.drew ?_) | (refine below_up_drewN ?_ _) | (refine Below.alloc ?_ (by simp) _) | (refine Below.setCell ?_ (by simp) _))⟩
    · rw [if_neg c1] at H
      have d1 : (Go.bits .and .u64 (a0 / 64) 3 == 0) = false := beq_eq_false_iff_ne.mpr c1
      have e1 : (Go.bits .and .u64 (a0 / 64) 3 != 0) = true := bne_iff_ne.mpr c1
      clear c1
      obtain ⟨rfl, rfl⟩ := Prod.mk.inj (Option.some.inj H)
      go_enter Try.func16, Try.ntmps16
      go_wp2_with (first | (go_at_call 32; refine (count8_calls _ _).mono ?_; rintro e w1 ⟨rfl, n, rfl⟩) | go_in)
      go_ret2
      exact ⟨rfl, by repeat (first | exact Below.refl _ _ | (refine Below.drew ?_) | (refine below_up_drewN ?_ _) | (refine Below.alloc ?_ (by simp) _) | (refine Below.setCell ?_ (by simp) _))⟩
  · rw [if_neg c0] at H
    have d0 : (a0 / 72057594037927936 == 0) = false := beq_eq_false_iff_ne.mpr c0
    have e0 : (a0 / 72057594037927936 != 0) = true := bne_iff_ne.mpr c0
    clear c0
    obtain ⟨rfl, rfl⟩ := Prod.mk.inj (Option.some.inj H)
    go_enter Try.func16, Try.ntmps16
    go_wp2_with (first | (go_at_call 32; refine (count8_calls _ _).mono ?_; rintro e w1 ⟨rfl, n, rfl⟩) | go_in)
    go_ret2
    exact ⟨rfl, by repeat (first | exact Below.refl _ _ | (refine Below.drew ?_) | (refine below_up_drewN ?_ _) | (refine Below.alloc ?_ (by simp) _) | (refine Below.setCell ?_ (by simp) _))⟩

/-! ### version_New: function 21 -/
def version_New.f (a0 : Bool) (a1 : Bool) : Option (Int) := if a0 = true then (if a1 = true then (some (Go.bits .or .u64 (Go.bits .or .u64 0 16) 32)) else (some (Go.bits .or .u64 0 16))) else (if a1 = true then (some (Go.bits .or .u64 0 32)) else (some 0))
set_option maxHeartbeats 8000000 in
set_option maxRecDepth 100000 in
theorem version_New.calls (a0 : Bool) (a1 : Bool) (r : Int) (w : World) (h : version_New.f a0 a1 = some r) :
    Calls Try.prog 21 #[.bool a0, .bool a1] w fun e w' => e = .returned (.int .u64 r) ∧ Drawn0 w w' := by
  have H : (if a0 = true then (if a1 = true then (some (Go.bits .or .u64 (Go.bits .or .u64 0 16) 32)) else (some (Go.bits .or .u64 0 16))) else (if a1 = true then (some (Go.bits .or .u64 0 32)) else (some 0))) = some r := h
  clear h
  by_cases c3 : a0 = true
  · subst c3
    have H1 : (if a1 = true then (some (Go.bits .or .u64 (Go.bits .or .u64 0 16) 32)) else (some (Go.bits .or .u64 0 16))) = some r := by rw [if_pos rfl] at H; exact H
    clear H
    have H := H1
    clear H1
    by_cases c4 : a1 = true
    · subst c4
      have H1 : (some (Go.bits .or .u64 (Go.bits .or .u64 0 16) 32)) = some r := by rw [if_pos rfl] at H; exact H
      clear H
      have H := H1
      clear H1
      obtain rfl := Option.some.inj H
      go_enter Try.func21, Try.ntmps21
      go_wp2
      go_ret
      exact ⟨by first | rfl | (simp; done) | (simp [*]; done), by repeat (first | exact Drawn0.refl _ | apply Drawn0.step)⟩
    · replace c4 := Bool.eq_false_iff.mpr c4
      subst c4
      have H1 : (some (Go.bits .or .u64 0 16)) = some r := by rw [if_neg (show ¬ (false = true) by decide)] at H; exact H
      clear H
      have H := H1
      clear H1
      obtain rfl := Option.some.inj H
      go_enter Try.func21, Try.ntmps21
      go_wp2
      go_ret
      exact ⟨by first | rfl | (simp; done) | (simp [*]; done), by repeat (first | exact Drawn0.refl _ | apply Drawn0.step)⟩
  · replace c3 := Bool.eq_false_iff.mpr c3
    subst c3
    have H1 : (if a1 = true then (some (Go.bits .or .u64 0 32)) else (some 0)) = some r := by rw [if_neg (show ¬ (false = true) by decide)] at H; exact H
    clear H
    have H := H1
    clear H1
    by_cases c5 : a1 = true
    · subst c5
      have H1 : (some (Go.bits .or .u64 0 32)) = some r := by rw [if_pos rfl] at H; exact H
      clear H
      have H := H1
      clear H1
      obtain rfl := Option.some.inj H
      go_enter Try.func21, Try.ntmps21
      go_wp2
      go_ret
      exact ⟨by first | rfl | (simp; done) | (simp [*]; done), by repeat (first | exact Drawn0.refl _ | apply Drawn0.step)⟩
    · replace c5 := Bool.eq_false_iff.mpr c5
      subst c5
      have H1 : (some 0) = some r := by rw [if_neg (show ¬ (false = true) by decide)] at H; exact H
      clear H
      have H := H1
      clear H1
      obtain rfl := Option.some.inj H
      go_enter Try.func21, Try.ntmps21
      go_wp2
      go_ret
      exact ⟨by first | rfl | (simp; done) | (simp [*]; done), by repeat (first | exact Drawn0.refl _ | apply Drawn0.step)⟩

/-! ### garnerlaw10_known: function 11 -/
theorem known_drewN {B : Nat} {a w : World} (h : Below B a w) (n : Nat) : Below B a (w.drewN n) := h.trans ⟨rfl, rfl, rfl, Nat.le_refl _, fun _ _ => rfl⟩
theorem known_step {w a b : World} {n : Nat} (hb : Below (a.drewN n).heap.size (a.drewN n) b) (h : Below w.heap.size w a) : Below w.heap.size w b :=
  (known_drewN h n).trans (hb.mono h.size)
def garnerlaw10_known.f : Option Bool := some true
set_option maxHeartbeats 8000000 in
set_option maxRecDepth 100000 in
theorem garnerlaw10_known.calls (r : Bool) (w : World) (h : garnerlaw10_known.f = some r) :
    Calls Try.prog 11 #[] w fun e w' => e = .returned (.bool r) ∧ Below w.heap.size w w' := by
  obtain rfl := Option.some.inj h
  have k1 : version_New.f true true = some 48 := by decide +kernel
  have k2 : version_Lock.f 48 = some (49, 0) := by decide +kernel
  have k3 : version_Unlock.f 49 = some (48, 0) := by decide +kernel
  have k4 : version_Unlock.f 51 = some (304, 0) := by decide +kernel
  have k5 : version_Unlock.f 53 = some (16777264, 0) := by decide +kernel
  have k6 : version_Lock.f 49 = some (0, 9) := by decide +kernel
  have k7 : version_Insert.f 48 = some (0, 9) := by decide +kernel
  have k8 : version_Unlock.f 48 = some (0, 9) := by decide +kernel
  have k9 : version_Lock.f 64 = some (0, 2) := by decide +kernel
  have l1 : version_Same.f 48 49 = some true := by decide +kernel
  have l2 : version_Moved.f 48 304 = some false := by decide +kernel
  have l3 : version_Moved.f 48 56 = some true := by decide +kernel
  have g0 : ∀ v, garnerlaw10_got.f v 0 = some v := fun v => rfl
  have g1 : ∀ v, garnerlaw10_got.f v 9 = some 9223372036854775817 := fun v => by unfold garnerlaw10_got.f; rw [if_neg (by decide)]; decide +kernel
  have g2 : ∀ v, garnerlaw10_got.f v 2 = some 9223372036854775810 := fun v => by unfold garnerlaw10_got.f; rw [if_neg (by decide)]; decide +kernel
  have N := Aside0.mk (And.intro k1 (And.intro k2 (And.intro k3 (And.intro k4 (And.intro k5 (And.intro k6 (And.intro k7 (And.intro k8 k9))))))))
  have M := Aside0.mk (And.intro l1 (And.intro l2 l3))
  have G := Aside0.mk (And.intro g0 (And.intro g1 g2))
  clear k1 k2 k3 k4 k5 k6 k7 k8 k9 l1 l2 l3 g0 g1 g2
  go_enter Try.func11, Try.ntmps11
  go_wp2_with (first
    | (go_at_call 21; refine (version_New.calls _ _ _ _ N.out.1).mono ?_; rintro e w1 ⟨rfl, ⟨n, rfl⟩⟩)
    | (go_at_call 13; (first | (with_reducible refine (version_Lock.calls 48 _ _ _ N.out.2.1).mono ?_) | (with_reducible refine (version_Lock.calls 49 _ _ _ N.out.2.2.2.2.2.1).mono ?_) | (with_reducible refine (version_Lock.calls 64 _ _ _ N.out.2.2.2.2.2.2.2.2).mono ?_)); rintro e w1 ⟨rfl, hb⟩)
    | (go_at_call 14; (with_reducible refine (version_Insert.calls _ _ _ _ N.out.2.2.2.2.2.2.1).mono ?_); rintro e w1 ⟨rfl, hb⟩)
    | (go_at_call 16; (first | (with_reducible refine (version_Unlock.calls 49 _ _ _ N.out.2.2.1).mono ?_) | (with_reducible refine (version_Unlock.calls 51 _ _ _ N.out.2.2.2.1).mono ?_) | (with_reducible refine (version_Unlock.calls 53 _ _ _ N.out.2.2.2.2.1).mono ?_) | (with_reducible refine (version_Unlock.calls 48 _ _ _ N.out.2.2.2.2.2.2.2.1).mono ?_)); rintro e w1 ⟨rfl, hb⟩)
    | (go_at_call 12; (first | (with_reducible refine (garnerlaw10_got.calls _ 0 _ _ (G.out.1 _)).mono ?_) | (with_reducible refine (garnerlaw10_got.calls _ 9 _ _ (G.out.2.1 _)).mono ?_) | (with_reducible refine (garnerlaw10_got.calls _ 2 _ _ (G.out.2.2 _)).mono ?_)); rintro e w1 ⟨rfl, ⟨n, rfl⟩⟩)
    | (go_at_call 9; refine (version_Same.calls _ _ _ _ M.out.1).mono ?_; rintro e w1 ⟨rfl, ⟨n, rfl⟩⟩)
    | (go_at_call 10; (first | (with_reducible refine (version_Moved.calls 48 304 _ _ M.out.2.1).mono ?_) | (with_reducible refine (version_Moved.calls 48 56 _ _ M.out.2.2).mono ?_)); rintro e w1 ⟨rfl, ⟨n, rfl⟩⟩))
  go_ret
  exact ⟨rfl, by refine known_drewN ?_ _; repeat (first | exact Below.refl _ _ | (refine known_step (by assumption) ?_))⟩

/-! ### version_Split: function 15 -/
def version_Split.f (a0 : Int) : Option (Int × Int) := if a0 / 72057594037927936 = 0 then (if Go.bits .and .u64 (a0 / 64) 3 = 0 then (if Go.bits .and .u64 a0 1 = 1 then (some (Go.bits .or .u64 a0 4, 0)) else (some (0, 9))) else some (0, 2)) else some (0, 2)
set_option maxHeartbeats 4000000 in
set_option maxRecDepth 100000 in
theorem version_Split.calls (a0 : Int) (r1 : Int) (r2 : Int) (w : World) (h : version_Split.f a0 = some (r1, r2)) :
    Calls Try.prog 15 #[.int .u64 a0] w fun e w' => e = .returned (.tuple #[.int .u64 r1, .int .i64 r2]) ∧ Below w.heap.size w w' := by
  have H : (if a0 / 72057594037927936 = 0 then (if Go.bits .and .u64 (a0 / 64) 3 = 0 then (if Go.bits .and .u64 a0 1 = 1 then (some (Go.bits .or .u64 a0 4, 0)) else (some (0, 9))) else some (0, 2)) else some (0, 2)) = some (r1, r2) := h
  clear h
  by_cases c1 : a0 / 72057594037927936 = 0
  · rw [if_pos c1] at H
    have c1b : (a0 / 72057594037927936 == 0) = true := beq_iff_eq.mpr c1
    clear c1
    by_cases c2 : Go.bits .and .u64 (a0 / 64) 3 = 0
    · rw [if_pos c2] at H
      have c2b : (Go.bits .and .u64 (a0 / 64) 3 == 0) = true := beq_iff_eq.mpr c2
      clear c2
      by_cases c3 : Go.bits .and .u64 a0 1 = 1
      · rw [if_pos c3] at H
        have c3b : (Go.bits .and .u64 a0 1 == 1) = true := beq_iff_eq.mpr c3
        have c3c : (Go.bits .and .u64 a0 1 != 1) = false := bne_eq_false_iff_eq.mpr c3
        clear c3
        obtain ⟨rfl, rfl⟩ := Prod.mk.inj (Option.some.inj H)
        go_enter Try.func15, Try.ntmps15
        go_wp2
        go_ret2
        exact ⟨rfl, by repeat (first | exact Below.refl _ _ | (refine Below.drew ?_) | (refine Below.alloc ?_ (by simp) _) | (refine Below.setCell ?_ (by simp) _))⟩
      · rw [if_neg c3] at H
        have c3b : (Go.bits .and .u64 a0 1 == 1) = false := beq_eq_false_iff_ne.mpr c3
        have c3c : (Go.bits .and .u64 a0 1 != 1) = true := bne_iff_ne.mpr c3
        clear c3
        obtain ⟨rfl, rfl⟩ := Prod.mk.inj (Option.some.inj H)
        go_enter Try.func15, Try.ntmps15
        go_wp2
        go_ret2
        exact ⟨rfl, by repeat (first | exact Below.refl _ _ | (refine Below.drew ?_) | (refine Below.alloc ?_ (by simp) _) | (refine Below.setCell ?_ (by simp) _))⟩
    · rw [if_neg c2] at H
      have c2b : (Go.bits .and .u64 (a0 / 64) 3 == 0) = false := beq_eq_false_iff_ne.mpr c2
      clear c2
      obtain ⟨rfl, rfl⟩ := Prod.mk.inj (Option.some.inj H)
      go_enter Try.func15, Try.ntmps15
      go_wp2
      go_ret2
      exact ⟨rfl, by repeat (first | exact Below.refl _ _ | (refine Below.drew ?_) | (refine Below.alloc ?_ (by simp) _) | (refine Below.setCell ?_ (by simp) _))⟩
  · rw [if_neg c1] at H
    have c1b : (a0 / 72057594037927936 == 0) = false := beq_eq_false_iff_ne.mpr c1
    clear c1
    obtain ⟨rfl, rfl⟩ := Prod.mk.inj (Option.some.inj H)
    go_enter Try.func15, Try.ntmps15
    go_wp2
    go_ret2
    exact ⟨rfl, by repeat (first | exact Below.refl _ _ | (refine Below.drew ?_) | (refine Below.alloc ?_ (by simp) _) | (refine Below.setCell ?_ (by simp) _))⟩

/-! ### version_Inserts: function 19 -/
def version_Inserts.f (a0 : Int) : Option (Int) := some (wrap64 (Go.bits .and .u64 (a0 / 256) 65535))
set_option maxHeartbeats 8000000 in
set_option maxRecDepth 100000 in
theorem version_Inserts.calls (a0 : Int) (r : Int) (w : World) (h : version_Inserts.f a0 = some r) :
    Calls Try.prog 19 #[.int .u64 a0] w fun e w' => e = .returned (.int .i64 r) ∧ Drawn0 w w' := by
  have H : (some (wrap64 (Go.bits .and .u64 (a0 / 256) 65535))) = some r := h
  clear h
  obtain rfl := Option.some.inj H
  go_enter Try.func19, Try.ntmps19
  go_wp2
  go_ret
  exact ⟨by first | rfl | (simp; done) | (simp [*]; done), by repeat (first | exact Drawn0.refl _ | apply Drawn0.step)⟩

/-! ### version_Still: function 23 -/
def version_Still.f (a0 : Int) : Option (Bool) := some ((Go.bits .and .u64 a0 6) == 0)
set_option maxHeartbeats 8000000 in
set_option maxRecDepth 100000 in
theorem version_Still.calls (a0 : Int) (r : Bool) (w : World) (h : version_Still.f a0 = some r) :
    Calls Try.prog 23 #[.int .u64 a0] w fun e w' => e = .returned (.bool r) ∧ Drawn0 w w' := by
  have H : (some ((Go.bits .and .u64 a0 6) == 0)) = some r := h
  clear h
  obtain rfl := Option.some.inj H
  go_enter Try.func23, Try.ntmps23
  go_wp2
  go_ret
  exact ⟨by first | rfl | (simp; done) | (simp [*]; done), by repeat (first | exact Drawn0.refl _ | apply Drawn0.step)⟩

/-! ### version_Root: function 25 -/
def version_Root.f (a0 : Int) (a1 : Bool) : Option (Int) := if a1 = true then (some (Go.bits .or .u64 a0 16)) else (some (Go.bits .andNot .u64 a0 16))
set_option maxHeartbeats 8000000 in
set_option maxRecDepth 100000 in
theorem version_Root.calls (a0 : Int) (a1 : Bool) (r : Int) (w : World) (h : version_Root.f a0 a1 = some r) :
    Calls Try.prog 25 #[.int .u64 a0, .bool a1] w fun e w' => e = .returned (.int .u64 r) ∧ Drawn0 w w' := by
  have H : (if a1 = true then (some (Go.bits .or .u64 a0 16)) else (some (Go.bits .andNot .u64 a0 16))) = some r := h
  clear h
  by_cases c3 : a1 = true
  · subst c3
    have H1 : (some (Go.bits .or .u64 a0 16)) = some r := by rw [if_pos rfl] at H; exact H
    clear H
    have H := H1
    clear H1
    obtain rfl := Option.some.inj H
    go_enter Try.func25, Try.ntmps25
    go_wp2
    go_ret
    exact ⟨by first | rfl | (simp; done) | (simp [*]; done), by repeat (first | exact Drawn0.refl _ | apply Drawn0.step)⟩
  · replace c3 := Bool.eq_false_iff.mpr c3
    subst c3
    have H1 : (some (Go.bits .andNot .u64 a0 16)) = some r := by rw [if_neg (show ¬ (false = true) by decide)] at H; exact H
    clear H
    have H := H1
    clear H1
    obtain rfl := Option.some.inj H
    go_enter Try.func25, Try.ntmps25
    go_wp2
    go_ret
    exact ⟨by first | rfl | (simp; done) | (simp [*]; done), by repeat (first | exact Drawn0.refl _ | apply Drawn0.step)⟩

/-! ### version_Gone: function 26 -/
def version_Gone.f (a0 : Int) : Option (Int) := some (Go.bits .or .u64 a0 8)
set_option maxHeartbeats 8000000 in
set_option maxRecDepth 100000 in
theorem version_Gone.calls (a0 : Int) (r : Int) (w : World) (h : version_Gone.f a0 = some r) :
    Calls Try.prog 26 #[.int .u64 a0] w fun e w' => e = .returned (.int .u64 r) ∧ Drawn0 w w' := by
  have H : (some (Go.bits .or .u64 a0 8)) = some r := h
  clear h
  obtain rfl := Option.some.inj H
  go_enter Try.func26, Try.ntmps26
  go_wp2
  go_ret
  exact ⟨by first | rfl | (simp; done) | (simp [*]; done), by repeat (first | exact Drawn0.refl _ | apply Drawn0.step)⟩

end Go.Proofs.Ythkdeaeppadbhaa.HVersionRound
