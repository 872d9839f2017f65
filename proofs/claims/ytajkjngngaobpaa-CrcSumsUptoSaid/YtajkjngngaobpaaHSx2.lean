/- Written for this claim by a program of this session (hp.py): Go functions as plain functions, each with the proof that its call comes to it. -/
import Derived.Test.YtajkjngngaobpaaHSx0
import Derived.Test.YtajkjngngaobpaaHSx1
namespace Go.Proofs.Ytajkjngngaobpaa.HS
open Go.RowKit Go.Proofs.YtajkjngngaobpaaW.PrintWords Go.Proofs.YtajkjngngaobpaaW.PrintLast Go.Proofs.YtajkjngngaobpaaW.PrintMore
attribute [local go_sem] max2_int min2_int max_two min_two max_three min_three max_four min_four   -- for this text's walks alone
set_option linter.unusedVariables false
set_option linter.unusedSimpArgs false

/-! ### garnerref02_More: function 11 -/
def garnerref02_More.l0 : Nat → List Int → Int → Int → Option (Int)
  | 0, _, _, _ => none
  | k + 1, x1, x5, x6 => if x6 < (x1.length : Int) then (if 0 ≤ x6 then ((garnerref02_step.f k (Go.bits .xor .u32 x5 ((rd x1 x6) % 4294967296))).bind fun t109 => (garnerref02_More.l0 k x1 t109 (wrap64 (x6 + 1)))) else (none)) else (some (Go.bits .xor .u32 x5 4294967295))
def garnerref02_More.f (k : Nat) (a0 : Int) (l1 : List Int) : Option (Int) := garnerref02_More.l0 k l1 (Go.bits .xor .u32 a0 4294967295) 0
theorem garnerref02_More.mono_l : ∀ k, (∀ y0 y1 y2, LeO (garnerref02_More.l0 k y0 y1 y2) (garnerref02_More.l0 (k + 1) y0 y1 y2))
  | 0 => fun _ _ _ r h => by simp [garnerref02_More.l0] at h
  | k + 1 => by
    have ih0 := garnerref02_More.mono_l k
    · intro y0 y1 y2
      unfold garnerref02_More.l0
      repeat' first
      | (with_reducible exact ih0 _ _ _)
      | (with_reducible exact garnerref02_step.mono _ _)
      | (with_reducible exact LeO.refl _)
      | (with_reducible exact LeO.none _)
      | (with_reducible refine LeO.ite ?_ ?_)
      | (with_reducible refine LeO.bind ?_ (fun _ => ?_))
      | exact ih0 _ _ _
      | exact garnerref02_step.mono _ _
      | exact LeO.none _
      | refine LeO.ite ?_ ?_
      | refine LeO.bind ?_ (fun _ => ?_)
theorem garnerref02_More.mono : ∀ a0 a1 k, LeO (garnerref02_More.f k a0 a1) (garnerref02_More.f (k + 1) a0 a1) := by
  intro a0 a1 k
  have ih0 := garnerref02_More.mono_l k
  unfold garnerref02_More.f
  repeat' first
      | (with_reducible exact ih0 _ _ _)
      | (with_reducible exact garnerref02_step.mono _ _)
      | (with_reducible exact LeO.refl _)
      | (with_reducible exact LeO.none _)
      | (with_reducible refine LeO.ite ?_ ?_)
      | (with_reducible refine LeO.bind ?_ (fun _ => ?_))
      | exact ih0 _ _ _
      | exact garnerref02_step.mono _ _
      | exact LeO.none _
      | refine LeO.ite ?_ ?_
      | refine LeO.bind ?_ (fun _ => ?_)
set_option maxHeartbeats 8000000 in
set_option maxRecDepth 100000 in
theorem garnerref02_More.calls (k : Nat) (a0 : Int) (A1 : Option Addr) (c1 : Nat) (l1 : List Int) (r : Int) (w : World) (hr1 : Kd.C (Kd.int .u8) w A1 l1.length l1) (hc1 : l1.length ≤ c1) (h : garnerref02_More.f k a0 l1 = some r) :
    Calls Try.prog 11 #[.int .u32 a0, .slice A1 l1.length c1] w fun e w' => e = .returned (.int .u32 r) ∧ Drawn0 w w' := by
  have HR1 := Aside0.mk hr1
  have HC1 := Aside0.mk hc1
  clear hr1 hc1
  have H : (garnerref02_More.l0 k l1 (Go.bits .xor .u32 a0 4294967295) 0) = some r := h
  clear h
  have H' := Aside0.mk H
  clear H
  go_enter Try.func11, Try.ntmps11
  go_wp2
  go_loopg [5, 6] k (fun kq v5 v6 w' => ∃ (x5_1 : Int) (x6_1 : Int), v5 = .int .u32 x5_1 ∧ v6 = .int .i64 x6_1 ∧ Aside0 (garnerref02_More.l0 kq l1 x5_1 x6_1 = some r) ∧ Aside0 (kq ≤ k) ∧ Drawn0 w w')
  case atStart => exact ⟨(Go.bits .xor .u32 a0 4294967295), (0), (by first | rfl | (simp; done) | (simp [*]; done)), (by first | rfl | (simp; done) | (simp [*]; done)), H', ⟨Nat.le_refl _⟩, by repeat (first | exact Drawn0.refl _ | apply Drawn0.step)⟩
  case round =>
    clear H'
    try clear c1
    try clear p2
    obtain ⟨x5_1, x6_1, rfl, rfl, HA, HK1, ⟨m1, rfl⟩⟩ := hrel
    cases gk with
    | zero => exact absurd HA.out (by simp [garnerref02_More.l0])
    | succ k1 =>
      have H := HA.out
      clear HA
      simp only [garnerref02_More.l0] at H
      by_cases c3 : x6_1 < (l1.length : Int)
      · rw [if_pos c3] at H
        have c3b0 : decide (x6_1 < (l1.length : Int)) = true := decide_eq_true c3
        clear c3
        by_cases c4 : 0 ≤ x6_1
        · rw [if_pos c4] at H
          have c4b0 : decide (0 ≤ x6_1) = true := decide_eq_true c4
          clear c4
          replace H := Option.bind_eq_some_iff.mp H
          obtain ⟨t109, A50, H⟩ := H
          replace H : (garnerref02_More.l0 k1 l1 t109 (wrap64 (x6_1 + 1))) = some r := H
          have A5 := Aside0.mk A50
          clear A50
          have H' := Aside0.mk H
          clear H
          have p108 : 0 ≤ (x6_1 : Int) := of_decide_eq_true (by first | (with_reducible assumption) | assumption)
          have q108 : x6_1 < (l1.length : Int) := of_decide_eq_true (by first | (with_reducible assumption) | assumption)
          obtain ⟨ad108, e108, hx108_0⟩ := Kd.at_int HR1.out x6_1 p108 q108
          cases e108
          replace p108 := eq_true p108
          replace q108 := eq_true q108
          (try (have q108d := q108; simp only [List.length_drop, List.length_take] at q108d))
          go_wp2_with (first | ((with_reducible refine gate_callee (f := 18) rfl ?_); refine goesL_ (some 22) rfl rfl Try.func18 (by kernel_rfl) rfl #[.int .u32 (Go.bits .xor .u32 x5_1 ((rd l1 x6_1) % 4294967296))] rfl (by (try simp only [List.map_toArray, List.map_cons, List.map_nil]); first | done | rfl | (simp only [List.length_drop, List.length_take]; rfl)) ?_; (with_reducible refine (garnerref02_step.calls k1 (Go.bits .xor .u32 x5_1 ((rd l1 x6_1) % 4294967296)) t109 _ A5.out).mono ?_); rintro e w' ⟨rfl, ⟨nd, rfl⟩⟩; refine ⟨_, rfl, ?_⟩) | (go_at_call 18; (with_reducible refine (garnerref02_step.calls k1 (Go.bits .xor .u32 x5_1 ((rd l1 x6_1) % 4294967296)) t109 _ A5.out).mono ?_); rintro e w' ⟨rfl, ⟨nd, rfl⟩⟩))
          go_roundg k1
          case measure => have := HK1.out; omega
          case rel => exact ⟨(t109), (wrap64 (x6_1 + 1)), (by first | rfl | (simp; done) | (simp [*]; done)), (by first | rfl | (simp; done) | (simp [*]; done)), H', ⟨by have := HK1.out; omega⟩, by repeat (first | exact Drawn0.refl _ | apply Drawn0.step)⟩
        · rw [if_neg c4] at H
          exact absurd H (by simp)
      · rw [if_neg c3] at H
        have c3b0 : decide (x6_1 < (l1.length : Int)) = false := decide_eq_false c3
        clear c3
        obtain rfl := Option.some.inj H
        go_wp2
        go_ret
        exact ⟨by first | rfl | (simp; done) | (simp [*]; done), by repeat (first | exact Drawn0.refl _ | apply Drawn0.step)⟩

/-! ### garnerref02_Sum: function 9 -/
def garnerref02_Sum.f (k : Nat) (l0 : List Int) : Option (Int) := (garnerref02_More.f k 0 l0).bind fun t110 => (some t110)
theorem garnerref02_Sum.mono : ∀ a0 k, LeO (garnerref02_Sum.f k a0) (garnerref02_Sum.f (k + 1) a0) := by
  intro a0 k
  unfold garnerref02_Sum.f
  repeat' first
      | (with_reducible exact garnerref02_More.mono _ _ _)
      | (with_reducible exact LeO.refl _)
      | (with_reducible exact LeO.none _)
      | (with_reducible refine LeO.ite ?_ ?_)
      | (with_reducible refine LeO.bind ?_ (fun _ => ?_))
      | exact garnerref02_More.mono _ _ _
      | exact LeO.none _
      | refine LeO.ite ?_ ?_
      | refine LeO.bind ?_ (fun _ => ?_)
set_option maxHeartbeats 8000000 in
set_option maxRecDepth 100000 in
theorem garnerref02_Sum.calls (k : Nat) (A0 : Option Addr) (c0 : Nat) (l0 : List Int) (r : Int) (w : World) (hr0 : Kd.C (Kd.int .u8) w A0 l0.length l0) (hc0 : l0.length ≤ c0) (h : garnerref02_Sum.f k l0 = some r) :
    Calls Try.prog 9 #[.slice A0 l0.length c0] w fun e w' => e = .returned (.int .u32 r) ∧ Drawn0 w w' := by
  have HR0 := Aside0.mk hr0
  have HC0 := Aside0.mk hc0
  clear hr0 hc0
  have H : ((garnerref02_More.f k 0 l0).bind fun t110 => (some t110)) = some r := h
  clear h
  replace H := Option.bind_eq_some_iff.mp H
  obtain ⟨t110, A20, H⟩ := H
  replace H : (some t110) = some r := H
  have A2 := Aside0.mk A20
  clear A20
  obtain rfl := Option.some.inj H
  go_enter Try.func9, Try.ntmps9
  go_wp2_with (first | ((with_reducible refine gate_callee (f := 11) rfl ?_); refine goesL_ (some 4) rfl rfl Try.func11 (by kernel_rfl) rfl #[.int .u32 0, .slice A0 l0.length c0] rfl (by (try simp only [List.map_toArray, List.map_cons, List.map_nil]); first | done | rfl | (simp only [List.length_drop, List.length_take]; rfl)) ?_; (with_reducible refine (garnerref02_More.calls k 0 _ _ l0 t110 _ ?side1 ?side2 A2.out).mono ?_); (case side1 => repeat (first | exact HR0.out | (with_reducible refine Kd.C_alloc ?_ _) | (with_reducible refine Kd.C_drewN ?_ _) | (with_reducible refine Kd.C_drew ?_))); (case side2 => exact HC0.out); rintro e w' ⟨rfl, ⟨nd, rfl⟩⟩; refine ⟨_, rfl, ?_⟩))
  go_ret
  exact ⟨by first | rfl | (simp; done) | (simp [*]; done), by repeat (first | exact Drawn0.refl _ | apply Drawn0.step)⟩

-- NOT PRINTED: function 19 (garnerref02_through)

/-! ### garnerref02_Far: function 13 -/
/-- The document's word by a row, of the first i bits. -/
def thN (xs : List Int) (x : Int) : Nat → Int
  | 0 => 0
  | i + 1 => if (x / 2 ^ i).tmod 2 = 1 then Go.bits .xor .u32 (thN xs x i) (xs[i]?.getD 0) else thN xs x i
noncomputable def thV (xs : List Int) (x : Int) : Int := Classical.choose (⟨thN xs x 32, rfl⟩ : ∃ v, v = thN xs x 32)
theorem thV_eq (xs : List Int) (x : Int) : thV xs x = thN xs x 32 := Classical.choose_spec (⟨thN xs x 32, rfl⟩ : ∃ v, v = thN xs x 32)
set_option maxHeartbeats 4000000 in
set_option maxRecDepth 100000 in
theorem garnerref02_through.walk (xs : List Int) (hx : xs.length = 32) (x : Int) (w : World) : Calls Try.prog 19 #[.agg (Arr.vs xs), .int .u32 x] w fun e w' => e = .returned (.int .u32 (thV xs x)) ∧ Below w.heap.size w w' := by
  rw [thV_eq]
  go_enter Try.func19, Try.ntmps19
  go_wp2
  have bx := Arr.Box.new w 40 xs
  have hB := (Below.refl _ w).alloc (Nat.le_refl _) (.cells (Arr.vs xs) 40)
  generalize w.alloc (.cells (Arr.vs xs) 40) = W0 at bx hB ⊢
  obtain ⟨g, hg⟩ : ∃ g, w.heap.size = g := ⟨_, rfl⟩
  rw [hg] at bx ⊢
  have hx' := Aside0.mk hx
  clear hg hx
  go_loopw [5, 6] (fun s v w' => ∃ i : Nat, i ≤ 32 ∧ v = .int .i64 i ∧ s = .int .u32 (thN xs x i) ∧ Arr.Box w' g 40 xs ∧ Aside0 (Below w.heap.size w w')) (fun _ v _ => 32 - (intOf v).toNat)
  case atStart => exact ⟨0, by omega, rfl, rfl, bx, ⟨hB⟩⟩
  case round =>
    obtain ⟨i, hi, rfl, rfl, b1, hB'⟩ := hrel
    clear bx hB
    by_cases hlt : i < 32
    · have hc := b1.cell i (by rw [hx'.out]; exact hlt)
      have hf := b1.frozen i
      by_cases hb : (x / 2 ^ i).tmod 2 = 1
      · have hbb : ((x / 2 ^ i).tmod 2 == 1) = true := beq_iff_eq.mpr hb
        go_wp2
        exact ⟨⟨i + 1, by omega, by simp, by show _ = Value.int _ (if (x / 2 ^ i).tmod 2 = 1 then _ else _); rw [if_pos hb], b1, hB'⟩, by simp [intOf]; omega⟩
      · have hbb : ((x / 2 ^ i).tmod 2 == 1) = false := beq_eq_false_iff_ne.mpr hb
        go_wp2
        exact ⟨⟨i + 1, by omega, by simp, by show _ = Value.int _ (if (x / 2 ^ i).tmod 2 = 1 then _ else _); rw [if_neg hb], b1, hB'⟩, by simp [intOf]; omega⟩
    · obtain rfl : i = 32 := by omega
      clear hlt hi
      go_wp2
      go_ret
      exact ⟨rfl, hB'.out⟩
theorem step_total (d : Nat) : ∀ (j : Nat) (s : Int), j + d = 8 → ∃ v, ∀ k, d < k → garnerref02_step.l0 k s (j : Int) = some v := by
  induction d with
  | zero =>
    intro j s hj
    refine ⟨s, fun k hk => ?_⟩
    obtain ⟨k, rfl⟩ : ∃ m, k = m + 1 := ⟨k - 1, by omega⟩
    rw [garnerref02_step.l0, if_neg (by omega)]
  | succ d ih =>
    intro j s hj
    have e1 : wrap64 ((j : Int) + 1) = ((j + 1 : Nat) : Int) := by unfold wrap64; omega
    by_cases h : Int.tmod s 2 = 1
    · obtain ⟨v, hv⟩ := ih (j + 1) (Go.bits .xor .u32 ((Int.tdiv s 2) % 4294967296) 2197175160) (by omega)
      refine ⟨v, fun k hk => ?_⟩
      obtain ⟨k, rfl⟩ : ∃ m, k = m + 1 := ⟨k - 1, by omega⟩
      rw [garnerref02_step.l0, if_pos (by omega), if_pos h, e1]
      exact hv k (by omega)
    · obtain ⟨v, hv⟩ := ih (j + 1) ((Int.tdiv s 2) % 4294967296) (by omega)
      refine ⟨v, fun k hk => ?_⟩
      obtain ⟨k, rfl⟩ : ∃ m, k = m + 1 := ⟨k - 1, by omega⟩
      rw [garnerref02_step.l0, if_pos (by omega), if_neg h, e1]
      exact hv k (by omega)
/-- The document's step of eight bits. -/
noncomputable def stepV (s : Int) : Int := Classical.choose (step_total 8 0 s rfl)
theorem stepV_eq (s : Int) (k : Nat) (hk : 8 < k) : garnerref02_step.f k s = some (stepV s) := Classical.choose_spec (step_total 8 0 s rfl) k hk
noncomputable def thS (xs : List Int) (n : Nat) : List Int := (List.range 32).map fun i : Nat => if i < n then thV xs (xs.getD i 0) else 0
theorem thS_len (xs : List Int) (n : Nat) : (thS xs n).length = 32 := by simp [thS]
theorem thS_set (xs : List Int) (n : Nat) (hn : n < 32) : (thS xs n).set n (thV xs (xs.getD n 0)) = thS xs (n + 1) := by
  apply List.ext_getElem?
  intro j
  simp only [thS, List.getElem?_set, List.length_map, List.length_range, List.getElem?_map]
  by_cases h : n = j
  · subst h
    simp [hn]
  · by_cases hj : j < 32
    · simp only [h, if_false, List.getElem?_range hj, Option.map_some]
      by_cases h2 : j < n
      · rw [if_pos h2, if_pos (by omega)]
      · rw [if_neg h2, if_neg (by omega)]
    · simp only [h, if_false]
      rw [List.getElem?_eq_none (by simp; omega)]
      rfl
theorem thS_zero (xs : List Int) : thS xs 0 = List.replicate 32 0 := by
  simp only [thS, Nat.not_lt_zero, if_false]
  rfl
noncomputable def r0S (n : Nat) : List Int := (List.range 32).map fun i : Nat => if i < n then stepV (2 ^ i % 4294967296) else 0
theorem r0S_len (n : Nat) : (r0S n).length = 32 := by simp [r0S]
theorem r0S_set (n : Nat) (hn : n < 32) : (r0S n).set n (stepV (2 ^ n % 4294967296)) = r0S (n + 1) := by
  apply List.ext_getElem?
  intro j
  simp only [r0S, List.getElem?_set, List.length_map, List.length_range, List.getElem?_map]
  by_cases h : n = j
  · subst h
    simp [hn]
  · by_cases hj : j < 32
    · simp only [h, if_false, List.getElem?_range hj, Option.map_some]
      by_cases h2 : j < n
      · rw [if_pos h2, if_pos (by omega)]
      · rw [if_neg h2, if_neg (by omega)]
    · simp only [h, if_false]
      rw [List.getElem?_eq_none (by simp; omega)]
      rfl
theorem r0S_zero : r0S 0 = List.replicate 32 0 := by
  simp only [r0S, Nat.not_lt_zero, if_false]
  rfl
noncomputable def FarN : Nat → List Int → Int → Nat → Int
  | 0, _, s, _ => s
  | k + 1, m, s, n => if 0 < n then FarN k (thS m 32) (if n % 2 = 1 then thV m s else s) (n / 2) else s
noncomputable def garnerref02_Far.f (a0 : Int) (a1 : Int) : Option Int := if a1 < 9223372036854775808 then some (FarN 64 (r0S 32) a0 a1.toNat) else none
def garnerref02_Far.T14 : Bool × List (List Nat × List Nat) := (true, [([], []), ([], []), ([], []), ([2], [2]), ([3], [3]), ([1, 4], [1, 4]), ([0, 0, 1, 2, 3, 4, 5], [0]), ([6, 5, 5, 0, 1, 2, 3, 4, 5], [5, 6])])
def garnerref02_Far.B14 : List Nat := [0, 0, 0, 4, 12, 30, 63, 127]
theorem garnerref02_Far.tab14 : rtab .any (opsOf Try.f13 14) = garnerref02_Far.T14 := by kernel_rfl
theorem garnerref02_Far.bits14 : waitsOk garnerref02_Far.T14.2 garnerref02_Far.B14 = true := by kernel_rfl
set_option maxHeartbeats 8000000 in
set_option maxRecDepth 100000 in
theorem garnerref02_Far.calls (a0 : Int) (a1 : Int) (r : Int) (w : World) (h : garnerref02_Far.f a0 a1 = some r) :
    Calls Try.prog 13 #[.int .u32 a0, .int .i64 a1] w fun e w' => e = .returned (.int .u32 r) ∧ Below w.heap.size w w' := by
  unfold garnerref02_Far.f at h
  by_cases hw : a1 < 9223372036854775808
  rotate_left
  · rw [if_neg hw] at h
    cases h
  rw [if_pos hw] at h
  obtain rfl := Option.some.inj h
  clear h
  have hw' := Aside0.mk hw
  clear hw
  go_enter Try.func13, Try.ntmps13
  go_wp2_with (first | ((with_reducible refine gate_dst (N := 5) rfl ?_); refine box_event ?hg (N := 5) ?hd (cs := Arr.vs (List.replicate 32 0)) (t := 40) ?hr ?_; (case hd => rfl); (case hg => rfl); (case hr => first | (go_simp; done) | (go_simp; rfl)); intro g hg w1 hbox hb; have HG := Aside0.mk hg; clear hg; have HX := Aside0.mk hbox; clear hbox; have HB := Aside0.mk hb; clear hb))
  have b : Arr.Box w1 g 40 (r0S 0) := by rw [r0S_zero]; exact HX.out
  have hB : Below w.heap.size w w1 := HB.out
  have G := Aside0.mk (show w.heap.size ≤ g by have := HG.out; omega)
  clear HX HB HG
  go_loopw [6] (fun v w' => ∃ i : Nat, i ≤ 32 ∧ v = .int .i64 i ∧ Aside0 (Arr.Box w' g 40 (r0S i)) ∧ Aside0 (Below w.heap.size w w')) (fun v _ => 32 - (intOf v).toNat)
  case atStart => exact ⟨0, by omega, rfl, ⟨b⟩, ⟨hB⟩⟩
  case round =>
    obtain ⟨i, hi, rfl, c, hB'⟩ := hrel
    clear b hB
    by_cases hlt : i < 32
    · go_upto_region 5 with (fail)
      go_wp2_with (first | (go_at_call 18; refine (garnerref02_step.calls 9 (2 ^ i % 4294967296) (stepV (2 ^ i % 4294967296)) _ (stepV_eq _ 9 (by decide))).mono ?_; rintro e w2 ⟨rfl, ⟨nd, rfl⟩⟩; have e1 := Aside0.mk (c.out.drewN nd); have eB := Aside0.mk (pw_below_drewN hB'.out nd); clear c hB'; have hs := e1.out.cell i (by rw [r0S_len]; exact hlt); have hf := e1.out.frozen i))
      exact ⟨⟨i + 1, by omega, by simp, ⟨by rw [← r0S_set i hlt]; exact e1.out.set i _⟩, ⟨below_set eB.out G.out⟩⟩, by simp [intOf]; omega⟩
    · obtain rfl : i = 32 := by omega
      clear hlt hi
      go_wp2
      go_loopw [0, 1] (fun v0 v1 w' => ∃ (k : Nat) (m : List Int) (s z : Int), v0 = .int .u32 s ∧ v1 = .int .i64 z ∧ Aside0 (Arr.Box w' g 40 m) ∧ Aside0 (m.length = 32) ∧ Aside0 (z < 2 ^ k ∧ z < 9223372036854775808) ∧ Aside0 (FarN k m s z.toNat = FarN 64 (r0S 32) a0 a1.toNat) ∧ Aside0 (Below w.heap.size w w')) (fun _ v _ => (intOf v).toNat)
      case atStart => exact ⟨64, r0S 32, a0, a1, rfl, rfl, c, ⟨r0S_len 32⟩, ⟨by have := hw'.out; omega, hw'.out⟩, ⟨rfl⟩, hB'⟩
      case round =>
        obtain ⟨k, m, s, z, rfl, rfl, cb, hm, hz, hf, cB⟩ := hrel
        clear c hB'
        by_cases hp : 0 < z
        · have hk : 0 < k := by
            rcases Nat.eq_zero_or_pos k with rfl | h
            · have := hz.out.1; simp at this; omega
            · exact h
          obtain ⟨k, rfl⟩ : ∃ k', k = k' + 1 := ⟨k - 1, by omega⟩
          have hpz := Aside0.mk hp
          have ht : z.tmod 2 = z % 2 := Int.tmod_eq_emod_of_nonneg (by omega)
          have hq : z.tdiv 2 = z / 2 := Int.tdiv_eq_ediv_of_nonneg (by omega)
          have hwz : wrap64 (z / 2) = z / 2 := by have := hz.out.2; unfold wrap64; omega
          have hd : decide (z > 0) = true := decide_eq_true hp
          have hst : FarN k (thS m 32) (if z % 2 = 1 then thV m s else s) (z / 2).toNat = FarN 64 (r0S 32) a0 a1.toNat := by
            have key : FarN (k + 1) m s z.toNat = FarN k (thS m 32) (if z.toNat % 2 = 1 then thV m s else s) (z.toNat / 2) := by
              rw [FarN, if_pos (by omega)]
            rw [← hf.out, key, show (z / 2).toNat = z.toNat / 2 by omega]
            by_cases h1 : z % 2 = 1
            · have h2 : z.toNat % 2 = 1 := by omega
              simp only [h1, h2, if_true]
            · have h2 : ¬ z.toNat % 2 = 1 := by omega
              simp only [h1, h2, if_false]
          have hst' := Aside0.mk hst
          clear hf hst hk
          by_cases hb : z % 2 = 1
          · have hbb : (z % 2 == 1) = true := beq_iff_eq.mpr hb
            have hst1 := Aside0.mk (show FarN k (thS m 32) (thV m s) (z / 2).toNat = FarN 64 (r0S 32) a0 a1.toNat by have h := hst'.out; rwa [if_pos hb] at h)
            clear hp hst'
            go_wp2_with (first | ((with_reducible refine gate_dst (N := 25) rfl ?_); refine Kd.event_run rfl (Arr.Box.load cb.out (x := .tmp 5) ?_ ?_ Arr.agg40 ?_) ?_; rfl; (rw [hm.out]; exact Arr.info40); rfl) | (go_at_call 19; refine (garnerref02_through.walk m hm.out s _).mono ?_; rintro e w1_ ⟨rfl, hb1⟩; have n0 := Aside0.mk (cb.out.below hb1); have n1 := Aside0.mk (below_step cB.out hb1); clear cb cB hb1; have cb := n0; have cB := n1; clear n0 n1) | ((with_reducible refine gate_dst (N := 7) rfl ?_); refine box_event ?hg (N := 7) ?hd (cs := Arr.vs (List.replicate 32 0)) (t := 40) ?hr ?_; (case hd => rfl); (case hg => rfl); (case hr => first | (go_simp; done) | (go_simp; rfl)); intro g7 hg w7 hbox hb7; have HG7 := Aside0.mk hg; clear hg; have q7 := Aside0.mk hbox; clear hbox; have n0 := Aside0.mk (cb.out.below hb7); have n1 := Aside0.mk (below_step cB.out hb7); have N7 := Aside0.mk (show g ≠ g7 by have := Arr.Box.lt cb.out; have := HG7.out; omega); have G7 := Aside0.mk (show w.heap.size ≤ g7 by have := cB.out.size; have := HG7.out; omega); clear cb cB hb7 HG7; have cb := n0; have cB := n1; clear n0 n1))
            have q0 : Arr.Box w7 g7 40 (thS m 0) := by rw [thS_zero]; exact q7.out
            go_loopw [8] (fun v w' => ∃ i : Nat, i ≤ 32 ∧ v = .int .i64 i ∧ Aside0 (Arr.Box w' g 40 m) ∧ Aside0 (Arr.Box w' g7 40 (thS m i)) ∧ Aside0 (Below w.heap.size w w')) (fun v _ => 32 - (intOf v).toNat)
            case atStart => exact ⟨0, by omega, rfl, cb, ⟨q0⟩, cB⟩
            case round =>
              obtain ⟨i, hi, rfl, c1, c3, hB3⟩ := hrel
              clear q0 cb cB q7
              by_cases hlt : i < 32
              · go_upto_region 14 with (fail)
                refine start_ (n := 8) (S := fun w' => Arr.Box w' g 40 m) (ds := [7]) #[false, false, false, false, false, false, false, false] (by kernel_rfl) rfl rfl c1.out.drew (fun hHeld => ?_)
                refine with_tabW garnerref02_Far.tab14 garnerref02_Far.bits14 (fun HT_ HW_ => ?_)
                have d1 := Aside0.mk c1.out.drew
                have d3 := Aside0.mk c3.out.drew
                have dB := Aside0.mk (below_drew1 hB3.out)
                clear c1 c3 hB3
                generalize wr.drew = w5 at d1 d3 dB hHeld ⊢
                refine pure_ (i := 0) (N := some 32) (v := ?_) (a' := ?_) #[true, false, false, false, false, false, false, false] rfl rfl (any_of HT_.out (by kernel_rfl)) (fun _ _ _ h => h) (Or.inl ⟨by rfl, ?_⟩) ?_ ?_
                rotate_left
                · intro w'
                  go_simp
                  with_reducible rfl
                rotate_left
                · simp only [Act.put, List.setIfInBounds_toArray, List.set_cons_zero, List.set_cons_succ, i64_w, i32_w]
                  rfl
                refine take_ (i := 1) (N := some 33) (v := ?_) (a' := ?_) #[true, true, false, false, false, false, false, false] rfl rfl (take_ofW HT_.out HW_.out (by kernel_rfl)) (fun _ _ _ h => h) (Or.inl ⟨by rfl, ?_⟩) hHeld ?_ ?_
                rotate_left
                · intro w' hS
                  refine Arr.Box.load hS (x := .tmp 5) ?_ (by rw [hm.out]; exact Arr.info40) Arr.agg40 ?_ <;> rfl
                rotate_left
                · simp only [Act.put, List.setIfInBounds_toArray, List.set_cons_zero, List.set_cons_succ, i64_w, i32_w]
                  rfl
                refine pure_ (i := 2) (N := some 34) (v := ?_) (a' := ?_) #[true, true, true, false, false, false, false, false] rfl rfl (any_of HT_.out (by kernel_rfl)) (fun _ _ _ h => h) (Or.inl ⟨by rfl, ?_⟩) ?_ ?_
                rotate_left
                · intro w'
                  go_simp
                  with_reducible rfl
                rotate_left
                · simp only [Act.put, List.setIfInBounds_toArray, List.set_cons_zero, List.set_cons_succ, i64_w, i32_w]
                  rfl
                refine pure_ (i := 3) (N := some 35) (v := ?_) (a' := ?_) #[true, true, true, true, false, false, false, false] rfl rfl (any_of HT_.out (by kernel_rfl)) (fun _ _ _ h => h) (Or.inl ⟨by rfl, ?_⟩) ?_ ?_
                rotate_left
                · intro w'
                  go_simp
                  with_reducible rfl
                rotate_left
                · simp only [Act.put, List.setIfInBounds_toArray, List.set_cons_zero, List.set_cons_succ, i64_w, i32_w]
                  rfl
                refine take_ (i := 4) (N := some 36) (v := ?_) (a' := ?_) #[true, true, true, true, true, false, false, false] rfl rfl (take_ofW HT_.out HW_.out (by kernel_rfl)) (fun _ _ _ h => h) (Or.inl ⟨by rfl, ?_⟩) hHeld ?_ ?_
                rotate_left
                · intro w' hS
                  have hc := Arr.Box.cell hS i (by rw [hm.out]; exact hlt)
                  clear hS
                  go_simp
                  with_reducible rfl
                rotate_left
                · simp only [Act.put, List.setIfInBounds_toArray, List.set_cons_zero, List.set_cons_succ, i64_w, i32_w]
                  rfl
                refine one_ (i := 5) (N := some 37) #[true, true, true, true, true, true, false, false] rfl rfl (one_of HT_.out (by kernel_rfl)) (by decide) (fun K hK => ?_)
                refine goes_ Try.func19 (by kernel_rfl) rfl #[.agg (Arr.vs m), .int .u32 (m[i]?.getD 0)] (by rfl) rfl rfl (by (try simp only [List.map_toArray, List.map_cons, List.map_nil]); first | done | rfl) ?_
                with_reducible refine (garnerref02_through.walk m hm.out (m[i]?.getD 0) _).mono ?_
                rintro e w6 ⟨rfl, hb⟩
                refine ⟨_, rfl, ?_⟩
                have e1 := Aside0.mk (d1.out.below hb)
                have e3 := Aside0.mk (d3.out.below hb)
                have eB := Aside0.mk (below_step dB.out hb)
                clear d1 d3 dB hb
                refine hK.out _ _ e1.out (fun hHeld => ?_)
                clear hK K
                refine norm_ (a' := ?_) ?_ ?_
                rotate_left
                · show Act.put _ (some 37) _ = _
                  simp only [Act.put, List.setIfInBounds_toArray, List.set_cons_zero, List.set_cons_succ, i64_w, i32_w]
                  rfl
                refine pure_ (i := 6) (N := some 38) (v := ?_) (a' := ?_) #[true, true, true, true, true, true, true, false] rfl rfl (any_of HT_.out (by kernel_rfl)) (fun _ _ _ h => h) (Or.inl ⟨by rfl, ?_⟩) ?_ ?_
                rotate_left
                · intro w'
                  go_simp
                  with_reducible rfl
                rotate_left
                · simp only [Act.put, List.setIfInBounds_toArray, List.set_cons_zero, List.set_cons_succ, i64_w, i32_w]
                  rfl
                refine last_ (i := 7) (N := none) #[true, true, true, true, true, true, true, true] rfl rfl (one_of HT_.out (by kernel_rfl)) (by decide) (fun K hK => ?_)
                have hs := e3.out.cell i (by rw [thS_len]; exact hlt)
                have hf := e3.out.frozen i
                refine skip_ (w1 := ?_) (by rfl) rfl ?_ ?_
                rotate_left
                · go_simp
                  rfl
                refine hK.out _ _ ?_
                clear hK K
                refine done_ (done_of HT_.out (by kernel_rfl)) ?_
                try go_wp2
                have es : m[i]?.getD 0 = m.getD i 0 := by simp [List.getD]
                exact ⟨⟨i + 1, by omega, by simp, ⟨e1.out.far N7.out _⟩, ⟨by rw [es, ← thS_set m i hlt]; exact e3.out.set i _⟩, ⟨below_set eB.out G7.out⟩⟩, by simp [intOf]; omega⟩
              · obtain rfl : i = 32 := by omega
                clear hlt hi
                go_wp2_with (first | ((with_reducible refine gate_dst (N := 39) rfl ?_); refine Kd.event_run rfl (Arr.Box.load c3.out (x := .tmp 7) ?_ ?_ Arr.agg40 ?_) ?_; rfl; (rw [thS_len]; exact Arr.info40); rfl) | (refine Arr.event_skip rfl (Arr.Box.store c1.out (ys := thS m 32) ?_ (x := .tmp 5) (y := .tmp 39) ?_ ?_ ?_ ?_) ?_; (rw [thS_len, hm.out]); rfl; (rw [hm.out]; exact Arr.info40); rfl; rfl; have n0 := Aside0.mk (Arr.Box.stored c1.out (ys := thS m 32) (by rw [thS_len, hm.out])); have n1 := Aside0.mk (Arr.below_stored hB3.out G.out ((thS m 32).map (Value.int .u32))); clear c1 c3 hB3; have cb := n0; have cB := n1; clear n0 n1; clear ht hb hbb hd))
                refine ⟨?_, by have := hpz.out; simp [intOf, hwz]; omega⟩
                repeat apply Exists.intro
                exact ⟨⟨k, thS m 32, thV m s, wrap64 (z / 2), rfl, rfl, cb, ⟨thS_len m 32⟩, ⟨by rw [hwz]; have h1 := hz.out.1; have h2 := hpz.out; rw [Int.pow_succ] at h1; omega, by rw [hwz]; have := hz.out.2; have h2 := hpz.out; omega⟩, ⟨by rw [hwz]; exact hst1.out⟩, cB⟩, rfl⟩
          · have hbb : (z % 2 == 1) = false := beq_eq_false_iff_ne.mpr hb
            have hst1 := Aside0.mk (show FarN k (thS m 32) s (z / 2).toNat = FarN 64 (r0S 32) a0 a1.toNat by have h := hst'.out; rwa [if_neg hb] at h)
            clear hp hst'
            go_wp2_with (first | ((with_reducible refine gate_dst (N := 7) rfl ?_); refine box_event ?hg (N := 7) ?hd (cs := Arr.vs (List.replicate 32 0)) (t := 40) ?hr ?_; (case hd => rfl); (case hg => rfl); (case hr => first | (go_simp; done) | (go_simp; rfl)); intro g7 hg w7 hbox hb7; have HG7 := Aside0.mk hg; clear hg; have q7 := Aside0.mk hbox; clear hbox; have n0 := Aside0.mk (cb.out.below hb7); have n1 := Aside0.mk (below_step cB.out hb7); have N7 := Aside0.mk (show g ≠ g7 by have := Arr.Box.lt cb.out; have := HG7.out; omega); have G7 := Aside0.mk (show w.heap.size ≤ g7 by have := cB.out.size; have := HG7.out; omega); clear cb cB hb7 HG7; have cb := n0; have cB := n1; clear n0 n1))
            have q0 : Arr.Box w7 g7 40 (thS m 0) := by rw [thS_zero]; exact q7.out
            go_loopw [8] (fun v w' => ∃ i : Nat, i ≤ 32 ∧ v = .int .i64 i ∧ Aside0 (Arr.Box w' g 40 m) ∧ Aside0 (Arr.Box w' g7 40 (thS m i)) ∧ Aside0 (Below w.heap.size w w')) (fun v _ => 32 - (intOf v).toNat)
            case atStart => exact ⟨0, by omega, rfl, cb, ⟨q0⟩, cB⟩
            case round =>
              obtain ⟨i, hi, rfl, c1, c3, hB3⟩ := hrel
              clear q0 cb cB q7
              by_cases hlt : i < 32
              · go_upto_region 14 with (fail)
                refine start_ (n := 8) (S := fun w' => Arr.Box w' g 40 m) (ds := [7]) #[false, false, false, false, false, false, false, false] (by kernel_rfl) rfl rfl c1.out.drew (fun hHeld => ?_)
                refine with_tabW garnerref02_Far.tab14 garnerref02_Far.bits14 (fun HT_ HW_ => ?_)
                have d1 := Aside0.mk c1.out.drew
                have d3 := Aside0.mk c3.out.drew
                have dB := Aside0.mk (below_drew1 hB3.out)
                clear c1 c3 hB3
                generalize wr.drew = w5 at d1 d3 dB hHeld ⊢
                refine pure_ (i := 0) (N := some 32) (v := ?_) (a' := ?_) #[true, false, false, false, false, false, false, false] rfl rfl (any_of HT_.out (by kernel_rfl)) (fun _ _ _ h => h) (Or.inl ⟨by rfl, ?_⟩) ?_ ?_
                rotate_left
                · intro w'
                  go_simp
                  with_reducible rfl
                rotate_left
                · simp only [Act.put, List.setIfInBounds_toArray, List.set_cons_zero, List.set_cons_succ, i64_w, i32_w]
                  rfl
                refine take_ (i := 1) (N := some 33) (v := ?_) (a' := ?_) #[true, true, false, false, false, false, false, false] rfl rfl (take_ofW HT_.out HW_.out (by kernel_rfl)) (fun _ _ _ h => h) (Or.inl ⟨by rfl, ?_⟩) hHeld ?_ ?_
                rotate_left
                · intro w' hS
                  refine Arr.Box.load hS (x := .tmp 5) ?_ (by rw [hm.out]; exact Arr.info40) Arr.agg40 ?_ <;> rfl
                rotate_left
                · simp only [Act.put, List.setIfInBounds_toArray, List.set_cons_zero, List.set_cons_succ, i64_w, i32_w]
                  rfl
                refine pure_ (i := 2) (N := some 34) (v := ?_) (a' := ?_) #[true, true, true, false, false, false, false, false] rfl rfl (any_of HT_.out (by kernel_rfl)) (fun _ _ _ h => h) (Or.inl ⟨by rfl, ?_⟩) ?_ ?_
                rotate_left
                · intro w'
                  go_simp
                  with_reducible rfl
                rotate_left
                · simp only [Act.put, List.setIfInBounds_toArray, List.set_cons_zero, List.set_cons_succ, i64_w, i32_w]
                  rfl
                refine pure_ (i := 3) (N := some 35) (v := ?_) (a' := ?_) #[true, true, true, true, false, false, false, false] rfl rfl (any_of HT_.out (by kernel_rfl)) (fun _ _ _ h => h) (Or.inl ⟨by rfl, ?_⟩) ?_ ?_
                rotate_left
                · intro w'
                  go_simp
                  with_reducible rfl
                rotate_left
                · simp only [Act.put, List.setIfInBounds_toArray, List.set_cons_zero, List.set_cons_succ, i64_w, i32_w]
                  rfl
                refine take_ (i := 4) (N := some 36) (v := ?_) (a' := ?_) #[true, true, true, true, true, false, false, false] rfl rfl (take_ofW HT_.out HW_.out (by kernel_rfl)) (fun _ _ _ h => h) (Or.inl ⟨by rfl, ?_⟩) hHeld ?_ ?_
                rotate_left
                · intro w' hS
                  have hc := Arr.Box.cell hS i (by rw [hm.out]; exact hlt)
                  clear hS
                  go_simp
                  with_reducible rfl
                rotate_left
                · simp only [Act.put, List.setIfInBounds_toArray, List.set_cons_zero, List.set_cons_succ, i64_w, i32_w]
                  rfl
                refine one_ (i := 5) (N := some 37) #[true, true, true, true, true, true, false, false] rfl rfl (one_of HT_.out (by kernel_rfl)) (by decide) (fun K hK => ?_)
                refine goes_ Try.func19 (by kernel_rfl) rfl #[.agg (Arr.vs m), .int .u32 (m[i]?.getD 0)] (by rfl) rfl rfl (by (try simp only [List.map_toArray, List.map_cons, List.map_nil]); first | done | rfl) ?_
                with_reducible refine (garnerref02_through.walk m hm.out (m[i]?.getD 0) _).mono ?_
                rintro e w6 ⟨rfl, hb⟩
                refine ⟨_, rfl, ?_⟩
                have e1 := Aside0.mk (d1.out.below hb)
                have e3 := Aside0.mk (d3.out.below hb)
                have eB := Aside0.mk (below_step dB.out hb)
                clear d1 d3 dB hb
                refine hK.out _ _ e1.out (fun hHeld => ?_)
                clear hK K
                refine norm_ (a' := ?_) ?_ ?_
                rotate_left
                · show Act.put _ (some 37) _ = _
                  simp only [Act.put, List.setIfInBounds_toArray, List.set_cons_zero, List.set_cons_succ, i64_w, i32_w]
                  rfl
                refine pure_ (i := 6) (N := some 38) (v := ?_) (a' := ?_) #[true, true, true, true, true, true, true, false] rfl rfl (any_of HT_.out (by kernel_rfl)) (fun _ _ _ h => h) (Or.inl ⟨by rfl, ?_⟩) ?_ ?_
                rotate_left
                · intro w'
                  go_simp
                  with_reducible rfl
                rotate_left
                · simp only [Act.put, List.setIfInBounds_toArray, List.set_cons_zero, List.set_cons_succ, i64_w, i32_w]
                  rfl
                refine last_ (i := 7) (N := none) #[true, true, true, true, true, true, true, true] rfl rfl (one_of HT_.out (by kernel_rfl)) (by decide) (fun K hK => ?_)
                have hs := e3.out.cell i (by rw [thS_len]; exact hlt)
                have hf := e3.out.frozen i
                refine skip_ (w1 := ?_) (by rfl) rfl ?_ ?_
                rotate_left
                · go_simp
                  rfl
                refine hK.out _ _ ?_
                clear hK K
                refine done_ (done_of HT_.out (by kernel_rfl)) ?_
                try go_wp2
                have es : m[i]?.getD 0 = m.getD i 0 := by simp [List.getD]
                exact ⟨⟨i + 1, by omega, by simp, ⟨e1.out.far N7.out _⟩, ⟨by rw [es, ← thS_set m i hlt]; exact e3.out.set i _⟩, ⟨below_set eB.out G7.out⟩⟩, by simp [intOf]; omega⟩
              · obtain rfl : i = 32 := by omega
                clear hlt hi
                go_wp2_with (first | ((with_reducible refine gate_dst (N := 39) rfl ?_); refine Kd.event_run rfl (Arr.Box.load c3.out (x := .tmp 7) ?_ ?_ Arr.agg40 ?_) ?_; rfl; (rw [thS_len]; exact Arr.info40); rfl) | (refine Arr.event_skip rfl (Arr.Box.store c1.out (ys := thS m 32) ?_ (x := .tmp 5) (y := .tmp 39) ?_ ?_ ?_ ?_) ?_; (rw [thS_len, hm.out]); rfl; (rw [hm.out]; exact Arr.info40); rfl; rfl; have n0 := Aside0.mk (Arr.Box.stored c1.out (ys := thS m 32) (by rw [thS_len, hm.out])); have n1 := Aside0.mk (Arr.below_stored hB3.out G.out ((thS m 32).map (Value.int .u32))); clear c1 c3 hB3; have cb := n0; have cB := n1; clear n0 n1; clear ht hb hbb hd))
                refine ⟨?_, by have := hpz.out; simp [intOf, hwz]; omega⟩
                repeat apply Exists.intro
                exact ⟨⟨k, thS m 32, s, wrap64 (z / 2), rfl, rfl, cb, ⟨thS_len m 32⟩, ⟨by rw [hwz]; have h1 := hz.out.1; have h2 := hpz.out; rw [Int.pow_succ] at h1; omega, by rw [hwz]; have := hz.out.2; have h2 := hpz.out; omega⟩, ⟨by rw [hwz]; exact hst1.out⟩, cB⟩, rfl⟩
        · have hd : decide (z > 0) = false := decide_eq_false hp
          have he : s = FarN 64 (r0S 32) a0 a1.toNat := by
            rw [← hf.out, show z.toNat = 0 by omega]
            cases k <;> simp [FarN]
          clear hf
          go_wp2
          go_ret
          exact ⟨rfl, cB.out⟩

/-! ### garnerref02_Zeros: function 15 -/
def garnerref02_Zeros.l0 : Nat → Int → Int → Int → Option (Int)
  | 0, _, _, _ => none
  | k + 1, x1, x5, x6 => if x6 < x1 then ((garnerref02_step.f k x5).bind fun t111 => (garnerref02_Zeros.l0 k x1 t111 (wrap64 (x6 + 1)))) else (some (Go.bits .xor .u32 x5 4294967295))
def garnerref02_Zeros.f (k : Nat) (a0 : Int) (a1 : Int) : Option (Int) := garnerref02_Zeros.l0 k a1 (Go.bits .xor .u32 a0 4294967295) 0
theorem garnerref02_Zeros.mono_l : ∀ k, (∀ y0 y1 y2, LeO (garnerref02_Zeros.l0 k y0 y1 y2) (garnerref02_Zeros.l0 (k + 1) y0 y1 y2))
  | 0 => fun _ _ _ r h => by simp [garnerref02_Zeros.l0] at h
  | k + 1 => by
    have ih0 := garnerref02_Zeros.mono_l k
    · intro y0 y1 y2
      unfold garnerref02_Zeros.l0
      repeat' first
      | (with_reducible exact ih0 _ _ _)
      | (with_reducible exact garnerref02_step.mono _ _)
      | (with_reducible exact LeO.refl _)
      | (with_reducible exact LeO.none _)
      | (with_reducible refine LeO.ite ?_ ?_)
      | (with_reducible refine LeO.bind ?_ (fun _ => ?_))
      | exact ih0 _ _ _
      | exact garnerref02_step.mono _ _
      | exact LeO.none _
      | refine LeO.ite ?_ ?_
      | refine LeO.bind ?_ (fun _ => ?_)
theorem garnerref02_Zeros.mono : ∀ a0 a1 k, LeO (garnerref02_Zeros.f k a0 a1) (garnerref02_Zeros.f (k + 1) a0 a1) := by
  intro a0 a1 k
  have ih0 := garnerref02_Zeros.mono_l k
  unfold garnerref02_Zeros.f
  repeat' first
      | (with_reducible exact ih0 _ _ _)
      | (with_reducible exact garnerref02_step.mono _ _)
      | (with_reducible exact LeO.refl _)
      | (with_reducible exact LeO.none _)
      | (with_reducible refine LeO.ite ?_ ?_)
      | (with_reducible refine LeO.bind ?_ (fun _ => ?_))
      | exact ih0 _ _ _
      | exact garnerref02_step.mono _ _
      | exact LeO.none _
      | refine LeO.ite ?_ ?_
      | refine LeO.bind ?_ (fun _ => ?_)
set_option maxHeartbeats 8000000 in
set_option maxRecDepth 100000 in
theorem garnerref02_Zeros.calls (k : Nat) (a0 : Int) (a1 : Int) (r : Int) (w : World) (h : garnerref02_Zeros.f k a0 a1 = some r) :
    Calls Try.prog 15 #[.int .u32 a0, .int .i64 a1] w fun e w' => e = .returned (.int .u32 r) ∧ Drawn0 w w' := by
  have H : (garnerref02_Zeros.l0 k a1 (Go.bits .xor .u32 a0 4294967295) 0) = some r := h
  clear h
  have H' := Aside0.mk H
  clear H
  go_enter Try.func15, Try.ntmps15
  go_wp2
  go_loopg [5, 6] k (fun kq v5 v6 w' => ∃ (x5_1 : Int) (x6_1 : Int), v5 = .int .u32 x5_1 ∧ v6 = .int .i64 x6_1 ∧ Aside0 (garnerref02_Zeros.l0 kq a1 x5_1 x6_1 = some r) ∧ Aside0 (kq ≤ k) ∧ Drawn0 w w')
  case atStart => exact ⟨(Go.bits .xor .u32 a0 4294967295), (0), (by first | rfl | (simp; done) | (simp [*]; done)), (by first | rfl | (simp; done) | (simp [*]; done)), H', ⟨Nat.le_refl _⟩, by repeat (first | exact Drawn0.refl _ | apply Drawn0.step)⟩
  case round =>
    clear H'
    try clear c1
    try clear p2
    obtain ⟨x5_1, x6_1, rfl, rfl, HA, HK1, ⟨m1, rfl⟩⟩ := hrel
    cases gk with
    | zero => exact absurd HA.out (by simp [garnerref02_Zeros.l0])
    | succ k1 =>
      have H := HA.out
      clear HA
      simp only [garnerref02_Zeros.l0] at H
      by_cases c3 : x6_1 < a1
      · rw [if_pos c3] at H
        have c3b0 : decide (x6_1 < a1) = true := decide_eq_true c3
        clear c3
        replace H := Option.bind_eq_some_iff.mp H
        obtain ⟨t111, A40, H⟩ := H
        replace H : (garnerref02_Zeros.l0 k1 a1 t111 (wrap64 (x6_1 + 1))) = some r := H
        have A4 := Aside0.mk A40
        clear A40
        have H' := Aside0.mk H
        clear H
        go_wp2_with (first | ((with_reducible refine gate_callee (f := 18) rfl ?_); refine goesL_ (some 15) rfl rfl Try.func18 (by kernel_rfl) rfl #[.int .u32 x5_1] rfl (by (try simp only [List.map_toArray, List.map_cons, List.map_nil]); first | done | rfl | (simp only [List.length_drop, List.length_take]; rfl)) ?_; (with_reducible refine (garnerref02_step.calls k1 x5_1 t111 _ A4.out).mono ?_); rintro e w' ⟨rfl, ⟨nd, rfl⟩⟩; refine ⟨_, rfl, ?_⟩) | (go_at_call 18; (with_reducible refine (garnerref02_step.calls k1 x5_1 t111 _ A4.out).mono ?_); rintro e w' ⟨rfl, ⟨nd, rfl⟩⟩))
        go_roundg k1
        case measure => have := HK1.out; omega
        case rel => exact ⟨(t111), (wrap64 (x6_1 + 1)), (by first | rfl | (simp; done) | (simp [*]; done)), (by first | rfl | (simp; done) | (simp [*]; done)), H', ⟨by have := HK1.out; omega⟩, by repeat (first | exact Drawn0.refl _ | apply Drawn0.step)⟩
      · rw [if_neg c3] at H
        have c3b0 : decide (x6_1 < a1) = false := decide_eq_false c3
        clear c3
        obtain rfl := Option.some.inj H
        go_wp2
        go_ret
        exact ⟨by first | rfl | (simp; done) | (simp [*]; done), by repeat (first | exact Drawn0.refl _ | apply Drawn0.step)⟩

end Go.Proofs.Ytajkjngngaobpaa.HS
