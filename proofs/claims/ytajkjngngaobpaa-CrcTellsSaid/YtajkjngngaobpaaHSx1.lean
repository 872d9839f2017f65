/- Written for this claim by a program of this session (hp.py): Go functions as plain functions, each with the proof that its call comes to it. -/
import Derived.Test.YtajkjngngaobpaaHSx0
namespace Go.Proofs.Ytajkjngngaobpaa.HS
open Go.RowKit Go.Proofs.YtajkjngngaobpaaW.PrintWords Go.Proofs.YtajkjngngaobpaaW.PrintLast Go.Proofs.YtajkjngngaobpaaW.PrintMore
attribute [local go_sem] max2_int min2_int max_two min_two max_three min_three max_four min_four   -- for this text's walks alone
set_option linter.unusedVariables false
set_option linter.unusedSimpArgs false

-- NOT PRINTED: function 21 (crc_half)

/-! ### crc_run: function 17 -/
/-- One bit of a register, as the code has it. -/
def hb (s : Int) : Int := Go.bits .xor .u32 (s / 2) (2197175160 * Go.bits .and .u32 s 1 % 4294967296)
def hbn : Nat → Int → Int
  | 0, s => s
  | j + 1, s => hb (hbn j s)
def halfS (n : Nat) : List Int := (List.range 16).map fun i : Nat => if i < n then hbn 4 (i : Int) else 0
theorem halfS_set (n : Nat) (hn : n < 16) : (halfS n).set n (hbn 4 (n : Int)) = halfS (n + 1) := by
  apply List.ext_getElem?
  intro j
  simp only [halfS, List.getElem?_set, List.length_map, List.length_range, List.getElem?_map]
  by_cases h : n = j
  · subst h
    simp [hn]
  · by_cases hj : j < 16
    · simp only [h, if_false, List.getElem?_range hj, Option.map_some]
      by_cases h2 : j < n
      · rw [if_pos h2, if_pos (by omega)]
      · rw [if_neg h2, if_neg (by omega)]
    · simp only [h, if_false]
      rw [List.getElem?_eq_none (by simp; omega)]
      rfl
set_option maxHeartbeats 4000000 in
set_option maxRecDepth 100000 in
theorem crc_half.walk (w : World) : Calls Try.prog 21 #[] w fun e w' => e = .returned (.agg (Arr.vs (halfS 16))) ∧ Below w.heap.size w w' := by
  go_enter Try.func21, Try.ntmps21
  go_wp2_with (first | ((with_reducible refine gate_dst (N := 0) rfl ?_); refine box_event ?hg (N := 0) ?hd (cs := Arr.vs (List.replicate 16 0)) (t := 42) ?hr ?_; (case hd => rfl); (case hg => rfl); (case hr => first | (go_simp; done) | (go_simp; rfl)); intro g0 hg w0 hbox_g0 hb0; have hg_g0 := Aside0.mk hg; clear hg; have hbox_g0' := Aside0.mk hbox_g0; clear hbox_g0; have hb0' := Aside0.mk hb0; clear hb0) | ((with_reducible refine gate_dst (N := 1) rfl ?_); refine box_event ?hg (N := 1) ?hd (cs := Arr.vs (List.replicate 16 0)) (t := 42) ?hr ?_; (case hd => rfl); (case hg => rfl); (case hr => first | (go_simp; done) | (go_simp; rfl)); intro g1 hg w1 hbox_g1 hb1; have hg_g1 := Aside0.mk hg; clear hg; have hbox_g1' := Aside0.mk hbox_g1; clear hbox_g1; have hb1' := Aside0.mk hb1; clear hb1))
  have bx1 : Arr.Box w1 g1 42 (halfS 0) := hbox_g1'.out
  have bx0 : Arr.Box w1 g0 42 (List.replicate 16 0) := Arr.Box.below (xs := List.replicate 16 0) hbox_g0'.out hb1'.out
  have hB : Below w.heap.size w w1 := below_step hb0'.out hb1'.out
  have hG0 := Aside0.mk (show w.heap.size ≤ g0 by have := hg_g0.out; omega)
  have hG1 := Aside0.mk (show w.heap.size ≤ g1 by have := hb0'.out.size; have := hg_g1.out; omega)
  have hne := Aside0.mk (show g0 ≠ g1 by have := Arr.Box.lt (xs := List.replicate 16 0) hbox_g0'.out; have := hg_g1.out; omega)
  clear hbox_g0' hbox_g1' hb0' hb1' hg_g0 hg_g1
  go_loopw [5] (fun v w' => ∃ i : Nat, i ≤ 16 ∧ v = .int .i64 i ∧ Arr.Box w' g1 42 (halfS i) ∧ Arr.Box w' g0 42 (List.replicate 16 0) ∧ Below w.heap.size w w') (fun v _ => 16 - (intOf v).toNat)
  case atStart => exact ⟨0, by omega, rfl, bx1, bx0, hB⟩
  case round =>
    obtain ⟨i, hi, rfl, b1, b0, hB'⟩ := hrel
    clear bx1 bx0 hB
    by_cases hlt : i < 16
    · have ew : IntKind.u32.wrap (i : Int) = i := by
        unfold IntKind.wrap
        simp [IntKind.bits, IntKind.signed]
        omega
      go_wp2
      go_loop [3, 10] (fun s v => ∃ j : Nat, j ≤ 4 ∧ v = .int .i64 j ∧ s = .int .u32 (hbn j (i : Int))) (fun _ v => 4 - (intOf v).toNat)
      case atStart => exact ⟨0, by omega, rfl, by simp [hbn, ew]⟩
      case round =>
        obtain ⟨j, hj, rfl, rfl⟩ := hrel
        by_cases hlt2 : j < 4
        · go_wp2
          exact ⟨⟨j + 1, by omega, by simp, rfl⟩, by simp [intOf]; omega⟩
        · obtain rfl : j = 4 := by omega
          have hc := b1.cell i (by simp [halfS]; omega)
          have hf := b1.frozen i
          clear hlt2 ew
          go_wp2
          exact ⟨⟨i + 1, by omega, by simp, (halfS_set i hlt) ▸ b1.set i _, b0.far hne.out _, below_set hB' hG1.out⟩, by simp [intOf]; omega⟩
    · obtain rfl : i = 16 := by omega
      clear hlt hi
      go_wp2_with (first | ((with_reducible refine gate_dst (N := 25) rfl ?_); refine Kd.event_run rfl (Arr.Box.load b1 rfl Arr.info42 Arr.agg42 rfl) ?_) | (refine Arr.event_skip rfl (Arr.Box.store b0 (ys := halfS 16) rfl (x := .tmp 0) (y := .tmp 25) rfl Arr.info42 rfl rfl) ?_))
      exact bodyPost_ret (results_cell_row rfl _ _ g0 42 _ (0, 0) _ (by rfl) (b0.stored rfl) Try.underlying42 rfl (by kernel_rfl)) rfl ⟨rfl, Arr.below_stored hB' hG0.out _⟩
/-- The table, closed to the walks. -/
noncomputable def halfT : List Int := Classical.choose (⟨halfS 16, rfl⟩ : ∃ T, T = halfS 16)
theorem halfT_eq : halfT = halfS 16 := Classical.choose_spec (⟨halfS 16, rfl⟩ : ∃ T, T = halfS 16)
theorem halfT_len : halfT.length = 16 := by rw [halfT_eq]; simp [halfS]
theorem crc_half.walkT (w : World) : Calls Try.prog 21 #[] w fun e w' => e = .returned (.agg (Arr.vs halfT)) ∧ Below w.heap.size w w' := by
  rw [halfT_eq]
  exact crc_half.walk w
/-- Half a byte, by the table. -/
noncomputable def rh (s : Int) : Int := Go.bits .xor .u32 (s / 16) (halfT[(Go.bits .and .u32 s 15).toNat]?.getD 0)
noncomputable def runN (l : List Int) (s : Int) : Nat → Int
  | 0 => s
  | i + 1 => rh (rh (Go.bits .xor .u32 (runN l s i) (rd l i % 4294967296)))
noncomputable def crc_run.f (a0 : Int) (l1 : List Int) : Option Int := some (runN l1 a0 l1.length)
theorem and15 (s : Int) : ∃ n : Nat, Go.bits .and .u32 s 15 = (n : Int) ∧ n < 16 := by
  have h15 : (15 : Int).toNat < 2 ^ 4 := by decide
  unfold Go.bits
  refine ⟨((BitVec.ofInt IntKind.u32.bits s) &&& (BitVec.ofInt IntKind.u32.bits 15)).toNat, ?_, ?_⟩
  · have hb := ((BitVec.ofInt IntKind.u32.bits s) &&& (BitVec.ofInt IntKind.u32.bits 15)).isLt
    unfold IntKind.wrap
    simp [IntKind.bits, IntKind.signed] at hb ⊢
    omega
  · rw [BitVec.toNat_and]
    exact Nat.lt_of_le_of_lt Nat.and_le_right (by decide)
set_option maxHeartbeats 4000000 in
set_option maxRecDepth 100000 in
theorem crc_run.calls (a0 : Int) (A1 : Option Addr) (c1 : Nat) (l1 : List Int) (r : Int) (w : World) (hr1 : Kd.C (Kd.int .u8) w A1 l1.length l1) (hc1 : l1.length ≤ c1) (h : crc_run.f a0 l1 = some r) :
    Calls Try.prog 17 #[.int .u32 a0, .slice A1 l1.length c1] w fun e w' => e = .returned (.int .u32 r) ∧ Below w.heap.size w w' := by
  obtain rfl := Option.some.inj h
  clear h
  have HR := Aside0.mk hr1
  have HC := Aside0.mk hc1
  clear hr1 hc1
  go_enter Try.func17, Try.ntmps17
  go_wp2_with (first | (go_at_call 21; refine (crc_half.walkT _).mono ?_; rintro e w1 ⟨rfl, hb1⟩; have HB1 := Aside0.mk hb1; clear hb1) | ((with_reducible refine gate_dst (N := 5) rfl ?_); refine box_event ?hg (N := 5) ?hd (cs := Arr.vs (List.replicate 16 0)) (t := 42) ?hr ?_; (case hd => rfl); (case hg => rfl); (case hr => first | (go_simp; done) | (go_simp; rfl)); intro g hg w2 hbox hb2; have HG := Aside0.mk hg; clear hg; have HX := Aside0.mk hbox; clear hbox; have HB2 := Aside0.mk hb2; clear hb2) | (refine Arr.event_skip rfl (Arr.Box.store (xs := List.replicate 16 0) HX.out (ys := halfT) halfT_len (x := .tmp 5) (y := .tmp 8) rfl Arr.info42 rfl rfl) ?_))
  have bx : Arr.Box (w2.setCells g 0 (halfT.map (Value.int .u32))) g 42 halfT := Arr.Box.stored (xs := List.replicate 16 0) HX.out halfT_len
  have hB : Below w.heap.size w (w2.setCells g 0 (halfT.map (Value.int .u32))) := Arr.below_stored (below_step HB1.out HB2.out) (by have := HG.out; have := HB1.out.size; omega) _
  clear HX HB1 HB2 HG
  generalize (w2.setCells g 0 (halfT.map (Value.int .u32))) = W0 at bx hB ⊢
  go_loopw [0, 11] (fun s v w' => ∃ i : Nat, i ≤ l1.length ∧ v = .int .i64 i ∧ s = .int .u32 (runN l1 a0 i) ∧ Arr.Box w' g 42 halfT ∧ Aside0 (Below w.heap.size w w')) (fun _ v _ => l1.length - (intOf v).toNat)
  case atStart => exact ⟨0, by omega, rfl, rfl, bx, ⟨hB⟩⟩
  case round =>
    obtain ⟨i, hi, rfl, rfl, b1, hB'⟩ := hrel
    clear bx hB
    by_cases hlt : i < l1.length
    · obtain ⟨ad, e, hx⟩ := Kd.at_int HR.out (i : Int) (by omega) (by omega)
      cases e
      replace hx := (hB'.out.cell (World.block_lt_of_cell? w _ hx)).trans hx
      have hlt' : (i : Int) < (l1.length : Int) := by omega
      simp only [Int.toNat_natCast, Nat.mul_one] at hx
      obtain ⟨s1, hs1⟩ : ∃ s, Go.bits .xor .u32 (runN l1 a0 i) (rd l1 i % 4294967296) = s := ⟨_, rfl⟩
      obtain ⟨n1, hn1, hn1'⟩ : ∃ n : Nat, Go.bits .and .u32 s1 15 = (n : Int) ∧ n < 16 := and15 s1
      obtain ⟨n2, hn2, hn2'⟩ : ∃ n : Nat, Go.bits .and .u32 (Go.bits .xor .u32 (s1 / 16) (halfT[n1]?.getD 0)) 15 = (n : Int) ∧ n < 16 := and15 _
      have hc1 := b1.cell n1 (by rw [halfT_len]; omega)
      have hc2 := b1.cell n2 (by rw [halfT_len]; omega)
      go_wp2
      have e1 : wrap64 ((i : Int) + 1) = ((i + 1 : Nat) : Int) := by have := HR.out.2.1; unfold wrap64; omega
      have e2 : runN l1 a0 (i + 1) = Go.bits .xor .u32 (Go.bits .xor .u32 (s1 / 16) (halfT[n1]?.getD 0) / 16) (halfT[n2]?.getD 0) := by
        show rh (rh (Go.bits .xor .u32 (runN l1 a0 i) (rd l1 i % 4294967296))) = _
        rw [hs1]
        unfold rh
        rw [hn1, Int.toNat_natCast, hn2, Int.toNat_natCast]
      rw [e1]
      exact ⟨⟨i + 1, by omega, rfl, by rw [e2], b1, hB'⟩, by simp [intOf]; omega⟩
    · obtain rfl : i = l1.length := by omega
      clear hlt hi
      go_wp2
      go_ret
      exact ⟨rfl, hB'.out⟩

/-! ### crc_Sum: function 8 -/
noncomputable def crc_Sum.l0 : Nat → Int → List (List Int) → Int → Int → Option (Int)
  | 0, _, _, _, _ => none
  | k + 1, x3, x6, x7, x8 => if x8 < x7 then (if 0 ≤ x8 then (if x8 < (x6.length : Int) then ((crc_run.f x3 (rd_L1 x6 x8)).bind fun t102 => (crc_Sum.l0 k t102 x6 x7 (wrap64 (x8 + 1)))) else (none)) else (none)) else (some (Go.bits .xor .u32 (if IntKind.u32.signed = true then -1 else IntKind.u32.max) x3))
noncomputable def crc_Sum.f (k : Nat) (l0 : List (List Int)) : Option (Int) := crc_Sum.l0 k 4294967295 l0 (l0.length : Int) 0
theorem crc_Sum.mono_l : ∀ k, (∀ y0 y1 y2 y3, LeO (crc_Sum.l0 k y0 y1 y2 y3) (crc_Sum.l0 (k + 1) y0 y1 y2 y3))
  | 0 => fun _ _ _ _ r h => by simp [crc_Sum.l0] at h
  | k + 1 => by
    have ih0 := crc_Sum.mono_l k
    · intro y0 y1 y2 y3
      unfold crc_Sum.l0
      repeat' first
      | (with_reducible exact ih0 _ _ _ _)
      | (with_reducible exact LeO.refl _)
      | (with_reducible exact LeO.none _)
      | (with_reducible refine LeO.ite ?_ ?_)
      | (with_reducible refine LeO.bind ?_ (fun _ => ?_))
      | exact ih0 _ _ _ _
      | exact LeO.none _
      | refine LeO.ite ?_ ?_
      | refine LeO.bind ?_ (fun _ => ?_)
theorem crc_Sum.mono : ∀ a0 k, LeO (crc_Sum.f k a0) (crc_Sum.f (k + 1) a0) := by
  intro a0 k
  have ih0 := crc_Sum.mono_l k
  unfold crc_Sum.f
  repeat' first
      | (with_reducible exact ih0 _ _ _ _)
      | (with_reducible exact LeO.refl _)
      | (with_reducible exact LeO.none _)
      | (with_reducible refine LeO.ite ?_ ?_)
      | (with_reducible refine LeO.bind ?_ (fun _ => ?_))
      | exact ih0 _ _ _ _
      | exact LeO.none _
      | refine LeO.ite ?_ ?_
      | refine LeO.bind ?_ (fun _ => ?_)
set_option maxHeartbeats 8000000 in
set_option maxRecDepth 100000 in
theorem crc_Sum.calls (k : Nat) (A0 : Option Addr) (c0 : Nat) (l0 : List (List Int)) (r : Int) (w : World) (hr0 : Kd.C (Kd.slice 5 (Kd.int .u8)) w A0 l0.length l0) (hc0 : l0.length ≤ c0) (h : crc_Sum.f k l0 = some r) :
    Calls Try.prog 8 #[.slice A0 l0.length c0] w fun e w' => e = .returned (.int .u32 r) ∧ Below w.heap.size w w' := by
  have HR0 := Aside0.mk hr0
  have HC0 := Aside0.mk hc0
  clear hr0 hc0
  have HB := Aside0.mk (Below.refl w.heap.size w)
  have H : (crc_Sum.l0 k 4294967295 l0 (l0.length : Int) 0) = some r := h
  clear h
  have H' := Aside0.mk H
  clear H
  go_enter Try.func8, Try.ntmps8
  go_wp2
  go_loopg [3, 8] k (fun kq v3 v8 w' => ∃ (x3_1 : Int) (x8_1 : Int), v3 = .int .u32 x3_1 ∧ v8 = .int .i64 x8_1 ∧ Aside0 (crc_Sum.l0 kq x3_1 l0 (l0.length : Int) x8_1 = some r) ∧ Aside0 (kq ≤ k) ∧ Aside0 (Below w.heap.size w w'))
  case atStart => exact ⟨(4294967295), (0), (by first | rfl | (simp; done) | (simp [*]; done)), (by first | rfl | (simp; done) | (simp [*]; done)), H', ⟨Nat.le_refl _⟩, ⟨by repeat (first | (with_reducible first | exact HB.out | apply below_alloc | apply pw_below_drewN | apply below_drew1) | exact HB.out)⟩⟩
  case round =>
    clear H'
    obtain ⟨x3_1, x8_1, rfl, rfl, HA, HK1, HB⟩ := hrel
    cases gk with
    | zero => exact absurd HA.out (by simp [crc_Sum.l0])
    | succ k1 =>
      have H := HA.out
      clear HA
      simp only [crc_Sum.l0] at H
      by_cases c2 : x8_1 < (l0.length : Int)
      · rw [if_pos c2] at H
        have c2b0 : decide (x8_1 < (l0.length : Int)) = true := decide_eq_true c2
        clear c2
        by_cases c3 : 0 ≤ x8_1
        · rw [if_pos c3] at H
          have c3b0 : decide (0 ≤ x8_1) = true := decide_eq_true c3
          clear c3
          by_cases c4 : x8_1 < (l0.length : Int)
          · rw [if_pos c4] at H
            have c4b0 : decide (x8_1 < (l0.length : Int)) = true := decide_eq_true c4
            clear c4
            replace H := Option.bind_eq_some_iff.mp H
            obtain ⟨t102, A50, H⟩ := H
            replace H : (crc_Sum.l0 k1 t102 l0 (l0.length : Int) (wrap64 (x8_1 + 1))) = some r := H
            have A5 := Aside0.mk A50
            clear A50
            have H' := Aside0.mk H
            clear H
            have p101 : 0 ≤ (x8_1 : Int) := of_decide_eq_true (by first | (with_reducible assumption) | assumption)
            have q101 : x8_1 < (l0.length : Int) := of_decide_eq_true (by first | (with_reducible assumption) | assumption)
            obtain ⟨ad101, A101_0, c101_0, e101, hx101_0, hl101_0, hi101_0⟩ := at_L1 HR0.out x8_1 p101 q101
            cases e101
            replace hx101_0 := (HB.out.cell (World.block_lt_of_cell? w _ hx101_0)).trans hx101_0
            have HR101_0 := Aside0.mk hi101_0
            have HC101_0 := Aside0.mk hl101_0
            clear hi101_0 hl101_0
            replace p101 := eq_true p101
            replace q101 := eq_true q101
            (try (have q101d := q101; simp only [List.length_drop, List.length_take] at q101d))
            go_wp2_with (first | ((with_reducible refine gate_callee (f := 17) rfl ?_); refine goesL_ (some 14) rfl rfl Try.func17 (by kernel_rfl) rfl #[.int .u32 x3_1, .slice A101_0 (rd_L1 l0 x8_1).length c101_0] rfl (by (try simp only [List.map_toArray, List.map_cons, List.map_nil]); first | done | rfl | (simp only [List.length_drop, List.length_take]; rfl)) ?_; (with_reducible refine (crc_run.calls x3_1 _ _ (rd_L1 l0 x8_1) t102 _ ?side1 ?side2 A5.out).mono ?_); (case side1 => repeat (first | exact (Kd.C_below HR101_0.out HB.out) | (with_reducible refine Kd.C_alloc ?_ _) | (with_reducible refine Kd.C_drewN ?_ _) | (with_reducible refine Kd.C_drew ?_))); (case side2 => exact HC101_0.out); rintro e w6 ⟨rfl, hb⟩; refine ⟨_, rfl, ?_⟩; have n0_ := Aside0.mk (below_step (by repeat (first | (with_reducible first | exact HB.out | apply below_alloc | apply pw_below_drewN | apply below_drew1) | exact HB.out)) hb); clear HB; have HB := n0_; clear n0_; (try clear hb); (try clear hb2); (try clear hk); (try clear hi)))
            go_roundg k1
            case measure => have := HK1.out; omega
            case rel => exact ⟨(t102), (wrap64 (x8_1 + 1)), (by first | rfl | (simp; done) | (simp [*]; done)), (by first | rfl | (simp; done) | (simp [*]; done)), H', ⟨by have := HK1.out; omega⟩, ⟨by repeat (first | (with_reducible first | exact HB.out | apply below_alloc | apply pw_below_drewN | apply below_drew1) | exact HB.out)⟩⟩
          · rw [if_neg c4] at H
            exact absurd H (by simp)
        · rw [if_neg c3] at H
          exact absurd H (by simp)
      · rw [if_neg c2] at H
        have c2b0 : decide (x8_1 < (l0.length : Int)) = false := decide_eq_false c2
        clear c2
        obtain rfl := Option.some.inj H
        go_wp2
        go_ret
        exact ⟨by first | rfl | (simp [errW_none, errW_some] <;> rfl) | (simp [*, errW_none, errW_some] <;> rfl), by repeat (first | (with_reducible first | exact HB.out | apply below_alloc | apply pw_below_drewN | apply below_drew1) | exact HB.out)⟩

/-! ### crc_More: function 10 -/
/-- All bits turned. -/
def not32 (x : Int) : Int := Go.bits .xor .u32 (if IntKind.u32.signed = true then -1 else IntKind.u32.max) x
noncomputable def crc_More.f (a0 : Int) (l1 : List Int) : Option Int := (crc_run.f (not32 a0) l1).bind fun r => some (not32 r)
theorem crc_More.calls (a0 : Int) (A1 : Option Addr) (c1 : Nat) (l1 : List Int) (r : Int) (w : World) (hr1 : Kd.C (Kd.int .u8) w A1 l1.length l1) (hc1 : l1.length ≤ c1) (h : crc_More.f a0 l1 = some r) :
    Calls Try.prog 10 #[.int .u32 a0, .slice A1 l1.length c1] w fun e w' => e = .returned (.int .u32 r) ∧ Below w.heap.size w w' := by
  obtain ⟨q, hq, h2⟩ := Option.bind_eq_some_iff.mp h
  obtain rfl := Option.some.inj h2
  clear h h2
  go_enter Try.func10, Try.ntmps10
  go_wp2_with (first | (go_at_call 17; refine (crc_run.calls (not32 a0) A1 c1 l1 q _ hr1 hc1 hq).mono ?_; rintro e w2 ⟨rfl, hb⟩))
  go_ret
  exact ⟨rfl, hb⟩

/-! ### crc_Holds: function 12 -/
noncomputable def crc_Holds.f (k : Nat) (l0 : List Int) (a1 : Int) : Option (Bool) := (crc_Sum.f k (([l0] : List (List Int)))).bind fun t106 => (some (t106 == a1))
theorem crc_Holds.mono : ∀ a0 a1 k, LeO (crc_Holds.f k a0 a1) (crc_Holds.f (k + 1) a0 a1) := by
  intro a0 a1 k
  unfold crc_Holds.f
  repeat' first
      | (with_reducible exact crc_Sum.mono _ _)
      | (with_reducible exact LeO.refl _)
      | (with_reducible exact LeO.none _)
      | (with_reducible refine LeO.ite ?_ ?_)
      | (with_reducible refine LeO.bind ?_ (fun _ => ?_))
      | exact crc_Sum.mono _ _
      | exact LeO.none _
      | refine LeO.ite ?_ ?_
      | refine LeO.bind ?_ (fun _ => ?_)
set_option maxHeartbeats 8000000 in
set_option maxRecDepth 100000 in
theorem crc_Holds.calls (k : Nat) (P0_ : Nat → Prop) (A0 : Option Addr) (c0 : Nat) (l0 : List Int) (a1 : Int) (r : Bool) (w : World) (hs0 : Kd.V (Kd.int .u8) 5 w w.heap.size (fun k_ => P0_ k_) (.slice A0 l0.length c0) l0) (h : crc_Holds.f k l0 a1 = some r) :
    Calls Try.prog 12 #[.slice A0 l0.length c0, .int .u32 a1] w fun e w' => e = .returned (.bool r) ∧ Below w.heap.size w w' := by
  have HO0 := Aside0.mk (show Kd.V (Kd.int .u8) 5 w w.heap.size (fun k_ => (P0_ k_ ∨ w.heap.size ≤ k_)) (.slice A0 l0.length c0) l0 from Kd.V_mono hs0 (fun k_ hk => .inl hk))
  have HB := Aside0.mk (Below.refl w.heap.size w)
  have H : ((crc_Sum.f k (([l0] : List (List Int)))).bind fun t106 => (some (t106 == a1))) = some r := h
  clear h
  obtain ⟨y103, hy103⟩ : ∃ y_ : List (List Int), y_ = (([l0] : List (List Int))) := ⟨_, rfl⟩
  replace H : ((crc_Sum.f k y103).bind fun t106 => (some (t106 == a1))) = some r := by first | (rw [hy103]; with_reducible exact H) | (have H2_ := (Option.bind_some _ _).symm.trans H; rw [hy103]; with_reducible exact H2_) | (have H2_ := (Option.bind_some _ _).symm.trans H; with_reducible exact H2_) | with_reducible exact H | (rw [hy103]; exact H) | exact H
  have Ny103 := Aside0.mk hy103
  clear hy103
  replace H := Option.bind_eq_some_iff.mp H
  obtain ⟨t106, A30, H⟩ := H
  replace H : (some (t106 == a1)) = some r := H
  have A3 := Aside0.mk A30
  clear A30
  obtain rfl := Option.some.inj H
  go_enter Try.func12, Try.ntmps12
  go_wp2_with (first | ((with_reducible refine gate_dst (N := 6) rfl ?_); refine Kd.N_lit (Kd.slice 5 (Kd.int .u8)) _ 24 ?hg (N' := 6) ?hd (xs := ([l0] : List (List Int))) (inner := [.slice A0 l0.length c0]) (ok := (fun k_ => (P0_ k_ ∨ w.heap.size ≤ k_))) (okp := (fun k_ => (P0_ k_ ∨ w.heap.size ≤ k_))) ?hr ?hp (fun _ hk => hk) ((show ∀ k_, w.heap.size ≤ k_ → (fun k_ => (P0_ k_ ∨ w.heap.size ≤ k_)) k_ from fun k_ hk => (.inr (Nat.le_trans (below_size (by repeat (first | (with_reducible first | exact HB.out | apply below_alloc | apply pw_below_drewN | apply below_drew1) | exact HB.out))) hk))) _ (Nat.le_refl _)) (Below.refl _ _) (Nat.le_refl _) (by simp) ?_; (case hd => rfl); (case hg => rfl); (case hr => first | (go_simp; done) | (go_simp; rfl)); (case hp => exact (Reps.one (show Kd.FK (Kd.slice 5 (Kd.int .u8)) _ _ l0 [.slice A0 l0.length c0] from (Kd.FK_slice_mk (Kd.V_reads' (Kd.V_mono (ok' := (fun k_ => (P0_ k_ ∨ w.heap.size ≤ k_))) (HO0.out) (fun k_ hk => hk))).2.1 (Kd.V_F (Kd.V_mono (ok' := (fun k_ => (P0_ k_ ∨ w.heap.size ≤ k_))) (HO0.out) (fun k_ hk => hk))))) (Reps.none _ _))); intro v104 w4 ho5 hb hg_ hnew_; clear hg_ hnew_; (first | rw [← Ny103.out] at ho5 | (simp only [Int.reduceToNat] at ho5; rw [← Ny103.out] at ho5)); have n0_ := Aside0.mk (Kd.V_elder' (by (with_reducible repeat (first | apply Kd.V_alloc | apply Kd.V_drewN | apply Kd.V_drew)); exact HO0.out) (Kd.N_base ho5) hb); have n1_ := Aside0.mk (Kd.N_lower ho5 (below_size (by repeat (first | (with_reducible first | exact HB.out | apply below_alloc | apply pw_below_drewN | apply below_drew1) | exact HB.out)))); have n2_ := Aside0.mk (below_step (by repeat (first | (with_reducible first | exact HB.out | apply below_alloc | apply pw_below_drewN | apply below_drew1) | exact HB.out)) hb); clear HO0; clear HB; have HO0 := n0_; have HO105 := n1_; have HB := n2_; clear n0_ n1_ n2_; clear hb ho5; obtain ⟨Ao6, co6, eo6⟩ := Kd.N_slice HO105.out; subst eo6) | ((with_reducible refine gate_callee (f := 8) rfl ?_); refine goesL_ (some 7) rfl rfl Try.func8 (by kernel_rfl) rfl #[.slice Ao6 y103.length co6] rfl (by (try simp only [List.map_toArray, List.map_cons, List.map_nil]); first | done | rfl | (simp only [List.length_drop, List.length_take]; rfl)) ?_; (with_reducible refine (crc_Sum.calls k _ _ y103 t106 _ ?side1 ?side2 A3.out).mono ?_); (case side1 => repeat (first | exact (Kd.N_reads' HO105.out).2.2 | (with_reducible refine Kd.C_alloc ?_ _) | (with_reducible refine Kd.C_drewN ?_ _) | (with_reducible refine Kd.C_drew ?_))); (case side2 => exact (Kd.N_reads' HO105.out).2.1); rintro e w7 ⟨rfl, hb⟩; refine ⟨_, rfl, ?_⟩; have n0_ := Aside0.mk (Kd.V_below (by (with_reducible repeat (first | apply Kd.V_alloc | apply Kd.V_drewN | apply Kd.V_drew)); exact HO0.out) hb); have n1_ := Aside0.mk (Kd.N_below (by (with_reducible repeat (first | apply Kd.N_alloc | apply Kd.N_drewN | apply Kd.N_drew)); exact HO105.out) hb); have n2_ := Aside0.mk (below_step (by repeat (first | (with_reducible first | exact HB.out | apply below_alloc | apply pw_below_drewN | apply below_drew1) | exact HB.out)) hb); clear HO0; clear HO105; clear HB; have HO0 := n0_; have HO105 := n1_; have HB := n2_; clear n0_ n1_ n2_; (try clear hb); (try clear hb2); (try clear hk); (try clear hi)))
  go_ret
  exact ⟨by first | rfl | (simp [errW_none, errW_some] <;> rfl) | (simp [*, errW_none, errW_some] <;> rfl), by repeat (first | (with_reducible first | exact HB.out | apply below_alloc | apply pw_below_drewN | apply below_drew1) | exact HB.out)⟩

-- NOT PRINTED: function 22 (crc_square_of)

-- NOT PRINTED: function 23 (crc_square_twice)

/-! ### crc_far: function 20 -/
/-- What a word becomes, of the first i bits. -/
def ofN (xs : List Int) (x : Int) : Nat → Int
  | 0 => 0
  | i + 1 => Go.bits .xor .u32 (ofN xs x i) (xs[i]?.getD 0 * Go.bits .and .u32 (x / 2 ^ i) 1 % 4294967296)
set_option maxHeartbeats 4000000 in
set_option maxRecDepth 100000 in
theorem crc_square_of.walk (xs : List Int) (hx : xs.length = 32) (x : Int) (w : World) : Calls Try.prog 22 #[.agg (Arr.vs xs), .int .u32 x] w fun e w' => e = .returned (.int .u32 (ofN xs x 32)) ∧ Below w.heap.size w w' := by
  go_enter Try.func22, Try.ntmps22
  go_wp2
  have bx := Arr.Box.new w 45 xs
  have hB := (Below.refl _ w).alloc (Nat.le_refl _) (.cells (Arr.vs xs) 45)
  generalize w.alloc (.cells (Arr.vs xs) 45) = W0 at bx hB ⊢
  obtain ⟨g, hg⟩ : ∃ g, w.heap.size = g := ⟨_, rfl⟩
  rw [hg] at bx ⊢
  have hx' := Aside0.mk hx
  clear hg hx
  go_loopw [5, 7] (fun s v w' => ∃ i : Nat, i ≤ 32 ∧ v = .int .i64 i ∧ s = .int .u32 (ofN xs x i) ∧ Arr.Box w' g 45 xs ∧ Aside0 (Below w.heap.size w w')) (fun _ v _ => 32 - (intOf v).toNat)
  case atStart => exact ⟨0, by omega, rfl, rfl, bx, ⟨hB⟩⟩
  case round =>
    obtain ⟨i, hi, rfl, rfl, b1, hB'⟩ := hrel
    clear bx hB
    by_cases hlt : i < 32
    · have hc := b1.cell i (by rw [hx'.out]; exact hlt)
      have hf := b1.frozen i
      go_wp2
      go_quiet (fail)
      go_wp2
      exact ⟨⟨i + 1, by omega, by simp, rfl, b1.drewN _, ⟨by apply pw_below_drewN; exact hB'.out⟩⟩, by simp [intOf]; omega⟩
    · obtain rfl : i = 32 := by omega
      clear hlt hi
      go_wp2
      go_ret
      exact ⟨rfl, hB'.out⟩
/-- What a word becomes, closed to the walks. -/
noncomputable def ofV (xs : List Int) (x : Int) : Int := Classical.choose (⟨ofN xs x 32, rfl⟩ : ∃ v, v = ofN xs x 32)
theorem ofV_eq (xs : List Int) (x : Int) : ofV xs x = ofN xs x 32 := Classical.choose_spec (⟨ofN xs x 32, rfl⟩ : ∃ v, v = ofN xs x 32)
theorem crc_square_of.walkV (xs : List Int) (hx : xs.length = 32) (x : Int) (w : World) : Calls Try.prog 22 #[.agg (Arr.vs xs), .int .u32 x] w fun e w' => e = .returned (.int .u32 (ofV xs x)) ∧ Below w.heap.size w w' := by
  rw [ofV_eq]
  exact crc_square_of.walk xs hx x w
noncomputable def twS (xs : List Int) (n : Nat) : List Int := (List.range 32).map fun i : Nat => if i < n then ofV xs (xs.getD i 0) else 0
theorem twS_len (xs : List Int) (n : Nat) : (twS xs n).length = 32 := by simp [twS]
theorem twS_set (xs : List Int) (n : Nat) (hn : n < 32) : (twS xs n).set n (ofV xs (xs.getD n 0)) = twS xs (n + 1) := by
  apply List.ext_getElem?
  intro j
  simp only [twS, List.getElem?_set, List.length_map, List.length_range, List.getElem?_map]
  by_cases h : n = j
  · subst h
    simp [hn]
  · by_cases hj : j < 32
    · simp only [h, if_false, List.getElem?_range hj, Option.map_some]
      by_cases h2 : j < n
      · rw [if_pos h2, if_pos (by omega)]
      · rw [if_neg h2, if_neg (by omega)]
    · simp only [h, if_false]
      rw [List.getElem?_eq_none (by simp; omega)]
      rfl
theorem twS_zero (xs : List Int) : twS xs 0 = List.replicate 32 0 := by
  simp only [twS, Nat.not_lt_zero, if_false]
  rfl
def crc_square_twice.T5 : Bool × List (List Nat × List Nat) := (true, [([], []), ([], []), ([], []), ([2], [2]), ([3], [3]), ([1, 4], [1, 4]), ([0, 0, 1, 2, 3, 4, 5], [0]), ([6, 5, 5, 0, 1, 2, 3, 4, 5], [5, 6])])
def crc_square_twice.B5 : List Nat := [0, 0, 0, 4, 12, 30, 63, 127]
theorem crc_square_twice.tab5 : rtab .any (opsOf Try.f23 5) = crc_square_twice.T5 := by kernel_rfl
theorem crc_square_twice.bits5 : waitsOk crc_square_twice.T5.2 crc_square_twice.B5 = true := by kernel_rfl
set_option maxHeartbeats 8000000 in
set_option maxRecDepth 100000 in
theorem crc_square_twice.walk (xs : List Int) (hx : xs.length = 32) (w : World) : Calls Try.prog 23 #[.agg (Arr.vs xs)] w fun e w' => e = .returned (.agg (Arr.vs (twS xs 32))) ∧ Below w.heap.size w w' := by
  go_enter Try.func23, Try.ntmps23
  go_wp2_with (first | ((with_reducible refine gate_dst (N := 1) rfl ?_); refine box_event ?hg (N := 1) ?hd (cs := Arr.vs xs) (t := 45) ?hr ?_; (case hd => rfl); (case hg => rfl); (case hr => first | (go_simp; done) | (go_simp; rfl)); intro g1 hg w1 hbox hb; have HG1 := Aside0.mk hg; clear hg; have HX1 := Aside0.mk hbox; clear hbox; have HB1 := Aside0.mk hb; clear hb) | ((with_reducible refine gate_dst (N := 2) rfl ?_); refine box_event ?hg (N := 2) ?hd (cs := Arr.vs (List.replicate 32 0)) (t := 45) ?hr ?_; (case hd => rfl); (case hg => rfl); (case hr => first | (go_simp; done) | (go_simp; rfl)); intro g2 hg w2 hbox hb; have HG2 := Aside0.mk hg; clear hg; have HX2 := Aside0.mk hbox; clear hbox; have HB2 := Aside0.mk hb; clear hb) | ((with_reducible refine gate_dst (N := 3) rfl ?_); refine box_event ?hg (N := 3) ?hd (cs := Arr.vs (List.replicate 32 0)) (t := 45) ?hr ?_; (case hd => rfl); (case hg => rfl); (case hr => first | (go_simp; done) | (go_simp; rfl)); intro g3 hg w3 hbox hb; have HG3 := Aside0.mk hg; clear hg; have HX3 := Aside0.mk hbox; clear hbox; have HB3 := Aside0.mk hb; clear hb))
  have b1 : Arr.Box w3 g1 45 xs := Arr.Box.below (Arr.Box.below (xs := xs) HX1.out HB2.out) HB3.out
  have b2 : Arr.Box w3 g2 45 (List.replicate 32 0) := Arr.Box.below (xs := List.replicate 32 0) HX2.out HB3.out
  have b3 : Arr.Box w3 g3 45 (twS xs 0) := by rw [twS_zero]; exact HX3.out
  have hB : Below w.heap.size w w3 := below_step (below_step HB1.out HB2.out) HB3.out
  have G1 := Aside0.mk (show w.heap.size ≤ g1 by have := HG1.out; omega)
  have G2 := Aside0.mk (show w.heap.size ≤ g2 by have := HG2.out; have := HB1.out.size; omega)
  have G3 := Aside0.mk (show w.heap.size ≤ g3 by have := HG3.out; have := HB1.out.size; have := HB2.out.size; omega)
  have N12 := Aside0.mk (show g1 ≠ g2 by have := Arr.Box.lt (xs := xs) HX1.out; have := HG2.out; omega)
  have N13 := Aside0.mk (show g1 ≠ g3 by have := Arr.Box.lt (xs := xs) HX1.out; have := HG3.out; have := HB2.out.size; omega)
  have N23 := Aside0.mk (show g2 ≠ g3 by have := Arr.Box.lt (xs := List.replicate 32 0) HX2.out; have := HG3.out; omega)
  clear HX1 HX2 HX3 HB1 HB2 HB3 HG1 HG2 HG3
  have hx' := Aside0.mk hx
  clear hx
  go_loopw [5] (fun v w' => ∃ i : Nat, i ≤ 32 ∧ v = .int .i64 i ∧ Aside0 (Arr.Box w' g1 45 xs) ∧ Aside0 (Arr.Box w' g2 45 (List.replicate 32 0)) ∧ Aside0 (Arr.Box w' g3 45 (twS xs i)) ∧ Aside0 (Below w.heap.size w w')) (fun v _ => 32 - (intOf v).toNat)
  case atStart => exact ⟨0, by omega, rfl, ⟨b1⟩, ⟨b2⟩, ⟨b3⟩, ⟨hB⟩⟩
  case round =>
    obtain ⟨i, hi, rfl, c1, c2, c3, hB'⟩ := hrel
    clear b1 b2 b3 hB
    by_cases hlt : i < 32
    · go_upto_region 5 with (fail)
      refine start_ (n := 8) (S := fun w' => Arr.Box w' g1 45 xs) (ds := [7]) #[false, false, false, false, false, false, false, false] (by kernel_rfl) rfl rfl c1.out.drew (fun hHeld => ?_)
      refine with_tabW crc_square_twice.tab5 crc_square_twice.bits5 (fun HT_ HW_ => ?_)
      have d1 := Aside0.mk c1.out.drew
      have d2 := Aside0.mk c2.out.drew
      have d3 := Aside0.mk c3.out.drew
      have dB := Aside0.mk (below_drew1 hB'.out)
      clear c1 c2 c3 hB'
      generalize wr.drew = w5 at d1 d2 d3 dB hHeld ⊢
      refine pure_ (i := 0) (N := some 8) (v := ?_) (a' := ?_) #[true, false, false, false, false, false, false, false] rfl rfl (any_of HT_.out (by kernel_rfl)) (fun _ _ _ h => h) (Or.inl ⟨by rfl, ?_⟩) ?_ ?_
      rotate_left
      · intro w'
        go_simp
        with_reducible rfl
      rotate_left
      · simp only [Act.put, List.setIfInBounds_toArray, List.set_cons_zero, List.set_cons_succ, i64_w, i32_w]
        rfl
      refine take_ (i := 1) (N := some 9) (v := ?_) (a' := ?_) #[true, true, false, false, false, false, false, false] rfl rfl (take_ofW HT_.out HW_.out (by kernel_rfl)) (fun _ _ _ h => h) (Or.inl ⟨by rfl, ?_⟩) hHeld ?_ ?_
      rotate_left
      · intro w' hS
        refine Arr.Box.load hS (x := .tmp 1) ?_ (by rw [hx'.out]; exact Arr.info45) Arr.agg45 ?_ <;> rfl
      rotate_left
      · simp only [Act.put, List.setIfInBounds_toArray, List.set_cons_zero, List.set_cons_succ, i64_w, i32_w]
        rfl
      refine pure_ (i := 2) (N := some 10) (v := ?_) (a' := ?_) #[true, true, true, false, false, false, false, false] rfl rfl (any_of HT_.out (by kernel_rfl)) (fun _ _ _ h => h) (Or.inl ⟨by rfl, ?_⟩) ?_ ?_
      rotate_left
      · intro w'
        go_simp
        with_reducible rfl
      rotate_left
      · simp only [Act.put, List.setIfInBounds_toArray, List.set_cons_zero, List.set_cons_succ, i64_w, i32_w]
        rfl
      refine pure_ (i := 3) (N := some 11) (v := ?_) (a' := ?_) #[true, true, true, true, false, false, false, false] rfl rfl (any_of HT_.out (by kernel_rfl)) (fun _ _ _ h => h) (Or.inl ⟨by rfl, ?_⟩) ?_ ?_
      rotate_left
      · intro w'
        go_simp
        with_reducible rfl
      rotate_left
      · simp only [Act.put, List.setIfInBounds_toArray, List.set_cons_zero, List.set_cons_succ, i64_w, i32_w]
        rfl
      refine take_ (i := 4) (N := some 12) (v := ?_) (a' := ?_) #[true, true, true, true, true, false, false, false] rfl rfl (take_ofW HT_.out HW_.out (by kernel_rfl)) (fun _ _ _ h => h) (Or.inl ⟨by rfl, ?_⟩) hHeld ?_ ?_
      rotate_left
      · intro w' hS
        have hc := Arr.Box.cell hS i (by rw [hx'.out]; exact hlt)
        clear hS
        go_simp
        with_reducible rfl
      rotate_left
      · simp only [Act.put, List.setIfInBounds_toArray, List.set_cons_zero, List.set_cons_succ, i64_w, i32_w]
        rfl
      refine one_ (i := 5) (N := some 13) #[true, true, true, true, true, true, false, false] rfl rfl (one_of HT_.out (by kernel_rfl)) (by decide) (fun K hK => ?_)
      refine goes_ Try.func22 (by kernel_rfl) rfl #[.agg (Arr.vs xs), .int .u32 (xs[i]?.getD 0)] (by rfl) rfl rfl (by (try simp only [List.map_toArray, List.map_cons, List.map_nil]); first | done | rfl) ?_
      with_reducible refine (crc_square_of.walkV xs hx'.out (xs[i]?.getD 0) _).mono ?_
      rintro e w6 ⟨rfl, hb⟩
      refine ⟨_, rfl, ?_⟩
      have e1 := Aside0.mk (d1.out.below hb)
      have e2 := Aside0.mk (d2.out.below hb)
      have e3 := Aside0.mk (d3.out.below hb)
      have eB := Aside0.mk (below_step dB.out hb)
      clear d1 d2 d3 dB hb
      refine hK.out _ _ e1.out (fun hHeld => ?_)
      clear hK K
      refine norm_ (a' := ?_) ?_ ?_
      rotate_left
      · show Act.put _ (some 13) _ = _
        simp only [Act.put, List.setIfInBounds_toArray, List.set_cons_zero, List.set_cons_succ, i64_w, i32_w]
        rfl
      refine pure_ (i := 6) (N := some 14) (v := ?_) (a' := ?_) #[true, true, true, true, true, true, true, false] rfl rfl (any_of HT_.out (by kernel_rfl)) (fun _ _ _ h => h) (Or.inl ⟨by rfl, ?_⟩) ?_ ?_
      rotate_left
      · intro w'
        go_simp
        with_reducible rfl
      rotate_left
      · simp only [Act.put, List.setIfInBounds_toArray, List.set_cons_zero, List.set_cons_succ, i64_w, i32_w]
        rfl
      refine last_ (i := 7) (N := none) #[true, true, true, true, true, true, true, true] rfl rfl (one_of HT_.out (by kernel_rfl)) (by decide) (fun K hK => ?_)
      have hs := e3.out.cell i (by rw [twS_len]; exact hlt)
      have hf := e3.out.frozen i
      refine skip_ (w1 := ?_) (by rfl) rfl ?_ ?_
      rotate_left
      · go_simp
        rfl
      refine hK.out _ _ ?_
      clear hK K
      refine done_ (done_of HT_.out (by kernel_rfl)) ?_
      try go_wp2
      have es : xs[i]?.getD 0 = xs.getD i 0 := by simp [List.getD]
      exact ⟨⟨i + 1, by omega, by simp, ⟨e1.out.far N13.out _⟩, ⟨e2.out.far N23.out _⟩, ⟨by rw [es, ← twS_set xs i hlt]; exact e3.out.set i _⟩, ⟨below_set eB.out G3.out⟩⟩, by simp [intOf]; omega⟩
    · obtain rfl : i = 32 := by omega
      clear hlt hi
      go_wp2_with (first | ((with_reducible refine gate_dst (N := 16) rfl ?_); refine Kd.event_run rfl (Arr.Box.load c3.out rfl (by rw [twS_len]; exact Arr.info45) Arr.agg45 rfl) ?_) | (refine Arr.event_skip rfl (Arr.Box.store (xs := List.replicate 32 0) c2.out (ys := twS xs 32) ?_ (x := .tmp 2) (y := .tmp 16) ?_ ?_ ?_ ?_) ?_; (exact twS_len xs 32); rfl; (exact Arr.info45); rfl; rfl))
      have hsz : (Try.prog.info? 45).map (·.size) = some (Arr.vs (twS xs 32)).size := by rw [show (Arr.vs (twS xs 32)).size = 32 by simp [Arr.vs, twS_len]]; kernel_rfl
      refine bodyPost_ret (results_cell_row (p := 2) (ty := 45) ?_ _ _ g2 45 (Arr.vs (twS xs 32)) (0, 0) _ ?_ (Arr.Box.stored (xs := List.replicate 32 0) c2.out (twS_len xs 32)) Try.underlying45 rfl hsz) ?_ ?_
      · rfl
      · rfl
      · rfl
      · exact ⟨rfl, Arr.below_stored hB'.out G2.out _⟩
noncomputable def m0S (n : Nat) : List Int := (List.range 32).map fun i : Nat => if i < n then runN [0] (2 ^ i % 4294967296) 1 else 0
theorem m0S_len (n : Nat) : (m0S n).length = 32 := by simp [m0S]
theorem m0S_set (n : Nat) (hn : n < 32) : (m0S n).set n (runN [0] (2 ^ n % 4294967296) 1) = m0S (n + 1) := by
  apply List.ext_getElem?
  intro j
  simp only [m0S, List.getElem?_set, List.length_map, List.length_range, List.getElem?_map]
  by_cases h : n = j
  · subst h
    simp [hn]
  · by_cases hj : j < 32
    · simp only [h, if_false, List.getElem?_range hj, Option.map_some]
      by_cases h2 : j < n
      · rw [if_pos h2, if_pos (by omega)]
      · rw [if_neg h2, if_neg (by omega)]
    · simp only [h, if_false]
      rw [List.getElem?_eq_none (by simp; omega)]
      rfl
theorem m0S_zero : m0S 0 = List.replicate 32 0 := by
  simp only [m0S, Nat.not_lt_zero, if_false]
  rfl
noncomputable def farN : Nat → List Int → Int → Nat → Int
  | 0, _, s, _ => s
  | k + 1, m, s, n => if 0 < n then farN k (twS m 32) (if n % 2 = 1 then ofV m s else s) (n / 2) else s
noncomputable def crc_far.f (a0 : Int) (a1 : Int) : Option Int := if a1 < 9223372036854775808 then some (farN 64 (m0S 32) a0 a1.toNat) else none
theorem one_C (w : World) (t : TypeId) : Kd.C (Kd.int .u8) (w.alloc (.cells #[.int .u8 0] t)) (some ⟨w.heap.size, 0, none⟩) ([0] : List Int).length [0] := by
  refine ⟨rfl, by decide, fun _ => ⟨_, rfl, fun j p hj => ⟨[.int .u8 p], rfl, rfl, fun i u hu => ?_⟩⟩⟩
  have hc := blk_cell (blk_new w (.cells #[.int .u8 0] t)) 0
  match j, hj with
  | 0, hj =>
    simp only [List.getElem?_cons_zero, Option.some.injEq] at hj
    subst hj
    match i, hu with
    | 0, hu =>
      simp only [List.getElem?_cons_zero, Option.some.injEq] at hu
      subst hu
      simp [Addr.add]
    | i + 1, hu => simp at hu
  | j + 1, hj => simp at hj
theorem and1 (z : Int) (h0 : 0 ≤ z) (h1 : z < 9223372036854775808) : Go.bits .and .i64 z 1 = z % 2 := by
  obtain ⟨n, rfl⟩ := Int.eq_ofNat_of_zero_le h0
  have e : (BitVec.ofInt 64 (n : Int) &&& BitVec.ofInt 64 1).toNat = n % 2 := by
    rw [BitVec.toNat_and]
    simp only [BitVec.toNat_ofInt]
    rw [show ((n : Int) % ((2 ^ 64 : Nat) : Int)).toNat = n by omega, show ((1 : Int) % ((2 ^ 64 : Nat) : Int)).toNat = 1 by decide, Nat.and_one_is_mod]
  unfold Go.bits
  show IntKind.wrap .i64 (((BitVec.ofInt 64 (n : Int) &&& BitVec.ofInt 64 1).toNat : Nat) : Int) = _
  rw [e]
  unfold IntKind.wrap
  simp [IntKind.bits, IntKind.signed]
  omega
set_option maxHeartbeats 8000000 in
set_option maxRecDepth 100000 in
theorem crc_far.calls (a0 : Int) (a1 : Int) (r : Int) (w : World) (h : crc_far.f a0 a1 = some r) :
    Calls Try.prog 20 #[.int .u32 a0, .int .i64 a1] w fun e w' => e = .returned (.int .u32 r) ∧ Below w.heap.size w w' := by
  unfold crc_far.f at h
  by_cases hw : a1 < 9223372036854775808
  rotate_left
  · rw [if_neg hw] at h
    cases h
  rw [if_pos hw] at h
  obtain rfl := Option.some.inj h
  clear h
  have hw' := Aside0.mk hw
  clear hw
  go_enter Try.func20, Try.ntmps20
  go_wp2_with (first | ((with_reducible refine gate_dst (N := 5) rfl ?_); refine box_event ?hg (N := 5) ?hd (cs := Arr.vs (List.replicate 32 0)) (t := 45) ?hr ?_; (case hd => rfl); (case hg => rfl); (case hr => first | (go_simp; done) | (go_simp; rfl)); intro g hg w1 hbox hb; have HG := Aside0.mk hg; clear hg; have HX := Aside0.mk hbox; clear hbox; have HB := Aside0.mk hb; clear hb))
  have b : Arr.Box w1 g 45 (m0S 0) := by rw [m0S_zero]; exact HX.out
  have hB : Below w.heap.size w w1 := HB.out
  have G := Aside0.mk (show w.heap.size ≤ g by have := HG.out; omega)
  clear HX HB HG
  go_loopw [7] (fun v w' => ∃ i : Nat, i ≤ 32 ∧ v = .int .i64 i ∧ Aside0 (Arr.Box w' g 45 (m0S i)) ∧ Aside0 (Below w.heap.size w w')) (fun v _ => 32 - (intOf v).toNat)
  case atStart => exact ⟨0, by omega, rfl, ⟨b⟩, ⟨hB⟩⟩
  case round =>
    obtain ⟨i, hi, rfl, c, hB'⟩ := hrel
    clear b hB
    by_cases hlt : i < 32
    · go_upto_region 5 with (fail)
      go_wp2_with (first | (go_at_call 17; refine (crc_run.calls (2 ^ i % 4294967296) (some ⟨wr.heap.size, 0, none⟩) 1 [0] (runN [0] (2 ^ i % 4294967296) 1) _ (one_C wr 5) (by decide) rfl).mono ?_; rintro e w2 ⟨rfl, hb⟩; have e1 := Aside0.mk ((c.out.alloc _).below hb); have eB := Aside0.mk (below_step (below_alloc hB'.out _) hb); clear hb c hB'; have hs := e1.out.cell i (by rw [m0S_len]; exact hlt); have hf := e1.out.frozen i))
      exact ⟨⟨i + 1, by omega, by simp, ⟨by rw [← m0S_set i hlt]; exact e1.out.set i _⟩, ⟨below_set eB.out G.out⟩⟩, by simp [intOf]; omega⟩
    · obtain rfl : i = 32 := by omega
      clear hlt hi
      go_wp2
      go_loopw [0, 1] (fun v0 v1 w' => ∃ (k : Nat) (m : List Int) (s z : Int), v0 = .int .u32 s ∧ v1 = .int .i64 z ∧ Aside0 (Arr.Box w' g 45 m) ∧ Aside0 (m.length = 32) ∧ Aside0 (z < 2 ^ k ∧ z < 9223372036854775808) ∧ Aside0 (farN k m s z.toNat = farN 64 (m0S 32) a0 a1.toNat) ∧ Aside0 (Below w.heap.size w w')) (fun _ v _ => (intOf v).toNat)
      case atStart => exact ⟨64, m0S 32, a0, a1, rfl, rfl, c, ⟨m0S_len 32⟩, ⟨by have := hw'.out; omega, hw'.out⟩, ⟨rfl⟩, hB'⟩
      case round =>
        obtain ⟨k, m, s, z, rfl, rfl, cb, hm, hz, hf, cB⟩ := hrel
        clear c hB'
        by_cases hp : 0 < z
        · have hk : 0 < k := by
            rcases Nat.eq_zero_or_pos k with rfl | h
            · have := hz.out.1; simp at this; omega
            · exact h
          obtain ⟨k, rfl⟩ : ∃ k', k = k' + 1 := ⟨k - 1, by omega⟩
          have hpz := Aside0.mk hp
          have ha := and1 z (by omega) hz.out.2
          have hd : decide (z > 0) = true := decide_eq_true hp
          have hst : farN k (twS m 32) (if z % 2 = 1 then ofV m s else s) (z / 2).toNat = farN 64 (m0S 32) a0 a1.toNat := by
            have key : farN (k + 1) m s z.toNat = farN k (twS m 32) (if z.toNat % 2 = 1 then ofV m s else s) (z.toNat / 2) := by
              rw [farN, if_pos (by omega)]
            rw [← hf.out, key, show (z / 2).toNat = z.toNat / 2 by omega]
            by_cases h1 : z % 2 = 1
            · have h2 : z.toNat % 2 = 1 := by omega
              simp only [h1, h2, if_true]
            · have h2 : ¬ z.toNat % 2 = 1 := by omega
              simp only [h1, h2, if_false]
          have hst' := Aside0.mk hst
          clear hf hst hk
          by_cases hb : z % 2 = 1
          · have hbb : (z % 2 == 1) = true := beq_iff_eq.mpr hb
            have hst1 := Aside0.mk (show farN k (twS m 32) (ofV m s) (z / 2).toNat = farN 64 (m0S 32) a0 a1.toNat by have h := hst'.out; rwa [if_pos hb] at h)
            clear hp hst'
            go_wp2_with (first | ((with_reducible refine gate_dst (N := 24) rfl ?_); refine Kd.event_run rfl (Arr.Box.load cb.out (x := .tmp 5) ?_ ?_ Arr.agg45 ?_) ?_; rfl; (rw [hm.out]; exact Arr.info45); rfl) | (go_at_call 22; refine (crc_square_of.walkV m hm.out s _).mono ?_; rintro e w1_ ⟨rfl, hb1⟩; have n0 := Aside0.mk (cb.out.below hb1); have n1 := Aside0.mk (below_step cB.out hb1); clear cb cB hb1; have cb := n0; have cB := n1; clear n0 n1) | ((with_reducible refine gate_dst (N := 27) rfl ?_); refine Kd.event_run rfl (Arr.Box.load cb.out (x := .tmp 5) ?_ ?_ Arr.agg45 ?_) ?_; rfl; (rw [hm.out]; exact Arr.info45); rfl) | (go_at_call 23; refine (crc_square_twice.walk m hm.out _).mono ?_; rintro e w1_ ⟨rfl, hb1⟩; have n0 := Aside0.mk (cb.out.below hb1); have n1 := Aside0.mk (below_step cB.out hb1); clear cb cB hb1; have cb := n0; have cB := n1; clear n0 n1) | (refine Arr.event_skip rfl (Arr.Box.store cb.out (ys := twS m 32) ?_ (x := .tmp 5) (y := .tmp 28) ?_ ?_ ?_ ?_) ?_; (rw [twS_len, hm.out]); rfl; (rw [hm.out]; exact Arr.info45); rfl; rfl; have n0 := Aside0.mk (Arr.Box.stored cb.out (ys := twS m 32) (by rw [twS_len, hm.out])); have n1 := Aside0.mk (Arr.below_stored cB.out G.out ((twS m 32).map (Value.int .u32))); clear cb cB; have cb := n0; have cB := n1; clear n0 n1; clear ha hb hbb hd))
            refine ⟨?_, by have := hpz.out; simp [intOf]; omega⟩
            repeat apply Exists.intro
            exact ⟨⟨k, twS m 32, ofV m s, z / 2, rfl, rfl, cb, ⟨twS_len m 32⟩, ⟨by have h1 := hz.out.1; have h2 := hpz.out; rw [Int.pow_succ] at h1; omega, by have := hz.out.2; have h2 := hpz.out; omega⟩, hst1, cB⟩, rfl⟩
          · have hbb : (z % 2 == 1) = false := beq_eq_false_iff_ne.mpr hb
            have hst1 := Aside0.mk (show farN k (twS m 32) s (z / 2).toNat = farN 64 (m0S 32) a0 a1.toNat by have h := hst'.out; rwa [if_neg hb] at h)
            clear hp hst'
            go_wp2_with (first | ((with_reducible refine gate_dst (N := 24) rfl ?_); refine Kd.event_run rfl (Arr.Box.load cb.out (x := .tmp 5) ?_ ?_ Arr.agg45 ?_) ?_; rfl; (rw [hm.out]; exact Arr.info45); rfl) | (go_at_call 22; refine (crc_square_of.walkV m hm.out s _).mono ?_; rintro e w1_ ⟨rfl, hb1⟩; have n0 := Aside0.mk (cb.out.below hb1); have n1 := Aside0.mk (below_step cB.out hb1); clear cb cB hb1; have cb := n0; have cB := n1; clear n0 n1) | ((with_reducible refine gate_dst (N := 27) rfl ?_); refine Kd.event_run rfl (Arr.Box.load cb.out (x := .tmp 5) ?_ ?_ Arr.agg45 ?_) ?_; rfl; (rw [hm.out]; exact Arr.info45); rfl) | (go_at_call 23; refine (crc_square_twice.walk m hm.out _).mono ?_; rintro e w1_ ⟨rfl, hb1⟩; have n0 := Aside0.mk (cb.out.below hb1); have n1 := Aside0.mk (below_step cB.out hb1); clear cb cB hb1; have cb := n0; have cB := n1; clear n0 n1) | (refine Arr.event_skip rfl (Arr.Box.store cb.out (ys := twS m 32) ?_ (x := .tmp 5) (y := .tmp 28) ?_ ?_ ?_ ?_) ?_; (rw [twS_len, hm.out]); rfl; (rw [hm.out]; exact Arr.info45); rfl; rfl; have n0 := Aside0.mk (Arr.Box.stored cb.out (ys := twS m 32) (by rw [twS_len, hm.out])); have n1 := Aside0.mk (Arr.below_stored cB.out G.out ((twS m 32).map (Value.int .u32))); clear cb cB; have cb := n0; have cB := n1; clear n0 n1; clear ha hb hbb hd))
            refine ⟨?_, by have := hpz.out; simp [intOf]; omega⟩
            repeat apply Exists.intro
            exact ⟨⟨k, twS m 32, s, z / 2, rfl, rfl, cb, ⟨twS_len m 32⟩, ⟨by have h1 := hz.out.1; have h2 := hpz.out; rw [Int.pow_succ] at h1; omega, by have := hz.out.2; have h2 := hpz.out; omega⟩, hst1, cB⟩, rfl⟩
        · have hd : decide (z > 0) = false := decide_eq_false hp
          have he : s = farN 64 (m0S 32) a0 a1.toNat := by
            rw [← hf.out, show z.toNat = 0 by omega]
            cases k <;> simp [farN]
          clear hf
          go_wp2
          go_ret
          exact ⟨rfl, cB.out⟩

/-! ### crc_Zeros: function 14 -/
noncomputable def crc_Zeros.f (a0 : Int) (a1 : Int) : Option Int := (crc_far.f (not32 a0) a1).bind fun r => some (not32 r)
theorem crc_Zeros.calls (a0 : Int) (a1 : Int) (r : Int) (w : World) (h : crc_Zeros.f a0 a1 = some r) :
    Calls Try.prog 14 #[.int .u32 a0, .int .i64 a1] w fun e w' => e = .returned (.int .u32 r) ∧ Below w.heap.size w w' := by
  obtain ⟨q, hq, h2⟩ := Option.bind_eq_some_iff.mp h
  obtain rfl := Option.some.inj h2
  clear h h2
  go_enter Try.func14, Try.ntmps14
  go_wp2_with (first | (go_at_call 20; refine (crc_far.calls (not32 a0) a1 q _ hq).mono ?_; rintro e w2 ⟨rfl, hb⟩))
  go_ret
  exact ⟨rfl, hb⟩

/-! ### crc_Join: function 16 -/
noncomputable def crc_Join.f (a0 : Int) (a1 : Int) (a2 : Int) : Option (Int) := (crc_far.f a0 a2).bind fun t107 => (some (Go.bits .xor .u32 t107 a1))
set_option maxHeartbeats 8000000 in
set_option maxRecDepth 100000 in
theorem crc_Join.calls (a0 : Int) (a1 : Int) (a2 : Int) (r : Int) (w : World) (h : crc_Join.f a0 a1 a2 = some r) :
    Calls Try.prog 16 #[.int .u32 a0, .int .u32 a1, .int .i64 a2] w fun e w' => e = .returned (.int .u32 r) ∧ Below w.heap.size w w' := by
  have HB := Aside0.mk (Below.refl w.heap.size w)
  have H : ((crc_far.f a0 a2).bind fun t107 => (some (Go.bits .xor .u32 t107 a1))) = some r := h
  clear h
  replace H := Option.bind_eq_some_iff.mp H
  obtain ⟨t107, A40, H⟩ := H
  replace H : (some (Go.bits .xor .u32 t107 a1)) = some r := H
  have A4 := Aside0.mk A40
  clear A40
  obtain rfl := Option.some.inj H
  go_enter Try.func16, Try.ntmps16
  go_wp2_with (first | ((with_reducible refine gate_callee (f := 20) rfl ?_); refine goesL_ (some 9) rfl rfl Try.func20 (by kernel_rfl) rfl #[.int .u32 a0, .int .i64 a2] rfl (by (try simp only [List.map_toArray, List.map_cons, List.map_nil]); first | done | rfl | (simp only [List.length_drop, List.length_take]; rfl)) ?_; (with_reducible refine (crc_far.calls a0 a2 t107 _ A4.out).mono ?_); rintro e w5 ⟨rfl, hb⟩; refine ⟨_, rfl, ?_⟩; have n0_ := Aside0.mk (below_step (by repeat (first | (with_reducible first | exact HB.out | apply below_alloc | apply pw_below_drewN | apply below_drew1) | exact HB.out)) hb); clear HB; have HB := n0_; clear n0_; (try clear hb); (try clear hb2); (try clear hk); (try clear hi)))
  go_ret
  exact ⟨by first | rfl | (simp [errW_none, errW_some] <;> rfl) | (simp [*, errW_none, errW_some] <;> rfl), by repeat (first | (with_reducible first | exact HB.out | apply below_alloc | apply pw_below_drewN | apply below_drew1) | exact HB.out)⟩

/-! ### garnerlaw02_known: function 7 -/
/-- What the chapter's rows ask. -/
def knownP (k : Nat) : Prop := crc_Sum.f k [] = some 0 ∧ crc_Sum.f k [[49, 50, 51, 52], [53, 54, 55, 56, 57]] = some 3808858755 ∧ (∃ s, crc_Sum.f k [[49, 50, 51, 52, 53]] = some s ∧ crc_More.f s [54, 55, 56, 57] = some 3808858755) ∧ crc_Zeros.f 0 4 = some 1214729159 ∧ crc_Zeros.f 7 (-3) = some 7 ∧ crc_Join.f 9 0 0 = some 9 ∧ crc_Holds.f k [97] 3251651376 = some true
open Classical in
noncomputable def garnerlaw02_known.f (k : Nat) : Option Bool := if knownP k then some true else none
theorem garnerlaw02_known.mono : ∀ k, LeO (garnerlaw02_known.f k) (garnerlaw02_known.f (k + 1)) := by
  intro k r h
  unfold garnerlaw02_known.f at h ⊢
  by_cases hp : knownP k
  · rw [if_pos hp] at h
    obtain ⟨h1, h2, ⟨s, h3, h4⟩, h5, h6, h7, h8⟩ := hp
    rw [if_pos ⟨crc_Sum.mono _ _ _ h1, crc_Sum.mono _ _ _ h2, ⟨s, crc_Sum.mono _ _ _ h3, h4⟩, h5, h6, h7, crc_Holds.mono _ _ _ _ h8⟩]
    exact h
  · rw [if_neg hp] at h
    cases h
theorem known_rows2 {w : World} {A B : Option Addr} {c d : Nat} {x y : List Int} (hx : Kd.C (Kd.int .u8) w A x.length x) (hxc : x.length ≤ c) (hy : Kd.C (Kd.int .u8) w B y.length y) (hyd : y.length ≤ d) (t : TypeId) :
    Kd.C (Kd.slice 5 (Kd.int .u8)) (w.alloc (.cells #[.slice A x.length c, .slice B y.length d] t)) (some ⟨w.heap.size, 0, none⟩) ([x, y] : List (List Int)).length [x, y] := by
  have hb := below_alloc (Below.refl w.heap.size w) (.cells #[.slice A x.length c, .slice B y.length d] t)
  have hn := blk_new w (.cells #[.slice A x.length c, .slice B y.length d] t)
  refine ⟨rfl, by simp, fun _ => ⟨_, rfl, fun j p hj => ?_⟩⟩
  match j, hj with
  | 0, hj =>
    simp only [List.getElem?_cons_zero, Option.some.injEq] at hj
    subst hj
    refine ⟨[.slice A x.length c], rfl, ⟨A, c, rfl, hxc, Kd.C_below hx hb⟩, fun i u hu => ?_⟩
    match i, hu with
    | 0, hu =>
      simp only [List.getElem?_cons_zero, Option.some.injEq] at hu
      subst hu
      exact (blk_cell hn 0).trans rfl
    | i + 1, hu => simp at hu
  | 1, hj =>
    simp only [List.getElem?_cons_succ, List.getElem?_cons_zero, Option.some.injEq] at hj
    subst hj
    refine ⟨[.slice B y.length d], rfl, ⟨B, d, rfl, hyd, Kd.C_below hy hb⟩, fun i u hu => ?_⟩
    match i, hu with
    | 0, hu =>
      simp only [List.getElem?_cons_zero, Option.some.injEq] at hu
      subst hu
      exact (blk_cell hn 1).trans rfl
    | i + 1, hu => simp at hu
  | j + 2, hj => simp at hj
theorem known_rows1 {w : World} {A : Option Addr} {c : Nat} {x : List Int} (hx : Kd.C (Kd.int .u8) w A x.length x) (hxc : x.length ≤ c) (t : TypeId) :
    Kd.C (Kd.slice 5 (Kd.int .u8)) (w.alloc (.cells #[.slice A x.length c] t)) (some ⟨w.heap.size, 0, none⟩) ([x] : List (List Int)).length [x] := by
  have hb := below_alloc (Below.refl w.heap.size w) (.cells #[.slice A x.length c] t)
  have hn := blk_new w (.cells #[.slice A x.length c] t)
  refine ⟨rfl, by simp, fun _ => ⟨_, rfl, fun j p hj => ?_⟩⟩
  match j, hj with
  | 0, hj =>
    simp only [List.getElem?_cons_zero, Option.some.injEq] at hj
    subst hj
    refine ⟨[.slice A x.length c], rfl, ⟨A, c, rfl, hxc, Kd.C_below hx hb⟩, fun i u hu => ?_⟩
    match i, hu with
    | 0, hu =>
      simp only [List.getElem?_cons_zero, Option.some.injEq] at hu
      subst hu
      exact (blk_cell hn 0).trans rfl
    | i + 1, hu => simp at hu
  | j + 1, hj => simp at hj
theorem known_S0 {k : Nat} (h : crc_Sum.f k [] = some 0) (w : World) : Calls Try.prog 8 #[.slice none 0 0] w fun e w' => e = .returned (.int .u32 0) ∧ Below w.heap.size w w' :=
  crc_Sum.calls k none 0 [] 0 w ⟨rfl, by decide, fun h => absurd h (by decide)⟩ (by decide) h
theorem known_S2 {k : Nat} (h : crc_Sum.f k [[49, 50, 51, 52], [53, 54, 55, 56, 57]] = some 3808858755) {w : World} {A B : Option Addr} {c d : Nat} (hx : Lits.Lit 5 w (.slice A 4 c) [49, 50, 51, 52]) (hy : Lits.Lit 5 w (.slice B 5 d) [53, 54, 55, 56, 57]) :
    Calls Try.prog 8 #[.slice (some ⟨w.heap.size, 0, none⟩) 2 2] (w.alloc (.cells #[.slice A 4 c, .slice B 5 d] 24)) fun e w' => e = .returned (.int .u32 3808858755) ∧ Below (w.alloc (.cells #[.slice A 4 c, .slice B 5 d] 24)).heap.size (w.alloc (.cells #[.slice A 4 c, .slice B 5 d] 24)) w' :=
  crc_Sum.calls k _ 2 [[49, 50, 51, 52], [53, 54, 55, 56, 57]] 3808858755 _ (known_rows2 (x := [49, 50, 51, 52]) (y := [53, 54, 55, 56, 57]) (Lits.lit_reads hx).2.2 (Lits.lit_reads hx).2.1 (Lits.lit_reads hy).2.2 (Lits.lit_reads hy).2.1 24) (by decide) h
theorem known_S1 {k : Nat} {s : Int} (h : crc_Sum.f k [[49, 50, 51, 52, 53]] = some s) {w : World} {A : Option Addr} {c : Nat} (hx : Lits.Lit 5 w (.slice A 5 c) [49, 50, 51, 52, 53]) :
    Calls Try.prog 8 #[.slice (some ⟨w.heap.size, 0, none⟩) 1 1] (w.alloc (.cells #[.slice A 5 c] 24)) fun e w' => e = .returned (.int .u32 s) ∧ Below (w.alloc (.cells #[.slice A 5 c] 24)).heap.size (w.alloc (.cells #[.slice A 5 c] 24)) w' :=
  crc_Sum.calls k _ 1 [[49, 50, 51, 52, 53]] s _ (known_rows1 (x := [49, 50, 51, 52, 53]) (Lits.lit_reads hx).2.2 (Lits.lit_reads hx).2.1 24) (by decide) h
theorem known_M {s : Int} (h : crc_More.f s [54, 55, 56, 57] = some 3808858755) {w : World} {A : Option Addr} {c : Nat} (hx : Lits.Lit 5 w (.slice A 4 c) [54, 55, 56, 57]) :
    Calls Try.prog 10 #[.int .u32 s, .slice A 4 c] w fun e w' => e = .returned (.int .u32 3808858755) ∧ Below w.heap.size w w' :=
  crc_More.calls s A c [54, 55, 56, 57] 3808858755 _ (Lits.lit_reads hx).2.2 (Lits.lit_reads hx).2.1 h
theorem known_H {k : Nat} (h : crc_Holds.f k [97] 3251651376 = some true) {w : World} {A : Option Addr} {c : Nat} (hx : Lits.Lit 5 w (.slice A 1 c) [97]) :
    Calls Try.prog 12 #[.slice A 1 c, .int .u32 3251651376] w fun e w' => e = .returned (.bool true) ∧ Below w.heap.size w w' :=
  crc_Holds.calls k (fun _ => True) A c [97] 3251651376 true _ (Kd.V_mk (Lits.lit_reads hx).2.1 (fun W' hW => by obtain ⟨g, hv, hg, hm⟩ := hx; exact (Lits.lit_reads (w := W') ⟨g, hv, (hW g trivial (blk_lt hg)).trans hg, hm⟩).2.2)) h
set_option maxHeartbeats 8000000 in
set_option maxRecDepth 100000 in
theorem garnerlaw02_known.calls (k : Nat) (r : Bool) (w : World) (h : garnerlaw02_known.f k = some r) :
    Calls Try.prog 7 #[] w fun e w' => e = .returned (.bool r) ∧ Below w.heap.size w w' := by
  unfold garnerlaw02_known.f at h
  by_cases hp : knownP k
  rotate_left
  · rw [if_neg hp] at h
    cases h
  rw [if_pos hp] at h
  obtain rfl := Option.some.inj h
  clear h
  obtain ⟨h1, h2, ⟨s, h3, h4⟩, h5, h6, h7, h8⟩ := hp
  have Q1 := Aside0.mk h1
  have Q2 := Aside0.mk h2
  have Q3 := Aside0.mk h3
  have Q4 := Aside0.mk h4
  have Q5 := Aside0.mk h5
  have Q6 := Aside0.mk h6
  have Q7 := Aside0.mk h7
  have Q8 := Aside0.mk h8
  clear h1 h2 h3 h4 h5 h6 h7 h8
  have HB := Aside0.mk (Below.refl w.heap.size w)
  go_enter Try.func7, Try.ntmps7
  go_wp2_with (first | ((with_reducible refine (known_S0 Q1.out _).mono ?_); rintro e w2_ ⟨rfl, hb⟩; have nB := Aside0.mk (below_step (by repeat (first | (with_reducible first | exact HB.out | apply below_alloc | apply pw_below_drewN | apply below_drew1) | exact HB.out)) hb); clear HB; have HB := nB; clear nB hb) | ((with_reducible refine gate_dst (N := 4) rfl ?_); (try (refine gate_guard (by rfl) ?_; dsimp only)); refine Lits.lit_step 5 24 ?hg (N := 4) ?hd ?ho2 ?hN ?hg2 ?ht ?he (y := ([49, 50, 51, 52] : List Int)) (inner := [.int .u8 49, .int .u8 50, .int .u8 51, .int .u8 52]) ?hi ?hr ?hm ?_; (case hg2 => (intro v_; first | rfl | kernel_rfl)); (case ho2 => rfl); (case hN => (first | decide | (simp [Act.put]; done) | rfl)); (case ht => exact Try.underlying24); (case he => exact Try.underlying5); (case hi => rfl); (case hm => simp); (case hd => rfl); (case hg => rfl); (case hr => first | (go_simp; done) | (go_simp; rfl)); intro v4 w4 ho hb; obtain ⟨A4, c4, e_⟩ := Lits.lit_slice ho; subst e_; have L4 := Aside0.mk ho; have nB := Aside0.mk (below_step HB.out hb); clear HB; have HB := nB; clear nB ho; clear hb) | ((with_reducible refine gate_dst (N := 6) rfl ?_); (try (refine gate_guard (by rfl) ?_; dsimp only)); refine Lits.lit_step 5 24 ?hg (N := 6) ?hd ?ho2 ?hN ?hg2 ?ht ?he (y := ([53, 54, 55, 56, 57] : List Int)) (inner := [.int .u8 53, .int .u8 54, .int .u8 55, .int .u8 56, .int .u8 57]) ?hi ?hr ?hm ?_; (case hg2 => (intro v_; first | rfl | kernel_rfl)); (case ho2 => rfl); (case hN => (first | decide | (simp [Act.put]; done) | rfl)); (case ht => exact Try.underlying24); (case he => exact Try.underlying5); (case hi => rfl); (case hm => simp); (case hd => rfl); (case hg => rfl); (case hr => first | (go_simp; done) | (go_simp; rfl)); intro v6 w6 ho hb; obtain ⟨A6, c6, e_⟩ := Lits.lit_slice ho; subst e_; have L6 := Aside0.mk ho; have nB := Aside0.mk (below_step HB.out hb); clear HB; have HB := nB; clear nB ho; have n_ := Aside0.mk (Lits.lit_below L4.out hb); clear L4; have L4 := n_; clear n_; clear hb) | ((with_reducible refine (known_S2 Q2.out L4.out L6.out).mono ?_); rintro e w2_ ⟨rfl, hb⟩; have nB := Aside0.mk (below_step (by repeat (first | (with_reducible first | exact HB.out | apply below_alloc | apply pw_below_drewN | apply below_drew1) | exact HB.out)) hb); clear HB; have HB := nB; clear nB hb) | ((with_reducible refine gate_dst (N := 13) rfl ?_); (try (refine gate_guard (by rfl) ?_; dsimp only)); refine Lits.lit_step 5 24 ?hg (N := 13) ?hd ?ho2 ?hN ?hg2 ?ht ?he (y := ([49, 50, 51, 52, 53] : List Int)) (inner := [.int .u8 49, .int .u8 50, .int .u8 51, .int .u8 52, .int .u8 53]) ?hi ?hr ?hm ?_; (case hg2 => (intro v_; first | rfl | kernel_rfl)); (case ho2 => rfl); (case hN => (first | decide | (simp [Act.put]; done) | rfl)); (case ht => exact Try.underlying24); (case he => exact Try.underlying5); (case hi => rfl); (case hm => simp); (case hd => rfl); (case hg => rfl); (case hr => first | (go_simp; done) | (go_simp; rfl)); intro v13 w13 ho hb; obtain ⟨A13, c13, e_⟩ := Lits.lit_slice ho; subst e_; have L13 := Aside0.mk ho; have nB := Aside0.mk (below_step HB.out hb); clear HB; have HB := nB; clear nB ho; clear hb) | ((with_reducible refine (known_S1 Q3.out L13.out).mono ?_); rintro e w2_ ⟨rfl, hb⟩; have nB := Aside0.mk (below_step (by repeat (first | (with_reducible first | exact HB.out | apply below_alloc | apply pw_below_drewN | apply below_drew1) | exact HB.out)) hb); clear HB; have HB := nB; clear nB hb) | ((with_reducible refine gate_dst (N := 17) rfl ?_); (try (refine gate_guard (by rfl) ?_; dsimp only)); refine Lits.lit_step 5 24 ?hg (N := 17) ?hd ?ho2 ?hN ?hg2 ?ht ?he (y := ([54, 55, 56, 57] : List Int)) (inner := [.int .u8 54, .int .u8 55, .int .u8 56, .int .u8 57]) ?hi ?hr ?hm ?_; (case hg2 => (intro v_; first | rfl | kernel_rfl)); (case ho2 => rfl); (case hN => (first | decide | (simp [Act.put]; done) | rfl)); (case ht => exact Try.underlying24); (case he => exact Try.underlying5); (case hi => rfl); (case hm => simp); (case hd => rfl); (case hg => rfl); (case hr => first | (go_simp; done) | (go_simp; rfl)); intro v17 w17 ho hb; obtain ⟨A17, c17, e_⟩ := Lits.lit_slice ho; subst e_; have L17 := Aside0.mk ho; have nB := Aside0.mk (below_step HB.out hb); clear HB; have HB := nB; clear nB ho; clear hb) | ((with_reducible refine (known_M Q4.out L17.out).mono ?_); rintro e w2_ ⟨rfl, hb⟩; have nB := Aside0.mk (below_step (by repeat (first | (with_reducible first | exact HB.out | apply below_alloc | apply pw_below_drewN | apply below_drew1) | exact HB.out)) hb); clear HB; have HB := nB; clear nB hb) | ((with_reducible refine (crc_Zeros.calls 0 4 1214729159 _ Q5.out).mono ?_); rintro e w2_ ⟨rfl, hb⟩; have nB := Aside0.mk (below_step (by repeat (first | (with_reducible first | exact HB.out | apply below_alloc | apply pw_below_drewN | apply below_drew1) | exact HB.out)) hb); clear HB; have HB := nB; clear nB hb) | ((with_reducible refine (crc_Zeros.calls 7 (-3) 7 _ Q6.out).mono ?_); rintro e w2_ ⟨rfl, hb⟩; have nB := Aside0.mk (below_step (by repeat (first | (with_reducible first | exact HB.out | apply below_alloc | apply pw_below_drewN | apply below_drew1) | exact HB.out)) hb); clear HB; have HB := nB; clear nB hb) | ((with_reducible refine (crc_Join.calls 9 0 0 9 _ Q7.out).mono ?_); rintro e w2_ ⟨rfl, hb⟩; have nB := Aside0.mk (below_step (by repeat (first | (with_reducible first | exact HB.out | apply below_alloc | apply pw_below_drewN | apply below_drew1) | exact HB.out)) hb); clear HB; have HB := nB; clear nB hb) | ((with_reducible refine gate_dst (N := 35) rfl ?_); (try (refine gate_guard (by rfl) ?_; dsimp only)); refine Lits.lit_step 5 24 ?hg (N := 35) ?hd ?ho2 ?hN ?hg2 ?ht ?he (y := ([97] : List Int)) (inner := [.int .u8 97]) ?hi ?hr ?hm ?_; (case hg2 => (intro v_; first | rfl | kernel_rfl)); (case ho2 => rfl); (case hN => (first | decide | (simp [Act.put]; done) | rfl)); (case ht => exact Try.underlying24); (case he => exact Try.underlying5); (case hi => rfl); (case hm => simp); (case hd => rfl); (case hg => rfl); (case hr => first | (go_simp; done) | (go_simp; rfl)); intro v35 w35 ho hb; obtain ⟨A35, c35, e_⟩ := Lits.lit_slice ho; subst e_; have L35 := Aside0.mk ho; have nB := Aside0.mk (below_step HB.out hb); clear HB; have HB := nB; clear nB ho; clear hb) | ((with_reducible refine (known_H Q8.out L35.out).mono ?_); rintro e w2_ ⟨rfl, hb⟩; have nB := Aside0.mk (below_step (by repeat (first | (with_reducible first | exact HB.out | apply below_alloc | apply pw_below_drewN | apply below_drew1) | exact HB.out)) hb); clear HB; have HB := nB; clear nB hb))
  go_ret
  exact ⟨rfl, HB.out⟩

/-! ### garnerref02_step: function 18 -/
def garnerref02_step.l0 : Nat → Int → Int → Option (Int)
  | 0, _, _ => none
  | k + 1, x0, x3 => if x3 < 8 then (if (Int.tmod x0 2) = 1 then (garnerref02_step.l0 k (Go.bits .xor .u32 ((Int.tdiv x0 2) % 4294967296) 2197175160) (wrap64 (x3 + 1))) else (garnerref02_step.l0 k ((Int.tdiv x0 2) % 4294967296) (wrap64 (x3 + 1)))) else (some x0)
def garnerref02_step.f (k : Nat) (a0 : Int) : Option (Int) := garnerref02_step.l0 k a0 0
theorem garnerref02_step.mono_l : ∀ k, (∀ y0 y1, LeO (garnerref02_step.l0 k y0 y1) (garnerref02_step.l0 (k + 1) y0 y1))
  | 0 => fun _ _ r h => by simp [garnerref02_step.l0] at h
  | k + 1 => by
    have ih0 := garnerref02_step.mono_l k
    · intro y0 y1
      unfold garnerref02_step.l0
      repeat' first
      | (with_reducible exact ih0 _ _)
      | (with_reducible exact LeO.refl _)
      | (with_reducible exact LeO.none _)
      | (with_reducible refine LeO.ite ?_ ?_)
      | (with_reducible refine LeO.bind ?_ (fun _ => ?_))
      | exact ih0 _ _
      | exact LeO.none _
      | refine LeO.ite ?_ ?_
      | refine LeO.bind ?_ (fun _ => ?_)
theorem garnerref02_step.mono : ∀ a0 k, LeO (garnerref02_step.f k a0) (garnerref02_step.f (k + 1) a0) := by
  intro a0 k
  have ih0 := garnerref02_step.mono_l k
  unfold garnerref02_step.f
  repeat' first
      | (with_reducible exact ih0 _ _)
      | (with_reducible exact LeO.refl _)
      | (with_reducible exact LeO.none _)
      | (with_reducible refine LeO.ite ?_ ?_)
      | (with_reducible refine LeO.bind ?_ (fun _ => ?_))
      | exact ih0 _ _
      | exact LeO.none _
      | refine LeO.ite ?_ ?_
      | refine LeO.bind ?_ (fun _ => ?_)
set_option maxHeartbeats 8000000 in
set_option maxRecDepth 100000 in
theorem garnerref02_step.calls (k : Nat) (a0 : Int) (r : Int) (w : World) (h : garnerref02_step.f k a0 = some r) :
    Calls Try.prog 18 #[.int .u32 a0] w fun e w' => e = .returned (.int .u32 r) ∧ Drawn0 w w' := by
  have H : (garnerref02_step.l0 k a0 0) = some r := h
  clear h
  have H' := Aside0.mk H
  clear H
  go_enter Try.func18, Try.ntmps18
  go_wp2
  go_loopg [0, 3] k (fun kq v0 v3 w' => ∃ (x0_1 : Int) (x3_1 : Int), v0 = .int .u32 x0_1 ∧ v3 = .int .i64 x3_1 ∧ Aside0 (garnerref02_step.l0 kq x0_1 x3_1 = some r) ∧ Aside0 (kq ≤ k) ∧ Drawn0 w w')
  case atStart => exact ⟨(a0), (0), (by first | rfl | (simp; done) | (simp [*]; done)), (by first | rfl | (simp; done) | (simp [*]; done)), H', ⟨Nat.le_refl _⟩, by repeat (first | exact Drawn0.refl _ | apply Drawn0.step)⟩
  case round =>
    clear H'
    try clear c1
    obtain ⟨x0_1, x3_1, rfl, rfl, HA, HK1, ⟨m1, rfl⟩⟩ := hrel
    cases gk with
    | zero => exact absurd HA.out (by simp [garnerref02_step.l0])
    | succ k1 =>
      have H := HA.out
      clear HA
      simp only [garnerref02_step.l0] at H
      by_cases c2 : x3_1 < 8
      · rw [if_pos c2] at H
        have c2b0 : decide (x3_1 < 8) = true := decide_eq_true c2
        clear c2
        by_cases c3 : (Int.tmod x0_1 2) = 1
        · rw [if_pos c3] at H
          have c3b0 : ((Int.tmod x0_1 2) == 1) = true := beq_iff_eq.mpr c3
          have c3b1 : ((Int.tmod x0_1 2) != 1) = false := bne_eq_false_iff_eq.mpr c3
          clear c3
          have H' := Aside0.mk H
          clear H
          go_wp2
          go_roundg k1
          case measure => have := HK1.out; omega
          case rel => exact ⟨(Go.bits .xor .u32 ((Int.tdiv x0_1 2) % 4294967296) 2197175160), (wrap64 (x3_1 + 1)), (by first | rfl | (simp; done) | (simp [*]; done)), (by first | rfl | (simp; done) | (simp [*]; done)), H', ⟨by have := HK1.out; omega⟩, by repeat (first | exact Drawn0.refl _ | apply Drawn0.step)⟩
        · rw [if_neg c3] at H
          have c3b0 : ((Int.tmod x0_1 2) == 1) = false := beq_eq_false_iff_ne.mpr c3
          have c3b1 : ((Int.tmod x0_1 2) != 1) = true := bne_iff_ne.mpr c3
          have H' := Aside0.mk H
          clear H
          go_wp2
          go_roundg k1
          case measure => have := HK1.out; omega
          case rel => exact ⟨((Int.tdiv x0_1 2) % 4294967296), (wrap64 (x3_1 + 1)), (by first | rfl | (simp; done) | (simp [*]; done)), (by first | rfl | (simp; done) | (simp [*]; done)), H', ⟨by have := HK1.out; omega⟩, by repeat (first | exact Drawn0.refl _ | apply Drawn0.step)⟩
      · rw [if_neg c2] at H
        have c2b0 : decide (x3_1 < 8) = false := decide_eq_false c2
        clear c2
        obtain rfl := Option.some.inj H
        go_wp2
        go_ret
        exact ⟨by first | rfl | (simp; done) | (simp [*]; done), by repeat (first | exact Drawn0.refl _ | apply Drawn0.step)⟩

end Go.Proofs.Ytajkjngngaobpaa.HS
