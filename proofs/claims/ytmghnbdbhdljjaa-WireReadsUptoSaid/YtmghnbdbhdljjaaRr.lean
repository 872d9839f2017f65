/- The references' reader (layer 1): what it is in memory, and what each of its calls answers: the same plain functions as of wire's own. -/
import Derived.Test.YtmghnbdbhdljjaaRd
namespace Go.Proofs.Ytmghnbdbhdljjaa.Rr
open Go.RowKit Go.Proofs.YtmghnbdbhdljjaaW.PrintWords Go.Proofs.YtmghnbdbhdljjaaW.PrintLast Go.Proofs.YtmghnbdbhdljjaaW.PrintMore
set_option linter.unusedVariables false
set_option linter.unusedSimpArgs false
/-- A reader at block g: its bytes lie below N. -/
def Is (W : World) (g N : Nat) (b : List Int) (n : Nat) : Prop :=
  ∃ (A : Option Addr) (c : Nat), W.heap[g]? = some (.cells #[.slice A b.length c, .int .i64 n] 61 (0, 0)) ∧ b.length ≤ c ∧ Kd.C (Kd.int .u8) W A b.length b ∧ (0 < b.length → ∀ ad, A = some ad → ad.block < N) ∧ N ≤ g ∧ n ≤ b.length ∧ Rd.Byt b
theorem C_grown {k : IntKind} {w W : World} {A : Option Addr} {n : Nat} {xs : List Int} {row : Option Nat} (h : Kd.C (Kd.int k) w A n xs) (hg : w.grownBy W row) (hne : 0 < n → ∀ ad, A = some ad → some ad.block ≠ row) : Kd.C (Kd.int k) W A n xs := by
  refine ⟨h.1, h.2.1, fun hn => ?_⟩
  obtain ⟨ad, e, hc⟩ := h.2.2 hn
  refine ⟨ad, e, fun j p hj => ?_⟩
  obtain ⟨c, hl, hK, hcell⟩ := hc j p hj
  refine ⟨c, hl, hK, fun i u hu => hg.cell (hcell i u hu) ?_⟩
  rw [add_block]
  exact hne hn ad e
section
variable {w W : World} {g N : Nat} {b : List Int} {n : Nat}
theorem Is.grown {row : Option Nat} (h : Is w g N b n) (hw : w.grownBy W row) (h1 : ∀ k, row = some k → k ≠ g ∧ N ≤ k) : Is W g N b n := by
  obtain ⟨A, c, hb, hc, hr, hlo, hNg, hn, hB⟩ := h
  exact ⟨A, c, blk_grown hb hw (fun e => (h1 g e.symm).1 rfl), hc, C_grown hr hw (fun h0 ad e e2 => by have := hlo h0 ad e; have := (h1 ad.block e2.symm).2; omega), hlo, hNg, hn, hB⟩
theorem Is.lt (h : Is w g N b n) : g < w.heap.size := by
  obtain ⟨A, c, hb, _⟩ := h
  exact blk_lt hb
theorem Is.le (h : Is w g N b n) : n ≤ b.length := by
  obtain ⟨A, c, hb, hc, hr, hlo, hNg, hn, hB⟩ := h
  exact hn
theorem Is.low (h : Is w g N b n) : N ≤ g := by
  obtain ⟨A, c, hb, hc, hr, hlo, hNg, hn, hB⟩ := h
  exact hNg
theorem Is.byt (h : Is w g N b n) : Rd.Byt b := by
  obtain ⟨A, c, hb, hc, hr, hlo, hNg, hn, hB⟩ := h
  exact hB
theorem Is.max (h : Is w g N b n) : b.length ≤ 9223372036854775807 := by
  obtain ⟨A, c, hb, hc, hr, hlo, hNg, hn, hB⟩ := h
  exact hr.2.1
theorem Is.below (h : Is w g N b n) (hw : Below w.heap.size w W) : Is W g N b n := h.grown (grown_of_below hw none) (by simp)
theorem Is.drewN (h : Is w g N b n) (m : Nat) : Is (w.drewN m) g N b n := h.grown (Rd.grown_drewN w m none) (by simp)
theorem Is.under {B : Nat} (h : Is w g N b n) (hw : Below B w W) (hg : g < B) : Is W g N b n := by
  have hNg := h.low
  obtain ⟨A, c, hb, hc, hr, hlo, hNg, hn, hB⟩ := h
  refine ⟨A, c, (hw.block g hg).trans hb, hc, ⟨hr.1, hr.2.1, fun hn => ?_⟩, hlo, hNg, ‹_›, hB⟩
  obtain ⟨ad', e, hcell⟩ := hr.2.2 hn
  refine ⟨ad', e, fun j p hj => ?_⟩
  obtain ⟨c', hl, hK, h2⟩ := hcell j p hj
  refine ⟨c', hl, hK, fun i u hu => (hw.cell (p := ad'.add _) ?_).trans (h2 i u hu)⟩
  rw [add_block]
  have := hlo hn ad' e
  omega
/-- The place is written. -/
theorem Is.set (h : Is w g N b n) (m : Nat) (hm : m ≤ b.length) : Is (w.setCell ⟨g, 1, none⟩ (.int .i64 m)) g N b m := by
  obtain ⟨A, c, hb, hc, hr, hlo, hNg, hn, hB⟩ := h
  exact ⟨A, c, by simpa using blk_set hb 1 (.int .i64 m), hc, C_grown hr (Rd.set_grown w ⟨g, 1, none⟩ _) (fun h0 ad e e2 => by have := hlo h0 ad e; have h3 := Option.some.inj e2; have : ad.block = g := h3; omega), hlo, hNg, hm, hB⟩
theorem Is.open_ (h : Is w g N b n) : ∃ (A : Option Addr) (c : Nat), w.cell? ⟨g, 0, none⟩ = some (.slice A b.length c) ∧ w.cell? ⟨g, 1, none⟩ = some (.int .i64 n) ∧
    w.frozen? ⟨g, 1, none⟩ = false ∧ b.length ≤ c ∧ Aside0 (Kd.C (Kd.int .u8) w A b.length b) := by
  obtain ⟨A, c, hb, hc, hr, hlo, hNg, hn, hB⟩ := h
  exact ⟨A, c, (blk_cell hb 0).trans rfl, (blk_cell hb 1).trans rfl, blk_frozen hb 1, hc, ⟨hr⟩⟩
end
theorem left (g N : Nat) (b : List Int) (n : Nat) (w : World) (h : Is w g N b n) :
    Calls Try.prog 32 #[.pointer (some ⟨g, 0, none⟩)] w fun e w' => e = .returned (.int .i64 ((b.length - n : Nat) : Int)) ∧ ∃ m, w' = w.drewN m := by
  obtain ⟨A, c, c0, c1, cf, hc, hr⟩ := h.open_
  have hn := h.le
  have hm := h.max
  have e1 : wrap64 ((b.length : Int) - (n : Int)) = ((b.length - n : Nat) : Int) := by unfold wrap64; omega
  have E1 := Aside0.mk e1
  clear h hn hm e1
  go_enter Try.func32, Try.ntmps32
  go_wp2
  repeat (go_quiet (fail); try go_wp2)
  go_ret
  exact ⟨congrArg (fun z => Ending.returned (Value.int .i64 z)) E1.out, _, rfl⟩
def NumPost (R : Option (Nat × Nat)) (g N : Nat) (b : List Int) (n : Nat) (w : World) (e : Ending) (w' : World) : Prop := match R with
  | some (x, m) => e = .returned (.tuple #[.int .u64 x, .int .i64 0]) ∧ Is w' g N b m ∧ w.grownBy w' (some g)
  | none => e = .returned (.tuple #[.int .u64 0, .int .i64 4]) ∧ Is w' g N b n ∧ w.grownBy w' none
theorem step_add (m q : Nat) (v : Int) (hm : m < 2 ^ q) (v0 : 0 ≤ v) (v1 : v < 256) (hq : q ≤ 56 ∨ (q = 63 ∧ v ≤ 1)) : IntKind.u64.wrap ((m : Int) + IntKind.u64.wrap (v % 128 * 2 ^ q)) = ((m + v.toNat % 128 * 2 ^ q : Nat) : Int) ∧ (v < 128 ∨ q ≤ 56 → m + v.toNat % 128 * 2 ^ q < 2 ^ (q + 7)) := by
  obtain ⟨u, rfl⟩ : ∃ u : Nat, v = (u : Int) := ⟨v.toNat, by omega⟩
  rw [Int.toNat_natCast]
  have hs : (u : Int) % 128 * 2 ^ q = ((u % 128 * 2 ^ q : Nat) : Int) := by simp
  have h3 : 2 ^ (q + 7) = 128 * 2 ^ q := by rw [Nat.pow_add, Nat.mul_comm]
  have h4 : (u % 128 + 1) * 2 ^ q ≤ 128 * 2 ^ q := Nat.mul_le_mul_right _ (by omega)
  rw [Nat.add_mul] at h4
  have hlt : m + u % 128 * 2 ^ q < 18446744073709551616 := by
    rcases hq with hq | ⟨rfl, hv⟩
    · have h1 : 2 ^ q ≤ 2 ^ 56 := Nat.pow_le_pow_right (by decide) hq
      omega
    · have h2 : u % 128 * 2 ^ 63 ≤ 1 * 2 ^ 63 := Nat.mul_le_mul (by omega) (Nat.le_refl _)
      omega
  refine ⟨?_, fun _ => by rw [h3]; omega⟩
  rw [hs, Rd.wrap_u64_nat _ (by omega), ← Int.natCast_add, Rd.wrap_u64_nat _ hlt]
set_option maxHeartbeats 4000000 in
set_option maxRecDepth 100000 in
theorem number (g N : Nat) (b : List Int) (n : Nat) (w : World) (h : Is w g N b n) (hbl : b.length ≤ 140737488355328) :
    Calls Try.prog 40 #[.pointer (some ⟨g, 0, none⟩)] w (NumPost (Rd.rnum b 10 n 0 0) g N b n w) := by
  have H := Aside0.mk h
  have HBL := Aside0.mk hbl
  clear h hbl
  obtain ⟨R, hR⟩ : ∃ R, R = Rd.rnum b 10 n 0 0 := ⟨_, rfl⟩
  rw [← hR]
  have HR := Aside0.mk hR
  clear hR
  go_enter Try.func40, Try.ntmps40
  go_wp2
  go_loopw [4, 5] (fun x i w' => ∃ j m nd : Nat, j ≤ 10 ∧ n + j ≤ b.length ∧ x = .int .u64 m ∧ Aside0 (m < 2 ^ (7 * j)) ∧ i = .int .i64 (j : Int) ∧ Aside0 (R = Rd.rnum b (10 - j) (n + j) (7 * j) m) ∧ Aside0 (w' = w.drewN nd)) (fun _ i _ => 10 - (intOf i).toNat)
  case atStart => exact ⟨0, 0, 0, by omega, H.out.le, rfl, ⟨by decide⟩, rfl, HR, ⟨rfl⟩⟩
  case round =>
    obtain ⟨j, m, nd, hj, hl, rfl, hm, rfl, hrr, hw⟩ := hrel
    have hw' := hw.out
    subst hw'
    clear hw HR
    obtain ⟨A, c, k0, k1, kf, hc, hr⟩ := H.out.open_
    have hbl := HBL.out
    have hnj : IntKind.i64.wrap ((n : Int) + (j : Int)) = ((n + j : Nat) : Int) := by rw [show (n : Int) + (j : Int) = ((n + j : Nat) : Int) by omega]; exact IntWalk.i64_in _ (by omega)
    obtain ⟨p, hp⟩ : ∃ p, p = n + j := ⟨_, rfl⟩
    rw [← hp] at hnj
    have hm0 := hm.out
    have hrr0 := hrr.out
    rw [← hp] at hrr0
    have HRR := Aside0.mk hrr0
    have HP := Aside0.mk hp
    clear hm hrr hrr0 hp
    by_cases hj10 : j < 10
    · have d10 : decide ((j : Int) < 10) = true := by simp; omega
      by_cases hlt : p < b.length
      · have dlt : decide ((p : Int) < (b.length : Int)) = true := by simp; omega
        have p0 : (0 : Int) ≤ (p : Int) := by omega
        have p1 : (p : Int) < (b.length : Int) := by omega
        obtain ⟨ad, rfl, hx⟩ := Kd.at_int hr.out (p : Int) (by omega) (by omega)
        simp only [Int.toNat_natCast, Nat.mul_one] at hx
        have hb := Rd.byt_rd H.out.byt hlt
        obtain ⟨v, hv⟩ : ∃ v, v = rd b (p : Int) := ⟨_, rfl⟩
        rw [← hv] at hx hb
        have HV := Aside0.mk hv
        obtain ⟨v0, v1⟩ := hb
        clear hv hr
        by_cases hbad : (7 * j = 63 ∧ 1 < v) ∨ (0 < 7 * j ∧ v = 0)
        · have hN : R = none := by rw [HRR.out]; exact Rd.rnum_bad (by omega) (fun _ => by rw [← HV.out]; exact hbad)
          have HN := Aside0.mk hN
          clear hN
          rcases hbad with ⟨h9, h1⟩ | ⟨h1, hv0⟩
          · have g9 : ((j : Int) == 9) = true := by rw [beq_iff_eq]; omega
            have g1 : decide ((1 : Int) < v) = true := decide_eq_true h1
            go_wp2
            repeat (go_quiet (fail); try go_wp2)
            try rw [Exit.noGoto_ret]
            go_ret2
            rw [HN.out]
            exact ⟨rfl, by repeat (first | exact H.out | apply Is.drewN), by repeat (first | exact grown_refl _ _ | exact (Rd.grown_drewN _ _ _) | refine World.grownBy.trans ?_ (Rd.grown_drewN _ _ _))⟩
          · have g0 : decide ((0 : Int) < (j : Int)) = true := by simp; omega
            have g1 : decide ((1 : Int) < v) = false := decide_eq_false (by omega)
            have g2 : (v == 0) = true := beq_iff_eq.mpr hv0
            clear hv0
            by_cases h9 : j = 9
            · have g9 : ((j : Int) == 9) = true := by rw [beq_iff_eq]; omega
              have hn9 : IntKind.i64.wrap ((n : Int) + 9) = (p : Int) := by have h_ := hnj; rw [show (j : Int) = 9 by omega] at h_; exact h_
              go_wp2
              repeat (go_quiet (fail); try go_wp2)
              try rw [Exit.noGoto_ret]
              go_ret2
              rw [HN.out]
              exact ⟨rfl, by repeat (first | exact H.out | apply Is.drewN), by repeat (first | exact grown_refl _ _ | exact (Rd.grown_drewN _ _ _) | refine World.grownBy.trans ?_ (Rd.grown_drewN _ _ _))⟩
            · have g9 : ((j : Int) == 9) = false := by rw [beq_eq_false_iff_ne]; omega
              go_wp2
              repeat (go_quiet (fail); try go_wp2)
              try rw [Exit.noGoto_ret]
              go_ret2
              rw [HN.out]
              exact ⟨rfl, by repeat (first | exact H.out | apply Is.drewN), by repeat (first | exact grown_refl _ _ | exact (Rd.grown_drewN _ _ _) | refine World.grownBy.trans ?_ (Rd.grown_drewN _ _ _))⟩
        · have hq64 : 7 * j ≤ 56 ∨ (7 * j = 63 ∧ v ≤ 1) := by omega
          obtain ⟨e1, e2⟩ := step_add m (7 * j) v hm0 v0 v1 hq64
          have g2 : (j = 9 ∧ decide ((1 : Int) < v) = false ∧ decide ((0 : Int) < (j : Int)) = true ∧ (v == 0) = false) ∨ (j ≠ 9 ∧ 0 < j ∧ decide ((0 : Int) < (j : Int)) = true ∧ (v == 0) = false) ∨ (j ≠ 9 ∧ j ≤ 0 ∧ decide ((0 : Int) < (j : Int)) = false) := by
            by_cases h9 : j = 9
            · exact Or.inl ⟨h9, decide_eq_false (by omega), decide_eq_true (by omega), beq_eq_false_iff_ne.mpr (by omega)⟩
            · by_cases h0 : 0 < j
              · exact Or.inr (Or.inl ⟨h9, h0, decide_eq_true (by omega), beq_eq_false_iff_ne.mpr (by omega)⟩)
              · exact Or.inr (Or.inr ⟨h9, by omega, decide_eq_false (by omega)⟩)
          obtain ⟨b9, g9⟩ : ∃ b9, b9 = decide (j = 9) := ⟨_, rfl⟩
          have G9 : ((j : Int) == 9) = decide (j = 9) := by
            by_cases h9 : j = 9
            · rw [decide_eq_true h9, beq_iff_eq]; omega
            · rw [decide_eq_false h9, beq_eq_false_iff_ne]; omega
          have E1 := Aside0.mk e1
          have E2 := Aside0.mk e2
          have HM := Aside0.mk hm0
          have HBAD := Aside0.mk hbad
          clear e1 e2 hm0 hbad g9 b9
          by_cases hsm : v < 128
          · have hN : R = some (m + v.toNat % 128 * 2 ^ (7 * j), p + 1) := by rw [HRR.out, HV.out]; exact Rd.rnum_end (by omega) hlt (by rw [← HV.out]; exact HBAD.out) (by rw [← HV.out]; exact hsm)
            have HN := Aside0.mk hN
            have hpw : IntKind.i64.wrap ((p : Int) + 1) = ((p + 1 : Nat) : Int) := by rw [show (p : Int) + 1 = ((p + 1 : Nat) : Int) by omega]; exact IntWalk.i64_in _ (by omega)
            have HW := Aside0.mk hpw
            clear hN hpw
            rcases g2 with ⟨h9, g3, g4, g5⟩ | ⟨h9, g4, g5, g6⟩ | ⟨h9, g4, g5⟩
            · rw [decide_eq_true h9] at G9
              have hn9 : IntKind.i64.wrap ((n : Int) + 9) = (p : Int) := by have h_ := hnj; rw [show (j : Int) = 9 by omega] at h_; exact h_
              have HQ := Aside0.mk h9
              go_wp2
              repeat (go_quiet (fail); try go_wp2)
              try rw [Exit.noGoto_ret]
              go_ret2
              have h63 := E1.out
              rw [show 7 * j = 63 by have := HQ.out; omega, show (2 : Int) ^ 63 = 9223372036854775808 from by decide] at h63
              have hin : IntKind.u64.wrap (v % 128 * 9223372036854775808) = v % 128 * 9223372036854775808 := by
                have h_ : v = 0 ∨ v = 1 := by have := HBAD.out; have := HQ.out; omega
                rcases h_ with h_ | h_ <;> rw [h_] <;> decide
              rw [hin] at h63
              rw [HN.out, show 7 * j = 63 by have := HQ.out; omega, h63]
              exact ⟨rfl, show Is _ g N b (p + 1) from by refine Is.set (by repeat (first | exact H.out | apply Is.drewN)) (p + 1) (by omega), by repeat (first | exact (Rd.set_grown _ _ _) | exact (Rd.grown_drewN _ _ _) | refine World.grownBy.trans ?_ (Rd.set_grown _ _ _) | refine World.grownBy.trans ?_ (Rd.grown_drewN _ _ _))⟩
            · rw [decide_eq_false h9] at G9
              go_wp2
              repeat (go_quiet (fail); try go_wp2)
              try rw [Exit.noGoto_ret]
              go_ret2
              rw [HN.out, E1.out]
              exact ⟨rfl, show Is _ g N b (p + 1) from by refine Is.set (by repeat (first | exact H.out | apply Is.drewN)) (p + 1) (by omega), by repeat (first | exact (Rd.set_grown _ _ _) | exact (Rd.grown_drewN _ _ _) | refine World.grownBy.trans ?_ (Rd.set_grown _ _ _) | refine World.grownBy.trans ?_ (Rd.grown_drewN _ _ _))⟩
            · rw [decide_eq_false h9] at G9
              go_wp2
              repeat (go_quiet (fail); try go_wp2)
              try rw [Exit.noGoto_ret]
              go_ret2
              rw [HN.out, E1.out]
              exact ⟨rfl, show Is _ g N b (p + 1) from by refine Is.set (by repeat (first | exact H.out | apply Is.drewN)) (p + 1) (by omega), by repeat (first | exact (Rd.set_grown _ _ _) | exact (Rd.grown_drewN _ _ _) | refine World.grownBy.trans ?_ (Rd.set_grown _ _ _) | refine World.grownBy.trans ?_ (Rd.grown_drewN _ _ _))⟩
          · have h99 : j ≠ 9 := by have := HBAD.out; omega
            have hN : R = Rd.rnum b (10 - (j + 1)) (n + (j + 1)) (7 * (j + 1)) (m + v.toNat % 128 * 2 ^ (7 * j)) := by
              rw [HRR.out, HV.out, Rd.rnum_on (by omega) hlt (by rw [← HV.out]; exact HBAD.out) (by rw [← HV.out]; exact hsm)]
              rw [show n + (j + 1) = p + 1 by have := HP.out; omega]
              rfl
            have HN2 := Aside0.mk hN
            have HMS := Aside0.mk (show m + v.toNat % 128 * 2 ^ (7 * j) < 2 ^ (7 * (j + 1)) from E2.out (Or.inr (by omega)))
            have HJ1 := Aside0.mk (show (j : Int) + 1 = ((j + 1 : Nat) : Int) by omega)
            clear hN
            rcases g2 with ⟨h9, g3, g4, g5⟩ | ⟨h9, g4, g5, g6⟩ | ⟨h9, g4, g5⟩
            · exact absurd h9 h99
            · rw [decide_eq_false h9] at G9
              go_wp2
              repeat (go_quiet (fail); try go_wp2)
              rw [E1.out, HJ1.out]
              exact ⟨⟨j + 1, _, _, by omega, by have := HP.out; omega, rfl, HMS, rfl, HN2, ⟨rfl⟩⟩, by simp [intOf]; omega⟩
            · rw [decide_eq_false h9] at G9
              go_wp2
              repeat (go_quiet (fail); try go_wp2)
              rw [E1.out, HJ1.out]
              exact ⟨⟨j + 1, _, _, by omega, by have := HP.out; omega, rfl, HMS, rfl, HN2, ⟨rfl⟩⟩, by simp [intOf]; omega⟩
      · have dlt : decide ((p : Int) < (b.length : Int)) = false := by simp; omega
        have hN : R = none := by rw [HRR.out]; exact Rd.rnum_bad (by omega) (fun h => absurd h hlt)
        have HN := Aside0.mk hN
        clear hN hr
        go_wp2
        repeat (go_quiet (fail); try go_wp2)
        try rw [Exit.noGoto_ret]
        go_ret2
        rw [HN.out]
        exact ⟨rfl, by repeat (first | exact H.out | apply Is.drewN), by repeat (first | exact grown_refl _ _ | exact (Rd.grown_drewN _ _ _) | refine World.grownBy.trans ?_ (Rd.grown_drewN _ _ _))⟩
    · have d10 : decide ((j : Int) < 10) = false := by simp; omega
      obtain rfl : j = 10 := by omega
      have hN : R = none := HRR.out
      have HN := Aside0.mk hN
      clear hN hr hnj
      go_wp2
      repeat (go_quiet (fail); try go_wp2)
      try rw [Exit.noGoto_ret]
      go_ret2
      rw [HN.out]
      exact ⟨rfl, by repeat (first | exact H.out | apply Is.drewN), by repeat (first | exact grown_refl _ _ | exact (Rd.grown_drewN _ _ _) | refine World.grownBy.trans ?_ (Rd.grown_drewN _ _ _))⟩
theorem number_some {g N : Nat} {b : List Int} {n x m : Nat} (w : World) (h : Is w g N b n) (hbl : b.length ≤ 140737488355328) (hr : Rd.rnum b 10 n 0 0 = some (x, m)) :
    Calls Try.prog 40 #[.pointer (some ⟨g, 0, none⟩)] w fun e w' => e = .returned (.tuple #[.int .u64 x, .int .i64 0]) ∧ Is w' g N b m ∧ w.grownBy w' (some g) := by
  have := number g N b n w h hbl
  rw [hr] at this
  exact this
theorem number_none {g N : Nat} {b : List Int} {n : Nat} (w : World) (h : Is w g N b n) (hbl : b.length ≤ 140737488355328) (hr : Rd.rnum b 10 n 0 0 = none) :
    Calls Try.prog 40 #[.pointer (some ⟨g, 0, none⟩)] w fun e w' => e = .returned (.tuple #[.int .u64 0, .int .i64 4]) ∧ Is w' g N b n ∧ w.grownBy w' none := by
  have := number g N b n w h hbl
  rw [hr] at this
  exact this
def BytesPost (R : Int × List Int × Nat) (g N : Nat) (b : List Int) (w : World) (e : Ending) (w' : World) : Prop :=
  ∃ v : Value, e = .returned (.tuple #[v, .int .i64 R.1]) ∧ Rd.Own w' w.heap.size v R.2.1 ∧ Is w' g N b R.2.2 ∧ w.grownBy w' (some g)
set_option maxHeartbeats 8000000 in
set_option maxRecDepth 100000 in
theorem bytes (g N : Nat) (b : List Int) (n most : Nat) (w : World) (h : Is w g N b n) (hm : most ≤ 9223372036854775807) (hb : b.length ≤ 140737488355328) :
    Calls Try.prog 43 #[.pointer (some ⟨g, 0, none⟩), .int .i64 most] w (BytesPost (Rd.rbs b n most) g N b w) := by
  have H := Aside0.mk h
  have hn := h.le
  have HB := Aside0.mk hb
  obtain ⟨A, c, c0, c1, cf, hc, hr⟩ := h.open_
  have hg := h.lt
  have hw : IntKind.u64.wrap (most : Int) = (most : Int) := Rd.wrap_u64_nat most (by omega)
  clear h hr
  cases hrn : Rd.rnum b 10 n 0 0 with
  | none =>
    have hR : Rd.rbs b n most = (4, [], n) := by unfold Rd.rbs Rd.cnt; rw [hrn]; rfl
    rw [hR]
    have HN := Aside0.mk (number_none w H.out hb hrn)
    clear hR hrn hw
    go_enter Try.func43, Try.ntmps43
    go_wp2_with (first | (go_at_call 40; refine HN.out.mono ?_; rintro e w1 ⟨rfl, hi, hgr⟩; obtain ⟨A2, c2, d0, d1, df, hc2, hr2⟩ := hi.open_; have H1 := Aside0.mk hi; have H2 := Aside0.mk hgr; clear hi hgr hr2))
    go_ret2
    exact ⟨_, rfl, Rd.Own.nil _ _, (by simpa using H1.out.set n (by omega)), (World.grownBy.but H2.out _).trans (Rd.set_grown _ _ _)⟩
  | some q =>
    obtain ⟨x, m⟩ := q
    have hbd := Rd.rnum_bd hrn
    have HN := Aside0.mk (number_some w H.out hb hrn)
    by_cases hlt : most < x
    · have hR : Rd.rbs b n most = (3, [], n) := by unfold Rd.rbs Rd.cnt; rw [hrn]; simp [hlt]
      rw [hR]
      have hx := hbd.1
      clear hR hrn hbd
      go_enter Try.func43, Try.ntmps43
      go_wp2_with (first | (go_at_call 40; refine HN.out.mono ?_; rintro e w1 ⟨rfl, hi, hgr⟩; obtain ⟨A2, c2, d0, d1, df, hc2, hr2⟩ := hi.open_; have H1 := Aside0.mk hi; have H2 := Aside0.mk hgr; clear hi hgr hr2))
      go_ret2
      exact ⟨_, rfl, Rd.Own.nil _ _, (by simpa using H1.out.set n (by omega)), H2.out.trans (Rd.set_grown _ _ _)⟩
    · have hx := hbd.1
      have hmb := hbd.2.2
      have hw2 : IntKind.u64.wrap ((b.length - m : Nat) : Int) = ((b.length - m : Nat) : Int) := Rd.wrap_u64_nat _ (by omega)
      have hw3 : IntKind.i64.wrap (x : Int) = (x : Int) := IntWalk.i64_in _ (by omega)
      by_cases hlt2 : b.length - m < x
      · have hR : Rd.rbs b n most = (4, [], n) := by unfold Rd.rbs Rd.cnt; rw [hrn]; simp [hlt, hlt2]
        rw [hR]
        have hlt3 : ((b.length - m : Nat) : Int) < (x : Int) := by omega
        clear hR hrn hbd
        go_enter Try.func43, Try.ntmps43
        go_wp2_with (first | (go_at_call 40; refine HN.out.mono ?_; rintro e w1 ⟨rfl, hi, hgr⟩; obtain ⟨A2, c2, d0, d1, df, hc2, hr2⟩ := hi.open_; have H1 := Aside0.mk hi; have H2 := Aside0.mk hgr; clear hi hgr hr2) | (go_at_call 32; refine (left _ _ _ _ _ H1.out).mono ?_; rintro e w2 ⟨rfl, m2, rfl⟩))
        go_ret2
        exact ⟨_, rfl, Rd.Own.nil _ _, (by simpa using (H1.out.drewN m2).set n (by omega)), (H2.out.trans (Rd.grown_drewN _ m2 _)).trans (Rd.set_grown _ _ _)⟩
      · have hR : Rd.rbs b n most = (0, (b.drop m).take x, m + x) := by unfold Rd.rbs Rd.cnt; rw [hrn]; simp [hlt, hlt2]
        rw [hR]
        have hlt3 : ¬ ((b.length - m : Nat) : Int) < (x : Int) := by omega
        clear hR hrn hbd
        go_enter Try.func43, Try.ntmps43
        go_wp2_with (first | (go_at_call 40; refine HN.out.mono ?_; rintro e w1 ⟨rfl, hi, hgr⟩; obtain ⟨A2, c2, d0, d1, df, hc2, hr2⟩ := hi.open_; have H1 := Aside0.mk hi; have H2 := Aside0.mk hgr; clear hi hgr hr2) | (go_at_call 32; refine (left _ _ _ _ _ H1.out).mono ?_; rintro e w2 ⟨rfl, m2, rfl⟩))
        have hw1 : (m : Int) + (x : Int) = ((m + x : Nat) : Int) := by omega
        rw [hw1]
        clear hw1
        obtain ⟨q, hq⟩ : ∃ q, q = m + x := ⟨_, rfl⟩
        rw [← hq]
        have H5 := Aside0.mk ((H1.out.drewN m2).set q (by omega))
        have H6 := Aside0.mk ((H2.out.trans (Rd.grown_drewN _ m2 _)).trans (Rd.set_grown (w1.drewN m2) ⟨g, 1, none⟩ (.int .i64 (q : Int))))
        generalize (w1.drewN m2).setCell ⟨g, 1, none⟩ (.int .i64 (q : Int)) = W at H5 H6
        clear d0 d1 df H1 H2 c0 c1 cf HN
        obtain ⟨ad3, c3, k0, k1, kf, hc3, hr3⟩ := H5.out.open_
        have hw2 : IntKind.i64.wrap ((q : Int) - (x : Int)) = (m : Int) := by
          rw [show (q : Int) - (x : Int) = (m : Int) by omega]
          exact IntWalk.i64_in _ (by omega)
        obtain ⟨i5, hi5, hs5⟩ : ∃ ie, Try.prog.info? 5 = some ie ∧ ie.size = 1 := by
          have h : (Try.prog.info? 5).map (fun i => i.size) = some 1 := by kernel_rfl
          obtain ⟨ie, h1, h2⟩ := Option.map_eq_some_iff.mp h
          exact ⟨ie, h1, h2⟩
        have hcut := cut_mid (P := Try.prog) 23 5 .i64 .i64 Try.underlying23 hi5 1 hs5 ad3 b.length c3 (m : Int) (q : Int) (by omega) (by omega) (by omega) hc3
        have hC := Kd.C_mid (lo := m) (hi := q) (c := c3) hr3.out (by omega) (by omega) hc3
        simp only [Int.toNat_natCast] at hcut
        obtain ⟨AY, hAY⟩ : ∃ X, X = (if c3 = m then ad3 else ad3.map (·.add (m * 1))) := ⟨_, rfl⟩
        replace hC : Kd.C (Kd.int .u8) W AY ((b.take q).drop m).length ((b.take q).drop m) := by rw [hAY]; exact hC
        rw [← hAY] at hcut
        have hlen : ((b.take q).drop m).length = q - m := by rw [List.length_drop, List.length_take]; omega
        rw [hlen] at hC
        have hres : (b.take q).drop m = (b.drop m).take x := by rw [hq, List.drop_take]; congr 1; omega
        rw [hres] at hC
        have HCC := Aside0.mk hC
        have hx2 : q - m ≤ 140737488355328 := by omega
        have hgw : g < W.heap.size := H5.out.lt
        have hww : w.heap.size ≤ W.heap.size := H6.out.size
        have HQ := Aside0.mk hq
        clear hC hlen hAY hres hq hlt hlt2
        go_region_held3 (fun w' => w'.cell? ⟨g, 0, none⟩ = some (.slice ad3 b.length c3) ∧ w'.cell? ⟨g, 1, none⟩ = some (.int .i64 (q : Int)))
          (go_keep)
          ((refine Rd.append_step w.heap.size rfl (.const (.slice none 0 0)) (.tmp 67) rfl (.slice none 0 0) [] ((b.drop m).take x) AY (q - m) (c3 - m) rfl rfl (Rd.Own.nil _ _) (Kd.C_below HCC.out (show Below W.heap.size W W.drew from below_drew (Below.refl _ _))) hww (by simp only [List.length_nil]; omega) ?_; intro v1 w5 ho hb5
            have k2 : w5.cell? ⟨g, 0, none⟩ = some (.slice ad3 b.length c3) := (hb5.cell (p := ⟨g, 0, none⟩) hg).trans k0
            have k3 : w5.cell? ⟨g, 1, none⟩ = some (.int .i64 (q : Int)) := (hb5.cell (p := ⟨g, 1, none⟩) hg).trans k1
            have HO := Aside0.mk ho
            have HB5 := Aside0.mk (show Below w.heap.size W w5 from (below_drew ((Below.refl W.heap.size W).mono hww)).trans hb5)
            clear ho hb5))
        go_wp2
        go_ret2
        rw [← HQ.out]
        exact ⟨v1, rfl, HO.out, H5.out.under HB5.out hg, Rd.grown_under H6.out HB5.out (Nat.le_refl _)⟩
end Go.Proofs.Ytmghnbdbhdljjaa.Rr
