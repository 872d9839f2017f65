/- catalog.Check: which jobs may be. -/
import Derived.Test.YtecdnhmdodedmaaRdg
namespace Go.Proofs.Ytecdnhmdodedmaa.Ca
open Go.RowKit Go.Proofs.YtecdnhmdodedmaaW.PrintWords Go.Proofs.YtecdnhmdodedmaaW.PrintLast Go.Proofs.YtecdnhmdodedmaaW.PrintMore
attribute [local go_sem] max2_int min2_int max_two min_two
set_option linter.unusedVariables false
set_option linter.unusedSimpArgs false
/-- A job. -/
structure Job where
  (w l wi c d e : Int)
  ts : List Int
/-- Its cells. -/
def Job.v (j : Job) (A : Option Addr) (n : Nat) : Array Value := #[.int .i64 j.w, .int .i64 j.l, .int .i64 j.wi, .int .i64 j.c, .int .i64 j.d, .int .i64 j.e, .slice A j.ts.length n]
structure Job.In (j : Job) (W : World) (A : Option Addr) (n : Nat) : Prop where
  C : Kd.C (Kd.int .i64) W A j.ts.length j.ts
  h : j.ts.length ≤ n
theorem Job.In.below {j : Job} {W V : World} {A : Option Addr} {n : Nat} (h : j.In W A n) (hb : Below W.heap.size W V) : j.In V A n := ⟨Kd.C_below h.C hb, h.h⟩
def wi (a lo hi : Int) : Bool := decide (lo ≤ a) && decide (a ≤ hi)
theorem wi_iff (a lo hi : Int) : wi a lo hi = true ↔ lo ≤ a ∧ a ≤ hi := by simp [wi]
theorem within (a lo hi : Int) (w : World) : Calls Try.prog 37 #[.int .i64 a, .int .i64 lo, .int .i64 hi] w fun e w' => e = .returned (.bool (wi a lo hi)) ∧ w = w' := by
  unfold wi
  by_cases h : lo ≤ a
  · have h1 : decide (lo ≤ a) = true := decide_eq_true h
    rw [h1]
    clear h
    go_enter Try.func37, Try.ntmps37
    go_wp2
    go_ret
    exact ⟨by simp, rfl⟩
  · have h1 : decide (lo ≤ a) = false := decide_eq_false h
    rw [h1]
    clear h
    go_enter Try.func37, Try.ntmps37
    go_wp2
    go_ret
    exact ⟨by simp, rfl⟩
theorem bad (a : Int) (w : World) : Calls Try.prog 38 #[.int .i64 a] w fun e w' => e = .returned (.bool (!wi a 0 2)) ∧ w = w' := by
  go_enter Try.func38, Try.ntmps38
  go_wp2_with (first | (go_at_call 37; refine (within _ _ _ _).mono ?_; rintro e w' ⟨rfl, rfl⟩))
  go_ret
  exact ⟨rfl, rfl⟩
def IdxP (l : List Int) (w : World) (e : Ending) (w' : World) : Prop := (∃ r : Int, e = .returned (.int .i64 r) ∧ decide (0 ≤ r) = l.any (fun a => !wi a 0 2)) ∧ w = w'
set_option maxHeartbeats 4000000 in
set_option maxRecDepth 100000 in
theorem index (A : Option Addr) (c : Nat) (l : List Int) (w : World) (h : Kd.C (Kd.int .i64) w A l.length l) :
    Calls Try.prog 64 #[.slice A l.length c, .func (.func 38) #[] #[]] w (IdxP l w) := by
  have H := Aside0.mk h
  have hm : l.length ≤ 9223372036854775807 := h.2.1
  clear h
  go_enter Try.func64, Try.ntmps64
  go_wp2
  go_loop [8] (fun v => ∃ i : Nat, v = .int .i64 i ∧ i ≤ l.length ∧ Aside0 (∀ j (hj : j < l.length), j < i → wi l[j] 0 2 = true)) (fun v => l.length - (intOf v).toNat)
  case atStart => exact ⟨0, rfl, Nat.zero_le _, ⟨fun j _ hj => by omega⟩⟩
  case round =>
    obtain ⟨i, rfl, hi, hb⟩ := hrel
    by_cases hlt : i < l.length
    · obtain ⟨ad, ea, hx⟩ := Kd.at_int H.out (i : Int) (by omega) (by omega)
      subst ea
      have hr : rd l (i : Int) = l[i] := by simp [rd, hlt]
      simp only [Int.toNat_natCast] at hx
      rw [hr] at hx
      obtain ⟨x, ex⟩ : ∃ x, x = l[i] := ⟨_, rfl⟩
      rw [← ex] at hx
      have EX := Aside0.mk ex
      have k0 : (0 : Int) ≤ (i : Int) := by omega
      have k1 : (i : Int) < (l.length : Int) := by omega
      clear ex hr
      cases hw : wi x 0 2 with
      | true =>
        go_wp2_with (first | (go_at_call 38; refine (bad _ _).mono ?_; rintro e w' ⟨rfl, rfl⟩))
        go_round
        case rel => exact ⟨i + 1, by go_num, by omega, ⟨fun j hj hji => by
          by_cases e : j = i
          · subst e; rw [← EX.out]; exact hw
          · exact hb.out j hj (by omega)⟩⟩
        case measure => simp [intOf]; omega
      | false =>
        go_wp2_with (first | (go_at_call 38; refine (bad _ _).mono ?_; rintro e w' ⟨rfl, rfl⟩))
        go_ret
        refine ⟨⟨(i : Int), rfl, ?_⟩, rfl⟩
        rw [decide_eq_true (by omega)]
        exact (List.any_eq_true.2 ⟨l[i], List.getElem_mem hlt, by rw [← EX.out, hw]; rfl⟩).symm
    · obtain rfl : i = l.length := by omega
      go_wp2
      go_ret
      refine ⟨⟨-1, rfl, ?_⟩, rfl⟩
      rw [decide_eq_false (by decide)]
      refine (List.any_eq_false.2 fun x hx => ?_).symm
      obtain ⟨j, hj, rfl⟩ := List.mem_iff_getElem.1 hx
      rw [hb.out j hj hj]
      decide
theorem contains (A : Option Addr) (c : Nat) (l : List Int) (w : World) (h : Kd.C (Kd.int .i64) w A l.length l) :
    Calls Try.prog 39 #[.slice A l.length c, .func (.func 38) #[] #[]] w fun e w' => e = .returned (.bool (l.any (fun a => !wi a 0 2))) ∧ w = w' := by
  have H := Aside0.mk h
  clear h
  go_enter Try.func39, Try.ntmps39
  go_wp2_with (first | (go_at_call 64; refine (index _ _ _ _ H.out).mono ?_; rintro e w' ⟨⟨r, rfl, hr⟩, rfl⟩; have HR := Aside0.mk hr; clear hr))
  go_ret
  exact ⟨congrArg (fun z => Ending.returned (Value.bool z)) HR.out, rfl⟩
def B1 (j : Job) : Bool := wi j.w 1 4 && (wi j.l 1 (min 2 j.w) && wi j.wi 3 15)
def B2 (j : Job) : Bool := wi j.c 1024 65536 && (wi j.d 1024 1048576 && wi j.e 1 100)
def okT (ts : List Int) : Bool := wi ts.length 1 4 && !(ts.any (fun a => !wi a 0 2))
/-- May a job be? -/
def ok (j : Job) : Bool := (B1 j && B2 j) && okT j.ts
def err (b : Bool) : Int := if b then 0 else 2
set_option maxHeartbeats 4000000 in
set_option maxRecDepth 100000 in
theorem check (j : Job) (A : Option Addr) (n : Nat) (w : World) (h : j.In w A n) : Calls Try.prog 11 #[.agg (j.v A n)] w fun e w' => e = .returned (.int .i64 (err (ok j))) ∧ Below w.heap.size w w' := by
  unfold Job.v
  have hblk := blk_new w (.cells #[.int .i64 j.w, .int .i64 j.l, .int .i64 j.wi, .int .i64 j.c, .int .i64 j.d, .int .i64 j.e, .slice A j.ts.length n] 24)
  have hb0 := below_alloc (Below.refl w.heap.size w) (.cells #[.int .i64 j.w, .int .i64 j.l, .int .i64 j.wi, .int .i64 j.c, .int .i64 j.d, .int .i64 j.e, .slice A j.ts.length n] 24)
  have HB := Aside0.mk hb0
  have HI := Aside0.mk (h.below hb0)
  have y0 : (_ : Option Value) = some (.int .i64 j.w) := (blk_cell hblk 0).trans rfl
  have y1 : (_ : Option Value) = some (.int .i64 j.l) := (blk_cell hblk 1).trans rfl
  have y2 : (_ : Option Value) = some (.int .i64 j.wi) := (blk_cell hblk 2).trans rfl
  have y3 : (_ : Option Value) = some (.int .i64 j.c) := (blk_cell hblk 3).trans rfl
  have y4 : (_ : Option Value) = some (.int .i64 j.d) := (blk_cell hblk 4).trans rfl
  have y5 : (_ : Option Value) = some (.int .i64 j.e) := (blk_cell hblk 5).trans rfl
  have y6 : (_ : Option Value) = some (.slice A j.ts.length n) := (blk_cell hblk 6).trans rfl
  obtain ⟨E, hE⟩ : ∃ E, E = err (ok j) := ⟨_, rfl⟩
  rw [← hE]
  have HE := Aside0.mk hE
  clear hblk hb0 h hE
  go_enter Try.func11, Try.ntmps11
  go_upto_region 1 with fail
  generalize w.alloc (.cells #[.int .i64 j.w, .int .i64 j.l, .int .i64 j.wi, .int .i64 j.c, .int .i64 j.d, .int .i64 j.e, .slice A j.ts.length n] 24) = w1 at HB HI y0 y1 y2 y3 y4 y5 y6 ⊢
  obtain ⟨b1, hb1⟩ : ∃ b, b = B1 j := ⟨_, rfl⟩
  obtain ⟨b2, hb2⟩ : ∃ b, b = B2 j := ⟨_, rfl⟩
  have HB1 := Aside0.mk hb1
  have HB2 := Aside0.mk hb2
  clear hb1 hb2
  go_cut [3] (fun s wx => s = .bool b1 ∧ w1 = wx)
  case first =>
    go_wp2_with (first | (go_at_call 37; refine (within _ _ _ _).mono ?_; rintro e w' ⟨rfl, rfl⟩))
    all_goals go_meet
    all_goals first
      | (have h1 : j.w < 2 := by assumption
         have h3 : wi j.w 1 4 = true := by assumption
         first
         | (have h2 : wi j.l 1 j.w = true := by assumption
            exact ⟨by rw [HB1.out]; unfold B1; rw [h3, show min 2 j.w = j.w by omega, h2]; simp, rfl⟩)
         | (have h2 : ¬ wi j.l 1 j.w = true := by assumption
            exact ⟨by rw [HB1.out]; unfold B1; rw [h3, show min 2 j.w = j.w by omega, Bool.eq_false_iff.mpr h2]; simp, rfl⟩))
      | (have h1 : 2 ≤ j.w := by assumption
         have h3 : wi j.w 1 4 = true := by assumption
         first
         | (have h2 : wi j.l 1 2 = true := by assumption
            exact ⟨by rw [HB1.out]; unfold B1; rw [h3, show min 2 j.w = 2 by omega, h2]; simp, rfl⟩)
         | (have h2 : ¬ wi j.l 1 2 = true := by assumption
            exact ⟨by rw [HB1.out]; unfold B1; rw [h3, show min 2 j.w = 2 by omega, Bool.eq_false_iff.mpr h2]; simp, rfl⟩))
      | (have h3 : ¬ wi j.w 1 4 = true := by assumption
         exact ⟨by rw [HB1.out]; unfold B1; rw [Bool.eq_false_iff.mpr h3]; simp, rfl⟩)
  case rest =>
    obtain ⟨rfl, rfl⟩ := hcut
    go_upto_region 2 with fail
    go_cut [4] (fun s wx => s = .bool b2 ∧ w1 = wx)
    case first =>
      go_wp2_with (first | (go_at_call 37; refine (within _ _ _ _).mono ?_; rintro e w' ⟨rfl, rfl⟩))
      all_goals go_meet
      all_goals first
        | (have h1 : wi j.c 1024 65536 = true := by assumption
           first
           | (have h2 : wi j.d 1024 1048576 = true := by assumption
              exact ⟨by rw [HB2.out]; unfold B2; rw [h1, h2]; simp, rfl⟩)
           | (have h2 : ¬ wi j.d 1024 1048576 = true := by assumption
              exact ⟨by rw [HB2.out]; unfold B2; rw [h1, Bool.eq_false_iff.mpr h2]; simp, rfl⟩))
        | (have h1 : ¬ wi j.c 1024 65536 = true := by assumption
           exact ⟨by rw [HB2.out]; unfold B2; rw [Bool.eq_false_iff.mpr h1]; simp, rfl⟩)
    case rest =>
      obtain ⟨rfl, rfl⟩ := hcut
      have CC := Aside0.mk (fun A c => contains A c j.ts w1)
      have HE2 : Aside0 ( E = err ((b1 && b2) && (wi (j.ts.length : Int) 1 4 && !(j.ts.any fun a => !wi a 0 2)))) := ⟨by rw [HE.out, HB1.out, HB2.out]; rfl⟩
      go_wp2_with (first | (go_at_call 37; refine (within _ _ _ _).mono ?_; rintro e w' ⟨rfl, rfl⟩) | (go_at_call 39; refine (CC.out _ _ HI.out.C).mono ?_; rintro e w' ⟨rfl, rfl⟩))
      all_goals go_ret
      all_goals first
        | (have h1 : ¬ b1 = true := by assumption
           exact ⟨by rw [HE2.out, Bool.eq_false_iff.mpr h1]; rfl, HB.out⟩)
        | (have h1 : ¬ b2 = true := by assumption
           exact ⟨by rw [HE2.out, Bool.eq_false_iff.mpr h1, Bool.and_false]; rfl, HB.out⟩)
        | (have h1 : b1 = true := by assumption
           have h2 : b2 = true := by assumption
           first
           | (have h3 : ¬ wi (j.ts.length : Int) 1 4 = true := by assumption
              exact ⟨by rw [HE2.out, h1, h2, Bool.eq_false_iff.mpr h3]; rfl, HB.out⟩)
           | (have h3 : wi (j.ts.length : Int) 1 4 = true := by assumption
              first
              | (have h4 : (j.ts.any fun a => !wi a 0 2) = true := by assumption
                 exact ⟨by rw [HE2.out, h1, h2, h3, h4]; rfl, HB.out⟩)
              | (have h4 : (j.ts.any fun a => !wi a 0 2) = false := by assumption
                 exact ⟨by rw [HE2.out, h1, h2, h3, h4]; rfl, HB.out⟩)))
end Go.Proofs.Ytecdnhmdodedmaa.Ca
