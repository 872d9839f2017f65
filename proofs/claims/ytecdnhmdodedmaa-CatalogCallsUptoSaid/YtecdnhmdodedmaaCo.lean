/- catalog.Changes: what it answers. -/
import Derived.Test.YtecdnhmdodedmaaCm
import Derived.OwnWalk
namespace Go.Proofs.Ytecdnhmdodedmaa.Ch
open Go.RowKit Go.Proofs.YtecdnhmdodedmaaW.PrintWords Go.Proofs.YtecdnhmdodedmaaW.PrintLast Go.Proofs.YtecdnhmdodedmaaW.PrintMore Go.Proofs.Ytecdnhmdodedmaa.HS Go.Proofs.Ytecdnhmdodedmaa.Ca Go.Proofs.Ytecdnhmdodedmaa.It
set_option linter.unusedVariables false
set_option linter.unusedSimpArgs false
/-- What goes, what comes, and an error. -/
def changesL (j : Job) (t : Int) (key : List Int) (r r2 : List (List Int)) : List S62 × List S62 × Int :=
  if (entriesL j t key r).2 = 0 ∧ (entriesL j t key r2).2 = 0 then (withoutL (entriesL j t key r).1 (entriesL j t key r2).1, withoutL (entriesL j t key r2).1 (entriesL j t key r).1, 0) else ([], [], 2)
def ChgP (R : List S62 × List S62 × Int) (w : World) (e : Ending) (w' : World) : Prop :=
  ∃ A c B d, e = .returned (.tuple #[.slice A R.1.length c, .slice B R.2.1.length d, .int .i64 R.2.2]) ∧ R.1.length ≤ c ∧ Kd.C k62 w' A R.1.length R.1 ∧ R.2.1.length ≤ d ∧ Kd.C k62 w' B R.2.1.length R.2.1 ∧ Below w.heap.size w w'
theorem entriesL_len (j : Job) (t : Int) (key : List Int) (r : List (List Int)) : (entriesL j t key r).1.length ≤ 1048576 := by
  unfold entriesL
  cases h : entB j t key r with
  | false => simp
  | true =>
    unfold entB at h
    simp only [Bool.and_eq_true] at h
    obtain ⟨h1, h2, h3, h4⟩ := h
    obtain ⟨t1, t2, t3⟩ := okT_le h1
    obtain ⟨f1, f2⟩ := (wi_iff _ _ _).1 h2
    have htl : t.toNat < j.ts.length := by omega
    have hx := t3 _ (List.getElem_mem htl)
    have er : rd j.ts t = j.ts[t.toNat] := by simp [rd, htl]
    rw [if_pos rfl]
    unfold entF entN
    rw [List.length_map, List.length_range, er]
    omega

set_option maxHeartbeats 4000000 in
set_option maxRecDepth 100000 in
theorem changes_call (j : Job) (A : Option Addr) (n : Nat) (t : Int) (B : Option Addr) (d : Nat) (key : List Int) (D : Option Addr) (m : Nat) (r : List (List Int)) (D2 : Option Addr) (m2 : Nat) (r2 : List (List Int)) (w : World) (hj : j.In w A n) 
    (hB : Kd.C (Kd.int .u8) w B key.length key) (hd : key.length ≤ d) (hD : Kd.C (Kd.slice 5 (Kd.int .u8)) w D r.length r) (hm : r.length ≤ m) (hD2 : Kd.C (Kd.slice 5 (Kd.int .u8)) w D2 r2.length r2) (hm2 : r2.length ≤ m2) :
    Calls Try.prog 22 #[.agg (j.v A n), .int .i64 t, .slice B key.length d, .slice D r.length m, .slice D2 r2.length m2] w (ChgP (changesL j t key r r2) w) := by
  have hb := below_alloc (Below.refl w.heap.size w) (.cells (j.v A n) 24)
  have hblk := blk_new w (.cells (j.v A n) 24)
  have HJB := Aside0.mk (JobAt.mk hblk (hj.below hb))
  have HB := Aside0.mk hb
  have CE1 := Aside0.mk (fun (W : World) (h1 : Below w.heap.size w W) => entries_call j A n t B d key D m r W (hj.below h1)  (Kd.C_below hB h1) hd (Kd.C_below hD h1) hm)
  have CE2 := Aside0.mk (fun (W : World) (h1 : Below w.heap.size w W) => entries_call j A n t B d key D2 m2 r2 W (hj.below h1)  (Kd.C_below hB h1) hd (Kd.C_below hD2 h1) hm2)
  obtain ⟨R, hR⟩ : ∃ R, R = changesL j t key r r2 := ⟨_, rfl⟩
  rw [← hR]
  unfold changesL at hR
  have la := entriesL_len j t key r
  have lb := entriesL_len j t key r2
  obtain ⟨⟨a, e1⟩, ha⟩ : ∃ a, a = entriesL j t key r := ⟨_, rfl⟩
  obtain ⟨⟨b, e2⟩, hbb⟩ : ∃ b, b = entriesL j t key r2 := ⟨_, rfl⟩
  rw [← ha] at CE1 la hR
  rw [← hbb] at CE2 lb hR
  dsimp only at la lb hR
  have HR := Aside0.mk hR
  have LL := Aside0.mk (And.intro la lb)
  clear hR ha hbb hj hB hd hD hm hD2 hm2 hb la lb
  unfold EntP2 at CE1 CE2
  dsimp only at CE1 CE2
  unfold Job.v at *
  go_enter Try.func22, Try.ntmps22
  go_upto_region 1 with fail
  obtain ⟨P0, q0⟩ : ∃ B, w.heap.size = B := ⟨_, rfl⟩
  rw [q0] at hblk HJB ⊢
  generalize World.alloc _ _ = w2 at hblk HJB HB ⊢
  have K0 := Aside0.mk (fun (W : World) (hb : Below w2.heap.size w2 W) => (And.intro (pw_cell_below hb ((blk_cell hblk 0).trans rfl : w2.cell? ⟨P0, 0, none⟩ = some (.int .i64 j.w))) (And.intro (pw_cell_below hb ((blk_cell hblk 1).trans rfl : w2.cell? ⟨P0, 1, none⟩ = some (.int .i64 j.l))) (And.intro (pw_cell_below hb ((blk_cell hblk 2).trans rfl : w2.cell? ⟨P0, 2, none⟩ = some (.int .i64 j.wi))) (And.intro (pw_cell_below hb ((blk_cell hblk 3).trans rfl : w2.cell? ⟨P0, 3, none⟩ = some (.int .i64 j.c))) (And.intro (pw_cell_below hb ((blk_cell hblk 4).trans rfl : w2.cell? ⟨P0, 4, none⟩ = some (.int .i64 j.d))) (And.intro (pw_cell_below hb ((blk_cell hblk 5).trans rfl : w2.cell? ⟨P0, 5, none⟩ = some (.int .i64 j.e))) (pw_cell_below hb ((blk_cell hblk 6).trans rfl : w2.cell? ⟨P0, 6, none⟩ = some (.slice A j.ts.length n))))))))))
  obtain ⟨c0, c1, c2, c3, c4, c5, c6⟩ := K0.out w2 (Below.refl _ _)
  clear hblk q0
  go_upto_region 2 with (first | (go_at_call 20; (with_reducible refine (CE1.out _ HB.out).mono ?_); rintro e w3 ⟨A1, k1, rfl, hk1, hC1, hb3⟩; have HA := Aside0.mk hC1; have HK1 := Aside0.mk hk1; have HB3 := Aside0.mk (below_step HB.out hb3); obtain ⟨z0, z1, z2, z3, z4, z5, z6⟩ := K0.out _ hb3; clear hb3 hC1 hk1))
  go_upto_region 3 with (first | (go_at_call 20; (with_reducible refine (CE2.out _ HB3.out).mono ?_); rintro e w4 ⟨A2, k2, rfl, hk2, hC2, hb4⟩; have HA1 := Aside0.mk (Kd.C_below HA.out hb4); have HA2 := Aside0.mk hC2; have HK2 := Aside0.mk hk2; have HB4 := Aside0.mk (below_step HB3.out hb4); clear hb4 hC2 hk2))
  clear z0 z1 z2 z3 z4 z5 z6 c0 c1 c2 c3 c4 c5 c6
  by_cases h1 : e1 = 0
  · subst h1
    by_cases h2 : e2 = 0
    · subst h2
      have HR2 := Aside0.mk (show R = (withoutL a b, withoutL b a, 0) by rw [HR.out]; rfl)
      have W1 := Aside0.mk (fun (W : World) (hb : Below w4.heap.size w4 W) => without A1 A2 k1 k2 a b W (Kd.C_below HA1.out hb) (Kd.C_below HA2.out hb) LL.out.1)
      have W2 := Aside0.mk (fun (W : World) (hb : Below w4.heap.size w4 W) => without A2 A1 k2 k1 b a W (Kd.C_below HA2.out hb) (Kd.C_below HA1.out hb) LL.out.2)
      unfold EntP at W1 W2
      go_wp2_with (first | (go_at_call 50; (with_reducible refine (W1.out w4 (Below.refl _ _)).mono ?_); rintro e w5 ⟨A5, k5, rfl, hk5, hC5, hb5⟩; have HA5 := Aside0.mk hC5; have HK5 := Aside0.mk hk5; have HQ5 := Aside0.mk hb5; clear hb5 hC5 hk5) | (go_at_call 50; (with_reducible refine (W2.out w5 HQ5.out).mono ?_); rintro e w6 ⟨A6, k6, rfl, hk6, hC6, hb6⟩; have HA6 := Aside0.mk hC6; have HK6 := Aside0.mk hk6; have HA5' := Aside0.mk (Kd.C_below HA5.out hb6); have HB6 := Aside0.mk (below_step (below_step HB4.out HQ5.out) hb6); clear hb6 hC6 hk6))
      refine bodyPost_ret (results_tmp3 rfl _ _ _) rfl ?_
      rw [HR2.out]
      exact ⟨A5, k5, A6, k6, rfl, HK5.out, HA5'.out, HK6.out, HA6.out, HB6.out⟩
    · have h2' : (e2 != 0) = true := bne_iff_ne.2 h2
      have HR2 := Aside0.mk (show R = ([], [], 2) by rw [HR.out]; exact if_neg (fun h => h2 h.2))
      clear h2
      go_wp2
      refine bodyPost_ret (results_tmp3 rfl _ _ _) rfl ?_
      rw [HR2.out]
      exact ⟨none, 0, none, 0, rfl, Nat.le_refl _, Kd.C_nil _ _, Nat.le_refl _, Kd.C_nil _ _, HB4.out⟩
  · have h1' : (e1 != 0) = true := bne_iff_ne.2 h1
    have HR2 := Aside0.mk (show R = ([], [], 2) by rw [HR.out]; exact if_neg (fun h => h1 h.1))
    clear h1
    go_wp2
    refine bodyPost_ret (results_tmp3 rfl _ _ _) rfl ?_
    rw [HR2.out]
    exact ⟨none, 0, none, 0, rfl, Nat.le_refl _, Kd.C_nil _ _, Nat.le_refl _, Kd.C_nil _ _, HB4.out⟩
end Go.Proofs.Ytecdnhmdodedmaa.Ch
