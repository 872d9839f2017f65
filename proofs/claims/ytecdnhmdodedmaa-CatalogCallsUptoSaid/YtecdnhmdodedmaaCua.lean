/- garnerref16.MaySessions and bytes.Clone: what they answer (walked by hand). -/
import Derived.Test.YtecdnhmdodedmaaCu
namespace Go.Proofs.Ytecdnhmdodedmaa.Ch
open Go.RowKit Go.Proofs.YtecdnhmdodedmaaW.PrintWords Go.Proofs.YtecdnhmdodedmaaW.PrintLast Go.Proofs.YtecdnhmdodedmaaW.PrintMore Go.Proofs.Ytecdnhmdodedmaa.HS Go.Proofs.Ytecdnhmdodedmaa.Ca Go.Proofs.Ytecdnhmdodedmaa.It
set_option linter.unusedVariables false
set_option linter.unusedSimpArgs false
theorem rd_T74_mem (ts : List S74) (i : Nat) (h : i < ts.length) : rd_T74 ts (i : Int) ∈ ts := by
  have : rd_T74 ts (i : Int) = ts[i] := by simp [rd_T74, List.getD, h]
  rw [this]
  exact List.getElem_mem h
theorem rd_L10_mem (ts : List (List S74)) (i : Nat) (h : i < ts.length) : rd_L10 ts (i : Int) ∈ ts := by
  have : rd_L10 ts (i : Int) = ts[i] := by simp [rd_L10, List.getD, h]
  rw [this]
  exact List.getElem_mem h
/-- A transaction as an element of a row: its cells. -/
structure TxEl (t : S74) (p : Addr) (A3 : Option Addr) (c3 : Nat) (W : World) : Prop where
  x0 : W.cell? p = some (.slice A3 t.f0.length c3)
  x1 : W.cell? ⟨p.block, p.off + 1, none⟩ = some (.bool t.f1)
  x2 : W.cell? ⟨p.block, p.off + 2, none⟩ = some (.bool t.f2)
  le : t.f0.length ≤ c3
  C : Kd.C k80 W A3 t.f0.length t.f0
theorem TxEl.below {t : S74} {p : Addr} {A3 : Option Addr} {c3 : Nat} {W V : World} (h : TxEl t p A3 c3 W) (hb : Below W.heap.size W V) : TxEl t p A3 c3 V :=
  ⟨pw_cell_below hb h.x0, pw_cell_below hb h.x1, pw_cell_below hb h.x2, h.le, Kd.C_below h.C hb⟩
theorem txEl_at {W : World} {A : Option Addr} {l : List S74} (h : Kd.C k74 W A l.length l) (k : Nat) (hk : k < l.length) : ∃ ad A3 c3, A = some ad ∧ TxEl (rd_T74 l (k : Int)) (ad.add (k * 3)) A3 c3 W := by
  obtain ⟨ad, A3, c3, ea, x0, x1, x2, h3, g3⟩ := at_T74 h (k : Int) (by omega) (by omega)
  rw [Int.toNat_natCast] at x0 x1 x2
  exact ⟨ad, A3, c3, ea, x0, x1, x2, h3, g3⟩
set_option maxHeartbeats 16000000 in
set_option maxRecDepth 100000 in
theorem refMaySessions_call (j : Job) (A : Option Addr) (n : Nat) (l : List (List S74)) (B : Option Addr) (d : Nat) (w : World) (hj : j.In w A n) (hl : l.length ≤ d) (hB : Kd.C (Kd.slice 74 k74) w B l.length l) (hts : j.ts.length ≤ 1048576) (hll : l.length ≤ 1048576) (hM : ∀ s ∈ l, ∀ t ∈ s, ∀ o ∈ t.f0, o.f6.length ≤ 1048576) :
    Calls Try.prog 30 #[.agg (j.v A n), .slice B l.length d] w fun e w' => e = .returned (.bool (maySessions j l)) ∧ Below w.heap.size w w' := by
  obtain ⟨R, hR⟩ : ∃ R, R = maySessions j l := ⟨_, rfl⟩
  have hR2 : R = (ok j && (decide ((l.length : Int) = j.w) && !(l.any (badSession j)))) := hR
  rw [← hR]
  have CK := Aside0.mk (fun (W : World) (hi : j.In W A n) => refCheck_call2 j A n W hi hts)
  have CT := Aside0.mk (fun (t : S74) (B' : Option Addr) (d' : Nat) (W : World) (hi : j.In W A n) (hl' : t.f0.length ≤ d') (hB' : Kd.C k80 W B' t.f0.length t.f0) (hM' : ∀ o ∈ t.f0, o.f6.length ≤ 1048576) => refMayTxn_call j A n t B' d' W hi hl' hB' hts hM')
  have hb0 := below_alloc (Below.refl w.heap.size w) (.cells (j.v A n) 24)
  have e0 := blk_new w (.cells (j.v A n) 24)
  have HJ := Aside0.mk (JobAt.mk e0 (hj.below hb0))
  have HL := Aside0.mk (Kd.C_below hB hb0)
  have HB := Aside0.mk hb0
  have HM := Aside0.mk hM
  have HLL := Aside0.mk hll
  have HE := ok_err j
  obtain ⟨E, eE⟩ : ∃ E, E = err (ok j) := ⟨_, rfl⟩
  rw [← eE] at CK HE
  obtain ⟨ob, hob⟩ : ∃ b, b = ok j := ⟨_, rfl⟩
  rw [← hob] at HE hR2
  have HE2 : (E != 0) = (!ob) := by rw [← HE]; rfl
  have HR := Aside0.mk hR2
  clear hob hj hB hb0 e0 hR hR2 hM hts eE HE hl hll
  unfold Job.v at *
  go_enter Try.func30, Try.ntmps30
  go_upto_region 1 with fail
  obtain ⟨P0, q0⟩ : ∃ B, w.heap.size = B := ⟨_, rfl⟩
  rw [q0] at HJ ⊢
  clear q0
  generalize World.alloc _ _ = w2 at HJ HL HB ⊢
  obtain ⟨d0, d1, d2, d3', d4', d5, d6'⟩ := HJ.out.cells
  have D0 := Aside0.mk d0
  cases ob with
  | false =>
    rw [Bool.not_false] at HE2
    go_wp2_with (go_at_call 12; (with_reducible refine (CK.out _ HJ.out.inn).mono ?_); rintro e w3 ⟨rfl, hb3⟩; have HB3 := Aside0.mk (below_step HB.out hb3); clear hb3)
    go_ret
    exact ⟨by rw [HR.out]; first | done | rfl | simp, HB3.out⟩
  | true =>
    rw [Bool.not_true] at HE2
    obtain ⟨bw, hbw⟩ : ∃ b, ((l.length : Int) == j.w) = b := ⟨_, rfl⟩
    have HBW := Aside0.mk (show decide ((l.length : Int) = j.w) = bw by rw [← hbw]; exact Bool.eq_iff_iff.2 (by simp))
    have hbn : ((l.length : Int) != j.w) = !bw := by rw [← hbw]; rfl
    cases bw with
    | false =>
      rw [Bool.not_false] at hbn
      go_wp2_with (go_at_call 12; (with_reducible refine (CK.out _ HJ.out.inn).mono ?_); rintro e w3 ⟨rfl, hb3⟩; have HB3 := Aside0.mk (below_step HB.out hb3); have z0 := pw_cell_below hb3 D0.out; clear hb3)
      go_ret
      exact ⟨by rw [HR.out, HBW.out]; first | done | rfl | simp, HB3.out⟩
    | true =>
      rw [Bool.not_true] at hbn
      have HR3 := Aside0.mk (show R = !(l.any (badSession j)) by rw [HR.out, HBW.out]; simp)
      go_upto_region 3 with (go_at_call 12; (with_reducible refine (CK.out _ HJ.out.inn).mono ?_); rintro e w3 ⟨rfl, hb3⟩; have HQ3 := Aside0.mk hb3; have z0 := pw_cell_below hb3 D0.out; clear hb3)
      try clear d0
      try clear d1
      try clear d2
      try clear d3'
      try clear d4'
      try clear d5
      try clear d6'
      try clear z0
      try clear hbn
      try clear hbw
      go_wp2
      go_loopw [5] (fun v w' => ∃ i : Nat, v = .int .i64 i ∧ i ≤ l.length ∧ Aside0 (∀ q : Nat, q < i → badSession j (rd_L10 l (q : Int)) = false) ∧ Aside0 (Below w2.heap.size w2 w')) (fun v _ => l.length - (intOf v).toNat)
      case atStart => exact ⟨0, rfl, Nat.zero_le _, ⟨fun q h => by omega⟩, HQ3⟩
      case round =>
        obtain ⟨i, rfl, hi, hbad, hb⟩ := hrel
        by_cases hlt : i < l.length
        · obtain ⟨ad, A0, c0, ea, hx, hc0, hC0⟩ := at_L10 (Kd.C_below HL.out hb.out) (i : Int) (by omega) (by omega)
          subst ea
          rw [Int.toNat_natCast] at hx
          have HMS := Aside0.mk (HM.out _ (rd_L10_mem l i hlt))
          have HBD := Aside0.mk (fun (hp : badSession j (rd_L10 l (i : Int)) = false) => (show ∀ q : Nat, q < i + 1 → badSession j (rd_L10 l (q : Int)) = false from fun q hq => by
            by_cases e : q = i
            · subst e; exact hp
            · exact hbad.out q (by omega)))
          have HT := Aside0.mk (fun (hp : badSession j (rd_L10 l (i : Int)) = true) => (show R = false from by
            rw [HR3.out]
            have : l.any (badSession j) = true := List.any_eq_true.2 ⟨_, rd_L10_mem l i hlt, hp⟩
            rw [this]; rfl))
          generalize rd_L10 l (i : Int) = s at hx hc0 hC0 HMS HBD HT
          obtain ⟨pr, hpr⟩ : ∃ p, ad.add i = p := ⟨_, rfl⟩
          rw [hpr] at hx
          have k0 : (0 : Int) ≤ (i : Int) := by omega
          have k1 : (i : Int) < (l.length : Int) := by omega
          by_cases h64 : 64 < s.length
          · have HT2 := Aside0.mk (HT.out (by unfold badSession; rw [decide_eq_true h64]; rfl))
            clear hC0 hc0
            go_wp2
            go_ret
            exact ⟨by rw [HT2.out]; first | done | rfl | simp, below_step HB.out hb.out⟩
          · have hbs : badSession j s = s.any (fun t => !mayTxn j t) := by unfold badSession; rw [decide_eq_false h64]; rfl
            rw [hbs] at HBD HT
            have HXW := Aside0.mk hx
            have HCW := Aside0.mk hC0
            clear hC0 hc0 hbs
            go_wp2
            obtain ⟨wo, hwo⟩ : ∃ wo : World, wo = wr := ⟨_, rfl⟩
            subst hwo
            clear hx
            go_loopw [6] (fun v w' => ∃ k : Nat, v = .int .i64 k ∧ k ≤ s.length ∧ Aside0 (∀ q : Nat, q < k → mayTxn j (rd_T74 s (q : Int)) = true) ∧ Aside0 (Below wo.heap.size wo w')) (fun v _ => s.length - (intOf v).toNat)
            case atStart => exact ⟨0, rfl, Nat.zero_le _, ⟨fun q h => by omega⟩, ⟨Below.refl _ _⟩⟩
            case round =>
              obtain ⟨k, rfl, hk, hgood, hb2⟩ := hrel
              have hx := pw_cell_below hb2.out HXW.out
              have HBW2 := Aside0.mk (below_step hb.out hb2.out)
              by_cases hlt2 : k < s.length
              · obtain ⟨a2, A3, c3, ea, hel⟩ := txEl_at (Kd.C_below HCW.out hb2.out) k hlt2
                subst ea
                have HM2 := Aside0.mk (HMS.out _ (rd_T74_mem s k hlt2))
                have HG2 := Aside0.mk (fun (hp : mayTxn j (rd_T74 s (k : Int)) = true) => (show ∀ q : Nat, q < k + 1 → mayTxn j (rd_T74 s (q : Int)) = true from fun q hq => by
                  by_cases e : q = k
                  · subst e; exact hp
                  · exact hgood.out q (by omega)))
                have HT2 := Aside0.mk (fun (hp : mayTxn j (rd_T74 s (k : Int)) = false) => HT.out (List.any_eq_true.2 ⟨_, rd_T74_mem s k hlt2, by rw [hp]; rfl⟩))
                generalize rd_T74 s (k : Int) = t at hel HM2 HG2 HT2
                obtain ⟨p, hp⟩ : ∃ p, a2.add (k * 3) = p := ⟨_, rfl⟩
                rw [hp] at hel
                have m0 : (0 : Int) ≤ (k : Int) := by omega
                have m1 : (k : Int) < (s.length : Int) := by omega
                have CM := Aside0.mk (fun (W : World) (h1 : j.In W A n) (h2 : TxEl t p A3 c3 W) => CT.out t A3 c3 W h1 h2.le h2.C HM2.out)
                obtain ⟨mb, hmb⟩ : ∃ R, R = mayTxn j t := ⟨_, rfl⟩
                rw [← hmb] at CM HG2 HT2
                have HEL := Aside0.mk hel
                clear hel hmb
                go_upto_region 11 with fail
                have HQd := Aside0.mk (below_step HBW2.out (below_drew (Below.refl wr.heap.size wr)))
                have HQo := Aside0.mk (below_step hb2.out (below_drew (Below.refl wr.heap.size wr)))
                have HEd := Aside0.mk (below_drew (Below.refl wr.heap.size wr))
                clear hx
                cases mb with
                | false =>
                  refine start_ (n := 10) (S := fun w' => w'.cell? ⟨P0, 0, none⟩ = some (.int .i64 j.w) ∧ w'.cell? ⟨P0, 1, none⟩ = some (.int .i64 j.l) ∧ w'.cell? ⟨P0, 2, none⟩ = some (.int .i64 j.wi) ∧ w'.cell? ⟨P0, 3, none⟩ = some (.int .i64 j.c) ∧ w'.cell? ⟨P0, 4, none⟩ = some (.int .i64 j.d) ∧ w'.cell? ⟨P0, 5, none⟩ = some (.int .i64 j.e) ∧ w'.cell? ⟨P0, 6, none⟩ = some (.slice A j.ts.length n) ∧ w'.cell? pr = some (.slice (some a2) s.length c0) ∧ w'.cell? p = some (.slice A3 t.f0.length c3) ∧ w'.cell? ⟨p.block, p.off + 1, none⟩ = some (.bool t.f1) ∧ w'.cell? ⟨p.block, p.off + 2, none⟩ = some (.bool t.f2)) (ds := []) #[false, false, false, false, false, false, false, false, false, false] (by kernel_rfl) rfl rfl ⟨(HJ.out.below HQd.out).cells.1, (HJ.out.below HQd.out).cells.2.1, (HJ.out.below HQd.out).cells.2.2.1, (HJ.out.below HQd.out).cells.2.2.2.1, (HJ.out.below HQd.out).cells.2.2.2.2.1, (HJ.out.below HQd.out).cells.2.2.2.2.2.1, (HJ.out.below HQd.out).cells.2.2.2.2.2.2, pw_cell_below HQo.out HXW.out, (HEL.out.below HEd.out).x0, (HEL.out.below HEd.out).x1, (HEL.out.below HEd.out).x2⟩ (fun hHeld => ?_)
                  generalize wr.drew = wd at hHeld HQd HQo HEd ⊢
                  refine take_ (i := 0) (N := some 38) (v := ?_) (a' := ?_) #[true, false, false, false, false, false, false, false, false, false] rfl rfl (by kernel_rfl) (fun _ _ _ h => h) (Or.inl ⟨by rfl, ?_⟩) hHeld ?_ ?_
                  rotate_left
                  · rintro w' ⟨s0, s1, s2, s3, s4, s5, s6, s7, s8, s9, s10⟩
                    go_simp
                    with_reducible rfl
                  rotate_left
                  · simp only [Act.put, List.setIfInBounds_toArray, List.set_cons_zero, List.set_cons_succ, i64_w, i32_w]
                    rfl
                  refine pure_ (i := 1) (N := some 39) (v := ?_) (a' := ?_) #[true, true, false, false, false, false, false, false, false, false] rfl rfl (by kernel_rfl) (fun _ _ _ h => h) (Or.inl ⟨by rfl, ?_⟩) ?_ ?_
                  rotate_left
                  · intro w'
                    go_simp
                    with_reducible rfl
                  rotate_left
                  · simp only [Act.put, List.setIfInBounds_toArray, List.set_cons_zero, List.set_cons_succ, i64_w, i32_w]
                    rfl
                  refine pure_ (i := 2) (N := some 40) (v := ?_) (a' := ?_) #[true, true, true, false, false, false, false, false, false, false] rfl rfl (by kernel_rfl) (fun _ _ _ h => h) (Or.inl ⟨by rfl, ?_⟩) ?_ ?_
                  rotate_left
                  · intro w'
                    go_simp
                    with_reducible rfl
                  rotate_left
                  · simp only [Act.put, List.setIfInBounds_toArray, List.set_cons_zero, List.set_cons_succ, i64_w, i32_w]
                    rfl
                  refine pure_ (i := 3) (N := some 41) (v := ?_) (a' := ?_) #[true, true, true, true, false, false, false, false, false, false] rfl rfl (by kernel_rfl) (fun _ _ _ h => h) (Or.inl ⟨by rfl, ?_⟩) ?_ ?_
                  rotate_left
                  · intro w'
                    go_simp
                    with_reducible rfl
                  rotate_left
                  · simp only [Act.put, List.setIfInBounds_toArray, List.set_cons_zero, List.set_cons_succ, i64_w, i32_w]
                    rfl
                  refine take_ (i := 4) (N := some 42) (v := ?_) (a' := ?_) #[true, true, true, true, true, false, false, false, false, false] rfl rfl (by kernel_rfl) (fun _ _ _ h => h) (Or.inl ⟨by rfl, ?_⟩) hHeld ?_ ?_
                  rotate_left
                  · rintro w' ⟨s0, s1, s2, s3, s4, s5, s6, s7, s8, s9, s10⟩
                    go_simp
                    with_reducible rfl
                  rotate_left
                  · simp only [Act.put, List.setIfInBounds_toArray, List.set_cons_zero, List.set_cons_succ, i64_w, i32_w]
                    rfl
                  refine pure_ (i := 5) (N := some 43) (v := ?_) (a' := ?_) #[true, true, true, true, true, true, false, false, false, false] rfl rfl (by kernel_rfl) (fun _ _ _ h => h) (Or.inl ⟨by rfl, ?_⟩) ?_ ?_
                  rotate_left
                  · intro w'
                    go_simp
                    with_reducible rfl
                  rotate_left
                  · simp only [Act.put, List.setIfInBounds_toArray, List.set_cons_zero, List.set_cons_succ, i64_w, i32_w]
                    rfl
                  refine pure_ (i := 6) (N := some 44) (v := ?_) (a' := ?_) #[true, true, true, true, true, true, true, false, false, false] rfl rfl (by kernel_rfl) (fun _ _ _ h => h) (Or.inl ⟨by rfl, ?_⟩) ?_ ?_
                  rotate_left
                  · intro w'
                    go_simp
                    with_reducible rfl
                  rotate_left
                  · simp only [Act.put, List.setIfInBounds_toArray, List.set_cons_zero, List.set_cons_succ, i64_w, i32_w]
                    rfl
                  refine take_ (i := 7) (N := some 45) (v := ?_) (a' := ?_) #[true, true, true, true, true, true, true, true, false, false] rfl rfl (by kernel_rfl) (fun _ _ _ h => h) (Or.inl ⟨by rfl, ?_⟩) hHeld ?_ ?_
                  rotate_left
                  · rintro w' ⟨s0, s1, s2, s3, s4, s5, s6, s7, s8, s9, s10⟩
                    go_simp
                    with_reducible rfl
                  rotate_left
                  · simp only [Act.put, List.setIfInBounds_toArray, List.set_cons_zero, List.set_cons_succ, i64_w, i32_w]
                    rfl
                  refine one_ (i := 8) (N := some 46) #[true, true, true, true, true, true, true, true, true, false] rfl rfl (by kernel_rfl) (by decide) (fun K hK => ?_)
                  refine goes_ Try.func32 (by kernel_rfl) rfl #[.agg #[.int .i64 j.w, .int .i64 j.l, .int .i64 j.wi, .int .i64 j.c, .int .i64 j.d, .int .i64 j.e, .slice A j.ts.length n], .agg #[.slice A3 t.f0.length c3, .bool t.f1, .bool t.f2]] (by rfl) rfl rfl (by (try simp only [List.map_toArray, List.map_cons, List.map_nil]); first | done | rfl) ?_
                  with_reducible refine (CM.out _ (HJ.out.below HQd.out).inn (HEL.out.below HEd.out)).mono ?_
                  rintro e we ⟨rfl, hb_⟩
                  refine ⟨_, rfl, ?_⟩
                  have HQe := Aside0.mk (below_step HQd.out hb_)
                  have HQp := Aside0.mk (below_step HQo.out hb_)
                  have HEe := Aside0.mk (below_step HEd.out hb_)
                  refine hK.out _ _ ⟨(HJ.out.below HQe.out).cells.1, (HJ.out.below HQe.out).cells.2.1, (HJ.out.below HQe.out).cells.2.2.1, (HJ.out.below HQe.out).cells.2.2.2.1, (HJ.out.below HQe.out).cells.2.2.2.2.1, (HJ.out.below HQe.out).cells.2.2.2.2.2.1, (HJ.out.below HQe.out).cells.2.2.2.2.2.2, pw_cell_below HQp.out HXW.out, (HEL.out.below HEe.out).x0, (HEL.out.below HEe.out).x1, (HEL.out.below HEe.out).x2⟩ (fun hHeld => ?_)
                  clear hK K
                  refine norm_ (a' := ?_) ?_ ?_
                  rotate_left
                  · show Act.put _ (some 46) _ = _
                    simp only [Act.put, List.setIfInBounds_toArray, List.set_cons_zero, List.set_cons_succ, i64_w, i32_w]
                    rfl
                  refine pure_ (i := 9) (N := some 47) (v := ?_) (a' := ?_) #[true, true, true, true, true, true, true, true, true, true] rfl rfl (by kernel_rfl) (fun _ _ _ h => h) (Or.inl ⟨by rfl, ?_⟩) ?_ ?_
                  rotate_left
                  · intro w'
                    go_simp
                    with_reducible rfl
                  rotate_left
                  · simp only [Act.put, List.setIfInBounds_toArray, List.set_cons_zero, List.set_cons_succ, i64_w, i32_w]
                    rfl
                  refine done_ (by kernel_rfl) ?_
                  simp only [Exit.then]
                  clear HQd HQo HEd HEe hHeld
                  go_wp2
                  go_ret
                  exact ⟨by rw [HT2.out (by first | trivial | rfl)]; first | done | rfl | simp, below_step HB.out HQe.out⟩
                | true =>
                  refine start_ (n := 10) (S := fun w' => w'.cell? ⟨P0, 0, none⟩ = some (.int .i64 j.w) ∧ w'.cell? ⟨P0, 1, none⟩ = some (.int .i64 j.l) ∧ w'.cell? ⟨P0, 2, none⟩ = some (.int .i64 j.wi) ∧ w'.cell? ⟨P0, 3, none⟩ = some (.int .i64 j.c) ∧ w'.cell? ⟨P0, 4, none⟩ = some (.int .i64 j.d) ∧ w'.cell? ⟨P0, 5, none⟩ = some (.int .i64 j.e) ∧ w'.cell? ⟨P0, 6, none⟩ = some (.slice A j.ts.length n) ∧ w'.cell? pr = some (.slice (some a2) s.length c0) ∧ w'.cell? p = some (.slice A3 t.f0.length c3) ∧ w'.cell? ⟨p.block, p.off + 1, none⟩ = some (.bool t.f1) ∧ w'.cell? ⟨p.block, p.off + 2, none⟩ = some (.bool t.f2)) (ds := []) #[false, false, false, false, false, false, false, false, false, false] (by kernel_rfl) rfl rfl ⟨(HJ.out.below HQd.out).cells.1, (HJ.out.below HQd.out).cells.2.1, (HJ.out.below HQd.out).cells.2.2.1, (HJ.out.below HQd.out).cells.2.2.2.1, (HJ.out.below HQd.out).cells.2.2.2.2.1, (HJ.out.below HQd.out).cells.2.2.2.2.2.1, (HJ.out.below HQd.out).cells.2.2.2.2.2.2, pw_cell_below HQo.out HXW.out, (HEL.out.below HEd.out).x0, (HEL.out.below HEd.out).x1, (HEL.out.below HEd.out).x2⟩ (fun hHeld => ?_)
                  generalize wr.drew = wd at hHeld HQd HQo HEd ⊢
                  refine take_ (i := 0) (N := some 38) (v := ?_) (a' := ?_) #[true, false, false, false, false, false, false, false, false, false] rfl rfl (by kernel_rfl) (fun _ _ _ h => h) (Or.inl ⟨by rfl, ?_⟩) hHeld ?_ ?_
                  rotate_left
                  · rintro w' ⟨s0, s1, s2, s3, s4, s5, s6, s7, s8, s9, s10⟩
                    go_simp
                    with_reducible rfl
                  rotate_left
                  · simp only [Act.put, List.setIfInBounds_toArray, List.set_cons_zero, List.set_cons_succ, i64_w, i32_w]
                    rfl
                  refine pure_ (i := 1) (N := some 39) (v := ?_) (a' := ?_) #[true, true, false, false, false, false, false, false, false, false] rfl rfl (by kernel_rfl) (fun _ _ _ h => h) (Or.inl ⟨by rfl, ?_⟩) ?_ ?_
                  rotate_left
                  · intro w'
                    go_simp
                    with_reducible rfl
                  rotate_left
                  · simp only [Act.put, List.setIfInBounds_toArray, List.set_cons_zero, List.set_cons_succ, i64_w, i32_w]
                    rfl
                  refine pure_ (i := 2) (N := some 40) (v := ?_) (a' := ?_) #[true, true, true, false, false, false, false, false, false, false] rfl rfl (by kernel_rfl) (fun _ _ _ h => h) (Or.inl ⟨by rfl, ?_⟩) ?_ ?_
                  rotate_left
                  · intro w'
                    go_simp
                    with_reducible rfl
                  rotate_left
                  · simp only [Act.put, List.setIfInBounds_toArray, List.set_cons_zero, List.set_cons_succ, i64_w, i32_w]
                    rfl
                  refine pure_ (i := 3) (N := some 41) (v := ?_) (a' := ?_) #[true, true, true, true, false, false, false, false, false, false] rfl rfl (by kernel_rfl) (fun _ _ _ h => h) (Or.inl ⟨by rfl, ?_⟩) ?_ ?_
                  rotate_left
                  · intro w'
                    go_simp
                    with_reducible rfl
                  rotate_left
                  · simp only [Act.put, List.setIfInBounds_toArray, List.set_cons_zero, List.set_cons_succ, i64_w, i32_w]
                    rfl
                  refine take_ (i := 4) (N := some 42) (v := ?_) (a' := ?_) #[true, true, true, true, true, false, false, false, false, false] rfl rfl (by kernel_rfl) (fun _ _ _ h => h) (Or.inl ⟨by rfl, ?_⟩) hHeld ?_ ?_
                  rotate_left
                  · rintro w' ⟨s0, s1, s2, s3, s4, s5, s6, s7, s8, s9, s10⟩
                    go_simp
                    with_reducible rfl
                  rotate_left
                  · simp only [Act.put, List.setIfInBounds_toArray, List.set_cons_zero, List.set_cons_succ, i64_w, i32_w]
                    rfl
                  refine pure_ (i := 5) (N := some 43) (v := ?_) (a' := ?_) #[true, true, true, true, true, true, false, false, false, false] rfl rfl (by kernel_rfl) (fun _ _ _ h => h) (Or.inl ⟨by rfl, ?_⟩) ?_ ?_
                  rotate_left
                  · intro w'
                    go_simp
                    with_reducible rfl
                  rotate_left
                  · simp only [Act.put, List.setIfInBounds_toArray, List.set_cons_zero, List.set_cons_succ, i64_w, i32_w]
                    rfl
                  refine pure_ (i := 6) (N := some 44) (v := ?_) (a' := ?_) #[true, true, true, true, true, true, true, false, false, false] rfl rfl (by kernel_rfl) (fun _ _ _ h => h) (Or.inl ⟨by rfl, ?_⟩) ?_ ?_
                  rotate_left
                  · intro w'
                    go_simp
                    with_reducible rfl
                  rotate_left
                  · simp only [Act.put, List.setIfInBounds_toArray, List.set_cons_zero, List.set_cons_succ, i64_w, i32_w]
                    rfl
                  refine take_ (i := 7) (N := some 45) (v := ?_) (a' := ?_) #[true, true, true, true, true, true, true, true, false, false] rfl rfl (by kernel_rfl) (fun _ _ _ h => h) (Or.inl ⟨by rfl, ?_⟩) hHeld ?_ ?_
                  rotate_left
                  · rintro w' ⟨s0, s1, s2, s3, s4, s5, s6, s7, s8, s9, s10⟩
                    go_simp
                    with_reducible rfl
                  rotate_left
                  · simp only [Act.put, List.setIfInBounds_toArray, List.set_cons_zero, List.set_cons_succ, i64_w, i32_w]
                    rfl
                  refine one_ (i := 8) (N := some 46) #[true, true, true, true, true, true, true, true, true, false] rfl rfl (by kernel_rfl) (by decide) (fun K hK => ?_)
                  refine goes_ Try.func32 (by kernel_rfl) rfl #[.agg #[.int .i64 j.w, .int .i64 j.l, .int .i64 j.wi, .int .i64 j.c, .int .i64 j.d, .int .i64 j.e, .slice A j.ts.length n], .agg #[.slice A3 t.f0.length c3, .bool t.f1, .bool t.f2]] (by rfl) rfl rfl (by (try simp only [List.map_toArray, List.map_cons, List.map_nil]); first | done | rfl) ?_
                  with_reducible refine (CM.out _ (HJ.out.below HQd.out).inn (HEL.out.below HEd.out)).mono ?_
                  rintro e we ⟨rfl, hb_⟩
                  refine ⟨_, rfl, ?_⟩
                  have HQe := Aside0.mk (below_step HQd.out hb_)
                  have HQp := Aside0.mk (below_step HQo.out hb_)
                  have HEe := Aside0.mk (below_step HEd.out hb_)
                  refine hK.out _ _ ⟨(HJ.out.below HQe.out).cells.1, (HJ.out.below HQe.out).cells.2.1, (HJ.out.below HQe.out).cells.2.2.1, (HJ.out.below HQe.out).cells.2.2.2.1, (HJ.out.below HQe.out).cells.2.2.2.2.1, (HJ.out.below HQe.out).cells.2.2.2.2.2.1, (HJ.out.below HQe.out).cells.2.2.2.2.2.2, pw_cell_below HQp.out HXW.out, (HEL.out.below HEe.out).x0, (HEL.out.below HEe.out).x1, (HEL.out.below HEe.out).x2⟩ (fun hHeld => ?_)
                  clear hK K
                  refine norm_ (a' := ?_) ?_ ?_
                  rotate_left
                  · show Act.put _ (some 46) _ = _
                    simp only [Act.put, List.setIfInBounds_toArray, List.set_cons_zero, List.set_cons_succ, i64_w, i32_w]
                    rfl
                  refine pure_ (i := 9) (N := some 47) (v := ?_) (a' := ?_) #[true, true, true, true, true, true, true, true, true, true] rfl rfl (by kernel_rfl) (fun _ _ _ h => h) (Or.inl ⟨by rfl, ?_⟩) ?_ ?_
                  rotate_left
                  · intro w'
                    go_simp
                    with_reducible rfl
                  rotate_left
                  · simp only [Act.put, List.setIfInBounds_toArray, List.set_cons_zero, List.set_cons_succ, i64_w, i32_w]
                    rfl
                  refine done_ (by kernel_rfl) ?_
                  simp only [Exit.then]
                  clear HQd HQo HEd HEe hHeld
                  go_wp2
                  go_roundw
                  case rel => exact ⟨k + 1, by go_num, by omega, ⟨HG2.out (by first | trivial | rfl)⟩, HQp⟩
                  case measure => simp [intOf]; omega
              · obtain rfl : k = s.length := by omega
                have HN := Aside0.mk (HBD.out (List.any_eq_false.2 (fun z hz => by
                  obtain ⟨q, hq, rfl⟩ := List.mem_iff_getElem.1 hz
                  have := hgood.out q hq
                  rw [show rd_T74 s (q : Int) = s[q] by simp [rd_T74, List.getD, hq]] at this
                  rw [this]; decide)))
                have hll := HLL.out
                go_wp2
                go_roundw
                case rel => exact ⟨i + 1, by go_num, by omega, HN, HBW2⟩
                case measure => simp [intOf]; omega
        · obtain rfl : i = l.length := by omega
          have HRT := Aside0.mk (show R = true by
            rw [HR3.out]
            have : l.any (badSession j) = false := List.any_eq_false.2 (fun z hz => by
              obtain ⟨q, hq, rfl⟩ := List.mem_iff_getElem.1 hz
              have := hbad.out q hq
              rw [show rd_L10 l (q : Int) = l[q] by simp [rd_L10, List.getD, hq]] at this
              rw [this]; decide)
            rw [this]; rfl)
          go_wp2
          go_ret
          exact ⟨by rw [HRT.out]; first | done | rfl | simp, below_step HB.out hb.out⟩
def bytes_Clone.f (l0 : List Int) : Option (List Int) := if l0.length < 140737488355328 then some l0 else none
set_option maxRecDepth 100000 in
theorem clone.walk (A : Option Addr) (c : Nat) (b : List Int) (w : World) (hC : Kd.C (Kd.int .u8) w A b.length b) (hc : b.length ≤ c) (hl : b.length < 140737488355328) :
    Calls Try.prog 62 #[.slice A b.length c] w (Rd.FormPost b w) := by
  have HC := Aside0.mk hC
  have hq := fun (W : World) (A' : Option Addr) (n c : Nat) => Lib.run_eql_slice_nil (P := Try.prog) W 42 5 A' n c 0 0 Try.underlying42
  cases A with
  | none =>
    have h0 : b = [] := by
      rcases Nat.eq_zero_or_pos b.length with h | h
      · exact List.eq_nil_of_length_eq_zero h
      · obtain ⟨ad, h, _⟩ := hC.2.2 h
        cases h
    subst h0
    clear hC
    go_enter Try.func62, Try.ntmps62
    go_wp2
    go_ret
    exact ⟨_, rfl, Rd.Own.nil _ _, Below.refl _ _⟩
  | some ad =>
    clear hC
    go_enter Try.func62, Try.ntmps62
    go_wp2_with (first | ((with_reducible refine gate_builtin (b := .append) (xs := #[.tmp 5, .tmp 6]) rfl ?_); at_builtin; refine Rd.append_list w.heap.size rfl (.tmp 5) (.tmp 6) rfl (.slice (some ⟨w.heap.size, 0, none⟩) 0 0) [] b (some ad) b.length c rfl rfl (Rd.own_new (W := w) _ (Nat.le_refl _)) (Kd.C_below HC.out (below_alloc (Below.refl _ _) _)) (by simp) (by simp only [List.length_nil]; omega) ?_; intro v1 w1 ho1 hb1 hg1 hat; have HO1 := Aside0.mk ho1; have HB1 := Aside0.mk hb1; clear ho1 hb1 hg1 hat))
    go_ret
    exact ⟨v1, rfl, HO1.out, (below_alloc (Below.refl w.heap.size w) (.cells #[] 5)).trans HB1.out⟩
theorem bytes_Clone.calls (A0 : Option Addr) (c0 : Nat) (l0 : List Int) (r : List Int) (w : World) (hr0 : Kd.C (Kd.int .u8) w A0 l0.length l0) (hc0 : l0.length ≤ c0) (h : bytes_Clone.f l0 = some r) :
    Calls Try.prog 62 #[.slice A0 l0.length c0] w fun e w' => ∃ v0_ : Value, e = .returned (v0_) ∧ Kd.R (Kd.int .u8) 5 w' w.heap.size (fun _ => True) v0_ r ∧ Below w.heap.size w w' := by
  unfold bytes_Clone.f at h
  split at h
  · rename_i hl
    obtain rfl := Option.some.inj h
    exact (clone.walk A0 c0 l0 w hr0 hc0 hl).mono fun e w' ⟨v, he, ho, hb⟩ => ⟨v, he, Kd.R_mono ho (fun _ _ => trivial), hb⟩
  · cases h
end Go.Proofs.Ytecdnhmdodedmaa.Ch
