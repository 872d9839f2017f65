/- The law CatalogCalls' call. -/
import Derived.Test.YtecdnhmdodedmaaCw
import Derived.Test.YtecdnhmdodedmaaHSx8
namespace Go.Proofs.Ytecdnhmdodedmaa.Ch
open Go.RowKit Go.Proofs.YtecdnhmdodedmaaW.PrintWords Go.Proofs.YtecdnhmdodedmaaW.PrintLast Go.Proofs.YtecdnhmdodedmaaW.PrintMore Go.Proofs.Ytecdnhmdodedmaa.HS Go.Proofs.Ytecdnhmdodedmaa.Ca Go.Proofs.Ytecdnhmdodedmaa.It
set_option linter.unusedVariables false
set_option linter.unusedSimpArgs false
/-- What the bound gives of a transaction, of a session. -/
structure TOk (t : S74) : Prop where
  le : t.f0.length ≤ 1048576
  o : ∀ o ∈ t.f0, o.f3.length ≤ 1048576 ∧ o.f4.length ≤ 1048576 ∧ o.f6.length ≤ 1048576
structure SOk (s : List S74) : Prop where
  le : s.length ≤ 1048576
  t : ∀ t ∈ s, TOk t
theorem muchOps_l0 (l : List S80) (hl : l.length ≤ 1048576) (hM : ∀ o ∈ l, o.f6.length ≤ 1048576) : ∀ (n i K : Nat) (x : Int), i + n = l.length → n + 1048578 ≤ K → ∃ b, garnerref16_MuchOps.l0 K l 9000 x (i : Int) = some b
  | _, _, 0, _, _, h => by omega
  | 0, i, K + 1, x, h, _ => ⟨_, by rw [garnerref16_MuchOps.l0, if_neg (by omega)]⟩
  | n + 1, i, K + 1, x, h, hK => by
    rw [garnerref16_MuchOps.l0, if_pos (by omega)]
    by_cases hx : x ≤ 9000
    · rw [if_pos hx, if_pos (by omega)]
      have hr := hM _ (rd_T80_mem l i (by omega))
      obtain ⟨v, hv⟩ := size_l0 (rd_T80 l (i : Int)).f6 hr (rd_T80 l (i : Int)).f6.length 0 K ((rd_T80 l (i : Int)).f6.length : Int) (by omega) (by omega)
      have hv' : garnerref13_Size.f K (rd_T80 l (i : Int)).f6 = some v := hv
      rw [hv', Option.bind_some, step64 i _ (show i < l.length by omega) hl]
      exact muchOps_l0 l hl hM n (i + 1) K _ (by omega) (by omega)
    · rw [if_neg hx]; exact ⟨_, rfl⟩
theorem much_l0 (l : List S74) (hl : l.length ≤ 1048576) (hM : ∀ t ∈ l, TOk t) : ∀ (n i K : Nat) (x : Int), i + n = l.length → 2 * n + 2097160 ≤ K → ∃ b, garnerref16_Much.l0 K l 9000 x (i : Int) = some b
  | _, _, 0, _, _, h => by omega
  | _, _, 1, _, _, h => by omega
  | 0, i, K + 2, x, h, _ => ⟨_, by rw [garnerref16_Much.l0, if_neg (by omega), garnerref16_Much.j1, if_neg (by simp)]⟩
  | n + 1, i, K + 2, x, h, hK => by
    rw [garnerref16_Much.l0, if_pos (by omega)]
    by_cases hx : x ≤ 9000
    · have hm := hM _ (rd_T74_mem l i (by omega))
      rw [decide_eq_true hx, garnerref16_Much.j1, if_pos rfl, if_pos (by omega), if_pos (by omega)]
      obtain ⟨v, hv⟩ := muchOps_l0 (rd_T74 l (i : Int)).f0 hm.le (fun o ho => (hm.o o ho).2.2) (rd_T74 l (i : Int)).f0.length 0 K 0 (by omega) (by have := hm.le; omega)
      have hv' : garnerref16_MuchOps.f K (rd_T74 l (i : Int)).f0 9000 = some v := hv
      rw [hv', Option.bind_some]
      cases v with
      | true => exact ⟨true, by rw [if_pos rfl]⟩
      | false =>
        rw [if_neg (by simp), step64 i _ (show i < l.length by omega) hl]
        exact much_l0 l hl hM n (i + 1) K _ (by omega) (by omega)
    · rw [decide_eq_false hx, garnerref16_Much.j1, if_neg (by simp)]; exact ⟨_, rfl⟩
theorem much_call (l : List S74) (h : SOk l) : ∃ b : Bool, ∀ (A : Option Addr) (c : Nat) (w : World), Kd.C k74 w A l.length l → l.length ≤ c → Calls Try.prog 28 #[.slice A l.length c, .int .i64 9000] w fun e w' => e = .returned (.bool b) ∧ Below w.heap.size w w' := by
  obtain ⟨v, hv⟩ := much_l0 l h.le h.t l.length 0 (2 * l.length + 2097160) 0 (by omega) (by omega)
  exact ⟨v, fun A c w h1 h2 => garnerref16_Much.calls (2 * l.length + 2097160) A c l 9000 v w h1 h2 hv⟩
set_option maxHeartbeats 16000000 in
set_option maxRecDepth 100000 in
theorem callsLaw_walk (j : Job) (A : Option Addr) (n : Nat) (l : List (List S74)) (B : Option Addr) (d : Nat) (w : World) (hj : j.In w A n) (hl : l.length ≤ d) (hB : Kd.C (Kd.slice 74 k74) w B l.length l) (hts : j.ts.length ≤ 1048576) (hll : l.length ≤ 1048576) (hM : ∀ s ∈ l, SOk s) :
    Calls Try.prog 6 #[.agg (j.v A n), .slice B l.length d] w (TrueP w) := by
  have CS := Aside0.mk (fun (W : World) (h1 : j.In W A n) (h2 : Kd.C (Kd.slice 74 k74) W B l.length l) => maySessions_call j A n l B d W h1 h2)
  have CQ := Aside0.mk (fun (W : World) (h1 : j.In W A n) (h2 : Kd.C (Kd.slice 74 k74) W B l.length l) => refMaySessions_call j A n l B d W h1 hl h2 hts hll (fun s hs t ht o ho => (((hM s hs).t t ht).o o ho).2.2))
  obtain ⟨ms, hms⟩ : ∃ b, b = maySessions j l := ⟨_, rfl⟩
  rw [← hms] at CS CQ
  have CT := Aside0.mk (fun (t : S74) (B' : Option Addr) (d' : Nat) (W : World) (hi : j.In W A n) (hl' : t.f0.length ≤ d') (hB' : Kd.C k80 W B' t.f0.length t.f0) => mayTxn_call j A n t B' d' W hi hl' hB')
  have CU := Aside0.mk (fun (t : S74) (ht : TOk t) (B' : Option Addr) (d' : Nat) (W : World) (hi : j.In W A n) (hl' : t.f0.length ≤ d') (hB' : Kd.C k80 W B' t.f0.length t.f0) => refMayTxn_call j A n t B' d' W hi hl' hB' hts (fun o ho => (ht.o o ho).2.2))
  have CL := Aside0.mk (fun (t : S74) (ht : TOk t) (B' : Option Addr) (d' : Nat) (W : World) (hi : j.In W A n) (hB' : Kd.C k80 W B' t.f0.length t.f0) => calls_call j A n t.f0 B' d' W hi hts hB' ht.le ht.o)
  have hb0 := below_alloc (Below.refl w.heap.size w) (.cells (j.v A n) 24)
  have e0 := blk_new w (.cells (j.v A n) 24)
  have HJ := Aside0.mk (JobAt.mk e0 (hj.below hb0))
  have HL := Aside0.mk (Kd.C_below hB hb0)
  have HB := Aside0.mk hb0
  have HM := Aside0.mk hM
  have HLL := Aside0.mk hll
  clear hms hj hB hb0 e0 hM hts hl hll
  unfold Job.v at *
  unfold TrueP at CL
  go_enter Try.func6, Try.ntmps6
  go_upto_region 1 with fail
  obtain ⟨P0, q0⟩ : ∃ B, w.heap.size = B := ⟨_, rfl⟩
  rw [q0] at HJ ⊢
  clear q0
  generalize World.alloc _ _ = w2 at HJ HL HB ⊢
  obtain ⟨d0, d1, d2, d3', d4', d5, d6'⟩ := HJ.out.cells
  by_cases h2k : 2000 < j.ts.length
  · go_wp2_with (go_at_call 8; (with_reducible refine (known_walk _).mono ?_); rintro e wk ⟨rfl, hb⟩; have BK := Aside0.mk (below_step HB.out hb); clear hb)
    go_ret
    exact ⟨rfl, BK.out⟩
  by_cases h100 : 100 < l.length
  · go_wp2_with (go_at_call 8; (with_reducible refine (known_walk _).mono ?_); rintro e wk ⟨rfl, hb⟩; have BK := Aside0.mk (below_step HB.out hb); clear hb)
    go_ret
    exact ⟨rfl, BK.out⟩
  go_upto_region 3 with fail
  try clear d0
  try clear d1
  try clear d2
  try clear d3'
  try clear d4'
  try clear d5
  try clear d6'
  go_wp2
  go_loopw [5] (fun v w' => ∃ k : Nat, v = .int .i64 k ∧ k ≤ l.length ∧ Aside0 (Below w2.heap.size w2 w')) (fun v _ => l.length - (intOf v).toNat)
  case atStart => exact ⟨0, rfl, Nat.zero_le _, ⟨Below.refl _ _⟩⟩
  case round =>
    obtain ⟨i, rfl, hi, hb⟩ := hrel
    by_cases hlt : i < l.length
    · obtain ⟨ad, A0, c0, ea, hx, hc0, hC0⟩ := at_L10 (Kd.C_below HL.out hb.out) (i : Int) (by omega) (by omega)
      subst ea
      rw [Int.toNat_natCast] at hx
      have hs := HM.out _ (rd_L10_mem l i hlt)
      generalize rd_L10 l (i : Int) = s at hx hc0 hC0 hs
      obtain ⟨pr, hpr⟩ : ∃ p, ad.add i = p := ⟨_, rfl⟩
      rw [hpr] at hx
      have k0 : (0 : Int) ≤ (i : Int) := by omega
      have k1 : (i : Int) < (l.length : Int) := by omega
      obtain ⟨b, hmc⟩ := much_call s hs
      have MC := Aside0.mk (hmc A0 c0 _ hC0 hc0)
      clear hmc hC0 hc0 hs
      cases b with
      | true =>
        go_wp2_with (first | (go_at_call 28; (with_reducible refine MC.out.mono ?_); rintro e w3 ⟨rfl, hb3⟩; have HB3 := Aside0.mk (below_step hb.out hb3); clear hb3) | (go_at_call 8; (with_reducible refine (known_walk _).mono ?_); rintro e wk ⟨rfl, hb4⟩; have BK := Aside0.mk (below_step HB.out (below_step HB3.out hb4)); clear hb4))
        go_ret
        exact ⟨rfl, BK.out⟩
      | false =>
        go_wp2_with (go_at_call 28; (with_reducible refine MC.out.mono ?_); rintro e w3 ⟨rfl, hb3⟩; have HB3 := Aside0.mk (below_step hb.out hb3); clear hb3)
        go_roundw
        case rel => exact ⟨i + 1, by go_num, by omega, HB3⟩
        case measure => simp [intOf]; omega
    · obtain rfl : i = l.length := by omega
      go_upto_region 8 with fail
      have HQ := Aside0.mk (below_step hb.out (below_drew (Below.refl wr.heap.size wr)))
      refine start_ (n := 7) (S := fun w' => w'.cell? ⟨P0, 0, none⟩ = some (.int .i64 j.w) ∧ w'.cell? ⟨P0, 1, none⟩ = some (.int .i64 j.l) ∧ w'.cell? ⟨P0, 2, none⟩ = some (.int .i64 j.wi) ∧ w'.cell? ⟨P0, 3, none⟩ = some (.int .i64 j.c) ∧ w'.cell? ⟨P0, 4, none⟩ = some (.int .i64 j.d) ∧ w'.cell? ⟨P0, 5, none⟩ = some (.int .i64 j.e) ∧ w'.cell? ⟨P0, 6, none⟩ = some (.slice A j.ts.length n)) (ds := []) #[false, false, false, false, false, false, false] (by kernel_rfl) rfl rfl ⟨(HJ.out.below HQ.out).cells.1, (HJ.out.below HQ.out).cells.2.1, (HJ.out.below HQ.out).cells.2.2.1, (HJ.out.below HQ.out).cells.2.2.2.1, (HJ.out.below HQ.out).cells.2.2.2.2.1, (HJ.out.below HQ.out).cells.2.2.2.2.2.1, (HJ.out.below HQ.out).cells.2.2.2.2.2.2⟩ (fun hHeld => ?_)
      generalize wr.drew = wd at hHeld HQ ⊢
      refine take_ (i := 0) (N := some 30) (v := ?_) (a' := ?_) #[true, false, false, false, false, false, false] rfl rfl (by kernel_rfl) (fun _ _ _ h => h) (Or.inl ⟨by rfl, ?_⟩) hHeld ?_ ?_
      rotate_left
      · rintro w' ⟨s0, s1, s2, s3, s4, s5, s6⟩
        go_simp
        with_reducible rfl
      rotate_left
      · simp only [Act.put, List.setIfInBounds_toArray, List.set_cons_zero, List.set_cons_succ, i64_w, i32_w]
        rfl
      refine pure_ (i := 1) (N := some 31) (v := ?_) (a' := ?_) #[true, true, false, false, false, false, false] rfl rfl (by kernel_rfl) (fun _ _ _ h => h) (Or.inl ⟨by rfl, ?_⟩) ?_ ?_
      rotate_left
      · intro w'
        go_simp
        with_reducible rfl
      rotate_left
      · simp only [Act.put, List.setIfInBounds_toArray, List.set_cons_zero, List.set_cons_succ, i64_w, i32_w]
        rfl
      refine take_ (i := 3) (N := some 33) (v := ?_) (a' := ?_) #[true, true, false, true, false, false, false] rfl rfl (by kernel_rfl) (fun _ _ _ h => h) (Or.inl ⟨by rfl, ?_⟩) hHeld ?_ ?_
      rotate_left
      · rintro w' ⟨s0, s1, s2, s3, s4, s5, s6⟩
        go_simp
        with_reducible rfl
      rotate_left
      · simp only [Act.put, List.setIfInBounds_toArray, List.set_cons_zero, List.set_cons_succ, i64_w, i32_w]
        rfl
      refine pure_ (i := 4) (N := some 34) (v := ?_) (a' := ?_) #[true, true, false, true, true, false, false] rfl rfl (by kernel_rfl) (fun _ _ _ h => h) (Or.inl ⟨by rfl, ?_⟩) ?_ ?_
      rotate_left
      · intro w'
        go_simp
        with_reducible rfl
      rotate_left
      · simp only [Act.put, List.setIfInBounds_toArray, List.set_cons_zero, List.set_cons_succ, i64_w, i32_w]
        rfl
      refine one_ (i := 2) (N := some 32) #[true, true, true, true, true, false, false] rfl rfl (by kernel_rfl) (by decide) (fun K hK => ?_)
      refine goes_ Try.func29 (by kernel_rfl) rfl #[.agg #[.int .i64 j.w, .int .i64 j.l, .int .i64 j.wi, .int .i64 j.c, .int .i64 j.d, .int .i64 j.e, .slice A j.ts.length n], .slice B l.length d] (by rfl) rfl rfl (by (try simp only [List.map_toArray, List.map_cons, List.map_nil]); first | done | rfl) ?_
      with_reducible refine (CS.out _ (HJ.out.below HQ.out).inn (Kd.C_below HL.out HQ.out)).mono ?_
      rintro e we ⟨rfl, hb_⟩
      refine ⟨_, rfl, ?_⟩
      have HQe := Aside0.mk (below_step HQ.out hb_)
      refine hK.out _ _ ⟨(HJ.out.below HQe.out).cells.1, (HJ.out.below HQe.out).cells.2.1, (HJ.out.below HQe.out).cells.2.2.1, (HJ.out.below HQe.out).cells.2.2.2.1, (HJ.out.below HQe.out).cells.2.2.2.2.1, (HJ.out.below HQe.out).cells.2.2.2.2.2.1, (HJ.out.below HQe.out).cells.2.2.2.2.2.2⟩ (fun hHeld => ?_)
      clear hK K
      refine norm_ (a' := ?_) ?_ ?_
      rotate_left
      · show Act.put _ (some 32) _ = _
        simp only [Act.put, List.setIfInBounds_toArray, List.set_cons_zero, List.set_cons_succ, i64_w, i32_w]
        rfl
      refine one_ (i := 5) (N := some 35) #[true, true, true, true, true, true, false] rfl rfl (by kernel_rfl) (by decide) (fun K hK => ?_)
      refine goes_ Try.func30 (by kernel_rfl) rfl #[.agg #[.int .i64 j.w, .int .i64 j.l, .int .i64 j.wi, .int .i64 j.c, .int .i64 j.d, .int .i64 j.e, .slice A j.ts.length n], .slice B l.length d] (by rfl) rfl rfl (by (try simp only [List.map_toArray, List.map_cons, List.map_nil]); first | done | rfl) ?_
      with_reducible refine (CQ.out _ (HJ.out.below HQe.out).inn (Kd.C_below HL.out HQe.out)).mono ?_
      rintro e wf ⟨rfl, hb_⟩
      refine ⟨_, rfl, ?_⟩
      have HQf := Aside0.mk (below_step HQe.out hb_)
      refine hK.out _ _ ⟨(HJ.out.below HQf.out).cells.1, (HJ.out.below HQf.out).cells.2.1, (HJ.out.below HQf.out).cells.2.2.1, (HJ.out.below HQf.out).cells.2.2.2.1, (HJ.out.below HQf.out).cells.2.2.2.2.1, (HJ.out.below HQf.out).cells.2.2.2.2.2.1, (HJ.out.below HQf.out).cells.2.2.2.2.2.2⟩ (fun hHeld => ?_)
      clear hK K
      refine norm_ (a' := ?_) ?_ ?_
      rotate_left
      · show Act.put _ (some 35) _ = _
        simp only [Act.put, List.setIfInBounds_toArray, List.set_cons_zero, List.set_cons_succ, i64_w, i32_w]
        rfl
      refine pure_ (i := 6) (N := some 36) (v := ?_) (a' := ?_) #[true, true, true, true, true, true, true] rfl rfl (by kernel_rfl) (fun _ _ _ h => h) (Or.inl ⟨by rfl, ?_⟩) ?_ ?_
      rotate_left
      · intro w'
        go_simp
        with_reducible rfl
      rotate_left
      · simp only [Act.put, List.setIfInBounds_toArray, List.set_cons_zero, List.set_cons_succ, i64_w, i32_w]
        rfl
      refine done_ (by kernel_rfl) ?_
      simp only [Exit.then]
      clear HQ HQe hHeld hb
      go_wp2
      go_loopw [6] (fun v w' => ∃ k : Nat, v = .int .i64 k ∧ k ≤ l.length ∧ Aside0 (Below w2.heap.size w2 w')) (fun v _ => l.length - (intOf v).toNat)
      case atStart => exact ⟨0, rfl, Nat.zero_le _, HQf⟩
      case round =>
        obtain ⟨i, rfl, hi, hb⟩ := hrel
        by_cases hlt : i < l.length
        · obtain ⟨ad, A0, c0, ea, hx, hc0, hC0⟩ := at_L10 (Kd.C_below HL.out hb.out) (i : Int) (by omega) (by omega)
          subst ea
          rw [Int.toNat_natCast] at hx
          have HSK := Aside0.mk (HM.out _ (rd_L10_mem l i hlt))
          generalize rd_L10 l (i : Int) = s at hx hc0 hC0 HSK
          obtain ⟨pr, hpr⟩ : ∃ p, ad.add i = p := ⟨_, rfl⟩
          rw [hpr] at hx
          have k0 : (0 : Int) ≤ (i : Int) := by omega
          have k1 : (i : Int) < (l.length : Int) := by omega
          have HXW := Aside0.mk hx
          have HCW := Aside0.mk hC0
          clear hC0 hc0 hx
          go_wp2
          obtain ⟨wo, hwo⟩ : ∃ wo : World, wo = wr := ⟨_, rfl⟩
          subst hwo
          go_loopw [7] (fun v w' => ∃ k : Nat, v = .int .i64 k ∧ k ≤ s.length ∧ Aside0 (Below wo.heap.size wo w')) (fun v _ => s.length - (intOf v).toNat)
          case atStart => exact ⟨0, rfl, Nat.zero_le _, ⟨Below.refl _ _⟩⟩
          case round =>
            obtain ⟨k, rfl, hk, hb2⟩ := hrel
            have hx := pw_cell_below hb2.out HXW.out
            have HBW2 := Aside0.mk (below_step hb.out hb2.out)
            by_cases hlt2 : k < s.length
            · by_cases hq : k < 100
              · obtain ⟨a2, A3, c3, ea, hel⟩ := txEl_at (Kd.C_below HCW.out hb2.out) k hlt2
                subst ea
                have HTK := Aside0.mk (HSK.out.t _ (rd_T74_mem s k hlt2))
                generalize rd_T74 s (k : Int) = t at hel HTK
                obtain ⟨p, hp⟩ : ∃ p, a2.add (k * 3) = p := ⟨_, rfl⟩
                rw [hp] at hel
                have m0 : (0 : Int) ≤ (k : Int) := by omega
                have m1 : (k : Int) < (s.length : Int) := by omega
                have C1 := Aside0.mk (fun (W : World) (h1 : j.In W A n) (h2 : TxEl t p A3 c3 W) => CT.out t A3 c3 W h1 h2.le h2.C)
                have C2 := Aside0.mk (fun (W : World) (h1 : j.In W A n) (h2 : TxEl t p A3 c3 W) => CU.out t HTK.out A3 c3 W h1 h2.le h2.C)
                have C3 := Aside0.mk (fun (W : World) (h1 : j.In W A n) (h2 : TxEl t p A3 c3 W) => CL.out t HTK.out A3 c3 W h1 h2.C)
                obtain ⟨mb, hmb⟩ : ∃ R, R = mayTxn j t := ⟨_, rfl⟩
                rw [← hmb] at C1 C2
                have HEL := Aside0.mk hel
                clear hel hmb
                go_upto_region 16 with fail
                have HQd := Aside0.mk (below_step HBW2.out (below_drew (Below.refl wr.heap.size wr)))
                have HQo := Aside0.mk (below_step hb2.out (below_drew (Below.refl wr.heap.size wr)))
                have HEd := Aside0.mk (below_drew (Below.refl wr.heap.size wr))
                clear hx
                have HQod := HQo
                clear HQo
                refine start_ (n := 32) (S := fun w' => w'.cell? ⟨P0, 0, none⟩ = some (.int .i64 j.w) ∧ w'.cell? ⟨P0, 1, none⟩ = some (.int .i64 j.l) ∧ w'.cell? ⟨P0, 2, none⟩ = some (.int .i64 j.wi) ∧ w'.cell? ⟨P0, 3, none⟩ = some (.int .i64 j.c) ∧ w'.cell? ⟨P0, 4, none⟩ = some (.int .i64 j.d) ∧ w'.cell? ⟨P0, 5, none⟩ = some (.int .i64 j.e) ∧ w'.cell? ⟨P0, 6, none⟩ = some (.slice A j.ts.length n) ∧ w'.cell? pr = some (.slice (some a2) s.length c0) ∧ w'.cell? p = some (.slice A3 t.f0.length c3) ∧ w'.cell? ⟨p.block, p.off + 1, none⟩ = some (.bool t.f1) ∧ w'.cell? ⟨p.block, p.off + 2, none⟩ = some (.bool t.f2)) (ds := []) #[false, false, false, false, false, false, false, false, false, false, false, false, false, false, false, false, false, false, false, false, false, false, false, false, false, false, false, false, false, false, false, false] (by kernel_rfl) rfl rfl ⟨(HJ.out.below HQd.out).cells.1, (HJ.out.below HQd.out).cells.2.1, (HJ.out.below HQd.out).cells.2.2.1, (HJ.out.below HQd.out).cells.2.2.2.1, (HJ.out.below HQd.out).cells.2.2.2.2.1, (HJ.out.below HQd.out).cells.2.2.2.2.2.1, (HJ.out.below HQd.out).cells.2.2.2.2.2.2, pw_cell_below HQod.out HXW.out, (HEL.out.below HEd.out).x0, (HEL.out.below HEd.out).x1, (HEL.out.below HEd.out).x2⟩ (fun hHeld => ?_)
                generalize wr.drew = wd at hHeld HQd HQod HEd ⊢
                refine take_ (i := 0) (N := some 56) (v := ?_) (a' := ?_) #[true, false, false, false, false, false, false, false, false, false, false, false, false, false, false, false, false, false, false, false, false, false, false, false, false, false, false, false, false, false, false, false] rfl rfl (by kernel_rfl) (fun _ _ _ h => h) (Or.inl ⟨by rfl, ?_⟩) hHeld ?_ ?_
                rotate_left
                · rintro w' ⟨s0, s1, s2, s3, s4, s5, s6, s7, s8, s9, s10⟩
                  go_simp
                  with_reducible rfl
                rotate_left
                · simp only [Act.put, List.setIfInBounds_toArray, List.set_cons_zero, List.set_cons_succ, i64_w, i32_w]
                  rfl
                refine pure_ (i := 1) (N := some 57) (v := ?_) (a' := ?_) #[true, true, false, false, false, false, false, false, false, false, false, false, false, false, false, false, false, false, false, false, false, false, false, false, false, false, false, false, false, false, false, false] rfl rfl (by kernel_rfl) (fun _ _ _ h => h) (Or.inl ⟨by rfl, ?_⟩) ?_ ?_
                rotate_left
                · intro w'
                  go_simp
                  with_reducible rfl
                rotate_left
                · simp only [Act.put, List.setIfInBounds_toArray, List.set_cons_zero, List.set_cons_succ, i64_w, i32_w]
                  rfl
                refine pure_ (i := 2) (N := some 58) (v := ?_) (a' := ?_) #[true, true, true, false, false, false, false, false, false, false, false, false, false, false, false, false, false, false, false, false, false, false, false, false, false, false, false, false, false, false, false, false] rfl rfl (by kernel_rfl) (fun _ _ _ h => h) (Or.inl ⟨by rfl, ?_⟩) ?_ ?_
                rotate_left
                · intro w'
                  go_simp
                  with_reducible rfl
                rotate_left
                · simp only [Act.put, List.setIfInBounds_toArray, List.set_cons_zero, List.set_cons_succ, i64_w, i32_w]
                  rfl
                refine pure_ (i := 3) (N := some 59) (v := ?_) (a' := ?_) #[true, true, true, true, false, false, false, false, false, false, false, false, false, false, false, false, false, false, false, false, false, false, false, false, false, false, false, false, false, false, false, false] rfl rfl (by kernel_rfl) (fun _ _ _ h => h) (Or.inl ⟨by rfl, ?_⟩) ?_ ?_
                rotate_left
                · intro w'
                  go_simp
                  with_reducible rfl
                rotate_left
                · simp only [Act.put, List.setIfInBounds_toArray, List.set_cons_zero, List.set_cons_succ, i64_w, i32_w]
                  rfl
                refine take_ (i := 4) (N := some 60) (v := ?_) (a' := ?_) #[true, true, true, true, true, false, false, false, false, false, false, false, false, false, false, false, false, false, false, false, false, false, false, false, false, false, false, false, false, false, false, false] rfl rfl (by kernel_rfl) (fun _ _ _ h => h) (Or.inl ⟨by rfl, ?_⟩) hHeld ?_ ?_
                rotate_left
                · rintro w' ⟨s0, s1, s2, s3, s4, s5, s6, s7, s8, s9, s10⟩
                  go_simp
                  with_reducible rfl
                rotate_left
                · simp only [Act.put, List.setIfInBounds_toArray, List.set_cons_zero, List.set_cons_succ, i64_w, i32_w]
                  rfl
                refine pure_ (i := 5) (N := some 61) (v := ?_) (a' := ?_) #[true, true, true, true, true, true, false, false, false, false, false, false, false, false, false, false, false, false, false, false, false, false, false, false, false, false, false, false, false, false, false, false] rfl rfl (by kernel_rfl) (fun _ _ _ h => h) (Or.inl ⟨by rfl, ?_⟩) ?_ ?_
                rotate_left
                · intro w'
                  go_simp
                  with_reducible rfl
                rotate_left
                · simp only [Act.put, List.setIfInBounds_toArray, List.set_cons_zero, List.set_cons_succ, i64_w, i32_w]
                  rfl
                refine pure_ (i := 6) (N := some 62) (v := ?_) (a' := ?_) #[true, true, true, true, true, true, true, false, false, false, false, false, false, false, false, false, false, false, false, false, false, false, false, false, false, false, false, false, false, false, false, false] rfl rfl (by kernel_rfl) (fun _ _ _ h => h) (Or.inl ⟨by rfl, ?_⟩) ?_ ?_
                rotate_left
                · intro w'
                  go_simp
                  with_reducible rfl
                rotate_left
                · simp only [Act.put, List.setIfInBounds_toArray, List.set_cons_zero, List.set_cons_succ, i64_w, i32_w]
                  rfl
                refine take_ (i := 7) (N := some 63) (v := ?_) (a' := ?_) #[true, true, true, true, true, true, true, true, false, false, false, false, false, false, false, false, false, false, false, false, false, false, false, false, false, false, false, false, false, false, false, false] rfl rfl (by kernel_rfl) (fun _ _ _ h => h) (Or.inl ⟨by rfl, ?_⟩) hHeld ?_ ?_
                rotate_left
                · rintro w' ⟨s0, s1, s2, s3, s4, s5, s6, s7, s8, s9, s10⟩
                  go_simp
                  with_reducible rfl
                rotate_left
                · simp only [Act.put, List.setIfInBounds_toArray, List.set_cons_zero, List.set_cons_succ, i64_w, i32_w]
                  rfl
                refine take_ (i := 9) (N := some 65) (v := ?_) (a' := ?_) #[true, true, true, true, true, true, true, true, false, true, false, false, false, false, false, false, false, false, false, false, false, false, false, false, false, false, false, false, false, false, false, false] rfl rfl (by kernel_rfl) (fun _ _ _ h => h) (Or.inl ⟨by rfl, ?_⟩) hHeld ?_ ?_
                rotate_left
                · rintro w' ⟨s0, s1, s2, s3, s4, s5, s6, s7, s8, s9, s10⟩
                  go_simp
                  with_reducible rfl
                rotate_left
                · simp only [Act.put, List.setIfInBounds_toArray, List.set_cons_zero, List.set_cons_succ, i64_w, i32_w]
                  rfl
                refine pure_ (i := 10) (N := some 66) (v := ?_) (a' := ?_) #[true, true, true, true, true, true, true, true, false, true, true, false, false, false, false, false, false, false, false, false, false, false, false, false, false, false, false, false, false, false, false, false] rfl rfl (by kernel_rfl) (fun _ _ _ h => h) (Or.inl ⟨by rfl, ?_⟩) ?_ ?_
                rotate_left
                · intro w'
                  go_simp
                  with_reducible rfl
                rotate_left
                · simp only [Act.put, List.setIfInBounds_toArray, List.set_cons_zero, List.set_cons_succ, i64_w, i32_w]
                  rfl
                refine pure_ (i := 11) (N := some 67) (v := ?_) (a' := ?_) #[true, true, true, true, true, true, true, true, false, true, true, true, false, false, false, false, false, false, false, false, false, false, false, false, false, false, false, false, false, false, false, false] rfl rfl (by kernel_rfl) (fun _ _ _ h => h) (Or.inl ⟨by rfl, ?_⟩) ?_ ?_
                rotate_left
                · intro w'
                  go_simp
                  with_reducible rfl
                rotate_left
                · simp only [Act.put, List.setIfInBounds_toArray, List.set_cons_zero, List.set_cons_succ, i64_w, i32_w]
                  rfl
                refine pure_ (i := 12) (N := some 68) (v := ?_) (a' := ?_) #[true, true, true, true, true, true, true, true, false, true, true, true, true, false, false, false, false, false, false, false, false, false, false, false, false, false, false, false, false, false, false, false] rfl rfl (by kernel_rfl) (fun _ _ _ h => h) (Or.inl ⟨by rfl, ?_⟩) ?_ ?_
                rotate_left
                · intro w'
                  go_simp
                  with_reducible rfl
                rotate_left
                · simp only [Act.put, List.setIfInBounds_toArray, List.set_cons_zero, List.set_cons_succ, i64_w, i32_w]
                  rfl
                refine take_ (i := 13) (N := some 69) (v := ?_) (a' := ?_) #[true, true, true, true, true, true, true, true, false, true, true, true, true, true, false, false, false, false, false, false, false, false, false, false, false, false, false, false, false, false, false, false] rfl rfl (by kernel_rfl) (fun _ _ _ h => h) (Or.inl ⟨by rfl, ?_⟩) hHeld ?_ ?_
                rotate_left
                · rintro w' ⟨s0, s1, s2, s3, s4, s5, s6, s7, s8, s9, s10⟩
                  go_simp
                  with_reducible rfl
                rotate_left
                · simp only [Act.put, List.setIfInBounds_toArray, List.set_cons_zero, List.set_cons_succ, i64_w, i32_w]
                  rfl
                refine pure_ (i := 14) (N := some 70) (v := ?_) (a' := ?_) #[true, true, true, true, true, true, true, true, false, true, true, true, true, true, true, false, false, false, false, false, false, false, false, false, false, false, false, false, false, false, false, false] rfl rfl (by kernel_rfl) (fun _ _ _ h => h) (Or.inl ⟨by rfl, ?_⟩) ?_ ?_
                rotate_left
                · intro w'
                  go_simp
                  with_reducible rfl
                rotate_left
                · simp only [Act.put, List.setIfInBounds_toArray, List.set_cons_zero, List.set_cons_succ, i64_w, i32_w]
                  rfl
                refine pure_ (i := 15) (N := some 71) (v := ?_) (a' := ?_) #[true, true, true, true, true, true, true, true, false, true, true, true, true, true, true, true, false, false, false, false, false, false, false, false, false, false, false, false, false, false, false, false] rfl rfl (by kernel_rfl) (fun _ _ _ h => h) (Or.inl ⟨by rfl, ?_⟩) ?_ ?_
                rotate_left
                · intro w'
                  go_simp
                  with_reducible rfl
                rotate_left
                · simp only [Act.put, List.setIfInBounds_toArray, List.set_cons_zero, List.set_cons_succ, i64_w, i32_w]
                  rfl
                refine take_ (i := 16) (N := some 72) (v := ?_) (a' := ?_) #[true, true, true, true, true, true, true, true, false, true, true, true, true, true, true, true, true, false, false, false, false, false, false, false, false, false, false, false, false, false, false, false] rfl rfl (by kernel_rfl) (fun _ _ _ h => h) (Or.inl ⟨by rfl, ?_⟩) hHeld ?_ ?_
                rotate_left
                · rintro w' ⟨s0, s1, s2, s3, s4, s5, s6, s7, s8, s9, s10⟩
                  go_simp
                  with_reducible rfl
                rotate_left
                · simp only [Act.put, List.setIfInBounds_toArray, List.set_cons_zero, List.set_cons_succ, i64_w, i32_w]
                  rfl
                refine one_ (i := 8) (N := some 64) #[true, true, true, true, true, true, true, true, true, true, true, true, true, true, true, true, true, false, false, false, false, false, false, false, false, false, false, false, false, false, false, false] rfl rfl (by kernel_rfl) (by decide) (fun K hK => ?_)
                refine goes_ Try.func31 (by kernel_rfl) rfl #[.agg #[.int .i64 j.w, .int .i64 j.l, .int .i64 j.wi, .int .i64 j.c, .int .i64 j.d, .int .i64 j.e, .slice A j.ts.length n], .agg #[.slice A3 t.f0.length c3, .bool t.f1, .bool t.f2]] (by rfl) rfl rfl (by (try simp only [List.map_toArray, List.map_cons, List.map_nil]); first | done | rfl) ?_
                with_reducible refine (C1.out _ (HJ.out.below HQd.out).inn (HEL.out.below HEd.out)).mono ?_
                rintro e we ⟨rfl, hb_⟩
                refine ⟨_, rfl, ?_⟩
                have HQe := Aside0.mk (below_step HQd.out hb_)
                have HQoe := Aside0.mk (below_step HQod.out hb_)
                have HEe := Aside0.mk (below_step HEd.out hb_)
                refine hK.out _ _ ⟨(HJ.out.below HQe.out).cells.1, (HJ.out.below HQe.out).cells.2.1, (HJ.out.below HQe.out).cells.2.2.1, (HJ.out.below HQe.out).cells.2.2.2.1, (HJ.out.below HQe.out).cells.2.2.2.2.1, (HJ.out.below HQe.out).cells.2.2.2.2.2.1, (HJ.out.below HQe.out).cells.2.2.2.2.2.2, pw_cell_below HQoe.out HXW.out, (HEL.out.below HEe.out).x0, (HEL.out.below HEe.out).x1, (HEL.out.below HEe.out).x2⟩ (fun hHeld => ?_)
                clear hK K
                refine norm_ (a' := ?_) ?_ ?_
                rotate_left
                · show Act.put _ (some 64) _ = _
                  simp only [Act.put, List.setIfInBounds_toArray, List.set_cons_zero, List.set_cons_succ, i64_w, i32_w]
                  rfl
                refine one_ (i := 17) (N := some 73) #[true, true, true, true, true, true, true, true, true, true, true, true, true, true, true, true, true, true, false, false, false, false, false, false, false, false, false, false, false, false, false, false] rfl rfl (by kernel_rfl) (by decide) (fun K hK => ?_)
                refine goes_ Try.func32 (by kernel_rfl) rfl #[.agg #[.int .i64 j.w, .int .i64 j.l, .int .i64 j.wi, .int .i64 j.c, .int .i64 j.d, .int .i64 j.e, .slice A j.ts.length n], .agg #[.slice A3 t.f0.length c3, .bool t.f1, .bool t.f2]] (by rfl) rfl rfl (by (try simp only [List.map_toArray, List.map_cons, List.map_nil]); first | done | rfl) ?_
                with_reducible refine (C2.out _ (HJ.out.below HQe.out).inn (HEL.out.below HEe.out)).mono ?_
                rintro e wf ⟨rfl, hb_⟩
                refine ⟨_, rfl, ?_⟩
                have HQf := Aside0.mk (below_step HQe.out hb_)
                have HQof := Aside0.mk (below_step HQoe.out hb_)
                have HEf := Aside0.mk (below_step HEe.out hb_)
                refine hK.out _ _ ⟨(HJ.out.below HQf.out).cells.1, (HJ.out.below HQf.out).cells.2.1, (HJ.out.below HQf.out).cells.2.2.1, (HJ.out.below HQf.out).cells.2.2.2.1, (HJ.out.below HQf.out).cells.2.2.2.2.1, (HJ.out.below HQf.out).cells.2.2.2.2.2.1, (HJ.out.below HQf.out).cells.2.2.2.2.2.2, pw_cell_below HQof.out HXW.out, (HEL.out.below HEf.out).x0, (HEL.out.below HEf.out).x1, (HEL.out.below HEf.out).x2⟩ (fun hHeld => ?_)
                clear hK K
                refine norm_ (a' := ?_) ?_ ?_
                rotate_left
                · show Act.put _ (some 73) _ = _
                  simp only [Act.put, List.setIfInBounds_toArray, List.set_cons_zero, List.set_cons_succ, i64_w, i32_w]
                  rfl
                refine pure_ (i := 18) (N := some 74) (v := ?_) (a' := ?_) #[true, true, true, true, true, true, true, true, true, true, true, true, true, true, true, true, true, true, true, false, false, false, false, false, false, false, false, false, false, false, false, false] rfl rfl (by kernel_rfl) (fun _ _ _ h => h) (Or.inl ⟨by rfl, ?_⟩) ?_ ?_
                rotate_left
                · intro w'
                  go_simp
                  with_reducible rfl
                rotate_left
                · simp only [Act.put, List.setIfInBounds_toArray, List.set_cons_zero, List.set_cons_succ, i64_w, i32_w]
                  rfl
                refine pure_ (i := 19) (N := some 75) (v := ?_) (a' := ?_) #[true, true, true, true, true, true, true, true, true, true, true, true, true, true, true, true, true, true, true, true, false, false, false, false, false, false, false, false, false, false, false, false] rfl rfl (by kernel_rfl) (fun _ _ _ h => h) (Or.inl ⟨by rfl, ?_⟩) ?_ ?_
                rotate_left
                · intro w'
                  go_simp
                  with_reducible rfl
                rotate_left
                · simp only [Act.put, List.setIfInBounds_toArray, List.set_cons_zero, List.set_cons_succ, i64_w, i32_w]
                  rfl
                refine take_ (i := 20) (N := some 76) (v := ?_) (a' := ?_) #[true, true, true, true, true, true, true, true, true, true, true, true, true, true, true, true, true, true, true, true, true, false, false, false, false, false, false, false, false, false, false, false] rfl rfl (by kernel_rfl) (fun _ _ _ h => h) (Or.inl ⟨by rfl, ?_⟩) hHeld ?_ ?_
                rotate_left
                · rintro w' ⟨s0, s1, s2, s3, s4, s5, s6, s7, s8, s9, s10⟩
                  go_simp
                  with_reducible rfl
                rotate_left
                · simp only [Act.put, List.setIfInBounds_toArray, List.set_cons_zero, List.set_cons_succ, i64_w, i32_w]
                  rfl
                refine pure_ (i := 21) (N := some 77) (v := ?_) (a' := ?_) #[true, true, true, true, true, true, true, true, true, true, true, true, true, true, true, true, true, true, true, true, true, true, false, false, false, false, false, false, false, false, false, false] rfl rfl (by kernel_rfl) (fun _ _ _ h => h) (Or.inl ⟨by rfl, ?_⟩) ?_ ?_
                rotate_left
                · intro w'
                  go_simp
                  with_reducible rfl
                rotate_left
                · simp only [Act.put, List.setIfInBounds_toArray, List.set_cons_zero, List.set_cons_succ, i64_w, i32_w]
                  rfl
                refine pure_ (i := 22) (N := some 78) (v := ?_) (a' := ?_) #[true, true, true, true, true, true, true, true, true, true, true, true, true, true, true, true, true, true, true, true, true, true, true, false, false, false, false, false, false, false, false, false] rfl rfl (by kernel_rfl) (fun _ _ _ h => h) (Or.inl ⟨by rfl, ?_⟩) ?_ ?_
                rotate_left
                · intro w'
                  go_simp
                  with_reducible rfl
                rotate_left
                · simp only [Act.put, List.setIfInBounds_toArray, List.set_cons_zero, List.set_cons_succ, i64_w, i32_w]
                  rfl
                refine pure_ (i := 23) (N := some 79) (v := ?_) (a' := ?_) #[true, true, true, true, true, true, true, true, true, true, true, true, true, true, true, true, true, true, true, true, true, true, true, true, false, false, false, false, false, false, false, false] rfl rfl (by kernel_rfl) (fun _ _ _ h => h) (Or.inl ⟨by rfl, ?_⟩) ?_ ?_
                rotate_left
                · intro w'
                  go_simp
                  with_reducible rfl
                rotate_left
                · simp only [Act.put, List.setIfInBounds_toArray, List.set_cons_zero, List.set_cons_succ, i64_w, i32_w]
                  rfl
                refine take_ (i := 24) (N := some 80) (v := ?_) (a' := ?_) #[true, true, true, true, true, true, true, true, true, true, true, true, true, true, true, true, true, true, true, true, true, true, true, true, true, false, false, false, false, false, false, false] rfl rfl (by kernel_rfl) (fun _ _ _ h => h) (Or.inl ⟨by rfl, ?_⟩) hHeld ?_ ?_
                rotate_left
                · rintro w' ⟨s0, s1, s2, s3, s4, s5, s6, s7, s8, s9, s10⟩
                  go_simp
                  with_reducible rfl
                rotate_left
                · simp only [Act.put, List.setIfInBounds_toArray, List.set_cons_zero, List.set_cons_succ, i64_w, i32_w]
                  rfl
                refine pure_ (i := 25) (N := some 81) (v := ?_) (a' := ?_) #[true, true, true, true, true, true, true, true, true, true, true, true, true, true, true, true, true, true, true, true, true, true, true, true, true, true, false, false, false, false, false, false] rfl rfl (by kernel_rfl) (fun _ _ _ h => h) (Or.inl ⟨by rfl, ?_⟩) ?_ ?_
                rotate_left
                · intro w'
                  go_simp
                  with_reducible rfl
                rotate_left
                · simp only [Act.put, List.setIfInBounds_toArray, List.set_cons_zero, List.set_cons_succ, i64_w, i32_w]
                  rfl
                refine pure_ (i := 26) (N := some 82) (v := ?_) (a' := ?_) #[true, true, true, true, true, true, true, true, true, true, true, true, true, true, true, true, true, true, true, true, true, true, true, true, true, true, true, false, false, false, false, false] rfl rfl (by kernel_rfl) (fun _ _ _ h => h) (Or.inl ⟨by rfl, ?_⟩) ?_ ?_
                rotate_left
                · intro w'
                  go_simp
                  with_reducible rfl
                rotate_left
                · simp only [Act.put, List.setIfInBounds_toArray, List.set_cons_zero, List.set_cons_succ, i64_w, i32_w]
                  rfl
                refine pure_ (i := 27) (N := some 83) (v := ?_) (a' := ?_) #[true, true, true, true, true, true, true, true, true, true, true, true, true, true, true, true, true, true, true, true, true, true, true, true, true, true, true, true, false, false, false, false] rfl rfl (by kernel_rfl) (fun _ _ _ h => h) (Or.inl ⟨by rfl, ?_⟩) ?_ ?_
                rotate_left
                · intro w'
                  go_simp
                  with_reducible rfl
                rotate_left
                · simp only [Act.put, List.setIfInBounds_toArray, List.set_cons_zero, List.set_cons_succ, i64_w, i32_w]
                  rfl
                refine take_ (i := 28) (N := some 84) (v := ?_) (a' := ?_) #[true, true, true, true, true, true, true, true, true, true, true, true, true, true, true, true, true, true, true, true, true, true, true, true, true, true, true, true, true, false, false, false] rfl rfl (by kernel_rfl) (fun _ _ _ h => h) (Or.inl ⟨by rfl, ?_⟩) hHeld ?_ ?_
                rotate_left
                · rintro w' ⟨s0, s1, s2, s3, s4, s5, s6, s7, s8, s9, s10⟩
                  go_simp
                  with_reducible rfl
                rotate_left
                · simp only [Act.put, List.setIfInBounds_toArray, List.set_cons_zero, List.set_cons_succ, i64_w, i32_w]
                  rfl
                refine one_ (i := 29) (N := some 85) #[true, true, true, true, true, true, true, true, true, true, true, true, true, true, true, true, true, true, true, true, true, true, true, true, true, true, true, true, true, true, false, false] rfl rfl (by kernel_rfl) (by decide) (fun K hK => ?_)
                refine goes_ Try.func33 (by kernel_rfl) rfl #[.agg #[.int .i64 j.w, .int .i64 j.l, .int .i64 j.wi, .int .i64 j.c, .int .i64 j.d, .int .i64 j.e, .slice A j.ts.length n], .slice A3 t.f0.length c3] (by rfl) rfl rfl (by (try simp only [List.map_toArray, List.map_cons, List.map_nil]); first | done | rfl) ?_
                with_reducible refine (C3.out _ (HJ.out.below HQf.out).inn (HEL.out.below HEf.out)).mono ?_
                rintro e wg ⟨rfl, hb_⟩
                refine ⟨_, rfl, ?_⟩
                have HQg := Aside0.mk (below_step HQf.out hb_)
                have HQog := Aside0.mk (below_step HQof.out hb_)
                have HEg := Aside0.mk (below_step HEf.out hb_)
                refine hK.out _ _ ⟨(HJ.out.below HQg.out).cells.1, (HJ.out.below HQg.out).cells.2.1, (HJ.out.below HQg.out).cells.2.2.1, (HJ.out.below HQg.out).cells.2.2.2.1, (HJ.out.below HQg.out).cells.2.2.2.2.1, (HJ.out.below HQg.out).cells.2.2.2.2.2.1, (HJ.out.below HQg.out).cells.2.2.2.2.2.2, pw_cell_below HQog.out HXW.out, (HEL.out.below HEg.out).x0, (HEL.out.below HEg.out).x1, (HEL.out.below HEg.out).x2⟩ (fun hHeld => ?_)
                clear hK K
                refine norm_ (a' := ?_) ?_ ?_
                rotate_left
                · show Act.put _ (some 85) _ = _
                  simp only [Act.put, List.setIfInBounds_toArray, List.set_cons_zero, List.set_cons_succ, i64_w, i32_w]
                  rfl
                refine pure_ (i := 30) (N := some 86) (v := ?_) (a' := ?_) #[true, true, true, true, true, true, true, true, true, true, true, true, true, true, true, true, true, true, true, true, true, true, true, true, true, true, true, true, true, true, true, false] rfl rfl (by kernel_rfl) (fun _ _ _ h => h) (Or.inl ⟨by rfl, ?_⟩) ?_ ?_
                rotate_left
                · intro w'
                  go_simp
                  with_reducible rfl
                rotate_left
                · simp only [Act.put, List.setIfInBounds_toArray, List.set_cons_zero, List.set_cons_succ, i64_w, i32_w]
                  rfl
                refine pure_ (i := 31) (N := some 87) (v := ?_) (a' := ?_) #[true, true, true, true, true, true, true, true, true, true, true, true, true, true, true, true, true, true, true, true, true, true, true, true, true, true, true, true, true, true, true, true] rfl rfl (by kernel_rfl) (fun _ _ _ h => h) (Or.inl ⟨by rfl, ?_⟩) ?_ ?_
                rotate_left
                · intro w'
                  go_simp
                  with_reducible rfl
                rotate_left
                · simp only [Act.put, List.setIfInBounds_toArray, List.set_cons_zero, List.set_cons_succ, i64_w, i32_w]
                  rfl
                refine done_ (by kernel_rfl) ?_
                simp only [Exit.then]
                clear HQd HQe HQf HQod HQoe HQof HEd HEe HEf HEg hHeld
                go_wp2
                go_roundw
                case rel => exact ⟨k + 1, by go_num, by omega, HQog⟩
                case measure => simp [intOf]; omega
              · have hll := HLL.out
                go_wp2
                go_roundw
                case rel => exact ⟨i + 1, by go_num, by omega, HBW2⟩
                case measure => simp [intOf]; omega
            · obtain rfl : k = s.length := by omega
              have hll := HLL.out
              go_wp2
              go_roundw
              case rel => exact ⟨i + 1, by go_num, by omega, HBW2⟩
              case measure => simp [intOf]; omega
        · obtain rfl : i = l.length := by omega
          go_wp2_with (go_at_call 8; (with_reducible refine (known_walk _).mono ?_); rintro e wk ⟨rfl, hb4⟩; have BK := Aside0.mk (below_step HB.out (below_step hb.out hb4)); clear hb4)
          go_ret
          exact ⟨rfl, BK.out⟩
/- The law's row speaks of pairs: as the walks' structures. -/
theorem C_map {α β : Type} {a : Kd α} {b : Kd β} (g : α → β) (hs : a.sz = b.sz) (hk : ∀ w x cs, a.K w x cs → b.K w (g x) cs) {w : World} {A : Option Addr} {n : Nat} {xs : List α} (h : Kd.C a w A n xs) : Kd.C b w A n (xs.map g) := by
  refine ⟨by rw [List.length_map]; exact h.1, h.2.1, fun hn => ?_⟩
  obtain ⟨ad, e, hc⟩ := h.2.2 hn
  refine ⟨ad, e, fun j p hj => ?_⟩
  rw [List.getElem?_map] at hj
  cases hx : xs[j]? with
  | none => rw [hx] at hj; cases hj
  | some x =>
    rw [hx] at hj
    obtain rfl := Option.some.inj hj
    obtain ⟨c, hl, hK, hcell⟩ := hc j x hx
    exact ⟨c, hl.trans hs, hk _ _ _ hK, fun i u hu => by rw [← hs]; exact hcell i u hu⟩
abbrev PO := Int × Int × Int × List Int × List Int × Int × List (List Int)
abbrev PT := List PO × Bool × Bool
abbrev ko : Kd PO := Kd.pair (Kd.int .i64) (Kd.pair (Kd.int .i64) (Kd.pair (Kd.int .i64) (Kd.pair (Kd.slice 5 (Kd.int .u8)) (Kd.pair (Kd.slice 5 (Kd.int .u8)) (Kd.pair (Kd.int .i64) (Kd.slice 42 (Kd.slice 5 (Kd.int .u8))))))))
abbrev kt : Kd PT := Kd.pair (Kd.slice 80 ko) (Kd.pair Kd.bool Kd.bool)
def gO (x : PO) : S80 := ⟨x.1, x.2.1, x.2.2.1, x.2.2.2.1, x.2.2.2.2.1, x.2.2.2.2.2.1, x.2.2.2.2.2.2⟩
def gT (x : PT) : S74 := ⟨x.1.map gO, x.2.1, x.2.2⟩
theorem map_o {w : World} {A : Option Addr} {n : Nat} {xs : List PO} (h : Kd.C ko w A n xs) : Kd.C k80 w A n (xs.map gO) := C_map gO rfl (fun _ _ _ h => h) h
theorem map_t {w : World} {A : Option Addr} {n : Nat} {xs : List PT} (h : Kd.C kt w A n xs) : Kd.C k74 w A n (xs.map gT) :=
  C_map gT rfl (fun w x cs h => by
    obtain ⟨_, _, rfl, ⟨A0, c0, rfl, l0, g0⟩, h2⟩ := h
    exact ⟨_, _, rfl, ⟨A0, c0, by simp [gT], by simpa [gT] using l0, by have := map_o g0; simpa [gT] using this⟩, h2⟩) h
theorem map_s {w : World} {A : Option Addr} {n : Nat} {xs : List (List PT)} (h : Kd.C (Kd.slice 74 kt) w A n xs) : Kd.C (Kd.slice 74 k74) w A n (xs.map (List.map gT)) :=
  C_map (List.map gT) rfl (fun w x cs h => by
    obtain ⟨A0, c0, rfl, l0, g0⟩ := h
    exact ⟨A0, c0, by simp, by simpa using l0, by have := map_t g0; simpa using this⟩) h
end Go.Proofs.Ytecdnhmdodedmaa.Ch
