/- garnerlaw16.calls answers true. -/
import Derived.Test.YtecdnhmdodedmaaCv
namespace Go.Proofs.Ytecdnhmdodedmaa.Ch
open Go.RowKit Go.Proofs.YtecdnhmdodedmaaW.PrintWords Go.Proofs.YtecdnhmdodedmaaW.PrintLast Go.Proofs.YtecdnhmdodedmaaW.PrintMore Go.Proofs.Ytecdnhmdodedmaa.HS Go.Proofs.Ytecdnhmdodedmaa.Ca Go.Proofs.Ytecdnhmdodedmaa.It
set_option linter.unusedVariables false
set_option linter.unusedSimpArgs false
theorem C_setRow {W : World} {A : Option Addr} {n g t : Nat} {xs : List Int} {cs : Array Value} (h : Kd.C (Kd.int .u8) W A n xs) (hb : W.heap[g]? = some (.cells cs t (0, 0))) (cs' : Array Value) (hne : ∀ ad, A = some ad → 0 < n → ad.block ≠ g) : Kd.C (Kd.int .u8) (W.setRow g cs') A n xs := by
  refine ⟨h.1, h.2.1, fun hn => ?_⟩
  obtain ⟨ad, e, hc⟩ := h.2.2 hn
  refine ⟨ad, e, fun j p hj => ?_⟩
  obtain ⟨c, hl, hK, hcell⟩ := hc j p hj
  refine ⟨c, hl, hK, fun i u hu => ?_⟩
  rw [cell_setRow_other W g cs' _ (by rw [add_block]; exact hne ad e hn)]
  exact hcell i u hu
/-- A row of bytes lies in no range's block. -/
theorem C_ne83 {W : World} {A : Option Addr} {n g t : Nat} {xs : List Int} (h : Kd.C (Kd.int .u8) W A n xs) (hb : W.heap[g]? = some (.cells #[.int .i64 0, .slice none 0 0, .slice none 0 0, .bool false] t (0, 0))) : ∀ ad, A = some ad → 0 < n → ad.block ≠ g := by
  intro ad e hn hg
  obtain ⟨ad', e', hc⟩ := h.2.2 hn
  rw [e] at e'
  obtain rfl := Option.some.inj e'
  have hl := h.1
  obtain ⟨c, hcl, hK, hcell⟩ := hc 0 (xs[0]'(by omega)) (List.getElem?_eq_getElem _)
  have hcv : c = [.int .u8 (xs[0]'(by omega))] := hK
  rw [hcv] at hcell
  have h0 := hcell 0 _ rfl
  have ha : (ad.add (0 * (Kd.int .u8).sz + 0)) = ad := by simp [Addr.add]
  rw [ha] at h0
  unfold World.cell? at h0
  rw [hg, hb] at h0
  dsimp only at h0
  split at h0
  · cases h0
  · match ho : ad.off with
    | 0 => rw [ho] at h0; simp at h0
    | 1 => rw [ho] at h0; simp at h0
    | 2 => rw [ho] at h0; simp at h0
    | 3 => rw [ho] at h0; simp at h0
    | k + 4 => rw [ho] at h0; simp at h0
/-- A range in a block of its own. -/
structure RgAt (R : Int × List Int × List Int × Bool × Int) (P : Nat) (A : Option Addr) (c : Nat) (B : Option Addr) (d : Nat) (W : World) : Prop where
  blk : W.heap[P]? = some (.cells #[.int .i64 R.1, .slice A R.2.1.length c, .slice B R.2.2.1.length d, .bool R.2.2.2.1] 83 (0, 0))
  f : Kd.C (Kd.int .u8) W A R.2.1.length R.2.1
  t : Kd.C (Kd.int .u8) W B R.2.2.1.length R.2.2.1
theorem RgAt.below {R : Int × List Int × List Int × Bool × Int} {P : Nat} {A : Option Addr} {c : Nat} {B : Option Addr} {d : Nat} {W V : World} (h : RgAt R P A c B d W) (hb : Below W.heap.size W V) : RgAt R P A c B d V := ⟨(hb.block P (blk_lt h.blk)).trans h.blk, Kd.C_below h.f hb, Kd.C_below h.t hb⟩
theorem RgAt.facts {R : Int × List Int × List Int × Bool × Int} {P : Nat} {A : Option Addr} {c : Nat} {B : Option Addr} {d : Nat} {W : World} (h : RgAt R P A c B d W) :
    W.cell? ⟨P, 0, none⟩ = some (.int .i64 R.1) ∧ W.cell? ⟨P, 1, none⟩ = some (.slice A R.2.1.length c) ∧ W.cell? ⟨P, 2, none⟩ = some (.slice B R.2.2.1.length d) ∧ W.cell? ⟨P, 3, none⟩ = some (.bool R.2.2.2.1) ∧
    (Sem.run Try.prog (Go.convert 42 9 (.slice A R.2.1.length c)) W = .ok (.string (strOfNums R.2.1)) W) ∧ (Sem.run Try.prog (Go.convert 42 9 (.slice B R.2.2.1.length d)) W = .ok (.string (strOfNums R.2.2.1)) W) :=
  ⟨(blk_cell h.blk 0).trans rfl, (blk_cell h.blk 1).trans rfl, (blk_cell h.blk 2).trans rfl, (blk_cell h.blk 3).trans rfl,
   Kd.C_string (P := Try.prog) (A := A) (c := c) Try.underlying42 Try.underlying5 Try.underlying9 h.f, Kd.C_string (P := Try.prog) (A := B) (c := d) Try.underlying42 Try.underlying5 Try.underlying9 h.t⟩
set_option maxHeartbeats 16000000 in
set_option maxRecDepth 100000 in
theorem calls_call (j : Job) (A : Option Addr) (n : Nat) (l : List S80) (L : Option Addr) (cl : Nat) (w : World) (hj : j.In w A n) (hts : j.ts.length ≤ 1048576) (hL : Kd.C k80 w L l.length l) (hl : l.length ≤ 1048576) (hb3 : ∀ o ∈ l, o.f3.length ≤ 1048576 ∧ o.f4.length ≤ 1048576 ∧ o.f6.length ≤ 1048576) :
    Calls Try.prog 33 #[.agg (j.v A n), .slice L l.length cl] w (TrueP w) := by
  have hb := below_alloc (Below.refl w.heap.size w) (.cells (j.v A n) 24)
  have hblk := blk_new w (.cells (j.v A n) 24)
  have HJ := Aside0.mk (JobAt.mk hblk (hj.below hb))
  have HL := Aside0.mk (Kd.C_below hL hb)
  have HB := Aside0.mk hb
  have H3 := Aside0.mk hb3
  have HTS := Aside0.mk hts
  have hl2 : l.length ≤ 1048576 := hl
  clear hj hL hb hblk hb3 hts hl
  unfold Job.v at *
  go_enter Try.func33, Try.ntmps33
  go_upto_region 1 with fail
  obtain ⟨P0, q0⟩ : ∃ B, w.heap.size = B := ⟨_, rfl⟩
  rw [q0] at HJ ⊢
  clear q0
  generalize World.alloc _ _ = w1 at HJ HL HB ⊢
  go_wp2
  go_loopw [5] (fun v w' => ∃ k : Nat, v = .int .i64 k ∧ k ≤ l.length ∧ Aside0 (Below w1.heap.size w1 w')) (fun v _ => l.length - (intOf v).toNat)
  case atStart => exact ⟨0, rfl, Nat.zero_le _, ⟨Below.refl _ _⟩⟩
  case round =>
    obtain ⟨k, rfl, hk, hb⟩ := hrel
    by_cases hlt : k < l.length
    · by_cases h100 : k < 100
      · obtain ⟨ad, A3, c3, A4, c4, A6, c6, ea, hel⟩ := opEl_at (Kd.C_below HL.out hb.out) k hlt
        subst ea
        have hbd := H3.out _ (rd_T80_mem l k hlt)
        generalize rd_T80 l (k : Int) = o at hel hbd
        obtain ⟨g3, g4, g6⟩ := hbd
        obtain ⟨p, hp⟩ : ∃ p, ad.add (k * 7) = p := ⟨_, rfl⟩
        rw [hp] at hel
        have k0 : (0 : Int) ≤ (k : Int) := by omega
        have k1 : (k : Int) < (l.length : Int) := by omega
        have HEL := Aside0.mk hel
        have CR := Aside0.mk (fun (W : World) (h1 : j.In W A n) (h2 : OpIn o W A3 c3 A4 c4 A6 c6) => range_call j o A n A3 c3 A4 c4 A6 c6 W h1 h2 g3 g4)
        have CQ := Aside0.mk (fun (W : World) (h1 : j.In W A n) (h2 : OpIn o W A3 c3 A4 c4 A6 c6) => refRange_call j o A n A3 c3 A4 c4 A6 c6 W h1 h2 HTS.out g6 g3 g4)
        have CM := Aside0.mk (fun (W : World) (h1 : j.In W A n) (h2 : OpIn o W A3 c3 A4 c4 A6 c6) => mayOp_call j o A n A3 c3 A4 c4 A6 c6 W h1 h2)
        have CN := Aside0.mk (fun (W : World) (h1 : j.In W A n) (h2 : OpIn o W A3 c3 A4 c4 A6 c6) => refMayOp_call j A n o A3 c3 A4 c4 A6 c6 W h1 h2 HTS.out g6)
        obtain ⟨R, hR⟩ : ∃ R, R = rangeL j o := ⟨_, rfl⟩
        obtain ⟨mb, hmb⟩ : ∃ R, R = mayOp j o := ⟨_, rfl⟩
        rw [← hR] at CR CQ
        rw [← hmb] at CM CN
        unfold opV Job.v at *
        unfold RangeP at CR CQ
        clear hel g3 g4 g6 hR hmb
        go_upto_region 4 with fail
        have HQwd := Aside0.mk (below_step hb.out (below_drew (Below.refl wr.heap.size wr)))
        have HEwd := Aside0.mk (below_drew (Below.refl wr.heap.size wr))
        refine start_ (n := 12) (S := fun w' => w'.cell? ⟨P0, 0, none⟩ = some (.int .i64 j.w) ∧ w'.cell? ⟨P0, 1, none⟩ = some (.int .i64 j.l) ∧ w'.cell? ⟨P0, 2, none⟩ = some (.int .i64 j.wi) ∧ w'.cell? ⟨P0, 3, none⟩ = some (.int .i64 j.c) ∧ w'.cell? ⟨P0, 4, none⟩ = some (.int .i64 j.d) ∧ w'.cell? ⟨P0, 5, none⟩ = some (.int .i64 j.e) ∧ w'.cell? ⟨P0, 6, none⟩ = some (.slice A j.ts.length n) ∧ w'.cell? p = some (.int .i64 o.f0) ∧ w'.cell? ⟨p.block, p.off + 1, none⟩ = some (.int .i64 o.f1) ∧ w'.cell? ⟨p.block, p.off + 2, none⟩ = some (.int .i64 o.f2) ∧ w'.cell? ⟨p.block, p.off + 3, none⟩ = some (.slice A3 o.f3.length c3) ∧ w'.cell? ⟨p.block, p.off + 4, none⟩ = some (.slice A4 o.f4.length c4) ∧ w'.cell? ⟨p.block, p.off + 5, none⟩ = some (.int .i64 o.f5) ∧ w'.cell? ⟨p.block, p.off + 6, none⟩ = some (.slice A6 o.f6.length c6)) (ds := []) #[false, false, false, false, false, false, false, false, false, false, false, false] (by kernel_rfl) rfl rfl ⟨(HJ.out.below HQwd.out).cells.1, (HJ.out.below HQwd.out).cells.2.1, (HJ.out.below HQwd.out).cells.2.2.1, (HJ.out.below HQwd.out).cells.2.2.2.1, (HJ.out.below HQwd.out).cells.2.2.2.2.1, (HJ.out.below HQwd.out).cells.2.2.2.2.2.1, (HJ.out.below HQwd.out).cells.2.2.2.2.2.2, (HEL.out.below HEwd.out).x0, (HEL.out.below HEwd.out).x1, (HEL.out.below HEwd.out).x2, (HEL.out.below HEwd.out).x3, (HEL.out.below HEwd.out).x4, (HEL.out.below HEwd.out).x5, (HEL.out.below HEwd.out).x6⟩ (fun hHeld => ?_)
        generalize wr.drew = wd at hHeld HQwd HEwd ⊢
        refine take_ (i := 0) (N := some 21) (v := ?_) (a' := ?_) #[true, false, false, false, false, false, false, false, false, false, false, false] rfl rfl (by kernel_rfl) (fun _ _ _ h => h) (Or.inl ⟨by rfl, ?_⟩) hHeld ?_ ?_
        rotate_left
        · rintro w' ⟨s0, s1, s2, s3, s4, s5, s6, s7, s8, s9, s10, s11, s12, s13⟩
          go_simp
          with_reducible rfl
        rotate_left
        · simp only [Act.put, List.setIfInBounds_toArray, List.set_cons_zero, List.set_cons_succ, i64_w, i32_w]
          rfl
        refine pure_ (i := 1) (N := some 22) (v := ?_) (a' := ?_) #[true, true, false, false, false, false, false, false, false, false, false, false] rfl rfl (by kernel_rfl) (fun _ _ _ h => h) (Or.inl ⟨by rfl, ?_⟩) ?_ ?_
        rotate_left
        · intro w'
          go_simp
          with_reducible rfl
        rotate_left
        · simp only [Act.put, List.setIfInBounds_toArray, List.set_cons_zero, List.set_cons_succ, i64_w, i32_w]
          rfl
        refine pure_ (i := 2) (N := some 23) (v := ?_) (a' := ?_) #[true, true, true, false, false, false, false, false, false, false, false, false] rfl rfl (by kernel_rfl) (fun _ _ _ h => h) (Or.inl ⟨by rfl, ?_⟩) ?_ ?_
        rotate_left
        · intro w'
          go_simp
          with_reducible rfl
        rotate_left
        · simp only [Act.put, List.setIfInBounds_toArray, List.set_cons_zero, List.set_cons_succ, i64_w, i32_w]
          rfl
        refine pure_ (i := 3) (N := some 24) (v := ?_) (a' := ?_) #[true, true, true, true, false, false, false, false, false, false, false, false] rfl rfl (by kernel_rfl) (fun _ _ _ h => h) (Or.inl ⟨by rfl, ?_⟩) ?_ ?_
        rotate_left
        · intro w'
          go_simp
          with_reducible rfl
        rotate_left
        · simp only [Act.put, List.setIfInBounds_toArray, List.set_cons_zero, List.set_cons_succ, i64_w, i32_w]
          rfl
        refine take_ (i := 4) (N := some 25) (v := ?_) (a' := ?_) #[true, true, true, true, true, false, false, false, false, false, false, false] rfl rfl (by kernel_rfl) (fun _ _ _ h => h) (Or.inl ⟨by rfl, ?_⟩) hHeld ?_ ?_
        rotate_left
        · rintro w' ⟨s0, s1, s2, s3, s4, s5, s6, s7, s8, s9, s10, s11, s12, s13⟩
          go_simp
          with_reducible rfl
        rotate_left
        · simp only [Act.put, List.setIfInBounds_toArray, List.set_cons_zero, List.set_cons_succ, i64_w, i32_w]
          rfl
        refine join_ (σ := (Option Addr × Nat) × (Option Addr × Nat) × Nat) 2 #[true, true, true, true, true, true, true, true, true, true, false, false] (fun s_ => [(26, .tuple #[.agg #[.int .i64 R.1, .slice s_.1.1 R.2.1.length s_.1.2, .slice s_.2.1.1 R.2.2.1.length s_.2.1.2, .bool R.2.2.2.1], .int .i64 R.2.2.2.2]), (20, .tuple #[.agg #[.int .i64 R.1, .slice s_.1.1 R.2.1.length s_.1.2, .slice s_.2.1.1 R.2.2.1.length s_.2.1.2, .bool R.2.2.2.1], .int .i64 R.2.2.2.2]), (27, .agg #[.int .i64 R.1, .slice s_.1.1 R.2.1.length s_.1.2, .slice s_.2.1.1 R.2.2.1.length s_.2.1.2, .bool R.2.2.2.1]), (28, .int .i64 R.2.2.2.2), (6, .pointer (some ⟨s_.2.2, 0, none⟩))]) (fun s_ w' => R.2.1.length ≤ s_.1.2 ∧ Kd.C (Kd.int .u8) w' s_.1.1 R.2.1.length R.2.1 ∧ R.2.2.1.length ≤ s_.2.1.2 ∧ Kd.C (Kd.int .u8) w' s_.2.1.1 R.2.2.1.length R.2.2.1 ∧ w'.heap[s_.2.2]? = some (.cells #[.int .i64 0, .slice none 0 0, .slice none 0 0, .bool false] 83 (0, 0)) ∧ Below wd.heap.size wd w' ∧ wd.heap.size ≤ s_.2.2) ?_ ?_
        rotate_left
        · intro hCont
          refine two_ (i := 5) (j := 9) (Ni := some 26) (Nj := some 6) #[true, true, true, true, true, true, false, false, false, false, false, false] #[true, true, true, true, true, false, false, false, false, true, false, false] rfl rfl rfl rfl (by kernel_rfl) (by decide) (by decide) (fun K hK => ?_) (fun K hK => ?_)
          · refine goes_ Try.func36 (by kernel_rfl) rfl #[.agg #[.int .i64 j.w, .int .i64 j.l, .int .i64 j.wi, .int .i64 j.c, .int .i64 j.d, .int .i64 j.e, .slice A j.ts.length n], .agg #[.int .i64 o.f0, .int .i64 o.f1, .int .i64 o.f2, .slice A3 o.f3.length c3, .slice A4 o.f4.length c4, .int .i64 o.f5, .slice A6 o.f6.length c6]] (by rfl) rfl rfl (by (try simp only [List.map_toArray, List.map_cons, List.map_nil]); first | done | rfl) ?_
            refine (CR.out wd (HJ.out.below (below_step HQwd.out (Below.refl wd.heap.size wd))).inn (HEL.out.below (below_step HEwd.out (Below.refl wd.heap.size wd))).inn).mono ?_
            rintro e wf1 ⟨Afwf1, cfwf1, Atwf1, ctwf1, rfl, kfwf1, hfwf1, ktwf1, htwf1, hb_wf1⟩
            refine ⟨_, rfl, ?_⟩
            refine hK.out _ _ ⟨(HJ.out.below (below_step HQwd.out hb_wf1)).cells.1, (HJ.out.below (below_step HQwd.out hb_wf1)).cells.2.1, (HJ.out.below (below_step HQwd.out hb_wf1)).cells.2.2.1, (HJ.out.below (below_step HQwd.out hb_wf1)).cells.2.2.2.1, (HJ.out.below (below_step HQwd.out hb_wf1)).cells.2.2.2.2.1, (HJ.out.below (below_step HQwd.out hb_wf1)).cells.2.2.2.2.2.1, (HJ.out.below (below_step HQwd.out hb_wf1)).cells.2.2.2.2.2.2, (HEL.out.below (below_step HEwd.out hb_wf1)).x0, (HEL.out.below (below_step HEwd.out hb_wf1)).x1, (HEL.out.below (below_step HEwd.out hb_wf1)).x2, (HEL.out.below (below_step HEwd.out hb_wf1)).x3, (HEL.out.below (below_step HEwd.out hb_wf1)).x4, (HEL.out.below (below_step HEwd.out hb_wf1)).x5, (HEL.out.below (below_step HEwd.out hb_wf1)).x6⟩ (fun hHeld => ?_)
            clear hK K
            refine norm_ (a' := ?_) ?_ ?_
            rotate_left
            · show Act.put _ (some 26) _ = _
              simp only [Act.put, List.setIfInBounds_toArray, List.set_cons_zero, List.set_cons_succ, i64_w, i32_w]
              rfl
            refine pure_ (i := 6) (N := some 20) (v := ?_) (a' := ?_) #[true, true, true, true, true, true, true, false, false, false, false, false] rfl rfl (by kernel_rfl) (fun _ _ _ h => h) (Or.inl ⟨by rfl, ?_⟩) ?_ ?_
            rotate_left
            · intro w'
              go_simp
              with_reducible rfl
            rotate_left
            · simp only [Act.put, List.setIfInBounds_toArray, List.set_cons_zero, List.set_cons_succ, i64_w, i32_w]
              rfl
            refine pure_ (i := 7) (N := some 27) (v := ?_) (a' := ?_) #[true, true, true, true, true, true, true, true, false, false, false, false] rfl rfl (by kernel_rfl) (fun _ _ _ h => h) (Or.inl ⟨by rfl, ?_⟩) ?_ ?_
            rotate_left
            · intro w'
              go_simp
              with_reducible rfl
            rotate_left
            · simp only [Act.put, List.setIfInBounds_toArray, List.set_cons_zero, List.set_cons_succ, i64_w, i32_w]
              rfl
            refine pure_ (i := 8) (N := some 28) (v := ?_) (a' := ?_) #[true, true, true, true, true, true, true, true, true, false, false, false] rfl rfl (by kernel_rfl) (fun _ _ _ h => h) (Or.inl ⟨by rfl, ?_⟩) ?_ ?_
            rotate_left
            · intro w'
              go_simp
              with_reducible rfl
            rotate_left
            · simp only [Act.put, List.setIfInBounds_toArray, List.set_cons_zero, List.set_cons_succ, i64_w, i32_w]
              rfl
            refine one_ (i := 9) (N := some 6) #[true, true, true, true, true, true, true, true, true, true, false, false] rfl rfl (by kernel_rfl) (by decide) (fun K hK => ?_)
            have hbkwf2 := blk_new wf1 (.cells #[.int .i64 0, .slice none 0 0, .slice none 0 0, .bool false] 83)
            have hb_wf2 := below_alloc (Below.refl wf1.heap.size wf1) (.cells #[.int .i64 0, .slice none 0 0, .slice none 0 0, .bool false] 83)
            have PSZ_wf2 : wd.heap.size ≤ wf1.heap.size := (hb_wf1).size
            refine value_ (v := .pointer (some ⟨wf1.heap.size, 0, none⟩)) (w1 := wf1.alloc (.cells #[.int .i64 0, .slice none 0 0, .slice none 0 0, .bool false] 83)) (by rfl) rfl (by go_simp) ?_
            generalize wf1.alloc (.cells #[.int .i64 0, .slice none 0 0, .slice none 0 0, .bool false] 83) = wf2 at hbkwf2 hb_wf2 ⊢
            refine hK.out _ _ ⟨(HJ.out.below (below_step HQwd.out (below_step hb_wf1 hb_wf2))).cells.1, (HJ.out.below (below_step HQwd.out (below_step hb_wf1 hb_wf2))).cells.2.1, (HJ.out.below (below_step HQwd.out (below_step hb_wf1 hb_wf2))).cells.2.2.1, (HJ.out.below (below_step HQwd.out (below_step hb_wf1 hb_wf2))).cells.2.2.2.1, (HJ.out.below (below_step HQwd.out (below_step hb_wf1 hb_wf2))).cells.2.2.2.2.1, (HJ.out.below (below_step HQwd.out (below_step hb_wf1 hb_wf2))).cells.2.2.2.2.2.1, (HJ.out.below (below_step HQwd.out (below_step hb_wf1 hb_wf2))).cells.2.2.2.2.2.2, (HEL.out.below (below_step HEwd.out (below_step hb_wf1 hb_wf2))).x0, (HEL.out.below (below_step HEwd.out (below_step hb_wf1 hb_wf2))).x1, (HEL.out.below (below_step HEwd.out (below_step hb_wf1 hb_wf2))).x2, (HEL.out.below (below_step HEwd.out (below_step hb_wf1 hb_wf2))).x3, (HEL.out.below (below_step HEwd.out (below_step hb_wf1 hb_wf2))).x4, (HEL.out.below (below_step HEwd.out (below_step hb_wf1 hb_wf2))).x5, (HEL.out.below (below_step HEwd.out (below_step hb_wf1 hb_wf2))).x6⟩ (fun hHeld => ?_)
            clear hK K
            refine norm_ (a' := ?_) ?_ ?_
            rotate_left
            · show Act.put _ (some 6) _ = _
              simp only [Act.put, List.setIfInBounds_toArray, List.set_cons_zero, List.set_cons_succ, i64_w, i32_w]
              rfl
            exact norm_ (by simp only [putAll, Act.put, List.setIfInBounds_toArray, List.set_cons_zero, List.set_cons_succ]) (hCont ((Afwf1, cfwf1), (Atwf1, ctwf1), wf1.heap.size) _ ⟨kfwf1, Kd.C_below hfwf1 hb_wf2, ktwf1, Kd.C_below htwf1 hb_wf2, blk_below hbkwf2 (Below.refl _ _), (below_step hb_wf1 hb_wf2), PSZ_wf2⟩)
          · have hbkwf3 := blk_new wd (.cells #[.int .i64 0, .slice none 0 0, .slice none 0 0, .bool false] 83)
            have hb_wf3 := below_alloc (Below.refl wd.heap.size wd) (.cells #[.int .i64 0, .slice none 0 0, .slice none 0 0, .bool false] 83)
            have PSZ_wf3 : wd.heap.size ≤ wd.heap.size := ((Below.refl wd.heap.size wd)).size
            refine value_ (v := .pointer (some ⟨wd.heap.size, 0, none⟩)) (w1 := wd.alloc (.cells #[.int .i64 0, .slice none 0 0, .slice none 0 0, .bool false] 83)) (by rfl) rfl (by go_simp) ?_
            generalize wd.alloc (.cells #[.int .i64 0, .slice none 0 0, .slice none 0 0, .bool false] 83) = wf3 at hbkwf3 hb_wf3 ⊢
            refine hK.out _ _ ⟨(HJ.out.below (below_step HQwd.out hb_wf3)).cells.1, (HJ.out.below (below_step HQwd.out hb_wf3)).cells.2.1, (HJ.out.below (below_step HQwd.out hb_wf3)).cells.2.2.1, (HJ.out.below (below_step HQwd.out hb_wf3)).cells.2.2.2.1, (HJ.out.below (below_step HQwd.out hb_wf3)).cells.2.2.2.2.1, (HJ.out.below (below_step HQwd.out hb_wf3)).cells.2.2.2.2.2.1, (HJ.out.below (below_step HQwd.out hb_wf3)).cells.2.2.2.2.2.2, (HEL.out.below (below_step HEwd.out hb_wf3)).x0, (HEL.out.below (below_step HEwd.out hb_wf3)).x1, (HEL.out.below (below_step HEwd.out hb_wf3)).x2, (HEL.out.below (below_step HEwd.out hb_wf3)).x3, (HEL.out.below (below_step HEwd.out hb_wf3)).x4, (HEL.out.below (below_step HEwd.out hb_wf3)).x5, (HEL.out.below (below_step HEwd.out hb_wf3)).x6⟩ (fun hHeld => ?_)
            clear hK K
            refine norm_ (a' := ?_) ?_ ?_
            rotate_left
            · show Act.put _ (some 6) _ = _
              simp only [Act.put, List.setIfInBounds_toArray, List.set_cons_zero, List.set_cons_succ, i64_w, i32_w]
              rfl
            refine one_ (i := 5) (N := some 26) #[true, true, true, true, true, true, false, false, false, true, false, false] rfl rfl (by kernel_rfl) (by decide) (fun K hK => ?_)
            refine goes_ Try.func36 (by kernel_rfl) rfl #[.agg #[.int .i64 j.w, .int .i64 j.l, .int .i64 j.wi, .int .i64 j.c, .int .i64 j.d, .int .i64 j.e, .slice A j.ts.length n], .agg #[.int .i64 o.f0, .int .i64 o.f1, .int .i64 o.f2, .slice A3 o.f3.length c3, .slice A4 o.f4.length c4, .int .i64 o.f5, .slice A6 o.f6.length c6]] (by rfl) rfl rfl (by (try simp only [List.map_toArray, List.map_cons, List.map_nil]); first | done | rfl) ?_
            refine (CR.out wf3 (HJ.out.below (below_step HQwd.out hb_wf3)).inn (HEL.out.below (below_step HEwd.out hb_wf3)).inn).mono ?_
            rintro e wf4 ⟨Afwf4, cfwf4, Atwf4, ctwf4, rfl, kfwf4, hfwf4, ktwf4, htwf4, hb_wf4⟩
            refine ⟨_, rfl, ?_⟩
            refine hK.out _ _ ⟨(HJ.out.below (below_step HQwd.out (below_step hb_wf3 hb_wf4))).cells.1, (HJ.out.below (below_step HQwd.out (below_step hb_wf3 hb_wf4))).cells.2.1, (HJ.out.below (below_step HQwd.out (below_step hb_wf3 hb_wf4))).cells.2.2.1, (HJ.out.below (below_step HQwd.out (below_step hb_wf3 hb_wf4))).cells.2.2.2.1, (HJ.out.below (below_step HQwd.out (below_step hb_wf3 hb_wf4))).cells.2.2.2.2.1, (HJ.out.below (below_step HQwd.out (below_step hb_wf3 hb_wf4))).cells.2.2.2.2.2.1, (HJ.out.below (below_step HQwd.out (below_step hb_wf3 hb_wf4))).cells.2.2.2.2.2.2, (HEL.out.below (below_step HEwd.out (below_step hb_wf3 hb_wf4))).x0, (HEL.out.below (below_step HEwd.out (below_step hb_wf3 hb_wf4))).x1, (HEL.out.below (below_step HEwd.out (below_step hb_wf3 hb_wf4))).x2, (HEL.out.below (below_step HEwd.out (below_step hb_wf3 hb_wf4))).x3, (HEL.out.below (below_step HEwd.out (below_step hb_wf3 hb_wf4))).x4, (HEL.out.below (below_step HEwd.out (below_step hb_wf3 hb_wf4))).x5, (HEL.out.below (below_step HEwd.out (below_step hb_wf3 hb_wf4))).x6⟩ (fun hHeld => ?_)
            clear hK K
            refine norm_ (a' := ?_) ?_ ?_
            rotate_left
            · show Act.put _ (some 26) _ = _
              simp only [Act.put, List.setIfInBounds_toArray, List.set_cons_zero, List.set_cons_succ, i64_w, i32_w]
              rfl
            refine pure_ (i := 6) (N := some 20) (v := ?_) (a' := ?_) #[true, true, true, true, true, true, true, false, false, true, false, false] rfl rfl (by kernel_rfl) (fun _ _ _ h => h) (Or.inl ⟨by rfl, ?_⟩) ?_ ?_
            rotate_left
            · intro w'
              go_simp
              with_reducible rfl
            rotate_left
            · simp only [Act.put, List.setIfInBounds_toArray, List.set_cons_zero, List.set_cons_succ, i64_w, i32_w]
              rfl
            refine pure_ (i := 7) (N := some 27) (v := ?_) (a' := ?_) #[true, true, true, true, true, true, true, true, false, true, false, false] rfl rfl (by kernel_rfl) (fun _ _ _ h => h) (Or.inl ⟨by rfl, ?_⟩) ?_ ?_
            rotate_left
            · intro w'
              go_simp
              with_reducible rfl
            rotate_left
            · simp only [Act.put, List.setIfInBounds_toArray, List.set_cons_zero, List.set_cons_succ, i64_w, i32_w]
              rfl
            refine pure_ (i := 8) (N := some 28) (v := ?_) (a' := ?_) #[true, true, true, true, true, true, true, true, true, true, false, false] rfl rfl (by kernel_rfl) (fun _ _ _ h => h) (Or.inl ⟨by rfl, ?_⟩) ?_ ?_
            rotate_left
            · intro w'
              go_simp
              with_reducible rfl
            rotate_left
            · simp only [Act.put, List.setIfInBounds_toArray, List.set_cons_zero, List.set_cons_succ, i64_w, i32_w]
              rfl
            exact norm_ (by simp only [putAll, Act.put, List.setIfInBounds_toArray, List.set_cons_zero, List.set_cons_succ]) (hCont ((Afwf4, cfwf4), (Atwf4, ctwf4), wd.heap.size) _ ⟨kfwf4, Kd.C_below hfwf4 (Below.refl _ _), ktwf4, Kd.C_below htwf4 (Below.refl _ _), blk_below hbkwf3 hb_wf4, (below_step hb_wf3 hb_wf4), PSZ_wf3⟩)
        rintro ⟨⟨AFwd, CFwd⟩, ⟨ATwd, CTwd⟩, Pwd⟩ wdb ⟨kf, hf, kt, ht, hbk, hbb, hle⟩
        dsimp only at kf hf kt ht hbk hle
        refine norm_ (a' := ?_) ?_ ?_
        rotate_left
        · simp only [putAll, Act.put, List.setIfInBounds_toArray, List.set_cons_zero, List.set_cons_succ]
          rfl
        have hHeld : wdb.cell? ⟨P0, 0, none⟩ = some (.int .i64 j.w) ∧ wdb.cell? ⟨P0, 1, none⟩ = some (.int .i64 j.l) ∧ wdb.cell? ⟨P0, 2, none⟩ = some (.int .i64 j.wi) ∧ wdb.cell? ⟨P0, 3, none⟩ = some (.int .i64 j.c) ∧ wdb.cell? ⟨P0, 4, none⟩ = some (.int .i64 j.d) ∧ wdb.cell? ⟨P0, 5, none⟩ = some (.int .i64 j.e) ∧ wdb.cell? ⟨P0, 6, none⟩ = some (.slice A j.ts.length n) ∧ wdb.cell? p = some (.int .i64 o.f0) ∧ wdb.cell? ⟨p.block, p.off + 1, none⟩ = some (.int .i64 o.f1) ∧ wdb.cell? ⟨p.block, p.off + 2, none⟩ = some (.int .i64 o.f2) ∧ wdb.cell? ⟨p.block, p.off + 3, none⟩ = some (.slice A3 o.f3.length c3) ∧ wdb.cell? ⟨p.block, p.off + 4, none⟩ = some (.slice A4 o.f4.length c4) ∧ wdb.cell? ⟨p.block, p.off + 5, none⟩ = some (.int .i64 o.f5) ∧ wdb.cell? ⟨p.block, p.off + 6, none⟩ = some (.slice A6 o.f6.length c6) := ⟨(HJ.out.below (below_step HQwd.out hbb)).cells.1, (HJ.out.below (below_step HQwd.out hbb)).cells.2.1, (HJ.out.below (below_step HQwd.out hbb)).cells.2.2.1, (HJ.out.below (below_step HQwd.out hbb)).cells.2.2.2.1, (HJ.out.below (below_step HQwd.out hbb)).cells.2.2.2.2.1, (HJ.out.below (below_step HQwd.out hbb)).cells.2.2.2.2.2.1, (HJ.out.below (below_step HQwd.out hbb)).cells.2.2.2.2.2.2, (HEL.out.below (below_step HEwd.out hbb)).x0, (HEL.out.below (below_step HEwd.out hbb)).x1, (HEL.out.below (below_step HEwd.out hbb)).x2, (HEL.out.below (below_step HEwd.out hbb)).x3, (HEL.out.below (below_step HEwd.out hbb)).x4, (HEL.out.below (below_step HEwd.out hbb)).x5, (HEL.out.below (below_step HEwd.out hbb)).x6⟩
        refine one_ (i := 10) (N := none) #[true, true, true, true, true, true, true, true, true, true, true, false] rfl rfl (by kernel_rfl) (by decide) (fun K hK => ?_)
        refine skip_ (w1 := wdb.setRow Pwd #[.int .i64 R.1, .slice AFwd R.2.1.length CFwd, .slice ATwd R.2.2.1.length CTwd, .bool R.2.2.2.1]) (by rfl) rfl (store_run 83 (.tmp 6) (.tmp 27) rfl Pwd _ rfl rfl 83 _ hbk (by kernel_rfl) rfl (by simp [Value.oneCell'])) ?_
        have hbz := below_setRow hbb hle #[.int .i64 R.1, .slice AFwd R.2.1.length CFwd, .slice ATwd R.2.2.1.length CTwd, .bool R.2.2.2.1]
        refine hK.out _ _ ⟨(HJ.out.below (below_step HQwd.out hbz)).cells.1, (HJ.out.below (below_step HQwd.out hbz)).cells.2.1, (HJ.out.below (below_step HQwd.out hbz)).cells.2.2.1, (HJ.out.below (below_step HQwd.out hbz)).cells.2.2.2.1, (HJ.out.below (below_step HQwd.out hbz)).cells.2.2.2.2.1, (HJ.out.below (below_step HQwd.out hbz)).cells.2.2.2.2.2.1, (HJ.out.below (below_step HQwd.out hbz)).cells.2.2.2.2.2.2, (HEL.out.below (below_step HEwd.out hbz)).x0, (HEL.out.below (below_step HEwd.out hbz)).x1, (HEL.out.below (below_step HEwd.out hbz)).x2, (HEL.out.below (below_step HEwd.out hbz)).x3, (HEL.out.below (below_step HEwd.out hbz)).x4, (HEL.out.below (below_step HEwd.out hbz)).x5, (HEL.out.below (below_step HEwd.out hbz)).x6⟩ (fun hHeld6 => ?_)
        clear hK K
        refine pure_ (i := 11) (N := some 7) (v := ?_) (a' := ?_) #[true, true, true, true, true, true, true, true, true, true, true, true] rfl rfl (by kernel_rfl) (fun _ _ _ h => h) (Or.inl ⟨by rfl, ?_⟩) ?_ ?_
        rotate_left
        · intro w'
          go_simp
          with_reducible rfl
        rotate_left
        · simp only [Act.put, List.setIfInBounds_toArray, List.set_cons_zero, List.set_cons_succ, i64_w, i32_w]
          rfl
        refine done_ (by kernel_rfl) ?_
        simp only [Exit.then]
        have hbz := below_setRow hbb hle #[.int .i64 R.1, .slice AFwd R.2.1.length CFwd, .slice ATwd R.2.2.1.length CTwd, .bool R.2.2.2.1]
        have TY : ∀ q, q ∈ 5 :: (Kd.int .u8).E → q ≠ 83 := by intro q_ hq_; rcases List.mem_cons.1 hq_ with rfl | hq_; (· decide); cases hq_
        have RGwd := Aside0.mk (RgAt.mk (setRow_heap wdb Pwd _ #[.int .i64 R.1, .slice AFwd R.2.1.length CFwd, .slice ATwd R.2.2.1.length CTwd, .bool R.2.2.2.1] 83 (0, 0) hbk) (C_setRow hf hbk #[.int .i64 R.1, .slice AFwd R.2.1.length CFwd, .slice ATwd R.2.2.1.length CTwd, .bool R.2.2.2.1] (C_ne83 hf hbk)) (C_setRow ht hbk #[.int .i64 R.1, .slice AFwd R.2.1.length CFwd, .slice ATwd R.2.2.1.length CTwd, .bool R.2.2.2.1] (C_ne83 ht hbk)))
        have HZwd := Aside0.mk hbz
        clear kf hf kt ht hbk hbb hle hbz TY hHeld hHeld6
        generalize wdb.setRow Pwd _ = wdc at RGwd HZwd ⊢
        go_upto_region 5 with fail
        have HQwe := Aside0.mk (below_drew1 (below_step HQwd.out HZwd.out))
        have HEwe := Aside0.mk (below_drew1 (below_step HEwd.out HZwd.out))
        have RGe := Aside0.mk (RGwd.out.below (below_drew (Below.refl wdc.heap.size wdc)))
        refine start_ (n := 12) (S := fun w' => w'.cell? ⟨P0, 0, none⟩ = some (.int .i64 j.w) ∧ w'.cell? ⟨P0, 1, none⟩ = some (.int .i64 j.l) ∧ w'.cell? ⟨P0, 2, none⟩ = some (.int .i64 j.wi) ∧ w'.cell? ⟨P0, 3, none⟩ = some (.int .i64 j.c) ∧ w'.cell? ⟨P0, 4, none⟩ = some (.int .i64 j.d) ∧ w'.cell? ⟨P0, 5, none⟩ = some (.int .i64 j.e) ∧ w'.cell? ⟨P0, 6, none⟩ = some (.slice A j.ts.length n) ∧ w'.cell? p = some (.int .i64 o.f0) ∧ w'.cell? ⟨p.block, p.off + 1, none⟩ = some (.int .i64 o.f1) ∧ w'.cell? ⟨p.block, p.off + 2, none⟩ = some (.int .i64 o.f2) ∧ w'.cell? ⟨p.block, p.off + 3, none⟩ = some (.slice A3 o.f3.length c3) ∧ w'.cell? ⟨p.block, p.off + 4, none⟩ = some (.slice A4 o.f4.length c4) ∧ w'.cell? ⟨p.block, p.off + 5, none⟩ = some (.int .i64 o.f5) ∧ w'.cell? ⟨p.block, p.off + 6, none⟩ = some (.slice A6 o.f6.length c6)) (ds := []) #[false, false, false, false, false, false, false, false, false, false, false, false] (by kernel_rfl) rfl rfl ⟨(HJ.out.below HQwe.out).cells.1, (HJ.out.below HQwe.out).cells.2.1, (HJ.out.below HQwe.out).cells.2.2.1, (HJ.out.below HQwe.out).cells.2.2.2.1, (HJ.out.below HQwe.out).cells.2.2.2.2.1, (HJ.out.below HQwe.out).cells.2.2.2.2.2.1, (HJ.out.below HQwe.out).cells.2.2.2.2.2.2, (HEL.out.below HEwe.out).x0, (HEL.out.below HEwe.out).x1, (HEL.out.below HEwe.out).x2, (HEL.out.below HEwe.out).x3, (HEL.out.below HEwe.out).x4, (HEL.out.below HEwe.out).x5, (HEL.out.below HEwe.out).x6⟩ (fun hHeld => ?_)
        generalize wdc.drew = we at hHeld HQwe HEwe RGe ⊢
        refine take_ (i := 0) (N := some 30) (v := ?_) (a' := ?_) #[true, false, false, false, false, false, false, false, false, false, false, false] rfl rfl (by kernel_rfl) (fun _ _ _ h => h) (Or.inl ⟨by rfl, ?_⟩) hHeld ?_ ?_
        rotate_left
        · rintro w' ⟨s0, s1, s2, s3, s4, s5, s6, s7, s8, s9, s10, s11, s12, s13⟩
          go_simp
          with_reducible rfl
        rotate_left
        · simp only [Act.put, List.setIfInBounds_toArray, List.set_cons_zero, List.set_cons_succ, i64_w, i32_w]
          rfl
        refine pure_ (i := 1) (N := some 31) (v := ?_) (a' := ?_) #[true, true, false, false, false, false, false, false, false, false, false, false] rfl rfl (by kernel_rfl) (fun _ _ _ h => h) (Or.inl ⟨by rfl, ?_⟩) ?_ ?_
        rotate_left
        · intro w'
          go_simp
          with_reducible rfl
        rotate_left
        · simp only [Act.put, List.setIfInBounds_toArray, List.set_cons_zero, List.set_cons_succ, i64_w, i32_w]
          rfl
        refine pure_ (i := 2) (N := some 32) (v := ?_) (a' := ?_) #[true, true, true, false, false, false, false, false, false, false, false, false] rfl rfl (by kernel_rfl) (fun _ _ _ h => h) (Or.inl ⟨by rfl, ?_⟩) ?_ ?_
        rotate_left
        · intro w'
          go_simp
          with_reducible rfl
        rotate_left
        · simp only [Act.put, List.setIfInBounds_toArray, List.set_cons_zero, List.set_cons_succ, i64_w, i32_w]
          rfl
        refine pure_ (i := 3) (N := some 33) (v := ?_) (a' := ?_) #[true, true, true, true, false, false, false, false, false, false, false, false] rfl rfl (by kernel_rfl) (fun _ _ _ h => h) (Or.inl ⟨by rfl, ?_⟩) ?_ ?_
        rotate_left
        · intro w'
          go_simp
          with_reducible rfl
        rotate_left
        · simp only [Act.put, List.setIfInBounds_toArray, List.set_cons_zero, List.set_cons_succ, i64_w, i32_w]
          rfl
        refine take_ (i := 4) (N := some 34) (v := ?_) (a' := ?_) #[true, true, true, true, true, false, false, false, false, false, false, false] rfl rfl (by kernel_rfl) (fun _ _ _ h => h) (Or.inl ⟨by rfl, ?_⟩) hHeld ?_ ?_
        rotate_left
        · rintro w' ⟨s0, s1, s2, s3, s4, s5, s6, s7, s8, s9, s10, s11, s12, s13⟩
          go_simp
          with_reducible rfl
        rotate_left
        · simp only [Act.put, List.setIfInBounds_toArray, List.set_cons_zero, List.set_cons_succ, i64_w, i32_w]
          rfl
        refine join_ (σ := (Option Addr × Nat) × (Option Addr × Nat) × Nat) 2 #[true, true, true, true, true, true, true, true, true, true, false, false] (fun s_ => [(35, .tuple #[.agg #[.int .i64 R.1, .slice s_.1.1 R.2.1.length s_.1.2, .slice s_.2.1.1 R.2.2.1.length s_.2.1.2, .bool R.2.2.2.1], .int .i64 R.2.2.2.2]), (29, .tuple #[.agg #[.int .i64 R.1, .slice s_.1.1 R.2.1.length s_.1.2, .slice s_.2.1.1 R.2.2.1.length s_.2.1.2, .bool R.2.2.2.1], .int .i64 R.2.2.2.2]), (36, .agg #[.int .i64 R.1, .slice s_.1.1 R.2.1.length s_.1.2, .slice s_.2.1.1 R.2.2.1.length s_.2.1.2, .bool R.2.2.2.1]), (37, .int .i64 R.2.2.2.2), (8, .pointer (some ⟨s_.2.2, 0, none⟩))]) (fun s_ w' => R.2.1.length ≤ s_.1.2 ∧ Kd.C (Kd.int .u8) w' s_.1.1 R.2.1.length R.2.1 ∧ R.2.2.1.length ≤ s_.2.1.2 ∧ Kd.C (Kd.int .u8) w' s_.2.1.1 R.2.2.1.length R.2.2.1 ∧ w'.heap[s_.2.2]? = some (.cells #[.int .i64 0, .slice none 0 0, .slice none 0 0, .bool false] 83 (0, 0)) ∧ Below we.heap.size we w' ∧ we.heap.size ≤ s_.2.2) ?_ ?_
        rotate_left
        · intro hCont
          refine two_ (i := 5) (j := 9) (Ni := some 35) (Nj := some 8) #[true, true, true, true, true, true, false, false, false, false, false, false] #[true, true, true, true, true, false, false, false, false, true, false, false] rfl rfl rfl rfl (by kernel_rfl) (by decide) (by decide) (fun K hK => ?_) (fun K hK => ?_)
          · refine goes_ Try.func60 (by kernel_rfl) rfl #[.agg #[.int .i64 j.w, .int .i64 j.l, .int .i64 j.wi, .int .i64 j.c, .int .i64 j.d, .int .i64 j.e, .slice A j.ts.length n], .agg #[.int .i64 o.f0, .int .i64 o.f1, .int .i64 o.f2, .slice A3 o.f3.length c3, .slice A4 o.f4.length c4, .int .i64 o.f5, .slice A6 o.f6.length c6]] (by rfl) rfl rfl (by (try simp only [List.map_toArray, List.map_cons, List.map_nil]); first | done | rfl) ?_
            refine (CQ.out we (HJ.out.below (below_step HQwe.out (Below.refl we.heap.size we))).inn (HEL.out.below (below_step HEwe.out (Below.refl we.heap.size we))).inn).mono ?_
            rintro e wf1 ⟨Afwf1, cfwf1, Atwf1, ctwf1, rfl, kfwf1, hfwf1, ktwf1, htwf1, hb_wf1⟩
            refine ⟨_, rfl, ?_⟩
            refine hK.out _ _ ⟨(HJ.out.below (below_step HQwe.out hb_wf1)).cells.1, (HJ.out.below (below_step HQwe.out hb_wf1)).cells.2.1, (HJ.out.below (below_step HQwe.out hb_wf1)).cells.2.2.1, (HJ.out.below (below_step HQwe.out hb_wf1)).cells.2.2.2.1, (HJ.out.below (below_step HQwe.out hb_wf1)).cells.2.2.2.2.1, (HJ.out.below (below_step HQwe.out hb_wf1)).cells.2.2.2.2.2.1, (HJ.out.below (below_step HQwe.out hb_wf1)).cells.2.2.2.2.2.2, (HEL.out.below (below_step HEwe.out hb_wf1)).x0, (HEL.out.below (below_step HEwe.out hb_wf1)).x1, (HEL.out.below (below_step HEwe.out hb_wf1)).x2, (HEL.out.below (below_step HEwe.out hb_wf1)).x3, (HEL.out.below (below_step HEwe.out hb_wf1)).x4, (HEL.out.below (below_step HEwe.out hb_wf1)).x5, (HEL.out.below (below_step HEwe.out hb_wf1)).x6⟩ (fun hHeld => ?_)
            clear hK K
            refine norm_ (a' := ?_) ?_ ?_
            rotate_left
            · show Act.put _ (some 35) _ = _
              simp only [Act.put, List.setIfInBounds_toArray, List.set_cons_zero, List.set_cons_succ, i64_w, i32_w]
              rfl
            refine pure_ (i := 6) (N := some 29) (v := ?_) (a' := ?_) #[true, true, true, true, true, true, true, false, false, false, false, false] rfl rfl (by kernel_rfl) (fun _ _ _ h => h) (Or.inl ⟨by rfl, ?_⟩) ?_ ?_
            rotate_left
            · intro w'
              go_simp
              with_reducible rfl
            rotate_left
            · simp only [Act.put, List.setIfInBounds_toArray, List.set_cons_zero, List.set_cons_succ, i64_w, i32_w]
              rfl
            refine pure_ (i := 7) (N := some 36) (v := ?_) (a' := ?_) #[true, true, true, true, true, true, true, true, false, false, false, false] rfl rfl (by kernel_rfl) (fun _ _ _ h => h) (Or.inl ⟨by rfl, ?_⟩) ?_ ?_
            rotate_left
            · intro w'
              go_simp
              with_reducible rfl
            rotate_left
            · simp only [Act.put, List.setIfInBounds_toArray, List.set_cons_zero, List.set_cons_succ, i64_w, i32_w]
              rfl
            refine pure_ (i := 8) (N := some 37) (v := ?_) (a' := ?_) #[true, true, true, true, true, true, true, true, true, false, false, false] rfl rfl (by kernel_rfl) (fun _ _ _ h => h) (Or.inl ⟨by rfl, ?_⟩) ?_ ?_
            rotate_left
            · intro w'
              go_simp
              with_reducible rfl
            rotate_left
            · simp only [Act.put, List.setIfInBounds_toArray, List.set_cons_zero, List.set_cons_succ, i64_w, i32_w]
              rfl
            refine one_ (i := 9) (N := some 8) #[true, true, true, true, true, true, true, true, true, true, false, false] rfl rfl (by kernel_rfl) (by decide) (fun K hK => ?_)
            have hbkwf2 := blk_new wf1 (.cells #[.int .i64 0, .slice none 0 0, .slice none 0 0, .bool false] 83)
            have hb_wf2 := below_alloc (Below.refl wf1.heap.size wf1) (.cells #[.int .i64 0, .slice none 0 0, .slice none 0 0, .bool false] 83)
            have PSZ_wf2 : we.heap.size ≤ wf1.heap.size := (hb_wf1).size
            refine value_ (v := .pointer (some ⟨wf1.heap.size, 0, none⟩)) (w1 := wf1.alloc (.cells #[.int .i64 0, .slice none 0 0, .slice none 0 0, .bool false] 83)) (by rfl) rfl (by go_simp) ?_
            generalize wf1.alloc (.cells #[.int .i64 0, .slice none 0 0, .slice none 0 0, .bool false] 83) = wf2 at hbkwf2 hb_wf2 ⊢
            refine hK.out _ _ ⟨(HJ.out.below (below_step HQwe.out (below_step hb_wf1 hb_wf2))).cells.1, (HJ.out.below (below_step HQwe.out (below_step hb_wf1 hb_wf2))).cells.2.1, (HJ.out.below (below_step HQwe.out (below_step hb_wf1 hb_wf2))).cells.2.2.1, (HJ.out.below (below_step HQwe.out (below_step hb_wf1 hb_wf2))).cells.2.2.2.1, (HJ.out.below (below_step HQwe.out (below_step hb_wf1 hb_wf2))).cells.2.2.2.2.1, (HJ.out.below (below_step HQwe.out (below_step hb_wf1 hb_wf2))).cells.2.2.2.2.2.1, (HJ.out.below (below_step HQwe.out (below_step hb_wf1 hb_wf2))).cells.2.2.2.2.2.2, (HEL.out.below (below_step HEwe.out (below_step hb_wf1 hb_wf2))).x0, (HEL.out.below (below_step HEwe.out (below_step hb_wf1 hb_wf2))).x1, (HEL.out.below (below_step HEwe.out (below_step hb_wf1 hb_wf2))).x2, (HEL.out.below (below_step HEwe.out (below_step hb_wf1 hb_wf2))).x3, (HEL.out.below (below_step HEwe.out (below_step hb_wf1 hb_wf2))).x4, (HEL.out.below (below_step HEwe.out (below_step hb_wf1 hb_wf2))).x5, (HEL.out.below (below_step HEwe.out (below_step hb_wf1 hb_wf2))).x6⟩ (fun hHeld => ?_)
            clear hK K
            refine norm_ (a' := ?_) ?_ ?_
            rotate_left
            · show Act.put _ (some 8) _ = _
              simp only [Act.put, List.setIfInBounds_toArray, List.set_cons_zero, List.set_cons_succ, i64_w, i32_w]
              rfl
            exact norm_ (by simp only [putAll, Act.put, List.setIfInBounds_toArray, List.set_cons_zero, List.set_cons_succ]) (hCont ((Afwf1, cfwf1), (Atwf1, ctwf1), wf1.heap.size) _ ⟨kfwf1, Kd.C_below hfwf1 hb_wf2, ktwf1, Kd.C_below htwf1 hb_wf2, blk_below hbkwf2 (Below.refl _ _), (below_step hb_wf1 hb_wf2), PSZ_wf2⟩)
          · have hbkwf3 := blk_new we (.cells #[.int .i64 0, .slice none 0 0, .slice none 0 0, .bool false] 83)
            have hb_wf3 := below_alloc (Below.refl we.heap.size we) (.cells #[.int .i64 0, .slice none 0 0, .slice none 0 0, .bool false] 83)
            have PSZ_wf3 : we.heap.size ≤ we.heap.size := ((Below.refl we.heap.size we)).size
            refine value_ (v := .pointer (some ⟨we.heap.size, 0, none⟩)) (w1 := we.alloc (.cells #[.int .i64 0, .slice none 0 0, .slice none 0 0, .bool false] 83)) (by rfl) rfl (by go_simp) ?_
            generalize we.alloc (.cells #[.int .i64 0, .slice none 0 0, .slice none 0 0, .bool false] 83) = wf3 at hbkwf3 hb_wf3 ⊢
            refine hK.out _ _ ⟨(HJ.out.below (below_step HQwe.out hb_wf3)).cells.1, (HJ.out.below (below_step HQwe.out hb_wf3)).cells.2.1, (HJ.out.below (below_step HQwe.out hb_wf3)).cells.2.2.1, (HJ.out.below (below_step HQwe.out hb_wf3)).cells.2.2.2.1, (HJ.out.below (below_step HQwe.out hb_wf3)).cells.2.2.2.2.1, (HJ.out.below (below_step HQwe.out hb_wf3)).cells.2.2.2.2.2.1, (HJ.out.below (below_step HQwe.out hb_wf3)).cells.2.2.2.2.2.2, (HEL.out.below (below_step HEwe.out hb_wf3)).x0, (HEL.out.below (below_step HEwe.out hb_wf3)).x1, (HEL.out.below (below_step HEwe.out hb_wf3)).x2, (HEL.out.below (below_step HEwe.out hb_wf3)).x3, (HEL.out.below (below_step HEwe.out hb_wf3)).x4, (HEL.out.below (below_step HEwe.out hb_wf3)).x5, (HEL.out.below (below_step HEwe.out hb_wf3)).x6⟩ (fun hHeld => ?_)
            clear hK K
            refine norm_ (a' := ?_) ?_ ?_
            rotate_left
            · show Act.put _ (some 8) _ = _
              simp only [Act.put, List.setIfInBounds_toArray, List.set_cons_zero, List.set_cons_succ, i64_w, i32_w]
              rfl
            refine one_ (i := 5) (N := some 35) #[true, true, true, true, true, true, false, false, false, true, false, false] rfl rfl (by kernel_rfl) (by decide) (fun K hK => ?_)
            refine goes_ Try.func60 (by kernel_rfl) rfl #[.agg #[.int .i64 j.w, .int .i64 j.l, .int .i64 j.wi, .int .i64 j.c, .int .i64 j.d, .int .i64 j.e, .slice A j.ts.length n], .agg #[.int .i64 o.f0, .int .i64 o.f1, .int .i64 o.f2, .slice A3 o.f3.length c3, .slice A4 o.f4.length c4, .int .i64 o.f5, .slice A6 o.f6.length c6]] (by rfl) rfl rfl (by (try simp only [List.map_toArray, List.map_cons, List.map_nil]); first | done | rfl) ?_
            refine (CQ.out wf3 (HJ.out.below (below_step HQwe.out hb_wf3)).inn (HEL.out.below (below_step HEwe.out hb_wf3)).inn).mono ?_
            rintro e wf4 ⟨Afwf4, cfwf4, Atwf4, ctwf4, rfl, kfwf4, hfwf4, ktwf4, htwf4, hb_wf4⟩
            refine ⟨_, rfl, ?_⟩
            refine hK.out _ _ ⟨(HJ.out.below (below_step HQwe.out (below_step hb_wf3 hb_wf4))).cells.1, (HJ.out.below (below_step HQwe.out (below_step hb_wf3 hb_wf4))).cells.2.1, (HJ.out.below (below_step HQwe.out (below_step hb_wf3 hb_wf4))).cells.2.2.1, (HJ.out.below (below_step HQwe.out (below_step hb_wf3 hb_wf4))).cells.2.2.2.1, (HJ.out.below (below_step HQwe.out (below_step hb_wf3 hb_wf4))).cells.2.2.2.2.1, (HJ.out.below (below_step HQwe.out (below_step hb_wf3 hb_wf4))).cells.2.2.2.2.2.1, (HJ.out.below (below_step HQwe.out (below_step hb_wf3 hb_wf4))).cells.2.2.2.2.2.2, (HEL.out.below (below_step HEwe.out (below_step hb_wf3 hb_wf4))).x0, (HEL.out.below (below_step HEwe.out (below_step hb_wf3 hb_wf4))).x1, (HEL.out.below (below_step HEwe.out (below_step hb_wf3 hb_wf4))).x2, (HEL.out.below (below_step HEwe.out (below_step hb_wf3 hb_wf4))).x3, (HEL.out.below (below_step HEwe.out (below_step hb_wf3 hb_wf4))).x4, (HEL.out.below (below_step HEwe.out (below_step hb_wf3 hb_wf4))).x5, (HEL.out.below (below_step HEwe.out (below_step hb_wf3 hb_wf4))).x6⟩ (fun hHeld => ?_)
            clear hK K
            refine norm_ (a' := ?_) ?_ ?_
            rotate_left
            · show Act.put _ (some 35) _ = _
              simp only [Act.put, List.setIfInBounds_toArray, List.set_cons_zero, List.set_cons_succ, i64_w, i32_w]
              rfl
            refine pure_ (i := 6) (N := some 29) (v := ?_) (a' := ?_) #[true, true, true, true, true, true, true, false, false, true, false, false] rfl rfl (by kernel_rfl) (fun _ _ _ h => h) (Or.inl ⟨by rfl, ?_⟩) ?_ ?_
            rotate_left
            · intro w'
              go_simp
              with_reducible rfl
            rotate_left
            · simp only [Act.put, List.setIfInBounds_toArray, List.set_cons_zero, List.set_cons_succ, i64_w, i32_w]
              rfl
            refine pure_ (i := 7) (N := some 36) (v := ?_) (a' := ?_) #[true, true, true, true, true, true, true, true, false, true, false, false] rfl rfl (by kernel_rfl) (fun _ _ _ h => h) (Or.inl ⟨by rfl, ?_⟩) ?_ ?_
            rotate_left
            · intro w'
              go_simp
              with_reducible rfl
            rotate_left
            · simp only [Act.put, List.setIfInBounds_toArray, List.set_cons_zero, List.set_cons_succ, i64_w, i32_w]
              rfl
            refine pure_ (i := 8) (N := some 37) (v := ?_) (a' := ?_) #[true, true, true, true, true, true, true, true, true, true, false, false] rfl rfl (by kernel_rfl) (fun _ _ _ h => h) (Or.inl ⟨by rfl, ?_⟩) ?_ ?_
            rotate_left
            · intro w'
              go_simp
              with_reducible rfl
            rotate_left
            · simp only [Act.put, List.setIfInBounds_toArray, List.set_cons_zero, List.set_cons_succ, i64_w, i32_w]
              rfl
            exact norm_ (by simp only [putAll, Act.put, List.setIfInBounds_toArray, List.set_cons_zero, List.set_cons_succ]) (hCont ((Afwf4, cfwf4), (Atwf4, ctwf4), we.heap.size) _ ⟨kfwf4, Kd.C_below hfwf4 (Below.refl _ _), ktwf4, Kd.C_below htwf4 (Below.refl _ _), blk_below hbkwf3 hb_wf4, (below_step hb_wf3 hb_wf4), PSZ_wf3⟩)
        rintro ⟨⟨AFwe, CFwe⟩, ⟨ATwe, CTwe⟩, Pwe⟩ web ⟨kf, hf, kt, ht, hbk, hbb, hle⟩
        dsimp only at kf hf kt ht hbk hle
        refine norm_ (a' := ?_) ?_ ?_
        rotate_left
        · simp only [putAll, Act.put, List.setIfInBounds_toArray, List.set_cons_zero, List.set_cons_succ]
          rfl
        have hHeld : web.cell? ⟨P0, 0, none⟩ = some (.int .i64 j.w) ∧ web.cell? ⟨P0, 1, none⟩ = some (.int .i64 j.l) ∧ web.cell? ⟨P0, 2, none⟩ = some (.int .i64 j.wi) ∧ web.cell? ⟨P0, 3, none⟩ = some (.int .i64 j.c) ∧ web.cell? ⟨P0, 4, none⟩ = some (.int .i64 j.d) ∧ web.cell? ⟨P0, 5, none⟩ = some (.int .i64 j.e) ∧ web.cell? ⟨P0, 6, none⟩ = some (.slice A j.ts.length n) ∧ web.cell? p = some (.int .i64 o.f0) ∧ web.cell? ⟨p.block, p.off + 1, none⟩ = some (.int .i64 o.f1) ∧ web.cell? ⟨p.block, p.off + 2, none⟩ = some (.int .i64 o.f2) ∧ web.cell? ⟨p.block, p.off + 3, none⟩ = some (.slice A3 o.f3.length c3) ∧ web.cell? ⟨p.block, p.off + 4, none⟩ = some (.slice A4 o.f4.length c4) ∧ web.cell? ⟨p.block, p.off + 5, none⟩ = some (.int .i64 o.f5) ∧ web.cell? ⟨p.block, p.off + 6, none⟩ = some (.slice A6 o.f6.length c6) := ⟨(HJ.out.below (below_step HQwe.out hbb)).cells.1, (HJ.out.below (below_step HQwe.out hbb)).cells.2.1, (HJ.out.below (below_step HQwe.out hbb)).cells.2.2.1, (HJ.out.below (below_step HQwe.out hbb)).cells.2.2.2.1, (HJ.out.below (below_step HQwe.out hbb)).cells.2.2.2.2.1, (HJ.out.below (below_step HQwe.out hbb)).cells.2.2.2.2.2.1, (HJ.out.below (below_step HQwe.out hbb)).cells.2.2.2.2.2.2, (HEL.out.below (below_step HEwe.out hbb)).x0, (HEL.out.below (below_step HEwe.out hbb)).x1, (HEL.out.below (below_step HEwe.out hbb)).x2, (HEL.out.below (below_step HEwe.out hbb)).x3, (HEL.out.below (below_step HEwe.out hbb)).x4, (HEL.out.below (below_step HEwe.out hbb)).x5, (HEL.out.below (below_step HEwe.out hbb)).x6⟩
        refine one_ (i := 10) (N := none) #[true, true, true, true, true, true, true, true, true, true, true, false] rfl rfl (by kernel_rfl) (by decide) (fun K hK => ?_)
        refine skip_ (w1 := web.setRow Pwe #[.int .i64 R.1, .slice AFwe R.2.1.length CFwe, .slice ATwe R.2.2.1.length CTwe, .bool R.2.2.2.1]) (by rfl) rfl (store_run 83 (.tmp 8) (.tmp 36) rfl Pwe _ rfl rfl 83 _ hbk (by kernel_rfl) rfl (by simp [Value.oneCell'])) ?_
        have hbz := below_setRow hbb hle #[.int .i64 R.1, .slice AFwe R.2.1.length CFwe, .slice ATwe R.2.2.1.length CTwe, .bool R.2.2.2.1]
        refine hK.out _ _ ⟨(HJ.out.below (below_step HQwe.out hbz)).cells.1, (HJ.out.below (below_step HQwe.out hbz)).cells.2.1, (HJ.out.below (below_step HQwe.out hbz)).cells.2.2.1, (HJ.out.below (below_step HQwe.out hbz)).cells.2.2.2.1, (HJ.out.below (below_step HQwe.out hbz)).cells.2.2.2.2.1, (HJ.out.below (below_step HQwe.out hbz)).cells.2.2.2.2.2.1, (HJ.out.below (below_step HQwe.out hbz)).cells.2.2.2.2.2.2, (HEL.out.below (below_step HEwe.out hbz)).x0, (HEL.out.below (below_step HEwe.out hbz)).x1, (HEL.out.below (below_step HEwe.out hbz)).x2, (HEL.out.below (below_step HEwe.out hbz)).x3, (HEL.out.below (below_step HEwe.out hbz)).x4, (HEL.out.below (below_step HEwe.out hbz)).x5, (HEL.out.below (below_step HEwe.out hbz)).x6⟩ (fun hHeld6 => ?_)
        clear hK K
        refine pure_ (i := 11) (N := some 9) (v := ?_) (a' := ?_) #[true, true, true, true, true, true, true, true, true, true, true, true] rfl rfl (by kernel_rfl) (fun _ _ _ h => h) (Or.inl ⟨by rfl, ?_⟩) ?_ ?_
        rotate_left
        · intro w'
          go_simp
          with_reducible rfl
        rotate_left
        · simp only [Act.put, List.setIfInBounds_toArray, List.set_cons_zero, List.set_cons_succ, i64_w, i32_w]
          rfl
        refine done_ (by kernel_rfl) ?_
        simp only [Exit.then]
        have hbz := below_setRow hbb hle #[.int .i64 R.1, .slice AFwe R.2.1.length CFwe, .slice ATwe R.2.2.1.length CTwe, .bool R.2.2.2.1]
        have TY : ∀ q, q ∈ 5 :: (Kd.int .u8).E → q ≠ 83 := by intro q_ hq_; rcases List.mem_cons.1 hq_ with rfl | hq_; (· decide); cases hq_
        have RGwe := Aside0.mk (RgAt.mk (setRow_heap web Pwe _ #[.int .i64 R.1, .slice AFwe R.2.1.length CFwe, .slice ATwe R.2.2.1.length CTwe, .bool R.2.2.2.1] 83 (0, 0) hbk) (C_setRow hf hbk #[.int .i64 R.1, .slice AFwe R.2.1.length CFwe, .slice ATwe R.2.2.1.length CTwe, .bool R.2.2.2.1] (C_ne83 hf hbk)) (C_setRow ht hbk #[.int .i64 R.1, .slice AFwe R.2.1.length CFwe, .slice ATwe R.2.2.1.length CTwe, .bool R.2.2.2.1] (C_ne83 ht hbk)))
        have HZwe := Aside0.mk hbz
        clear kf hf kt ht hbk hbb hle hbz TY hHeld hHeld6
        generalize web.setRow Pwe _ = wec at RGwe HZwe ⊢
        have RGa := Aside0.mk (RGe.out.below HZwe.out)
        go_upto_region 6 with fail
        have HQf := Aside0.mk (below_drew1 (below_step HQwe.out HZwe.out))
        have HEf := Aside0.mk (below_drew1 (below_step HEwe.out HZwe.out))
        have RAf := Aside0.mk (RGa.out.below (below_drew (Below.refl wec.heap.size wec)))
        have RBf := Aside0.mk (RGwe.out.below (below_drew (Below.refl wec.heap.size wec)))
        refine start_ (n := 51) (S := fun w' => w'.cell? ⟨P0, 0, none⟩ = some (.int .i64 j.w) ∧ w'.cell? ⟨P0, 1, none⟩ = some (.int .i64 j.l) ∧ w'.cell? ⟨P0, 2, none⟩ = some (.int .i64 j.wi) ∧ w'.cell? ⟨P0, 3, none⟩ = some (.int .i64 j.c) ∧ w'.cell? ⟨P0, 4, none⟩ = some (.int .i64 j.d) ∧ w'.cell? ⟨P0, 5, none⟩ = some (.int .i64 j.e) ∧ w'.cell? ⟨P0, 6, none⟩ = some (.slice A j.ts.length n) ∧ w'.cell? p = some (.int .i64 o.f0) ∧ w'.cell? ⟨p.block, p.off + 1, none⟩ = some (.int .i64 o.f1) ∧ w'.cell? ⟨p.block, p.off + 2, none⟩ = some (.int .i64 o.f2) ∧ w'.cell? ⟨p.block, p.off + 3, none⟩ = some (.slice A3 o.f3.length c3) ∧ w'.cell? ⟨p.block, p.off + 4, none⟩ = some (.slice A4 o.f4.length c4) ∧ w'.cell? ⟨p.block, p.off + 5, none⟩ = some (.int .i64 o.f5) ∧ w'.cell? ⟨p.block, p.off + 6, none⟩ = some (.slice A6 o.f6.length c6) ∧ w'.cell? ⟨Pwd, 0, none⟩ = some (.int .i64 R.1) ∧ w'.cell? ⟨Pwd, 1, none⟩ = some (.slice AFwd R.2.1.length CFwd) ∧ w'.cell? ⟨Pwd, 2, none⟩ = some (.slice ATwd R.2.2.1.length CTwd) ∧ w'.cell? ⟨Pwd, 3, none⟩ = some (.bool R.2.2.2.1) ∧ (Sem.run Try.prog (Go.convert 42 9 (.slice AFwd R.2.1.length CFwd)) w' = .ok (.string (strOfNums R.2.1)) w') ∧ (Sem.run Try.prog (Go.convert 42 9 (.slice ATwd R.2.2.1.length CTwd)) w' = .ok (.string (strOfNums R.2.2.1)) w') ∧ w'.cell? ⟨Pwe, 0, none⟩ = some (.int .i64 R.1) ∧ w'.cell? ⟨Pwe, 1, none⟩ = some (.slice AFwe R.2.1.length CFwe) ∧ w'.cell? ⟨Pwe, 2, none⟩ = some (.slice ATwe R.2.2.1.length CTwe) ∧ w'.cell? ⟨Pwe, 3, none⟩ = some (.bool R.2.2.2.1) ∧ (Sem.run Try.prog (Go.convert 42 9 (.slice AFwe R.2.1.length CFwe)) w' = .ok (.string (strOfNums R.2.1)) w') ∧ (Sem.run Try.prog (Go.convert 42 9 (.slice ATwe R.2.2.1.length CTwe)) w' = .ok (.string (strOfNums R.2.2.1)) w')) (ds := []) #[false, false, false, false, false, false, false, false, false, false, false, false, false, false, false, false, false, false, false, false, false, false, false, false, false, false, false, false, false, false, false, false, false, false, false, false, false, false, false, false, false, false, false, false, false, false, false, false, false, false, false] (by kernel_rfl) rfl rfl ⟨(HJ.out.below HQf.out).cells.1, (HJ.out.below HQf.out).cells.2.1, (HJ.out.below HQf.out).cells.2.2.1, (HJ.out.below HQf.out).cells.2.2.2.1, (HJ.out.below HQf.out).cells.2.2.2.2.1, (HJ.out.below HQf.out).cells.2.2.2.2.2.1, (HJ.out.below HQf.out).cells.2.2.2.2.2.2, (HEL.out.below HEf.out).x0, (HEL.out.below HEf.out).x1, (HEL.out.below HEf.out).x2, (HEL.out.below HEf.out).x3, (HEL.out.below HEf.out).x4, (HEL.out.below HEf.out).x5, (HEL.out.below HEf.out).x6, (RAf.out).facts.1, (RAf.out).facts.2.1, (RAf.out).facts.2.2.1, (RAf.out).facts.2.2.2.1, (RAf.out).facts.2.2.2.2.1, (RAf.out).facts.2.2.2.2.2, (RBf.out).facts.1, (RBf.out).facts.2.1, (RBf.out).facts.2.2.1, (RBf.out).facts.2.2.2.1, (RBf.out).facts.2.2.2.2.1, (RBf.out).facts.2.2.2.2.2⟩ (fun hHeld => ?_)
        generalize wec.drew = wf at hHeld HQf HEf RAf RBf ⊢
        refine take_ (i := 0) (N := some 38) (v := ?_) (a' := ?_) #[true, false, false, false, false, false, false, false, false, false, false, false, false, false, false, false, false, false, false, false, false, false, false, false, false, false, false, false, false, false, false, false, false, false, false, false, false, false, false, false, false, false, false, false, false, false, false, false, false, false, false] rfl rfl (by kernel_rfl) (fun _ _ _ h => h) (Or.inl ⟨by rfl, ?_⟩) hHeld ?_ ?_
        rotate_left
        · rintro w' ⟨s0, s1, s2, s3, s4, s5, s6, s7, s8, s9, s10, s11, s12, s13, s14, s15, s16, s17, s18, s19, s20, s21, s22, s23, s24, s25⟩
          go_simp
          with_reducible rfl
        rotate_left
        · simp only [Act.put, List.setIfInBounds_toArray, List.set_cons_zero, List.set_cons_succ, i64_w, i32_w]
          rfl
        refine pure_ (i := 1) (N := some 39) (v := ?_) (a' := ?_) #[true, true, false, false, false, false, false, false, false, false, false, false, false, false, false, false, false, false, false, false, false, false, false, false, false, false, false, false, false, false, false, false, false, false, false, false, false, false, false, false, false, false, false, false, false, false, false, false, false, false, false] rfl rfl (by kernel_rfl) (fun _ _ _ h => h) (Or.inl ⟨by rfl, ?_⟩) ?_ ?_
        rotate_left
        · intro w'
          go_simp
          with_reducible rfl
        rotate_left
        · simp only [Act.put, List.setIfInBounds_toArray, List.set_cons_zero, List.set_cons_succ, i64_w, i32_w]
          rfl
        refine pure_ (i := 2) (N := some 40) (v := ?_) (a' := ?_) #[true, true, true, false, false, false, false, false, false, false, false, false, false, false, false, false, false, false, false, false, false, false, false, false, false, false, false, false, false, false, false, false, false, false, false, false, false, false, false, false, false, false, false, false, false, false, false, false, false, false, false] rfl rfl (by kernel_rfl) (fun _ _ _ h => h) (Or.inl ⟨by rfl, ?_⟩) ?_ ?_
        rotate_left
        · intro w'
          go_simp
          with_reducible rfl
        rotate_left
        · simp only [Act.put, List.setIfInBounds_toArray, List.set_cons_zero, List.set_cons_succ, i64_w, i32_w]
          rfl
        refine pure_ (i := 3) (N := some 41) (v := ?_) (a' := ?_) #[true, true, true, true, false, false, false, false, false, false, false, false, false, false, false, false, false, false, false, false, false, false, false, false, false, false, false, false, false, false, false, false, false, false, false, false, false, false, false, false, false, false, false, false, false, false, false, false, false, false, false] rfl rfl (by kernel_rfl) (fun _ _ _ h => h) (Or.inl ⟨by rfl, ?_⟩) ?_ ?_
        rotate_left
        · intro w'
          go_simp
          with_reducible rfl
        rotate_left
        · simp only [Act.put, List.setIfInBounds_toArray, List.set_cons_zero, List.set_cons_succ, i64_w, i32_w]
          rfl
        refine take_ (i := 4) (N := some 42) (v := ?_) (a' := ?_) #[true, true, true, true, true, false, false, false, false, false, false, false, false, false, false, false, false, false, false, false, false, false, false, false, false, false, false, false, false, false, false, false, false, false, false, false, false, false, false, false, false, false, false, false, false, false, false, false, false, false, false] rfl rfl (by kernel_rfl) (fun _ _ _ h => h) (Or.inl ⟨by rfl, ?_⟩) hHeld ?_ ?_
        rotate_left
        · rintro w' ⟨s0, s1, s2, s3, s4, s5, s6, s7, s8, s9, s10, s11, s12, s13, s14, s15, s16, s17, s18, s19, s20, s21, s22, s23, s24, s25⟩
          go_simp
          with_reducible rfl
        rotate_left
        · simp only [Act.put, List.setIfInBounds_toArray, List.set_cons_zero, List.set_cons_succ, i64_w, i32_w]
          rfl
        refine take_ (i := 6) (N := some 44) (v := ?_) (a' := ?_) #[true, true, true, true, true, false, true, false, false, false, false, false, false, false, false, false, false, false, false, false, false, false, false, false, false, false, false, false, false, false, false, false, false, false, false, false, false, false, false, false, false, false, false, false, false, false, false, false, false, false, false] rfl rfl (by kernel_rfl) (fun _ _ _ h => h) (Or.inl ⟨by rfl, ?_⟩) hHeld ?_ ?_
        rotate_left
        · rintro w' ⟨s0, s1, s2, s3, s4, s5, s6, s7, s8, s9, s10, s11, s12, s13, s14, s15, s16, s17, s18, s19, s20, s21, s22, s23, s24, s25⟩
          go_simp
          with_reducible rfl
        rotate_left
        · simp only [Act.put, List.setIfInBounds_toArray, List.set_cons_zero, List.set_cons_succ, i64_w, i32_w]
          rfl
        refine pure_ (i := 7) (N := some 45) (v := ?_) (a' := ?_) #[true, true, true, true, true, false, true, true, false, false, false, false, false, false, false, false, false, false, false, false, false, false, false, false, false, false, false, false, false, false, false, false, false, false, false, false, false, false, false, false, false, false, false, false, false, false, false, false, false, false, false] rfl rfl (by kernel_rfl) (fun _ _ _ h => h) (Or.inl ⟨by rfl, ?_⟩) ?_ ?_
        rotate_left
        · intro w'
          go_simp
          with_reducible rfl
        rotate_left
        · simp only [Act.put, List.setIfInBounds_toArray, List.set_cons_zero, List.set_cons_succ, i64_w, i32_w]
          rfl
        refine pure_ (i := 8) (N := some 46) (v := ?_) (a' := ?_) #[true, true, true, true, true, false, true, true, true, false, false, false, false, false, false, false, false, false, false, false, false, false, false, false, false, false, false, false, false, false, false, false, false, false, false, false, false, false, false, false, false, false, false, false, false, false, false, false, false, false, false] rfl rfl (by kernel_rfl) (fun _ _ _ h => h) (Or.inl ⟨by rfl, ?_⟩) ?_ ?_
        rotate_left
        · intro w'
          go_simp
          with_reducible rfl
        rotate_left
        · simp only [Act.put, List.setIfInBounds_toArray, List.set_cons_zero, List.set_cons_succ, i64_w, i32_w]
          rfl
        refine pure_ (i := 9) (N := some 47) (v := ?_) (a' := ?_) #[true, true, true, true, true, false, true, true, true, true, false, false, false, false, false, false, false, false, false, false, false, false, false, false, false, false, false, false, false, false, false, false, false, false, false, false, false, false, false, false, false, false, false, false, false, false, false, false, false, false, false] rfl rfl (by kernel_rfl) (fun _ _ _ h => h) (Or.inl ⟨by rfl, ?_⟩) ?_ ?_
        rotate_left
        · intro w'
          go_simp
          with_reducible rfl
        rotate_left
        · simp only [Act.put, List.setIfInBounds_toArray, List.set_cons_zero, List.set_cons_succ, i64_w, i32_w]
          rfl
        refine take_ (i := 10) (N := some 48) (v := ?_) (a' := ?_) #[true, true, true, true, true, false, true, true, true, true, true, false, false, false, false, false, false, false, false, false, false, false, false, false, false, false, false, false, false, false, false, false, false, false, false, false, false, false, false, false, false, false, false, false, false, false, false, false, false, false, false] rfl rfl (by kernel_rfl) (fun _ _ _ h => h) (Or.inl ⟨by rfl, ?_⟩) hHeld ?_ ?_
        rotate_left
        · rintro w' ⟨s0, s1, s2, s3, s4, s5, s6, s7, s8, s9, s10, s11, s12, s13, s14, s15, s16, s17, s18, s19, s20, s21, s22, s23, s24, s25⟩
          go_simp
          with_reducible rfl
        rotate_left
        · simp only [Act.put, List.setIfInBounds_toArray, List.set_cons_zero, List.set_cons_succ, i64_w, i32_w]
          rfl
        refine one_ (i := 5) (N := some 43) #[true, true, true, true, true, true, true, true, true, true, true, false, false, false, false, false, false, false, false, false, false, false, false, false, false, false, false, false, false, false, false, false, false, false, false, false, false, false, false, false, false, false, false, false, false, false, false, false, false, false, false] rfl rfl (by kernel_rfl) (by decide) (fun K hK => ?_)
        refine goes_ Try.func35 (by kernel_rfl) rfl #[.agg #[.int .i64 j.w, .int .i64 j.l, .int .i64 j.wi, .int .i64 j.c, .int .i64 j.d, .int .i64 j.e, .slice A j.ts.length n], .agg #[.int .i64 o.f0, .int .i64 o.f1, .int .i64 o.f2, .slice A3 o.f3.length c3, .slice A4 o.f4.length c4, .int .i64 o.f5, .slice A6 o.f6.length c6]] (by rfl) rfl rfl (by (try simp only [List.map_toArray, List.map_cons, List.map_nil]); first | done | rfl) ?_
        with_reducible refine (CM.out _ (HJ.out.below HQf.out).inn (HEL.out.below HEf.out).inn).mono ?_
        rintro e wg ⟨rfl, hb_⟩
        refine ⟨_, rfl, ?_⟩
        have HQg := Aside0.mk (below_step HQf.out hb_)
        have HEg := Aside0.mk (below_step HEf.out hb_)
        have RAg := Aside0.mk (RAf.out.below hb_)
        have RBg := Aside0.mk (RBf.out.below hb_)
        refine hK.out _ _ ⟨(HJ.out.below HQg.out).cells.1, (HJ.out.below HQg.out).cells.2.1, (HJ.out.below HQg.out).cells.2.2.1, (HJ.out.below HQg.out).cells.2.2.2.1, (HJ.out.below HQg.out).cells.2.2.2.2.1, (HJ.out.below HQg.out).cells.2.2.2.2.2.1, (HJ.out.below HQg.out).cells.2.2.2.2.2.2, (HEL.out.below HEg.out).x0, (HEL.out.below HEg.out).x1, (HEL.out.below HEg.out).x2, (HEL.out.below HEg.out).x3, (HEL.out.below HEg.out).x4, (HEL.out.below HEg.out).x5, (HEL.out.below HEg.out).x6, (RAg.out).facts.1, (RAg.out).facts.2.1, (RAg.out).facts.2.2.1, (RAg.out).facts.2.2.2.1, (RAg.out).facts.2.2.2.2.1, (RAg.out).facts.2.2.2.2.2, (RBg.out).facts.1, (RBg.out).facts.2.1, (RBg.out).facts.2.2.1, (RBg.out).facts.2.2.2.1, (RBg.out).facts.2.2.2.2.1, (RBg.out).facts.2.2.2.2.2⟩ (fun hHeld => ?_)
        clear hK K
        refine norm_ (a' := ?_) ?_ ?_
        rotate_left
        · show Act.put _ (some 43) _ = _
          simp only [Act.put, List.setIfInBounds_toArray, List.set_cons_zero, List.set_cons_succ, i64_w, i32_w]
          rfl
        refine one_ (i := 11) (N := some 49) #[true, true, true, true, true, true, true, true, true, true, true, true, false, false, false, false, false, false, false, false, false, false, false, false, false, false, false, false, false, false, false, false, false, false, false, false, false, false, false, false, false, false, false, false, false, false, false, false, false, false, false] rfl rfl (by kernel_rfl) (by decide) (fun K hK => ?_)
        refine goes_ Try.func59 (by kernel_rfl) rfl #[.agg #[.int .i64 j.w, .int .i64 j.l, .int .i64 j.wi, .int .i64 j.c, .int .i64 j.d, .int .i64 j.e, .slice A j.ts.length n], .agg #[.int .i64 o.f0, .int .i64 o.f1, .int .i64 o.f2, .slice A3 o.f3.length c3, .slice A4 o.f4.length c4, .int .i64 o.f5, .slice A6 o.f6.length c6]] (by rfl) rfl rfl (by (try simp only [List.map_toArray, List.map_cons, List.map_nil]); first | done | rfl) ?_
        with_reducible refine (CN.out _ (HJ.out.below HQg.out).inn (HEL.out.below HEg.out).inn).mono ?_
        rintro e wh ⟨rfl, hb_⟩
        refine ⟨_, rfl, ?_⟩
        have HQh := Aside0.mk (below_step HQg.out hb_)
        have HEh := Aside0.mk (below_step HEg.out hb_)
        have RAh := Aside0.mk (RAg.out.below hb_)
        have RBh := Aside0.mk (RBg.out.below hb_)
        refine hK.out _ _ ⟨(HJ.out.below HQh.out).cells.1, (HJ.out.below HQh.out).cells.2.1, (HJ.out.below HQh.out).cells.2.2.1, (HJ.out.below HQh.out).cells.2.2.2.1, (HJ.out.below HQh.out).cells.2.2.2.2.1, (HJ.out.below HQh.out).cells.2.2.2.2.2.1, (HJ.out.below HQh.out).cells.2.2.2.2.2.2, (HEL.out.below HEh.out).x0, (HEL.out.below HEh.out).x1, (HEL.out.below HEh.out).x2, (HEL.out.below HEh.out).x3, (HEL.out.below HEh.out).x4, (HEL.out.below HEh.out).x5, (HEL.out.below HEh.out).x6, (RAh.out).facts.1, (RAh.out).facts.2.1, (RAh.out).facts.2.2.1, (RAh.out).facts.2.2.2.1, (RAh.out).facts.2.2.2.2.1, (RAh.out).facts.2.2.2.2.2, (RBh.out).facts.1, (RBh.out).facts.2.1, (RBh.out).facts.2.2.1, (RBh.out).facts.2.2.2.1, (RBh.out).facts.2.2.2.2.1, (RBh.out).facts.2.2.2.2.2⟩ (fun hHeld => ?_)
        clear hK K
        refine norm_ (a' := ?_) ?_ ?_
        rotate_left
        · show Act.put _ (some 49) _ = _
          simp only [Act.put, List.setIfInBounds_toArray, List.set_cons_zero, List.set_cons_succ, i64_w, i32_w]
          rfl
        refine pure_ (i := 12) (N := some 50) (v := ?_) (a' := ?_) #[true, true, true, true, true, true, true, true, true, true, true, true, true, false, false, false, false, false, false, false, false, false, false, false, false, false, false, false, false, false, false, false, false, false, false, false, false, false, false, false, false, false, false, false, false, false, false, false, false, false, false] rfl rfl (by kernel_rfl) (fun _ _ _ h => h) (Or.inl ⟨by rfl, ?_⟩) ?_ ?_
        rotate_left
        · intro w'
          go_simp
          with_reducible rfl
        rotate_left
        · simp only [Act.put, List.setIfInBounds_toArray, List.set_cons_zero, List.set_cons_succ, i64_w, i32_w]
          rfl
        refine pure_ (i := 13) (N := some 51) (v := ?_) (a' := ?_) #[true, true, true, true, true, true, true, true, true, true, true, true, true, true, false, false, false, false, false, false, false, false, false, false, false, false, false, false, false, false, false, false, false, false, false, false, false, false, false, false, false, false, false, false, false, false, false, false, false, false, false] rfl rfl (by kernel_rfl) (fun _ _ _ h => h) (Or.inl ⟨by rfl, ?_⟩) ?_ ?_
        rotate_left
        · intro w'
          go_simp
          with_reducible rfl
        rotate_left
        · simp only [Act.put, List.setIfInBounds_toArray, List.set_cons_zero, List.set_cons_succ, i64_w, i32_w]
          rfl
        refine pure_ (i := 14) (N := some 52) (v := ?_) (a' := ?_) #[true, true, true, true, true, true, true, true, true, true, true, true, true, true, true, false, false, false, false, false, false, false, false, false, false, false, false, false, false, false, false, false, false, false, false, false, false, false, false, false, false, false, false, false, false, false, false, false, false, false, false] rfl rfl (by kernel_rfl) (fun _ _ _ h => h) (Or.inl ⟨by rfl, ?_⟩) ?_ ?_
        rotate_left
        · intro w'
          go_simp
          with_reducible rfl
        rotate_left
        · simp only [Act.put, List.setIfInBounds_toArray, List.set_cons_zero, List.set_cons_succ, i64_w, i32_w]
          rfl
        refine pure_ (i := 16) (N := some 54) (v := ?_) (a' := ?_) #[true, true, true, true, true, true, true, true, true, true, true, true, true, true, true, false, true, false, false, false, false, false, false, false, false, false, false, false, false, false, false, false, false, false, false, false, false, false, false, false, false, false, false, false, false, false, false, false, false, false, false] rfl rfl (by kernel_rfl) (fun _ _ _ h => h) (Or.inl ⟨by rfl, ?_⟩) ?_ ?_
        rotate_left
        · intro w'
          go_simp
          with_reducible rfl
        rotate_left
        · simp only [Act.put, List.setIfInBounds_toArray, List.set_cons_zero, List.set_cons_succ, i64_w, i32_w]
          rfl
        refine one_ (i := 15) (N := some 53) #[true, true, true, true, true, true, true, true, true, true, true, true, true, true, true, true, true, false, false, false, false, false, false, false, false, false, false, false, false, false, false, false, false, false, false, false, false, false, false, false, false, false, false, false, false, false, false, false, false, false, false] rfl rfl (by kernel_rfl) (by decide) (fun K hK => ?_)
        refine goes_ Try.func10 (by kernel_rfl) rfl #[.int .i64 R.2.2.2.2] (by rfl) rfl rfl (by (try simp only [List.map_toArray, List.map_cons, List.map_nil]); first | done | rfl) ?_
        with_reducible refine (num_call _ _).mono ?_
        rintro e wi ⟨rfl, hd⟩
        refine ⟨_, rfl, ?_⟩
        have HQi := Aside0.mk (below_step HQh.out (drawn_below hd))
        have HEi := Aside0.mk (below_step HEh.out (drawn_below hd))
        have RAi := Aside0.mk (RAh.out.below (drawn_below hd))
        have RBi := Aside0.mk (RBh.out.below (drawn_below hd))
        refine hK.out _ _ ⟨(HJ.out.below HQi.out).cells.1, (HJ.out.below HQi.out).cells.2.1, (HJ.out.below HQi.out).cells.2.2.1, (HJ.out.below HQi.out).cells.2.2.2.1, (HJ.out.below HQi.out).cells.2.2.2.2.1, (HJ.out.below HQi.out).cells.2.2.2.2.2.1, (HJ.out.below HQi.out).cells.2.2.2.2.2.2, (HEL.out.below HEi.out).x0, (HEL.out.below HEi.out).x1, (HEL.out.below HEi.out).x2, (HEL.out.below HEi.out).x3, (HEL.out.below HEi.out).x4, (HEL.out.below HEi.out).x5, (HEL.out.below HEi.out).x6, (RAi.out).facts.1, (RAi.out).facts.2.1, (RAi.out).facts.2.2.1, (RAi.out).facts.2.2.2.1, (RAi.out).facts.2.2.2.2.1, (RAi.out).facts.2.2.2.2.2, (RBi.out).facts.1, (RBi.out).facts.2.1, (RBi.out).facts.2.2.1, (RBi.out).facts.2.2.2.1, (RBi.out).facts.2.2.2.2.1, (RBi.out).facts.2.2.2.2.2⟩ (fun hHeld => ?_)
        clear hK K
        refine norm_ (a' := ?_) ?_ ?_
        rotate_left
        · show Act.put _ (some 53) _ = _
          simp only [Act.put, List.setIfInBounds_toArray, List.set_cons_zero, List.set_cons_succ, i64_w, i32_w]
          rfl
        refine pure_ (i := 17) (N := some 55) (v := ?_) (a' := ?_) #[true, true, true, true, true, true, true, true, true, true, true, true, true, true, true, true, true, true, false, false, false, false, false, false, false, false, false, false, false, false, false, false, false, false, false, false, false, false, false, false, false, false, false, false, false, false, false, false, false, false, false] rfl rfl (by kernel_rfl) (fun _ _ _ h => h) (Or.inl ⟨by rfl, ?_⟩) ?_ ?_
        rotate_left
        · intro w'
          go_simp
          with_reducible rfl
        rotate_left
        · simp only [Act.put, List.setIfInBounds_toArray, List.set_cons_zero, List.set_cons_succ, i64_w, i32_w]
          rfl
        refine pure_ (i := 18) (N := some 56) (v := ?_) (a' := ?_) #[true, true, true, true, true, true, true, true, true, true, true, true, true, true, true, true, true, true, true, false, false, false, false, false, false, false, false, false, false, false, false, false, false, false, false, false, false, false, false, false, false, false, false, false, false, false, false, false, false, false, false] rfl rfl (by kernel_rfl) (fun _ _ _ h => h) (Or.inl ⟨by rfl, ?_⟩) ?_ ?_
        rotate_left
        · intro w'
          go_simp
          with_reducible rfl
        rotate_left
        · simp only [Act.put, List.setIfInBounds_toArray, List.set_cons_zero, List.set_cons_succ, i64_w, i32_w]
          rfl
        refine pure_ (i := 19) (N := some 57) (v := ?_) (a' := ?_) #[true, true, true, true, true, true, true, true, true, true, true, true, true, true, true, true, true, true, true, true, false, false, false, false, false, false, false, false, false, false, false, false, false, false, false, false, false, false, false, false, false, false, false, false, false, false, false, false, false, false, false] rfl rfl (by kernel_rfl) (fun _ _ _ h => h) (Or.inl ⟨by rfl, ?_⟩) ?_ ?_
        rotate_left
        · intro w'
          go_simp
          with_reducible rfl
        rotate_left
        · simp only [Act.put, List.setIfInBounds_toArray, List.set_cons_zero, List.set_cons_succ, i64_w, i32_w]
          rfl
        refine pure_ (i := 20) (N := some 58) (v := ?_) (a' := ?_) #[true, true, true, true, true, true, true, true, true, true, true, true, true, true, true, true, true, true, true, true, true, false, false, false, false, false, false, false, false, false, false, false, false, false, false, false, false, false, false, false, false, false, false, false, false, false, false, false, false, false, false] rfl rfl (by kernel_rfl) (fun _ _ _ h => h) (Or.inl ⟨by rfl, ?_⟩) ?_ ?_
        rotate_left
        · intro w'
          go_simp
          with_reducible rfl
        rotate_left
        · simp only [Act.put, List.setIfInBounds_toArray, List.set_cons_zero, List.set_cons_succ, i64_w, i32_w]
          rfl
        refine take_ (i := 21) (N := some 59) (v := ?_) (a' := ?_) #[true, true, true, true, true, true, true, true, true, true, true, true, true, true, true, true, true, true, true, true, true, true, false, false, false, false, false, false, false, false, false, false, false, false, false, false, false, false, false, false, false, false, false, false, false, false, false, false, false, false, false] rfl rfl (by kernel_rfl) (fun _ _ _ h => h) (Or.inl ⟨by rfl, ?_⟩) hHeld ?_ ?_
        rotate_left
        · rintro w' ⟨s0, s1, s2, s3, s4, s5, s6, s7, s8, s9, s10, s11, s12, s13, s14, s15, s16, s17, s18, s19, s20, s21, s22, s23, s24, s25⟩
          go_simp
          with_reducible rfl
        rotate_left
        · simp only [Act.put, List.setIfInBounds_toArray, List.set_cons_zero, List.set_cons_succ, i64_w, i32_w]
          rfl
        refine pure_ (i := 22) (N := some 60) (v := ?_) (a' := ?_) #[true, true, true, true, true, true, true, true, true, true, true, true, true, true, true, true, true, true, true, true, true, true, true, false, false, false, false, false, false, false, false, false, false, false, false, false, false, false, false, false, false, false, false, false, false, false, false, false, false, false, false] rfl rfl (by kernel_rfl) (fun _ _ _ h => h) (Or.inl ⟨by rfl, ?_⟩) ?_ ?_
        rotate_left
        · intro w'
          go_simp
          with_reducible rfl
        rotate_left
        · simp only [Act.put, List.setIfInBounds_toArray, List.set_cons_zero, List.set_cons_succ, i64_w, i32_w]
          rfl
        refine take_ (i := 23) (N := some 61) (v := ?_) (a' := ?_) #[true, true, true, true, true, true, true, true, true, true, true, true, true, true, true, true, true, true, true, true, true, true, true, true, false, false, false, false, false, false, false, false, false, false, false, false, false, false, false, false, false, false, false, false, false, false, false, false, false, false, false] rfl rfl (by kernel_rfl) (fun _ _ _ h => h) (Or.inl ⟨by rfl, ?_⟩) hHeld ?_ ?_
        rotate_left
        · rintro w' ⟨s0, s1, s2, s3, s4, s5, s6, s7, s8, s9, s10, s11, s12, s13, s14, s15, s16, s17, s18, s19, s20, s21, s22, s23, s24, s25⟩
          go_simp
          with_reducible rfl
        rotate_left
        · simp only [Act.put, List.setIfInBounds_toArray, List.set_cons_zero, List.set_cons_succ, i64_w, i32_w]
          rfl
        refine pure_ (i := 24) (N := some 62) (v := ?_) (a' := ?_) #[true, true, true, true, true, true, true, true, true, true, true, true, true, true, true, true, true, true, true, true, true, true, true, true, true, false, false, false, false, false, false, false, false, false, false, false, false, false, false, false, false, false, false, false, false, false, false, false, false, false, false] rfl rfl (by kernel_rfl) (fun _ _ _ h => h) (Or.inl ⟨by rfl, ?_⟩) ?_ ?_
        rotate_left
        · intro w'
          go_simp
          with_reducible rfl
        rotate_left
        · simp only [Act.put, List.setIfInBounds_toArray, List.set_cons_zero, List.set_cons_succ, i64_w, i32_w]
          rfl
        refine pure_ (i := 25) (N := some 63) (v := ?_) (a' := ?_) #[true, true, true, true, true, true, true, true, true, true, true, true, true, true, true, true, true, true, true, true, true, true, true, true, true, true, false, false, false, false, false, false, false, false, false, false, false, false, false, false, false, false, false, false, false, false, false, false, false, false, false] rfl rfl (by kernel_rfl) (fun _ _ _ h => h) (Or.inl ⟨by rfl, ?_⟩) ?_ ?_
        rotate_left
        · intro w'
          go_simp
          with_reducible rfl
        rotate_left
        · simp only [Act.put, List.setIfInBounds_toArray, List.set_cons_zero, List.set_cons_succ, i64_w, i32_w]
          rfl
        refine pure_ (i := 26) (N := some 64) (v := ?_) (a' := ?_) #[true, true, true, true, true, true, true, true, true, true, true, true, true, true, true, true, true, true, true, true, true, true, true, true, true, true, true, false, false, false, false, false, false, false, false, false, false, false, false, false, false, false, false, false, false, false, false, false, false, false, false] rfl rfl (by kernel_rfl) (fun _ _ _ h => h) (Or.inl ⟨by rfl, ?_⟩) ?_ ?_
        rotate_left
        · intro w'
          go_simp
          with_reducible rfl
        rotate_left
        · simp only [Act.put, List.setIfInBounds_toArray, List.set_cons_zero, List.set_cons_succ, i64_w, i32_w]
          rfl
        refine pure_ (i := 27) (N := some 65) (v := ?_) (a' := ?_) #[true, true, true, true, true, true, true, true, true, true, true, true, true, true, true, true, true, true, true, true, true, true, true, true, true, true, true, true, false, false, false, false, false, false, false, false, false, false, false, false, false, false, false, false, false, false, false, false, false, false, false] rfl rfl (by kernel_rfl) (fun _ _ _ h => h) (Or.inl ⟨by rfl, ?_⟩) ?_ ?_
        rotate_left
        · intro w'
          go_simp
          with_reducible rfl
        rotate_left
        · simp only [Act.put, List.setIfInBounds_toArray, List.set_cons_zero, List.set_cons_succ, i64_w, i32_w]
          rfl
        refine take_ (i := 28) (N := some 66) (v := ?_) (a' := ?_) #[true, true, true, true, true, true, true, true, true, true, true, true, true, true, true, true, true, true, true, true, true, true, true, true, true, true, true, true, true, false, false, false, false, false, false, false, false, false, false, false, false, false, false, false, false, false, false, false, false, false, false] rfl rfl (by kernel_rfl) (fun _ _ _ h => h) (Or.inl ⟨by rfl, ?_⟩) hHeld ?_ ?_
        rotate_left
        · rintro w' ⟨s0, s1, s2, s3, s4, s5, s6, s7, s8, s9, s10, s11, s12, s13, s14, s15, s16, s17, s18, s19, s20, s21, s22, s23, s24, s25⟩
          go_simp
          with_reducible rfl
        rotate_left
        · simp only [Act.put, List.setIfInBounds_toArray, List.set_cons_zero, List.set_cons_succ, i64_w, i32_w]
          rfl
        refine pure_ (i := 29) (N := some 67) (v := ?_) (a' := ?_) #[true, true, true, true, true, true, true, true, true, true, true, true, true, true, true, true, true, true, true, true, true, true, true, true, true, true, true, true, true, true, false, false, false, false, false, false, false, false, false, false, false, false, false, false, false, false, false, false, false, false, false] rfl rfl (by kernel_rfl) (fun _ _ _ h => h) (Or.inl ⟨by rfl, ?_⟩) ?_ ?_
        rotate_left
        · intro w'
          go_simp
          with_reducible rfl
        rotate_left
        · simp only [Act.put, List.setIfInBounds_toArray, List.set_cons_zero, List.set_cons_succ, i64_w, i32_w]
          rfl
        refine take_ (i := 30) (N := some 68) (v := ?_) (a' := ?_) #[true, true, true, true, true, true, true, true, true, true, true, true, true, true, true, true, true, true, true, true, true, true, true, true, true, true, true, true, true, true, true, false, false, false, false, false, false, false, false, false, false, false, false, false, false, false, false, false, false, false, false] rfl rfl (by kernel_rfl) (fun _ _ _ h => h) (Or.inl ⟨by rfl, ?_⟩) hHeld ?_ ?_
        rotate_left
        · rintro w' ⟨s0, s1, s2, s3, s4, s5, s6, s7, s8, s9, s10, s11, s12, s13, s14, s15, s16, s17, s18, s19, s20, s21, s22, s23, s24, s25⟩
          go_simp
          with_reducible rfl
        rotate_left
        · simp only [Act.put, List.setIfInBounds_toArray, List.set_cons_zero, List.set_cons_succ, i64_w, i32_w]
          rfl
        refine pure_ (i := 31) (N := some 69) (v := ?_) (a' := ?_) #[true, true, true, true, true, true, true, true, true, true, true, true, true, true, true, true, true, true, true, true, true, true, true, true, true, true, true, true, true, true, true, true, false, false, false, false, false, false, false, false, false, false, false, false, false, false, false, false, false, false, false] rfl rfl (by kernel_rfl) (fun _ _ _ h => h) (Or.inl ⟨by rfl, ?_⟩) ?_ ?_
        rotate_left
        · intro w'
          go_simp
          with_reducible rfl
        rotate_left
        · simp only [Act.put, List.setIfInBounds_toArray, List.set_cons_zero, List.set_cons_succ, i64_w, i32_w]
          rfl
        refine pure_ (i := 32) (N := some 70) (v := ?_) (a' := ?_) #[true, true, true, true, true, true, true, true, true, true, true, true, true, true, true, true, true, true, true, true, true, true, true, true, true, true, true, true, true, true, true, true, true, false, false, false, false, false, false, false, false, false, false, false, false, false, false, false, false, false, false] rfl rfl (by kernel_rfl) (fun _ _ _ h => h) (Or.inl ⟨by rfl, ?_⟩) ?_ ?_
        rotate_left
        · intro w'
          go_simp
          with_reducible rfl
        rotate_left
        · simp only [Act.put, List.setIfInBounds_toArray, List.set_cons_zero, List.set_cons_succ, i64_w, i32_w]
          rfl
        refine pure_ (i := 33) (N := some 71) (v := ?_) (a' := ?_) #[true, true, true, true, true, true, true, true, true, true, true, true, true, true, true, true, true, true, true, true, true, true, true, true, true, true, true, true, true, true, true, true, true, true, false, false, false, false, false, false, false, false, false, false, false, false, false, false, false, false, false] rfl rfl (by kernel_rfl) (fun _ _ _ h => h) (Or.inl ⟨by rfl, ?_⟩) ?_ ?_
        rotate_left
        · intro w'
          go_simp
          with_reducible rfl
        rotate_left
        · simp only [Act.put, List.setIfInBounds_toArray, List.set_cons_zero, List.set_cons_succ, i64_w, i32_w]
          rfl
        refine pure_ (i := 34) (N := some 72) (v := ?_) (a' := ?_) #[true, true, true, true, true, true, true, true, true, true, true, true, true, true, true, true, true, true, true, true, true, true, true, true, true, true, true, true, true, true, true, true, true, true, true, false, false, false, false, false, false, false, false, false, false, false, false, false, false, false, false] rfl rfl (by kernel_rfl) (fun _ _ _ h => h) (Or.inl ⟨by rfl, ?_⟩) ?_ ?_
        rotate_left
        · intro w'
          go_simp
          with_reducible rfl
        rotate_left
        · simp only [Act.put, List.setIfInBounds_toArray, List.set_cons_zero, List.set_cons_succ, i64_w, i32_w]
          rfl
        refine take_ (i := 35) (N := some 73) (v := ?_) (a' := ?_) #[true, true, true, true, true, true, true, true, true, true, true, true, true, true, true, true, true, true, true, true, true, true, true, true, true, true, true, true, true, true, true, true, true, true, true, true, false, false, false, false, false, false, false, false, false, false, false, false, false, false, false] rfl rfl (by kernel_rfl) (fun _ _ _ h => h) (Or.inl ⟨by rfl, ?_⟩) hHeld ?_ ?_
        rotate_left
        · rintro w' ⟨s0, s1, s2, s3, s4, s5, s6, s7, s8, s9, s10, s11, s12, s13, s14, s15, s16, s17, s18, s19, s20, s21, s22, s23, s24, s25⟩
          go_simp
          with_reducible rfl
        rotate_left
        · simp only [Act.put, List.setIfInBounds_toArray, List.set_cons_zero, List.set_cons_succ, i64_w, i32_w]
          rfl
        refine take_ (i := 36) (N := some 74) (v := ?_) (a' := ?_) #[true, true, true, true, true, true, true, true, true, true, true, true, true, true, true, true, true, true, true, true, true, true, true, true, true, true, true, true, true, true, true, true, true, true, true, true, true, false, false, false, false, false, false, false, false, false, false, false, false, false, false] rfl rfl (by kernel_rfl) (fun _ _ _ h => h) (Or.inl ⟨by rfl, ?_⟩) hHeld ?_ ?_
        rotate_left
        · rintro w' ⟨s0, s1, s2, s3, s4, s5, s6, s7, s8, s9, s10, s11, s12, s13, s14, s15, s16, s17, s18, s19, s20, s21, s22, s23, s24, s25⟩
          go_simp
          with_reducible rfl
        rotate_left
        · simp only [Act.put, List.setIfInBounds_toArray, List.set_cons_zero, List.set_cons_succ, i64_w, i32_w]
          rfl
        refine pure_ (i := 37) (N := some 75) (v := ?_) (a' := ?_) #[true, true, true, true, true, true, true, true, true, true, true, true, true, true, true, true, true, true, true, true, true, true, true, true, true, true, true, true, true, true, true, true, true, true, true, true, true, true, false, false, false, false, false, false, false, false, false, false, false, false, false] rfl rfl (by kernel_rfl) (fun _ _ _ h => h) (Or.inl ⟨by rfl, ?_⟩) ?_ ?_
        rotate_left
        · intro w'
          go_simp
          with_reducible rfl
        rotate_left
        · simp only [Act.put, List.setIfInBounds_toArray, List.set_cons_zero, List.set_cons_succ, i64_w, i32_w]
          rfl
        refine take_ (i := 38) (N := some 76) (v := ?_) (a' := ?_) #[true, true, true, true, true, true, true, true, true, true, true, true, true, true, true, true, true, true, true, true, true, true, true, true, true, true, true, true, true, true, true, true, true, true, true, true, true, true, true, false, false, false, false, false, false, false, false, false, false, false, false] rfl rfl (by kernel_rfl) (fun _ _ _ h => h) (Or.inl ⟨by rfl, ?_⟩) hHeld ?_ ?_
        rotate_left
        · rintro w' ⟨s0, s1, s2, s3, s4, s5, s6, s7, s8, s9, s10, s11, s12, s13, s14, s15, s16, s17, s18, s19, s20, s21, s22, s23, s24, s25⟩
          go_simp
          with_reducible rfl
        rotate_left
        · simp only [Act.put, List.setIfInBounds_toArray, List.set_cons_zero, List.set_cons_succ, i64_w, i32_w]
          rfl
        refine take_ (i := 39) (N := some 77) (v := ?_) (a' := ?_) #[true, true, true, true, true, true, true, true, true, true, true, true, true, true, true, true, true, true, true, true, true, true, true, true, true, true, true, true, true, true, true, true, true, true, true, true, true, true, true, true, false, false, false, false, false, false, false, false, false, false, false] rfl rfl (by kernel_rfl) (fun _ _ _ h => h) (Or.inl ⟨by rfl, ?_⟩) hHeld ?_ ?_
        rotate_left
        · rintro w' ⟨s0, s1, s2, s3, s4, s5, s6, s7, s8, s9, s10, s11, s12, s13, s14, s15, s16, s17, s18, s19, s20, s21, s22, s23, s24, s25⟩
          go_simp
          with_reducible rfl
        rotate_left
        · simp only [Act.put, List.setIfInBounds_toArray, List.set_cons_zero, List.set_cons_succ, i64_w, i32_w]
          rfl
        refine pure_ (i := 40) (N := some 78) (v := ?_) (a' := ?_) #[true, true, true, true, true, true, true, true, true, true, true, true, true, true, true, true, true, true, true, true, true, true, true, true, true, true, true, true, true, true, true, true, true, true, true, true, true, true, true, true, true, false, false, false, false, false, false, false, false, false, false] rfl rfl (by kernel_rfl) (fun _ _ _ h => h) (Or.inl ⟨by rfl, ?_⟩) ?_ ?_
        rotate_left
        · intro w'
          go_simp
          with_reducible rfl
        rotate_left
        · simp only [Act.put, List.setIfInBounds_toArray, List.set_cons_zero, List.set_cons_succ, i64_w, i32_w]
          rfl
        refine pure_ (i := 41) (N := some 79) (v := ?_) (a' := ?_) #[true, true, true, true, true, true, true, true, true, true, true, true, true, true, true, true, true, true, true, true, true, true, true, true, true, true, true, true, true, true, true, true, true, true, true, true, true, true, true, true, true, true, false, false, false, false, false, false, false, false, false] rfl rfl (by kernel_rfl) (fun _ _ _ h => h) (Or.inl ⟨by rfl, ?_⟩) ?_ ?_
        rotate_left
        · intro w'
          go_simp
          with_reducible rfl
        rotate_left
        · simp only [Act.put, List.setIfInBounds_toArray, List.set_cons_zero, List.set_cons_succ, i64_w, i32_w]
          rfl
        refine pure_ (i := 42) (N := some 80) (v := ?_) (a' := ?_) #[true, true, true, true, true, true, true, true, true, true, true, true, true, true, true, true, true, true, true, true, true, true, true, true, true, true, true, true, true, true, true, true, true, true, true, true, true, true, true, true, true, true, true, false, false, false, false, false, false, false, false] rfl rfl (by kernel_rfl) (fun _ _ _ h => h) (Or.inl ⟨by rfl, ?_⟩) ?_ ?_
        rotate_left
        · intro w'
          go_simp
          with_reducible rfl
        rotate_left
        · simp only [Act.put, List.setIfInBounds_toArray, List.set_cons_zero, List.set_cons_succ, i64_w, i32_w]
          rfl
        refine pure_ (i := 43) (N := some 81) (v := ?_) (a' := ?_) #[true, true, true, true, true, true, true, true, true, true, true, true, true, true, true, true, true, true, true, true, true, true, true, true, true, true, true, true, true, true, true, true, true, true, true, true, true, true, true, true, true, true, true, true, false, false, false, false, false, false, false] rfl rfl (by kernel_rfl) (fun _ _ _ h => h) (Or.inl ⟨by rfl, ?_⟩) ?_ ?_
        rotate_left
        · intro w'
          go_simp
          with_reducible rfl
        rotate_left
        · simp only [Act.put, List.setIfInBounds_toArray, List.set_cons_zero, List.set_cons_succ, i64_w, i32_w]
          rfl
        refine take_ (i := 44) (N := some 82) (v := ?_) (a' := ?_) #[true, true, true, true, true, true, true, true, true, true, true, true, true, true, true, true, true, true, true, true, true, true, true, true, true, true, true, true, true, true, true, true, true, true, true, true, true, true, true, true, true, true, true, true, true, false, false, false, false, false, false] rfl rfl (by kernel_rfl) (fun _ _ _ h => h) (Or.inl ⟨by rfl, ?_⟩) hHeld ?_ ?_
        rotate_left
        · rintro w' ⟨s0, s1, s2, s3, s4, s5, s6, s7, s8, s9, s10, s11, s12, s13, s14, s15, s16, s17, s18, s19, s20, s21, s22, s23, s24, s25⟩
          go_simp
          with_reducible rfl
        rotate_left
        · simp only [Act.put, List.setIfInBounds_toArray, List.set_cons_zero, List.set_cons_succ, i64_w, i32_w]
          rfl
        refine take_ (i := 45) (N := some 83) (v := ?_) (a' := ?_) #[true, true, true, true, true, true, true, true, true, true, true, true, true, true, true, true, true, true, true, true, true, true, true, true, true, true, true, true, true, true, true, true, true, true, true, true, true, true, true, true, true, true, true, true, true, true, false, false, false, false, false] rfl rfl (by kernel_rfl) (fun _ _ _ h => h) (Or.inl ⟨by rfl, ?_⟩) hHeld ?_ ?_
        rotate_left
        · rintro w' ⟨s0, s1, s2, s3, s4, s5, s6, s7, s8, s9, s10, s11, s12, s13, s14, s15, s16, s17, s18, s19, s20, s21, s22, s23, s24, s25⟩
          go_simp
          with_reducible rfl
        rotate_left
        · simp only [Act.put, List.setIfInBounds_toArray, List.set_cons_zero, List.set_cons_succ, i64_w, i32_w]
          rfl
        refine pure_ (i := 46) (N := some 84) (v := ?_) (a' := ?_) #[true, true, true, true, true, true, true, true, true, true, true, true, true, true, true, true, true, true, true, true, true, true, true, true, true, true, true, true, true, true, true, true, true, true, true, true, true, true, true, true, true, true, true, true, true, true, true, false, false, false, false] rfl rfl (by kernel_rfl) (fun _ _ _ h => h) (Or.inl ⟨by rfl, ?_⟩) ?_ ?_
        rotate_left
        · intro w'
          go_simp
          with_reducible rfl
        rotate_left
        · simp only [Act.put, List.setIfInBounds_toArray, List.set_cons_zero, List.set_cons_succ, i64_w, i32_w]
          rfl
        refine take_ (i := 47) (N := some 85) (v := ?_) (a' := ?_) #[true, true, true, true, true, true, true, true, true, true, true, true, true, true, true, true, true, true, true, true, true, true, true, true, true, true, true, true, true, true, true, true, true, true, true, true, true, true, true, true, true, true, true, true, true, true, true, true, false, false, false] rfl rfl (by kernel_rfl) (fun _ _ _ h => h) (Or.inl ⟨by rfl, ?_⟩) hHeld ?_ ?_
        rotate_left
        · rintro w' ⟨s0, s1, s2, s3, s4, s5, s6, s7, s8, s9, s10, s11, s12, s13, s14, s15, s16, s17, s18, s19, s20, s21, s22, s23, s24, s25⟩
          go_simp
          with_reducible rfl
        rotate_left
        · simp only [Act.put, List.setIfInBounds_toArray, List.set_cons_zero, List.set_cons_succ, i64_w, i32_w]
          rfl
        refine take_ (i := 48) (N := some 86) (v := ?_) (a' := ?_) #[true, true, true, true, true, true, true, true, true, true, true, true, true, true, true, true, true, true, true, true, true, true, true, true, true, true, true, true, true, true, true, true, true, true, true, true, true, true, true, true, true, true, true, true, true, true, true, true, true, false, false] rfl rfl (by kernel_rfl) (fun _ _ _ h => h) (Or.inl ⟨by rfl, ?_⟩) hHeld ?_ ?_
        rotate_left
        · rintro w' ⟨s0, s1, s2, s3, s4, s5, s6, s7, s8, s9, s10, s11, s12, s13, s14, s15, s16, s17, s18, s19, s20, s21, s22, s23, s24, s25⟩
          go_simp
          with_reducible rfl
        rotate_left
        · simp only [Act.put, List.setIfInBounds_toArray, List.set_cons_zero, List.set_cons_succ, i64_w, i32_w]
          rfl
        refine pure_ (i := 49) (N := some 87) (v := ?_) (a' := ?_) #[true, true, true, true, true, true, true, true, true, true, true, true, true, true, true, true, true, true, true, true, true, true, true, true, true, true, true, true, true, true, true, true, true, true, true, true, true, true, true, true, true, true, true, true, true, true, true, true, true, true, false] rfl rfl (by kernel_rfl) (fun _ _ _ h => h) (Or.inl ⟨by rfl, ?_⟩) ?_ ?_
        rotate_left
        · intro w'
          go_simp
          with_reducible rfl
        rotate_left
        · simp only [Act.put, List.setIfInBounds_toArray, List.set_cons_zero, List.set_cons_succ, i64_w, i32_w]
          rfl
        refine pure_ (i := 50) (N := some 88) (v := ?_) (a' := ?_) #[true, true, true, true, true, true, true, true, true, true, true, true, true, true, true, true, true, true, true, true, true, true, true, true, true, true, true, true, true, true, true, true, true, true, true, true, true, true, true, true, true, true, true, true, true, true, true, true, true, true, true] rfl rfl (by kernel_rfl) (fun _ _ _ h => h) (Or.inl ⟨by rfl, ?_⟩) ?_ ?_
        rotate_left
        · intro w'
          go_simp
          with_reducible rfl
        rotate_left
        · simp only [Act.put, List.setIfInBounds_toArray, List.set_cons_zero, List.set_cons_succ, i64_w, i32_w]
          rfl
        refine done_ (by kernel_rfl) ?_
        simp only [Exit.then]
        have HBN := Aside0.mk HQi.out
        clear HQf HQg HQh HEf HEg HEh HEi RAf RAg RAh RAi RBf RBg RBh RBi RGwd RGwe RGe RGa HZwd HZwe HQwd HQwe HEwd HEwe hHeld
        go_wp2
        go_roundw
        case rel => exact ⟨k + 1, by go_num, by omega, HBN⟩
        case measure => simp [intOf]; omega
      · go_wp2
        go_ret
        exact ⟨rfl, below_step HB.out hb.out⟩
    · go_wp2
      go_ret
      exact ⟨rfl, below_step HB.out hb.out⟩
end Go.Proofs.Ytecdnhmdodedmaa.Ch
