/- Pairs of numbers: their form, and a list's (wire.Put). -/
import Derived.Test.YtmghnbdbhdljjaaWp
import Derived.Test.YtmghnbdbhdljjaaHSx1
namespace Go.Proofs.Ytmghnbdbhdljjaa.Li
open Go.RowKit Go.Proofs.YtmghnbdbhdljjaaW.PrintWords Go.Proofs.YtmghnbdbhdljjaaW.PrintLast Go.Proofs.YtmghnbdbhdljjaaW.PrintMore Go.Proofs.Ytmghnbdbhdljjaa.HS
set_option linter.unusedVariables false
set_option linter.unusedSimpArgs false
/-- A pair's form. -/
def pairB (p : Int × Int) : List Int := Rd.wnum p.1.toNat ++ Rd.wnum p.2.toNat
def U (p : Int × Int) : Prop := 0 ≤ p.1 ∧ p.1 < 18446744073709551616 ∧ 0 ≤ p.2 ∧ p.2 < 18446744073709551616
theorem pairB_len (p : Int × Int) : (pairB p).length ≤ 20 := by
  unfold pairB
  have h1 := Rd.wnum_len p.1.toNat
  have h2 := Rd.wnum_len p.2.toNat
  rw [List.length_append]
  omega
def FormP (xs : List Int) (w : World) (e : Ending) (w' : World) : Prop := ∃ (A : Option Addr) (c : Nat), e = .returned (.slice A xs.length c) ∧ xs.length ≤ c ∧ Rd.Own w' w.heap.size (.slice A xs.length c) xs ∧ Below w.heap.size w w'
theorem num_form (x : Int) (h0 : 0 ≤ x) (h1 : x < 18446744073709551616) (w : World) : Calls Try.prog 9 #[.int .u64 x] w (FormP (Rd.wnum x.toNat) w) := by
  obtain ⟨n, rfl⟩ := Int.eq_ofNat_of_zero_le h0
  rw [Int.toNat_natCast]
  refine (Rd.numForm n w (by omega)).mono fun e w' ⟨v, he, ho, hb⟩ => ?_
  obtain ⟨A, c, rfl, hc, _, _⟩ := ho.reads
  exact ⟨A, c, he, hc, ho, hb⟩
set_option maxHeartbeats 4000000 in
set_option maxRecDepth 100000 in
theorem form (p : Int × Int) (h : U p) (w : World) : Calls Try.prog 28 #[.agg #[.int .u64 p.1, .int .u64 p.2]] w (FormP (pairB p) w) := by
  have C1 := Aside0.mk (fun W : World => num_form p.1 h.1 h.2.1 W)
  have C2 := Aside0.mk (fun W : World => num_form p.2 h.2.2.1 h.2.2.2 W)
  have L1 := Aside0.mk (Rd.wnum_len p.1.toNat)
  have L2 := Aside0.mk (Rd.wnum_len p.2.toNat)
  unfold pairB
  generalize Rd.wnum p.1.toNat = x1 at C1 L1 ⊢
  generalize Rd.wnum p.2.toNat = x2 at C2 L2 ⊢
  obtain ⟨a, b⟩ := p
  dsimp only at C1 C2 ⊢
  have hblk := blk_new w (.cells #[.int .u64 a, .int .u64 b] 51)
  have hw0 := Aside0.mk (below_alloc (Below.refl w.heap.size w) (.cells #[.int .u64 a, .int .u64 b] 51))
  have y0 := (blk_cell hblk 0).trans rfl
  have y1 := (blk_cell hblk 1).trans rfl
  clear hblk h
  go_enter Try.func28, Try.ntmps28
  go_wp2
  have hD := Aside0.mk (below_drew1 hw0.out)
  have hsz : w.heap.size < (w.alloc (.cells #[.int .u64 a, .int .u64 b] 51)).drew.heap.size := by simp [World.drew]
  refine start_ (n := 8) (S := fun w' => w'.cell? ⟨w.heap.size, 0, none⟩ = some (.int .u64 a) ∧ w'.cell? ⟨w.heap.size, 1, none⟩ = some (.int .u64 b)) (ds := []) #[false, false, false, false, false, false, false, false] (by kernel_rfl) rfl rfl ⟨y0, y1⟩ (fun hHeld => ?_)
  generalize (w.alloc (.cells #[.int .u64 a, .int .u64 b] 51)).drew = w1 at hHeld hD y0 y1 hsz ⊢
  refine pure_ (i := 0) (N := some 3) (v := ?_) (a' := ?_) #[true, false, false, false, false, false, false, false] rfl rfl (by kernel_rfl) (fun _ _ _ h => h) (Or.inl ⟨by rfl, ?_⟩) ?_ ?_
  rotate_left
  · intro w'
    go_simp
    with_reducible rfl
  rotate_left
  · simp only [Act.put, List.setIfInBounds_toArray, List.set_cons_zero, List.set_cons_succ, i64_w, i32_w]
    rfl
  refine take_ (i := 1) (N := some 4) (v := ?_) (a' := ?_) #[true, true, false, false, false, false, false, false] rfl rfl (by kernel_rfl) (fun _ _ _ h => h) (Or.inl ⟨by rfl, ?_⟩) hHeld ?_ ?_
  rotate_left
  · rintro w' ⟨s0, s1⟩
    go_simp
    with_reducible rfl
  rotate_left
  · simp only [Act.put, List.setIfInBounds_toArray, List.set_cons_zero, List.set_cons_succ, i64_w, i32_w]
    rfl
  refine pure_ (i := 3) (N := some 6) (v := ?_) (a' := ?_) #[true, true, false, true, false, false, false, false] rfl rfl (by kernel_rfl) (fun _ _ _ h => h) (Or.inl ⟨by rfl, ?_⟩) ?_ ?_
  rotate_left
  · intro w'
    go_simp
    with_reducible rfl
  rotate_left
  · simp only [Act.put, List.setIfInBounds_toArray, List.set_cons_zero, List.set_cons_succ, i64_w, i32_w]
    rfl
  refine take_ (i := 4) (N := some 7) (v := ?_) (a' := ?_) #[true, true, false, true, true, false, false, false] rfl rfl (by kernel_rfl) (fun _ _ _ h => h) (Or.inl ⟨by rfl, ?_⟩) hHeld ?_ ?_
  rotate_left
  · rintro w' ⟨s0, s1⟩
    go_simp
    with_reducible rfl
  rotate_left
  · simp only [Act.put, List.setIfInBounds_toArray, List.set_cons_zero, List.set_cons_succ, i64_w, i32_w]
    rfl
  refine one_ (i := 2) (N := some 5) #[true, true, true, true, true, false, false, false] rfl rfl (by kernel_rfl) (by decide) (fun K hK => ?_)
  refine goes_ Try.func9 (by kernel_rfl) rfl #[.int .u64 a] (by rfl) rfl rfl (by (try simp only [List.map_toArray, List.map_cons, List.map_nil]); first | done | rfl) ?_
  with_reducible refine (C1.out w1).mono ?_
  rintro e w2 ⟨A1, c1, rfl, hc1, ho, hb⟩
  have HO1 := Aside0.mk ho
  have HB2 := Aside0.mk (below_step hD.out hb)
  have HO1w := Aside0.mk hb.size
  have z0 := pw_cell_below hb hHeld.1
  have z1 := pw_cell_below hb hHeld.2
  clear ho hb
  refine ⟨_, rfl, ?_⟩
  refine hK.out _ _ ⟨z0, z1⟩ (fun hHeld => ?_)
  clear hK K
  refine norm_ (a' := ?_) ?_ ?_
  rotate_left
  · show Act.put _ (some 5) _ = _
    simp only [Act.put, List.setIfInBounds_toArray, List.set_cons_zero, List.set_cons_succ, i64_w, i32_w]
    rfl
  refine one_ (i := 5) (N := some 8) #[true, true, true, true, true, true, false, false] rfl rfl (by kernel_rfl) (by decide) (fun K hK => ?_)
  refine goes_ Try.func9 (by kernel_rfl) rfl #[.int .u64 b] (by rfl) rfl rfl (by (try simp only [List.map_toArray, List.map_cons, List.map_nil]); first | done | rfl) ?_
  with_reducible refine (C2.out w2).mono ?_
  rintro e w3 ⟨A2, c2, rfl, hc2, ho, hb⟩
  have HO2 := Aside0.mk ho
  have HB3 := Aside0.mk (below_step HB2.out hb)
  have HO1' := Aside0.mk (HO1.out.below hb)
  have z2 := pw_cell_below hb z0
  have z3 := pw_cell_below hb z1
  have HO2w := Aside0.mk hb.size
  clear ho hb
  refine ⟨_, rfl, ?_⟩
  refine hK.out _ _ ⟨z2, z3⟩ (fun hHeld => ?_)
  clear hK K
  refine norm_ (a' := ?_) ?_ ?_
  rotate_left
  · show Act.put _ (some 8) _ = _
    simp only [Act.put, List.setIfInBounds_toArray, List.set_cons_zero, List.set_cons_succ, i64_w, i32_w]
    rfl
  refine one_ (i := 6) (N := some 9) #[true, true, true, true, true, true, true, false] rfl rfl (by kernel_rfl) (by decide) (fun K hK => ?_)
  refine Rd.append_step (W := w3) w1.heap.size rfl (.tmp 5) (.tmp 8) rfl (.slice A1 x1.length c1) x1 x2 A2 x2.length c2 rfl rfl HO1'.out (by obtain ⟨A', c', e', hc', hC', _⟩ := HO2.out.reads; cases e'; exact hC') (Nat.le_trans HO1w.out HO2w.out) (by have := L1.out; have := L2.out; omega) ?_
  intro v1 w4 ho hb
  have HO := Aside0.mk ho
  have HB4 := Aside0.mk (HB3.out.trans (hb.mono (Nat.le_of_lt hsz)))
  have z4 := (hb.cell (p := ⟨w.heap.size, 0, none⟩) hsz).trans z2
  have z5 := (hb.cell (p := ⟨w.heap.size, 1, none⟩) hsz).trans z3
  clear ho hb
  refine hK.out _ _ ⟨z4, z5⟩ (fun hHeld => ?_)
  clear hK K
  refine norm_ (a' := ?_) ?_ ?_
  rotate_left
  · show Act.put _ (some 9) _ = _
    simp only [Act.put, List.setIfInBounds_toArray, List.set_cons_zero, List.set_cons_succ, i64_w, i32_w]
    rfl
  refine pure_ (i := 7) (N := some 2) (v := ?_) (a' := ?_) #[true, true, true, true, true, true, true, true] rfl rfl (by kernel_rfl) (fun _ _ _ h => h) (Or.inl ⟨by rfl, ?_⟩) ?_ ?_
  rotate_left
  · intro w'
    go_simp
    with_reducible rfl
  rotate_left
  · simp only [Act.put, List.setIfInBounds_toArray, List.set_cons_zero, List.set_cons_succ, i64_w, i32_w]
    rfl
  refine done_ (by kernel_rfl) ?_
  go_wp2
  obtain ⟨A, c, rfl, hc, _, _⟩ := HO.out.reads
  go_ret
  exact ⟨A, c, rfl, hc, HO.out.lower (Nat.le_of_lt hsz), HB4.out⟩
end Go.Proofs.Ytmghnbdbhdljjaa.Li
