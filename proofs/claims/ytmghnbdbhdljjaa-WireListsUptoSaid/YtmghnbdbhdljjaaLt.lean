/- The law WireLists' call. -/
import Derived.Test.YtmghnbdbhdljjaaLs
namespace Go.Proofs.Ytmghnbdbhdljjaa.Li
open Go.RowKit Go.Proofs.YtmghnbdbhdljjaaW.PrintWords Go.Proofs.YtmghnbdbhdljjaaW.PrintLast Go.Proofs.YtmghnbdbhdljjaaW.PrintMore Go.Proofs.Ytmghnbdbhdljjaa.HS
set_option linter.unusedVariables false
set_option linter.unusedSimpArgs false
theorem num_call (x : Int) (w : World) : Calls Try.prog 24 #[.int .i64 x] w fun e w' => e = .returned (.int .i64 x) ∧ Drawn0 w w' := garnerlaw01_num.calls x x w rfl
theorem known_call (w : World) : Calls Try.prog 18 #[] w fun e w' => e = .returned (.bool true) ∧ Below w.heap.size w w' := garnerlaw01_known.calls true w rfl
theorem refnum_go : ∀ (j k m : Nat) (xs : List Int), m < 2 ^ (7 * j + 1) → m < 18446744073709551616 → j < k → xs.length + j + 1 < 140737488355328 → garnerref01_Number.l0 k (m : Int) xs = some (xs ++ Rd.wnumF j m)
  | 0, 0, m, xs, _, _, h, _ => by omega
  | 0, k + 1, m, xs, h, h2, hk, hl => by
    simp at h
    rw [garnerref01_Number.l0, if_neg (by omega), if_pos (by omega), Rd.wnumF, show ((m : Int) % 256) = m by omega]
  | j + 1, 0, m, xs, _, _, h, _ => by omega
  | j + 1, k + 1, m, xs, h, h2, hk, hl => by
    rw [garnerref01_Number.l0, Rd.wnumF]
    by_cases hb : 127 < m
    · have hd : m / 128 < 2 ^ (7 * j + 1) := by
        rw [show 7 * (j + 1) + 1 = (7 * j + 1) + 7 by omega, Nat.pow_add] at h
        exact Nat.div_lt_of_lt_mul (by rw [Nat.mul_comm]; exact h)
      have e1 : IntKind.u64.wrap (Int.tdiv (m : Int) 128) = ((m / 128 : Nat) : Int) := by
        rw [Int.tdiv_eq_ediv_of_nonneg (by omega), IntKind.wrap_u64]; omega
      have e2 : IntKind.u64.wrap ((Int.tmod (m : Int) 128) + 128) % 256 = ((m % 128 + 128 : Nat) : Int) := by
        rw [Int.tmod_eq_emod_of_nonneg (by omega), IntKind.wrap_u64]; omega
      rw [if_pos (by omega), if_pos (by omega), if_pos hb, e1, e2, refnum_go j k (m / 128) _ hd (by omega) (by omega) (by simp; omega)]
      simp
    · rw [if_neg (by omega), if_pos (by omega), if_neg hb, show ((m : Int) % 256) = m by omega]
theorem ref_num (x : Int) (h0 : 0 ≤ x) (h1 : x < 18446744073709551616) (w : World) : Calls Try.prog 12 #[.int .u64 x] w (FormP (Rd.wnum x.toNat) w) := by
  obtain ⟨n, rfl⟩ := Int.eq_ofNat_of_zero_le h0
  rw [Int.toNat_natCast]
  have hf : garnerref01_Number.f 10 (n : Int) = some (Rd.wnum n) := by
    unfold garnerref01_Number.f
    rw [refnum_go 9 10 n [] (by simpa using (by omega : n < 18446744073709551616)) (by omega) (by omega) (by simp)]
    rfl
  refine (garnerref01_Number.calls 10 (n : Int) _ w hf).mono fun e w' ⟨v, he, ho, hb⟩ => ?_
  obtain ⟨A, c, rfl, hc, hC⟩ := Kd.R_reads ho
  exact ⟨A, c, he, hc, Kd.R_mono (Kd.R_bound ho) (fun _ hk => hk.2.1), hb⟩
section
variable {ops : Array Oper} {o : Oper} {a : Act} {Q : Exit → Act → World → Prop} {rest : List Oper}
theorem append_pairs {W : World} (base : Nat) (hgd : o.guard = none) (s x : Operand)
    (ho : o.op = .call { callee := .builtin .append, args := #[s, x], argTypes := #[50, 50] })
    (v : Value) (xs ys : List (Int × Int)) (A : Option Addr) (m c : Nat) (hs : a.eval s = v) (hx : a.eval x = .slice A m c)
    (HO : OwnP W base v xs) (HR : Kd.C kp W A m ys) (hbase : base ≤ W.heap.size) (hl : (xs.length + m) * 16 ≤ 140737488355328)
    (h : ∀ v1 w1, OwnP w1 base v1 (xs ++ ys) → Below base W w1 → wpList Try.prog ops Q rest (a.put o.dst v1) w1) : wpList Try.prog ops Q (o :: rest) a W :=
  Kd.R_append_rows (P := Try.prog) kp (Rr := kp.K W) (w0 := W) base hgd s x 50 51 (.agg #[.int .u64 0, .int .u64 0]) 16 ho Try.underlying50 info_p rfl (by decide) (by omega) v xs ys A m c (fun k => base ≤ k) (fun _ => False) hs hx HO HR
    (fun _ _ h => h) (fun _ h => h.elim) (fun k hk => Nat.le_trans hbase hk) (Below.refl _ _) hbase hl (fun v1 w1 h1 h2 _ _ => h v1 w1 h1 h2)
end
theorem at_next {W : World} {ad : Addr} {i : Nat} {v : Value} (h : W.cell? ⟨(ad.add i).block, (ad.add i).off + 1, none⟩ = some v) : W.cell? (ad.add (i + 1)) = some v := by
  have e : ad.add (i + 1) = ⟨(ad.add i).block, (ad.add i).off + 1, none⟩ := by
    unfold Addr.add
    rw [if_neg (by omega)]
    by_cases h0 : i = 0
    · rw [if_pos h0, h0]
    · rw [if_neg h0]
      simp [Nat.add_assoc]
  rw [e]
  exact h
def RightPost (w : World) (e : Ending) (w' : World) : Prop := e = .returned (.bool true) ∧ Below w.heap.size w w'
set_option maxHeartbeats 8000000 in
set_option maxRecDepth 100000 in
theorem lists_walk (A : Option Addr) (c : Nat) (l : List (Int × Int)) (cut : Int) (w : World) (hA : Kd.C kp w A l.length l) (hc : l.length ≤ c) (hu : ∀ p ∈ l, U p) (hl : l.length ≤ 1048576) :
    Calls Try.prog 5 #[.slice A l.length c, .int .i64 cut] w (RightPost w) := by
  have HA := Aside0.mk hA
  have HU := Aside0.mk hu
  have HL := Aside0.mk hl
  obtain ⟨m, em⟩ : ∃ m, m = l ++ [((7 : Int), (71 : Int))] := ⟨_, rfl⟩
  have ml : m.length = l.length + 1 := by rw [em, List.length_append]; rfl
  have EM := Aside0.mk em
  have ML := Aside0.mk ml
  have c0 : l.length ≤ m.length := by omega
  clear hA hu hl em ml
  go_enter Try.func5, Try.ntmps5
  go_upto_region 2 with (first | ((with_reducible refine gate_builtin (b := .append) (xs := #[.const (.slice none 0 0), .tmp 19]) rfl ?_); at_builtin; refine append_pairs w.heap.size rfl (.const (.slice none 0 0)) (.tmp 19) rfl (.slice none 0 0) [] l A l.length c rfl rfl (OwnP.nil _ _) HA.out (Nat.le_refl _) (by have := HL.out; simp only [List.length_nil]; omega) ?_; intro v1 w1 ho hb1; have HO1 := Aside0.mk ho; have HB1 := Aside0.mk hb1; clear ho hb1) | ((with_reducible refine gate_builtin (b := .append) (xs := #[.tmp 20, .tmp 22]) rfl ?_); at_builtin; refine append_pair (W := w1) w.heap.size rfl (.tmp 20) (.tmp 22) rfl v1 ([] ++ l) 7 71 rfl rfl HO1.out HB1.out.size (by have := HL.out; simp only [List.nil_append]; omega) ?_; intro v2 w2 ho hb1; rw [List.nil_append, ← EM.out] at ho; have HO2 := Aside0.mk ho; have HB2 := Aside0.mk (HB1.out.trans hb1); clear ho hb1))
  obtain ⟨A2, c2, rfl, hc2, hC2, hlo2⟩ := HO2.out.reads
  clear HO1 HB1
  obtain ⟨i0, hi0, _, hsz0, _⟩ := info_parts info_p
  have hcut := cut_to (P := Try.prog) 50 51 .i64 Try.underlying50 hi0 A2 m.length c2 (l.length : Int) (by omega) (by omega) hc2
  rw [Int.toNat_natCast] at hcut
  have hr := Kd.C_take (m := l.length) hC2 c0
  rw [show m.take l.length = l by rw [EM.out]; simp] at hr
  have HP := Aside0.mk (put A2 c2 l w2 hr (by omega) HU.out (by have := HL.out; omega))
  have HCM := Aside0.mk hC2
  clear hi0 hsz0 hr hC2 hlo2
  go_upto_region 3 with (first | (go_at_call 27; (with_reducible refine HP.out.mono ?_); rintro e w3 ⟨A3, c3, rfl, hc3, ho, hb⟩; have HO3 := Aside0.mk ho; have HB3 := Aside0.mk hb; clear ho hb))
  obtain ⟨ad2, ead2, x0, x1⟩ := at_pair HCM.out l.length (by have := ML.out; omega)
  subst ead2
  rw [show m[l.length]'(by have := ML.out; omega) = (7, 71) by simp [EM.out]] at x0 x1
  have hcut2 := cut_to (P := Try.prog) 50 51 .i64 Try.underlying50 (info_parts info_p).choose_spec.1 (some ad2) m.length c2 ((l.length : Int) + 1) (by omega) (by have := ML.out; omega) hc2
  rw [show ((l.length : Int) + 1).toNat = l.length + 1 by omega] at hcut2
  have X0 := Aside0.mk (fun (W : World) (hb : Below w2.heap.size w2 W) => pw_cell_below hb x0)
  have X1 := Aside0.mk (fun (W : World) (hb : Below w2.heap.size w2 W) => pw_cell_below hb x1)
  have NS := fun a b => neq_self a b
  have l0 : (0 : Int) ≤ (l.length : Int) := by omega
  have l1 : (l.length : Int) < (l.length : Int) + 1 := by omega
  have l2 : (l.length : Int) + 1 ≤ 9223372036854775807 := by have := HL.out; omega
  have l3 : (l.length : Int) + 1 ≤ (c2 : Int) := by have := ML.out; omega
  clear x0 x1 hcut HP
  go_upto_region 5 with (first | (go_at_call 24; refine (num_call _ _).mono ?_; rintro e w4 ⟨rfl, hd⟩; have HB4 := Aside0.mk (below_step HB3.out hd.below); have x0 := X0.out _ HB4.out; have x1 := X1.out _ HB4.out; have HO4 := Aside0.mk (HO3.out.below hd.below); clear hd))
  have HBW := Aside0.mk (below_step HB2.out HB4.out)
  have CL := Aside0.mk (Kd.C_below HA.out HBW.out)
  have CM := Aside0.mk (Kd.C_below HCM.out HB4.out)
  have CB := Aside0.mk (show Kd.C (Kd.int .u8) w4 A3 (putB l).length (putB l) from by obtain ⟨A', c', e', hc', hC', _⟩ := HO4.out.reads; cases e'; exact hC')
  have hcv : IntKind.u64.wrap (l.length : Int) = (l.length : Int) := by have := HL.out; rw [IntKind.wrap_u64]; omega
  have CN := Aside0.mk (show ∀ W, Calls Try.prog 12 #[.int .u64 (l.length : Int)] W (FormP (Rd.wnum l.length) W) from fun W => by have := ref_num (l.length : Int) (by omega) (by have := HL.out; omega) W; rwa [Int.toNat_natCast] at this)
  clear x0 x1 hcut2 X0 X1 l0 l1 l2 l3 HO4 HO3 HB3 HB4 HCM HO2 HB2 HA
  go_wp2_with (first | (go_at_call 12; (with_reducible refine (CN.out _).mono ?_); rintro e w5 ⟨A5, c5, rfl, hc5, ho, hb⟩; have HO5 := Aside0.mk ho; have HB5 := Aside0.mk hb; clear ho hb))
  have hlm : l.length ≤ 1048576 := HL.out
  clear hcv CN
  go_loopw [8, 9] (fun v i w' => ∃ k : Nat, i = .int .i64 k ∧ k ≤ l.length ∧ Aside0 (Rd.Own w' w4.heap.size v (Rd.wnum l.length ++ ((l.take k).map pairB).flatten)) ∧ Aside0 (Below w4.heap.size w4 w')) (fun _ i _ => l.length - (intOf i).toNat)
  case atStart => exact ⟨0, rfl, Nat.zero_le _, ⟨by simpa using HO5.out⟩, HB5⟩
  case round =>
    clear HO5 HB5
    obtain ⟨k, rfl, hk, ho, hb⟩ := hrel
    by_cases hlt : k < l.length
    · obtain ⟨a1, ea1, x0, x1⟩ := at_pair (Kd.C_below CL.out hb.out) k hlt
      subst ea1
      obtain ⟨a2, ea2, y0, y1⟩ := at_pair (Kd.C_below CM.out hb.out) k (by have := ML.out; omega)
      cases ea2
      have hmk : m[k]'(by have := ML.out; omega) = l[k] := by simp [EM.out, hlt]
      rw [hmk] at y0 y1
      have UK := Aside0.mk (HU.out _ (List.getElem_mem hlt))
      have PS := Aside0.mk (put_step l k hlt)
      have PL := Aside0.mk (put_len l k)
      clear hmk
      generalize l[k] = p at x0 x1 y0 y1 UK PS
      obtain ⟨p1, p2⟩ := p
      have LOW := Aside0.mk (show a1.block < w4.heap.size from by obtain ⟨a', ea', z0, _⟩ := at_pair CL.out k hlt; cases ea'; have := World.block_lt_of_cell? w4 _ z0; rwa [add_block] at this)
      have k0 : (0 : Int) ≤ (k : Int) := by omega
      have k1 : (k : Int) < (l.length : Int) := by omega
      have k2 : (k : Int) < (m.length : Int) := by have := ML.out; omega
      have R1 := Aside0.mk (fun W => ref_num p1 UK.out.1 UK.out.2.1 W)
      have R2 := Aside0.mk (fun W => ref_num p2 UK.out.2.2.1 UK.out.2.2.2 W)
      go_upto_region 9 with fail
      go_quiet (fail)
      go_upto_region 11 with fail
      have hp2 : wr.cell? (a1.add (k * 2 + 1)) = some (.int .u64 p2) := at_next x1
      have HOd := Aside0.mk (show Rd.Own (wr.drewN nq).drew w4.heap.size u8 (Rd.wnum l.length ++ ((l.take k).map pairB).flatten) from Kd.R_drew (Kd.R_drewN ho.out nq))
      have HBd := Aside0.mk (show Below w4.heap.size w4 (wr.drewN nq).drew from below_drew1 (pw_below_drewN hb.out nq))
      have d0 : (wr.drewN nq).drew.cell? (a1.add (k * 2)) = some (.int .u64 p1) := x0
      have d1 : (wr.drewN nq).drew.cell? (a1.add (k * 2 + 1)) = some (.int .u64 p2) := hp2
      have d2 : (wr.drewN nq).drew.cell? ⟨(a1.add (k * 2)).block, (a1.add (k * 2)).off + 1, none⟩ = some (.int .u64 p2) := x1
      clear x0 x1 y0 y1 hp2
      refine start_ (n := 16) (S := fun w' => w'.cell? (a1.add (k * 2)) = some (.int .u64 p1) ∧ w'.cell? (a1.add (k * 2 + 1)) = some (.int .u64 p2) ∧ w'.cell? ⟨(a1.add (k * 2)).block, (a1.add (k * 2)).off + 1, none⟩ = some (.int .u64 p2)) (ds := []) #[false, false, false, false, false, false, false, false, false, false, false, false, false, false, false, false] (by kernel_rfl) rfl rfl ⟨d0, d1, d2⟩ (fun hHeld => ?_)
      generalize (wr.drewN nq).drew = w6 at hHeld HOd HBd d0 d1 d2 ⊢
      refine pure_ (i := 0) (N := some 67) (v := ?_) (a' := ?_) #[true, false, false, false, false, false, false, false, false, false, false, false, false, false, false, false] rfl rfl (by kernel_rfl) (fun _ _ _ h => h) (Or.inl ⟨by rfl, ?_⟩) ?_ ?_
      rotate_left
      · intro w'
        go_simp
        with_reducible rfl
      rotate_left
      · simp only [Act.put, List.setIfInBounds_toArray, List.set_cons_zero, List.set_cons_succ, i64_w, i32_w]
        rfl
      refine pure_ (i := 1) (N := some 68) (v := ?_) (a' := ?_) #[true, true, false, false, false, false, false, false, false, false, false, false, false, false, false, false] rfl rfl (by kernel_rfl) (fun _ _ _ h => h) (Or.inl ⟨by rfl, ?_⟩) ?_ ?_
      rotate_left
      · intro w'
        go_simp
        with_reducible rfl
      rotate_left
      · simp only [Act.put, List.setIfInBounds_toArray, List.set_cons_zero, List.set_cons_succ, i64_w, i32_w]
        rfl
      refine pure_ (i := 2) (N := some 69) (v := ?_) (a' := ?_) #[true, true, true, false, false, false, false, false, false, false, false, false, false, false, false, false] rfl rfl (by kernel_rfl) (fun _ _ _ h => h) (Or.inl ⟨by rfl, ?_⟩) ?_ ?_
      rotate_left
      · intro w'
        go_simp
        with_reducible rfl
      rotate_left
      · simp only [Act.put, List.setIfInBounds_toArray, List.set_cons_zero, List.set_cons_succ, i64_w, i32_w]
        rfl
      refine pure_ (i := 3) (N := some 70) (v := ?_) (a' := ?_) #[true, true, true, true, false, false, false, false, false, false, false, false, false, false, false, false] rfl rfl (by kernel_rfl) (fun _ _ _ h => h) (Or.inl ⟨by rfl, ?_⟩) ?_ ?_
      rotate_left
      · intro w'
        go_simp
        with_reducible rfl
      rotate_left
      · simp only [Act.put, List.setIfInBounds_toArray, List.set_cons_zero, List.set_cons_succ, i64_w, i32_w]
        rfl
      refine pure_ (i := 4) (N := some 71) (v := ?_) (a' := ?_) #[true, true, true, true, true, false, false, false, false, false, false, false, false, false, false, false] rfl rfl (by kernel_rfl) (fun _ _ _ h => h) (Or.inl ⟨by rfl, ?_⟩) ?_ ?_
      rotate_left
      · intro w'
        go_simp
        with_reducible rfl
      rotate_left
      · simp only [Act.put, List.setIfInBounds_toArray, List.set_cons_zero, List.set_cons_succ, i64_w, i32_w]
        rfl
      refine take_ (i := 5) (N := some 72) (v := ?_) (a' := ?_) #[true, true, true, true, true, true, false, false, false, false, false, false, false, false, false, false] rfl rfl (by kernel_rfl) (fun _ _ _ h => h) (Or.inl ⟨by rfl, ?_⟩) hHeld ?_ ?_
      rotate_left
      · rintro w' ⟨s0, s1, s2⟩
        go_simp
        with_reducible rfl
      rotate_left
      · simp only [Act.put, List.setIfInBounds_toArray, List.set_cons_zero, List.set_cons_succ, i64_w, i32_w]
        rfl
      refine pure_ (i := 8) (N := some 75) (v := ?_) (a' := ?_) #[true, true, true, true, true, true, false, false, true, false, false, false, false, false, false, false] rfl rfl (by kernel_rfl) (fun _ _ _ h => h) (Or.inl ⟨by rfl, ?_⟩) ?_ ?_
      rotate_left
      · intro w'
        go_simp
        with_reducible rfl
      rotate_left
      · simp only [Act.put, List.setIfInBounds_toArray, List.set_cons_zero, List.set_cons_succ, i64_w, i32_w]
        rfl
      refine pure_ (i := 9) (N := some 76) (v := ?_) (a' := ?_) #[true, true, true, true, true, true, false, false, true, true, false, false, false, false, false, false] rfl rfl (by kernel_rfl) (fun _ _ _ h => h) (Or.inl ⟨by rfl, ?_⟩) ?_ ?_
      rotate_left
      · intro w'
        go_simp
        with_reducible rfl
      rotate_left
      · simp only [Act.put, List.setIfInBounds_toArray, List.set_cons_zero, List.set_cons_succ, i64_w, i32_w]
        rfl
      refine pure_ (i := 10) (N := some 77) (v := ?_) (a' := ?_) #[true, true, true, true, true, true, false, false, true, true, true, false, false, false, false, false] rfl rfl (by kernel_rfl) (fun _ _ _ h => h) (Or.inl ⟨by rfl, ?_⟩) ?_ ?_
      rotate_left
      · intro w'
        go_simp
        with_reducible rfl
      rotate_left
      · simp only [Act.put, List.setIfInBounds_toArray, List.set_cons_zero, List.set_cons_succ, i64_w, i32_w]
        rfl
      refine pure_ (i := 11) (N := some 78) (v := ?_) (a' := ?_) #[true, true, true, true, true, true, false, false, true, true, true, true, false, false, false, false] rfl rfl (by kernel_rfl) (fun _ _ _ h => h) (Or.inl ⟨by rfl, ?_⟩) ?_ ?_
      rotate_left
      · intro w'
        go_simp
        with_reducible rfl
      rotate_left
      · simp only [Act.put, List.setIfInBounds_toArray, List.set_cons_zero, List.set_cons_succ, i64_w, i32_w]
        rfl
      refine take_ (i := 12) (N := some 79) (v := ?_) (a' := ?_) #[true, true, true, true, true, true, false, false, true, true, true, true, true, false, false, false] rfl rfl (by kernel_rfl) (fun _ _ _ h => h) (Or.inl ⟨by rfl, ?_⟩) hHeld ?_ ?_
      rotate_left
      · rintro w' ⟨s0, s1, s2⟩
        go_simp
        with_reducible rfl
      rotate_left
      · simp only [Act.put, List.setIfInBounds_toArray, List.set_cons_zero, List.set_cons_succ, i64_w, i32_w]
        rfl
      refine one_ (i := 6) (N := some 73) #[true, true, true, true, true, true, true, false, true, true, true, true, true, false, false, false] rfl rfl (by kernel_rfl) (by decide) (fun K hK => ?_)
      refine goes_ Try.func12 (by kernel_rfl) rfl #[.int .u64 p1] (by rfl) rfl rfl (by (try simp only [List.map_toArray, List.map_cons, List.map_nil]); first | done | rfl) ?_
      with_reducible refine (R1.out w6).mono ?_
      rintro e w7 ⟨A7, c7, rfl, hc7, ho7, hb7⟩
      have HO7 := Aside0.mk ho7
      have HB7 := Aside0.mk hb7
      refine ⟨_, rfl, ?_⟩
      refine hK.out _ _ ⟨pw_cell_below hb7 d0, pw_cell_below hb7 d1, pw_cell_below hb7 d2⟩ (fun hHeld => ?_)
      clear hK K
      refine norm_ (a' := ?_) ?_ ?_
      rotate_left
      · show Act.put _ (some 73) _ = _
        simp only [Act.put, List.setIfInBounds_toArray, List.set_cons_zero, List.set_cons_succ, i64_w, i32_w]
        rfl
      refine one_ (i := 7) (N := some 74) #[true, true, true, true, true, true, true, true, true, true, true, true, true, false, false, false] rfl rfl (by kernel_rfl) (by decide) (fun K hK => ?_)
      refine Rd.append_step (W := w7) w4.heap.size rfl (.tmp 67) (.tmp 73) rfl u8 (Rd.wnum l.length ++ ((l.take k).map pairB).flatten) (Rd.wnum p1.toNat) A7 (Rd.wnum p1.toNat).length c7 rfl rfl (HOd.out.below HB7.out) (by obtain ⟨A', c', e', hc', hC', _⟩ := HO7.out.reads; cases e'; exact hC') (Nat.le_trans HBd.out.size HB7.out.size) (by have := PL.out; have := Rd.wnum_len p1.toNat; omega) ?_
      intro v8 w8 ho8 hb8
      have HO8 := Aside0.mk ho8
      have HB8 := Aside0.mk ((below_step HBd.out HB7.out).trans hb8)
      have HBL8 := Aside0.mk hb8
      refine hK.out _ _ ?_ (fun hHeld => ?_)
      · exact ⟨(hb8.cell (by have := Kd.C_below CL.out HB8.out; rw [add_block]; exact LOW.out)).trans (pw_cell_below hb7 d0), (hb8.cell (by rw [add_block]; exact LOW.out)).trans (pw_cell_below hb7 d1), (hb8.cell (p := ⟨(a1.add (k * 2)).block, (a1.add (k * 2)).off + 1, none⟩) (by show (a1.add (k * 2)).block < _; rw [add_block]; exact LOW.out)).trans (pw_cell_below hb7 d2)⟩
      clear hK K
      refine norm_ (a' := ?_) ?_ ?_
      rotate_left
      · show Act.put _ (some 74) _ = _
        simp only [Act.put, List.setIfInBounds_toArray, List.set_cons_zero, List.set_cons_succ, i64_w, i32_w]
        rfl
      refine one_ (i := 13) (N := some 80) #[true, true, true, true, true, true, true, true, true, true, true, true, true, true, false, false] rfl rfl (by kernel_rfl) (by decide) (fun K hK => ?_)
      refine goes_ Try.func12 (by kernel_rfl) rfl #[.int .u64 p2] (by rfl) rfl rfl (by (try simp only [List.map_toArray, List.map_cons, List.map_nil]); first | done | rfl) ?_
      with_reducible refine (R2.out w8).mono ?_
      rintro e w9 ⟨A9, c9, rfl, hc9, ho9, hb9⟩
      have HO9 := Aside0.mk ho9
      have HB9 := Aside0.mk hb9
      refine ⟨_, rfl, ?_⟩
      refine hK.out _ _ ⟨pw_cell_below hb9 hHeld.1, pw_cell_below hb9 hHeld.2.1, pw_cell_below hb9 hHeld.2.2⟩ (fun hHeld => ?_)
      clear hK K
      refine norm_ (a' := ?_) ?_ ?_
      rotate_left
      · show Act.put _ (some 80) _ = _
        simp only [Act.put, List.setIfInBounds_toArray, List.set_cons_zero, List.set_cons_succ, i64_w, i32_w]
        rfl
      refine one_ (i := 14) (N := some 81) #[true, true, true, true, true, true, true, true, true, true, true, true, true, true, true, false] rfl rfl (by kernel_rfl) (by decide) (fun K hK => ?_)
      refine Rd.append_step (W := w9) w4.heap.size rfl (.tmp 74) (.tmp 80) rfl v8 ((Rd.wnum l.length ++ ((l.take k).map pairB).flatten) ++ Rd.wnum p1.toNat) (Rd.wnum p2.toNat) A9 (Rd.wnum p2.toNat).length c9 rfl rfl (HO8.out.below HB9.out) (by obtain ⟨A', c', e', hc', hC', _⟩ := HO9.out.reads; cases e'; exact hC') (Nat.le_trans HB8.out.size HB9.out.size) (by have := PL.out; have := Rd.wnum_len p1.toNat; have := Rd.wnum_len p2.toNat; rw [List.length_append]; omega) ?_
      intro v10 w10 ho10 hb10
      have HO10 := Aside0.mk ho10
      have HB10 := Aside0.mk ((below_step HB8.out HB9.out).trans hb10)
      refine hK.out _ _ ?_ (fun hHeld => ?_)
      · exact ⟨(hb10.cell (by rw [add_block]; exact LOW.out)).trans hHeld.1, (hb10.cell (by rw [add_block]; exact LOW.out)).trans hHeld.2.1, (hb10.cell (p := ⟨(a1.add (k * 2)).block, (a1.add (k * 2)).off + 1, none⟩) (by show (a1.add (k * 2)).block < _; rw [add_block]; exact LOW.out)).trans hHeld.2.2⟩
      clear hK K
      refine norm_ (a' := ?_) ?_ ?_
      rotate_left
      · show Act.put _ (some 81) _ = _
        simp only [Act.put, List.setIfInBounds_toArray, List.set_cons_zero, List.set_cons_succ, i64_w, i32_w]
        rfl
      refine pure_ (i := 15) (N := some 8) (v := ?_) (a' := ?_) #[true, true, true, true, true, true, true, true, true, true, true, true, true, true, true, true] rfl rfl (by kernel_rfl) (fun _ _ _ h => h) (Or.inl ⟨by rfl, ?_⟩) ?_ ?_
      rotate_left
      · intro w'
        go_simp
        with_reducible rfl
      rotate_left
      · simp only [Act.put, List.setIfInBounds_toArray, List.set_cons_zero, List.set_cons_succ, i64_w, i32_w]
        rfl
      refine done_ (by kernel_rfl) ?_
      go_wp2
      go_roundw
      case rel => exact ⟨k + 1, by go_num, by omega, ⟨by rw [PS.out]; unfold pairB; rw [← List.append_assoc]; exact HO10.out⟩, HB10⟩
      case measure => simp [intOf]; omega
    · obtain rfl : k = l.length := by omega
      have ho' : Rd.Own wr w4.heap.size u8 (putB l) := by have h := ho.out; rw [List.take_length] at h; exact h
      obtain ⟨A8, c8, rfl, hc8, hC8, hlo8⟩ := ho'.reads
      have C8 := Aside0.mk hC8
      have hle := putB_len l
      have CO := Aside0.mk (Rd.open_ A3 c3 (putB l) wr (Kd.C_below CB.out hb.out) hc3 (putB_byt l HU.out (by omega)) (by omega))
      have HB0 := Aside0.mk hb.out
      have BYT := Aside0.mk (putB_byt l HU.out (by omega))
      have FEW := Aside0.mk (fun h0 => fewer l h0 (by omega))
      have BACK := Aside0.mk (back l HU.out (by omega))
      have SHORT := Aside0.mk (short l HU.out (by omega))
      clear ho ho' hC8 hlo8
      generalize putB l = b at hc3 hc8 C8 CB CO BYT FEW BACK SHORT hle ⊢
      have HLE := Aside0.mk hle
      clear hle hlt hk
      go_upto_region 15 with (first | (go_at_call 19; (with_reducible refine CO.out.mono ?_); rintro e w6 ⟨g, y, rfl, hi, hy, hg, hb6⟩; have HI := Aside0.mk hi; have HG := Aside0.mk (Nat.le_trans HB0.out.size hg); have HB6 := Aside0.mk (below_step HB0.out hb6); have hcv1 := Kd.C_string (P := Try.prog) (A := A3) (c := c3) Try.underlying23 Try.underlying5 Try.underlying9 (Kd.C_below CB.out HB6.out); have hcv2 := Kd.C_string (P := Try.prog) (A := A8) (c := c8) Try.underlying23 Try.underlying5 Try.underlying9 (Kd.C_below C8.out hb6); clear hi hy hg hb6))
      clear hcv1 hcv2 CO
      go_upto_if 95 with fail
      go_cut [] (fun wc => Aside0 (Rd.Is wc g y b 0) ∧ Aside0 (Below w4.heap.size w4 wc))
      case first =>
        by_cases h0 : 0 < l.length
        · have CT := Aside0.mk (show Calls Try.prog 29 #[.pointer (some ⟨g, 0, none⟩), .int .i64 ((l.length : Int) - 1), .func (.func 30) #[] #[]] w6 (TakeP (3, [], 0) g y b w6) from by
            have h := take g y b 0 (l.length - 1) w6 HI.out (by have := HLE.out; omega) (by omega)
            rw [FEW.out h0, show ((l.length - 1 : Nat) : Int) = (l.length : Int) - 1 by omega] at h
            exact h)
          have CF := Aside0.mk (fun (W : World) (hi : Rd.Is W g y b 0) => (show Calls Try.prog 26 #[.pointer (some ⟨g, 0, none⟩)] W fun e w' => e = .returned (.int .i64 (b.length : Int)) ∧ Drawn0 W w' from (Rd.left g y b 0 W hi).mono fun e w' ⟨h1, h2⟩ => ⟨h1, ⟨h2⟩⟩))
          go_wp2_with (first | (go_at_call 29; (with_reducible refine CT.out.mono ?_); rintro e w7 ⟨v7, rfl, ho7, hi7, hg7⟩; dsimp only at ho7 hi7; obtain ⟨A7, c7, rfl, hc7, _, _⟩ := ho7.reads; have HI7 := Aside0.mk hi7; have HB7 := Aside0.mk (HB6.out.grown hg7 HB6.out.size (fun k hk => by cases hk; exact HG.out)); clear ho7 hi7 hg7) | (go_at_call 24; refine (num_call _ _).mono ?_; rintro e w8 ⟨rfl, hd⟩; have HI8 := Aside0.mk (HI7.out.below hd.below); have HB8 := Aside0.mk (below_step HB7.out hd.below); clear hd) | (go_at_call 26; (with_reducible refine (CF.out _ HI8.out).mono ?_); rintro e w9 ⟨rfl, hd⟩; have HI9 := Aside0.mk (HI8.out.below hd.below); have HB9 := Aside0.mk (below_step HB8.out hd.below); clear hd))
          go_meet
          exact ⟨HI9, HB9⟩
        · go_wp2
          go_meet
          exact ⟨HI, HB6⟩
      case rest =>
        clear HI HB6
        obtain ⟨HI, HB6⟩ := hcut
        obtain ⟨w7, hw7⟩ : ∃ W, W = wc := ⟨_, rfl⟩
        subst hw7
        have CT := Aside0.mk (show Calls Try.prog 29 #[.pointer (some ⟨g, 0, none⟩), .int .i64 (l.length : Int), .func (.func 30) #[] #[]] w7 (TakeP (0, l, b.length) g y b w7) from by
          have h := take g y b 0 l.length w7 HI.out (by have := HLE.out; omega) (by omega)
          rw [BACK.out] at h
          exact h)
        have CF := Aside0.mk (fun (W : World) (hi : Rd.Is W g y b b.length) => (show Calls Try.prog 26 #[.pointer (some ⟨g, 0, none⟩)] W fun e w' => e = .returned (.int .i64 0) ∧ Drawn0 W w' from (Rd.left g y b b.length W hi).mono fun e w' ⟨h1, h2⟩ => ⟨by rw [h1, Nat.sub_self]; rfl, ⟨h2⟩⟩))
        go_upto_region 23 with (first | (go_at_call 29; (with_reducible refine CT.out.mono ?_); rintro e w8 ⟨v8, rfl, ho8, hi8, hg8⟩; dsimp only at ho8 hi8; obtain ⟨A9, c9, rfl, hc9, hC9, _⟩ := ho8.reads; have HI8 := Aside0.mk hi8; have HB8 := Aside0.mk (HB6.out.grown hg8 HB6.out.size (fun k hk => by cases hk; exact HG.out)); have C9 := Aside0.mk hC9; clear ho8 hi8 hg8 hC9) | (go_at_call 24; refine (num_call _ _).mono ?_; rintro e w9 ⟨rfl, hd⟩; have HI9 := Aside0.mk (HI8.out.below hd.below); have HB9 := Aside0.mk (below_step HB8.out hd.below); have C9' := Aside0.mk (Kd.C_below C9.out hd.below); clear hd) | (go_at_call 26; (with_reducible refine (CF.out _ HI9.out).mono ?_); rintro e w10 ⟨rfl, hd⟩; have HB10 := Aside0.mk (below_step HB9.out hd.below); have C10 := Aside0.mk (Kd.C_below C9'.out hd.below); clear hd))
        clear HI HI8 HI9 HB6 HB8 HB9 C9 C9' CT CF HB0
        go_loopw [15] (fun i w' => ∃ k : Nat, i = .int .i64 k ∧ k ≤ l.length ∧ Aside0 (Below w10.heap.size w10 w')) (fun i _ => l.length - (intOf i).toNat)
        case atStart => exact ⟨0, rfl, Nat.zero_le _, ⟨Below.refl _ _⟩⟩
        case round =>
          obtain ⟨k, rfl, hk, hb⟩ := hrel
          have HB11 := Aside0.mk (below_step HB10.out hb.out)
          by_cases hlt : k < l.length
          · obtain ⟨a1, ea1, x0, x1⟩ := at_pair (Kd.C_below CL.out HB11.out) k hlt
            subst ea1
            obtain ⟨a2, ea2, y0, y1⟩ := at_pair (Kd.C_below C10.out hb.out) k hlt
            subst ea2
            generalize l[k] = p at x0 x1 y0 y1
            obtain ⟨p1, p2⟩ := p
            have k0 : (0 : Int) ≤ (k : Int) := by omega
            have k1 : (k : Int) < (l.length : Int) := by omega
            go_upto_region 25 with fail
            go_quiet (fail)
            go_wp2
            go_roundw
            case rel => exact ⟨k + 1, by go_num, by omega, ⟨pw_below_drewN hb.out nq⟩⟩
            case measure => simp [intOf]; omega
          · by_cases hcut : 0 ≤ cut ∧ cut < (b.length : Int)
            · obtain ⟨n, rfl⟩ := Int.eq_ofNat_of_zero_le hcut.1
              have hn : n < b.length := by omega
              clear hcut
              obtain ⟨t, et⟩ : ∃ t, t = b.take n := ⟨_, rfl⟩
              have hr := Kd.C_take (m := n) (Kd.C_below CB.out HB11.out) (by omega)
              have hsh := SHORT.out n hn
              rw [← et] at hr hsh
              have tl : t.length = n := by rw [et, List.length_take]; omega
              obtain ⟨i0, hi0, _, hsz0, _⟩ := info_parts Rd.info_u8
              have hcut := cut_to (P := Try.prog) 23 5 .i64 Try.underlying23 hi0 A3 b.length c3 (n : Int) (by omega) (by omega) hc3
              rw [Int.toNat_natCast, ← tl] at hcut
              have CO2 := Aside0.mk (Rd.open_ A3 c3 t wr hr (by omega) (fun x hx => BYT.out x (by rw [et] at hx; exact List.mem_of_mem_take hx)) (by have := HLE.out; omega))
              have CT2 := Aside0.mk (fun (g' y' : Nat) (W : World) (hi : Rd.Is W g' y' t 0) => (show Calls Try.prog 29 #[.pointer (some ⟨g', 0, none⟩), .int .i64 (l.length : Int), .func (.func 30) #[] #[]] W (TakeP (4, [], 0) g' y' t W) from by
                have h := take g' y' t 0 l.length W hi (by have := HLE.out; omega) (by omega)
                rw [hsh] at h
                exact h))
              have CF2 := Aside0.mk (fun (g' y' : Nat) (W : World) (hi : Rd.Is W g' y' t 0) => (show Calls Try.prog 26 #[.pointer (some ⟨g', 0, none⟩)] W fun e w' => e = .returned (.int .i64 (t.length : Int)) ∧ Drawn0 W w' from (Rd.left g' y' t 0 W hi).mono fun e w' ⟨h1, h2⟩ => ⟨h1, ⟨h2⟩⟩))
              have n0 : ¬ (n : Int) < 0 := by omega
              have n1 : ¬ (b.length : Int) ≤ (n : Int) := by omega
              have n2 : ¬ b.length ≤ n := by omega
              clear hi0 hsz0 hr hsh et hn
              subst tl
              go_wp2_with (first | (go_at_call 19; (with_reducible refine CO2.out.mono ?_); rintro e w12 ⟨g', y', rfl, hi, hy, hg, hb12⟩; have HI12 := Aside0.mk hi; have HG12 := Aside0.mk (Nat.le_trans HB11.out.size hg); have HB12 := Aside0.mk (below_step HB11.out hb12); clear hi hy hg hb12) | (go_at_call 29; (with_reducible refine (CT2.out _ _ _ HI12.out).mono ?_); rintro e w13 ⟨v13, rfl, ho, hi, hg⟩; dsimp only at ho hi; obtain ⟨A13, c13, rfl, hc13, _, _⟩ := ho.reads; have HI13 := Aside0.mk hi; have HB13 := Aside0.mk (HB12.out.grown hg HB12.out.size (fun k hk => by cases hk; exact HG12.out)); clear ho hi hg) | (go_at_call 24; refine (num_call _ _).mono ?_; rintro e w14 ⟨rfl, hd⟩; have HI14 := Aside0.mk (HI13.out.below hd.below); have HB14 := Aside0.mk (below_step HB13.out hd.below); clear hd) | (go_at_call 26; (with_reducible refine (CF2.out _ _ _ HI14.out).mono ?_); rintro e w15 ⟨rfl, hd⟩; have HB15 := Aside0.mk (below_step HB14.out hd.below); clear hd) | (go_at_call 18; (refine (known_call _).mono ?_); rintro e w16 ⟨rfl, hb16⟩; have HB16 := Aside0.mk (below_step HB15.out hb16); clear hb16))
              go_ret
              exact ⟨rfl, HBW.out.trans (HB16.out.mono HBW.out.size)⟩
            · have hcond : decide (cut < 0) = true ∨ (decide (cut < 0) = false ∧ decide ((b.length : Int) ≤ cut) = true) := by
                by_cases h1 : cut < 0
                · exact Or.inl (decide_eq_true h1)
                · exact Or.inr ⟨decide_eq_false h1, decide_eq_true (by omega)⟩
              clear hcut
              rcases hcond with h1 | ⟨h1, h2⟩
              · go_wp2_with (first | (go_at_call 18; (refine (known_call _).mono ?_); rintro e w12 ⟨rfl, hb12⟩; have HB12 := Aside0.mk (below_step HB11.out hb12); clear hb12))
                go_ret
                exact ⟨rfl, HBW.out.trans (HB12.out.mono HBW.out.size)⟩
              · go_wp2_with (first | (go_at_call 18; (refine (known_call _).mono ?_); rintro e w12 ⟨rfl, hb12⟩; have HB12 := Aside0.mk (below_step HB11.out hb12); clear hb12))
                go_ret
                exact ⟨rfl, HBW.out.trans (HB12.out.mono HBW.out.size)⟩
end Go.Proofs.Ytmghnbdbhdljjaa.Li
