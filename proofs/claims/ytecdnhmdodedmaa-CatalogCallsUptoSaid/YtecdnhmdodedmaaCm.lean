/- catalog.Entries: a row's entries. -/
import Derived.Test.YtecdnhmdodedmaaCk
namespace Go.Proofs.Ytecdnhmdodedmaa.Ch
open Go.RowKit Go.Proofs.YtecdnhmdodedmaaW.PrintWords Go.Proofs.YtecdnhmdodedmaaW.PrintLast Go.Proofs.YtecdnhmdodedmaaW.PrintMore Go.Proofs.Ytecdnhmdodedmaa.HS Go.Proofs.Ytecdnhmdodedmaa.Ca Go.Proofs.Ytecdnhmdodedmaa.It
attribute [local go_sem] max2_int min2_int max_two min_two
set_option linter.unusedVariables false
set_option linter.unusedSimpArgs false
/-- A field's and a key's entry. -/
def entryL (f k : List Int) : List Int := (frontB f ++ [0, 1]) ++ k
/-- How many entries a row has. -/
def entN (j : Job) (t : Int) (r : List (List Int)) : Nat := min (rd j.ts t).toNat (r.length - 1)
def entF (j : Job) (t : Int) (key : List Int) (r : List (List Int)) (n : Nat) : List S62 := (List.range n).map fun (i : Nat) => ⟨(treeL j t (i : Int)).1, entryL (rd_L2 r ((i + 1 : Nat) : Int)) key⟩
def entB (j : Job) (t : Int) (key : List Int) (r : List (List Int)) : Bool := ok j && (wi t 0 ((j.ts.length : Int) - 1) && (keyB key && (decide (r.length = 0) || mayB r)))
def entriesL (j : Job) (t : Int) (key : List Int) (r : List (List Int)) : List S62 × Int := if entB j t key r = true then (entF j t key r (entN j t r), 0) else ([], 2)
theorem entF_snoc (j : Job) (t : Int) (key : List Int) (r : List (List Int)) (n : Nat) : entF j t key r (n + 1) = entF j t key r n ++ [⟨(treeL j t (n : Int)).1, entryL (rd_L2 r ((n + 1 : Nat) : Int)) key⟩] := by
  unfold entF
  rw [List.range_succ, List.map_append]
  rfl
theorem frontB_len (f : List Int) : (frontB f).length ≤ 2 * f.length := by
  unfold frontB
  induction f with
  | nil => simp
  | cons x r ih =>
    rw [List.map_cons, List.flatten_cons, List.length_append, List.length_cons]
    by_cases h : x = 0
    · rw [if_pos h]; simp only [List.length_cons, List.length_nil]; omega
    · rw [if_neg h]; simp only [List.length_cons, List.length_nil]; omega
theorem keyB_iff (k : List Int) : keyB k = true ↔ 1 ≤ k.length ∧ k.length ≤ 32 := by simp [keyB]
theorem rowEntry (A : Option Addr) (c : Nat) (f : List Int) (B : Option Addr) (d : Nat) (k : List Int) (w : World) (hA : Kd.C (Kd.int .u8) w A f.length f) (hc : f.length ≤ c) (hB : Kd.C (Kd.int .u8) w B k.length k) (hd : k.length ≤ d) (hf : f.length ≤ 24) (hk : keyB k = true) :
    Calls Try.prog 46 #[.slice A f.length c, .slice B k.length d] w fun e w' => ∃ v : Value, e = .returned (.tuple #[v, .int .i64 0]) ∧ Kd.R (Kd.int .u8) 5 w' w.heap.size (fun _ => True) v (entryL f k) ∧ Below w.heap.size w w' := by
  obtain ⟨k1, k2⟩ := (keyB_iff k).1 hk
  refine row_Entry.calls A c f B d k (entryL f k) 0 w hA hc hB hd ?_
  have hl := frontB_len f
  unfold row_Entry.f row_Front.f row_MayKey.f
  rw [if_pos hf]
  simp only [Option.bind_some]
  rw [if_pos trivial, if_pos (by omega), decide_eq_true (by omega)]
  simp only [Option.bind_some]
  rw [if_pos trivial, if_pos (by simp only [List.length_cons, List.length_nil]; omega), if_pos (by simp only [List.length_append, List.length_cons, List.length_nil]; omega)]
  rfl
theorem mayB_iff (l : List (List Int)) : mayB l = true ↔ 1 ≤ l.length ∧ l.length ≤ 3 ∧ ∀ f ∈ l, f.length ≤ 24 := by simp [mayB]
theorem rd_L2_mem (r : List (List Int)) (i : Nat) (h : i < r.length) : rd_L2 r (i : Int) ∈ r := by
  have : rd_L2 r (i : Int) = r[i] := by simp [rd_L2, List.getD, h]
  rw [this]
  exact List.getElem_mem h
section
variable {ops : Array Oper} {o : Oper} {a : Act} {Q : Exit → Act → World → Prop} {rest : List Oper}
/-- Entries of the call's own. -/
def OwnF (W : World) (base : Nat) (v : Value) (xs : List S62) : Prop := Kd.R k62 62 W base (fun k => base ≤ k) v xs
theorem append_own {W : World} (base : Nat) (hgd : o.guard = none) (s x : Operand)
    (ho : o.op = .call { callee := .builtin .append, args := #[s, x], argTypes := #[47, 47] })
    (v : Value) (xs : List S62) (p : S62) (v1 : Value) (b1 : Nat) (hs : a.eval s = v) (hx : a.eval x = .slice (some ⟨W.heap.size, 0, none⟩) 1 1)
    (hb1 : base ≤ b1) (hlt : ∀ k, v.ownBlock = some k → k < b1) (hp : Kd.R (Kd.int .u8) 5 W b1 (fun _ => True) v1 p.f1)
    (HO : OwnF W base v xs) (hbase : base ≤ W.heap.size) (hl : (xs.length + 1) * 32 ≤ 140737488355328)
    (h : ∀ v1 w1, OwnF w1 base v1 (xs ++ [p]) → Below base W w1 → wpList Try.prog ops Q rest (a.put o.dst v1) w1) : wpList Try.prog ops Q (o :: rest) a (W.alloc (.cells #[.int .i64 p.f0, v1] 62)) :=
  Kd.R_append (P := Try.prog) k62 (w0 := W) base hgd s x 47 62 (.agg #[(.int .i64 0), (.slice none 0 0)]) 32 ho Try.underlying47 info62 rfl (by decide) (by decide) v xs p [.int .i64 p.f0, v1] (fun k => base ≤ k) (fun k => b1 ≤ k) hs hx
    (k62_mkM W base _ p (Kd.R_mono (Kd.R_lower (Kd.R_bound hp) hb1) (fun k hk => hk.2.1)))
    (fun k hk => ⟨Nat.le_trans hb1 hk, fun e => by have := hlt k e.symm; omega⟩) (fun k hk => Nat.le_trans hbase hk) HO (Below.refl _ _) hbase hl
    (fun v1 w1 h1 h2 _ _ => h v1 w1 h1 h2)
end
def EntP2 (R : List S62 × Int) (w : World) (e : Ending) (w' : World) : Prop := ∃ A c, e = .returned (.tuple #[.slice A R.1.length c, .int .i64 R.2]) ∧ R.1.length ≤ c ∧ Kd.C k62 w' A R.1.length R.1 ∧ Below w.heap.size w w'
theorem entP2_nil (w w' : World) (h : Below w.heap.size w w') : EntP2 ([], 2) w (.returned (.tuple #[.slice none 0 0, .int .i64 2])) w' := ⟨none, 0, rfl, Nat.le_refl _, Kd.C_nil _ _, h⟩
theorem OwnF.reads {W : World} {base : Nat} {v : Value} {xs : List S62} (h : OwnF W base v xs) : ∃ A c, v = .slice A xs.length c ∧ xs.length ≤ c ∧ Kd.C k62 W A xs.length xs := Kd.R_reads h
theorem OwnF.below {W V : World} {base : Nat} {v : Value} {xs : List S62} (h : OwnF W base v xs) (hb : Below W.heap.size W V) : OwnF V base v xs := Kd.R_below h hb
theorem OwnF.lt {W : World} {base : Nat} {v : Value} {xs : List S62} (h : OwnF W base v xs) : ∀ k, v.ownBlock = some k → k < W.heap.size := fun k hk => own_lt (Kd.R_own h).choose_spec k hk
set_option maxHeartbeats 8000000 in
set_option maxRecDepth 100000 in
theorem entries_call (j : Job) (A : Option Addr) (n : Nat) (t : Int) (B : Option Addr) (d : Nat) (key : List Int) (D : Option Addr) (m : Nat) (r : List (List Int)) (w : World) (hj : j.In w A n)
    (hB : Kd.C (Kd.int .u8) w B key.length key) (hd : key.length ≤ d) (hD : Kd.C (Kd.slice 5 (Kd.int .u8)) w D r.length r) (hm : r.length ≤ m) :
    Calls Try.prog 20 #[.agg (j.v A n), .int .i64 t, .slice B key.length d, .slice D r.length m] w (EntP2 (entriesL j t key r) w) := by
  have CK := Aside0.mk (fun (W : World) (hi : j.In W A n) => check j A n W hi)
  have CT := Aside0.mk (fun (i : Int) (W : World) (hi : j.In W A n) => tree_in j A n t i W hi)
  have hb := below_alloc (Below.refl w.heap.size w) (.cells (j.v A n) 24)
  have hblk := blk_new w (.cells (j.v A n) 24)
  have HJB := Aside0.mk (JobAt.mk hblk (hj.below hb))
  have HKB := Aside0.mk (Kd.C_below hB hb)
  have HRB := Aside0.mk (Kd.C_below hD hb)
  have HB := Aside0.mk hb
  obtain ⟨R, hR⟩ : ∃ R, R = entriesL j t key r := ⟨_, rfl⟩
  rw [← hR]
  have HR := Aside0.mk hR
  have hE := ok_err j
  obtain ⟨E, eE⟩ : ∃ E, E = err (ok j) := ⟨_, rfl⟩
  rw [← eE] at CK hE
  have HD := Aside0.mk hd
  have HM := Aside0.mk hm
  clear hj hB hD hb hR eE hd hm
  unfold Job.v at *
  go_enter Try.func20, Try.ntmps20
  go_upto_region 1 with fail
  obtain ⟨P0, q0⟩ : ∃ B, w.heap.size = B := ⟨_, rfl⟩
  rw [q0] at hblk HJB ⊢
  generalize World.alloc _ _ = w2 at hblk HJB HKB HRB HB ⊢
  have K0 := Aside0.mk (fun (W : World) (hb : Below w2.heap.size w2 W) => (And.intro (pw_cell_below hb ((blk_cell hblk 0).trans rfl : w2.cell? ⟨P0, 0, none⟩ = some (.int .i64 j.w))) (And.intro (pw_cell_below hb ((blk_cell hblk 1).trans rfl : w2.cell? ⟨P0, 1, none⟩ = some (.int .i64 j.l))) (And.intro (pw_cell_below hb ((blk_cell hblk 2).trans rfl : w2.cell? ⟨P0, 2, none⟩ = some (.int .i64 j.wi))) (And.intro (pw_cell_below hb ((blk_cell hblk 3).trans rfl : w2.cell? ⟨P0, 3, none⟩ = some (.int .i64 j.c))) (And.intro (pw_cell_below hb ((blk_cell hblk 4).trans rfl : w2.cell? ⟨P0, 4, none⟩ = some (.int .i64 j.d))) (And.intro (pw_cell_below hb ((blk_cell hblk 5).trans rfl : w2.cell? ⟨P0, 5, none⟩ = some (.int .i64 j.e))) (pw_cell_below hb ((blk_cell hblk 6).trans rfl : w2.cell? ⟨P0, 6, none⟩ = some (.slice A j.ts.length n))))))))))
  obtain ⟨c0, c1, c2, c3, c4, c5, c6⟩ := K0.out w2 (Below.refl _ _)
  clear hblk q0
  have WT := Aside0.mk (fun (W : World) => within t 0 ((j.ts.length : Int) - 1) W)
  have MK := Aside0.mk (fun (W : World) (hb : Below w2.heap.size w2 W) => mayKey B d key W (Kd.C_below HKB.out hb) HD.out)
  have MR := Aside0.mk (fun (W : World) (hb : Below w2.heap.size w2 W) => rowMay D m r W (Kd.C_below HRB.out hb) HM.out)
  obtain ⟨bt, hbt⟩ : ∃ b, b = wi t 0 ((j.ts.length : Int) - 1) := ⟨_, rfl⟩
  obtain ⟨bk, hbk⟩ : ∃ b, b = keyB key := ⟨_, rfl⟩
  obtain ⟨bm, hbm⟩ : ∃ b, b = mayB r := ⟨_, rfl⟩
  rw [← hbt] at WT
  rw [← hbk] at MK
  rw [← hbm] at MR
  have HBT := Aside0.mk hbt
  have HBK := Aside0.mk hbk
  have HBM := Aside0.mk hbm
  have hj8 : j.ts.length ≤ 9223372036854775807 := HJB.out.inn.C.2.1
  obtain ⟨b, hbb⟩ : ∃ b, b = ok j := ⟨_, rfl⟩
  rw [← hbb] at hE
  have hE2 : (E != 0) = (!b) := by rw [← hE]; rfl
  clear hE
  have HBB := Aside0.mk hbb
  clear hbt hbk hbm hbb
  have NO := Aside0.mk (fun (h : (b && (bt && (bk && (decide (r.length = 0) || bm)))) = false) => (show R = ([], 2) from by
    rw [HR.out]; unfold entriesL entB; rw [← HBB.out, ← HBT.out, ← HBK.out, ← HBM.out, h]; rfl))
  cases b with
  | false =>
    rw [Bool.not_false] at hE2
    go_wp2_with (first | (go_at_call 11; (with_reducible refine (CK.out _ HJB.out.inn).mono ?_); rintro e w3 ⟨rfl, hb3⟩; have HB3 := Aside0.mk (below_step HB.out hb3); have HQ3 := Aside0.mk hb3; obtain ⟨z0, z1, z2, z3, z4, z5, z6⟩ := K0.out _ hb3; clear hb3) | (go_at_call 37; (with_reducible refine (WT.out _).mono ?_); rintro e w' ⟨rfl, rfl⟩) | (go_at_call 44; (with_reducible refine (MK.out _ HQ3.out).mono ?_); rintro e w' ⟨rfl, ⟨nd, rfl⟩⟩) | (go_at_call 45; (with_reducible refine (MR.out _ (pw_below_drewN HQ3.out _)).mono ?_); rintro e w' ⟨rfl, ⟨nd2, rfl⟩⟩))
    go_ret2
    rw [NO.out (by rfl)]
    exact entP2_nil _ _ (by first | exact HB3.out | exact pw_below_drewN HB3.out _ | exact pw_below_drewN (pw_below_drewN HB3.out _) _)
  | true =>
  rw [Bool.not_true] at hE2
  cases bt with
  | false =>
    go_wp2_with (first | (go_at_call 11; (with_reducible refine (CK.out _ HJB.out.inn).mono ?_); rintro e w3 ⟨rfl, hb3⟩; have HB3 := Aside0.mk (below_step HB.out hb3); have HQ3 := Aside0.mk hb3; obtain ⟨z0, z1, z2, z3, z4, z5, z6⟩ := K0.out _ hb3; clear hb3) | (go_at_call 37; (with_reducible refine (WT.out _).mono ?_); rintro e w' ⟨rfl, rfl⟩) | (go_at_call 44; (with_reducible refine (MK.out _ HQ3.out).mono ?_); rintro e w' ⟨rfl, ⟨nd, rfl⟩⟩) | (go_at_call 45; (with_reducible refine (MR.out _ (pw_below_drewN HQ3.out _)).mono ?_); rintro e w' ⟨rfl, ⟨nd2, rfl⟩⟩))
    go_ret2
    rw [NO.out (by rfl)]
    exact entP2_nil _ _ (by first | exact HB3.out | exact pw_below_drewN HB3.out _ | exact pw_below_drewN (pw_below_drewN HB3.out _) _)
  | true =>
  cases bk with
  | false =>
    go_wp2_with (first | (go_at_call 11; (with_reducible refine (CK.out _ HJB.out.inn).mono ?_); rintro e w3 ⟨rfl, hb3⟩; have HB3 := Aside0.mk (below_step HB.out hb3); have HQ3 := Aside0.mk hb3; obtain ⟨z0, z1, z2, z3, z4, z5, z6⟩ := K0.out _ hb3; clear hb3) | (go_at_call 37; (with_reducible refine (WT.out _).mono ?_); rintro e w' ⟨rfl, rfl⟩) | (go_at_call 44; (with_reducible refine (MK.out _ HQ3.out).mono ?_); rintro e w' ⟨rfl, ⟨nd, rfl⟩⟩) | (go_at_call 45; (with_reducible refine (MR.out _ (pw_below_drewN HQ3.out _)).mono ?_); rintro e w' ⟨rfl, ⟨nd2, rfl⟩⟩))
    go_ret2
    rw [NO.out (by rfl)]
    exact entP2_nil _ _ (by first | exact HB3.out | exact pw_below_drewN HB3.out _ | exact pw_below_drewN (pw_below_drewN HB3.out _) _)
  | true =>
  obtain ⟨t1, t2, t3⟩ := okT_le HBB.out.symm
  obtain ⟨f1, f2⟩ := (wi_iff _ _ _).1 HBT.out.symm
  have htl : t.toNat < j.ts.length := by omega
  obtain ⟨x, ex⟩ : ∃ x, x = rd j.ts t := ⟨_, rfl⟩
  have hx2 : 0 ≤ x ∧ x ≤ 2 := by
    have er : rd j.ts t = j.ts[t.toNat] := by simp [rd, List.getD, htl]
    rw [ex, er]
    exact t3 _ (List.getElem_mem htl)
  obtain ⟨x0, x1⟩ := hx2
  have EX := Aside0.mk ex
  have CX := Aside0.mk (fun (W : World) (hb : Below w2.heap.size w2 W) => (Kd.C_below HJB.out.inn.C hb))
  clear t3 ex t1 t2 htl
  have f3 : t < (j.ts.length : Int) := by omega
  obtain ⟨ad, ea, hx⟩ := Kd.at_int HJB.out.inn.C t (by omega) (by omega)
  subst ea
  rw [← EX.out] at hx
  have HX := Aside0.mk (fun (W : World) (hb : Below w2.heap.size w2 W) => pw_cell_below hb hx)
  clear hx
  by_cases hr0 : r.length = 0
  · have hR1 : R = ([], 0) := by
      rw [HR.out]
      unfold entriesL entB
      rw [← HBB.out, ← HBT.out, ← HBK.out, decide_eq_true hr0, show entN j t r = 0 by unfold entN; omega]
      rfl
    have HR1 := Aside0.mk hR1
    clear hR1
    go_upto_region 4 with (first | (go_at_call 11; (with_reducible refine (CK.out _ HJB.out.inn).mono ?_); rintro e w3 ⟨rfl, hb3⟩; have HB3 := Aside0.mk (below_step HB.out hb3); have HQ3 := Aside0.mk hb3; obtain ⟨z0, z1, z2, z3, z4, z5, z6⟩ := K0.out _ hb3; clear hb3) | (go_at_call 37; (with_reducible refine (WT.out _).mono ?_); rintro e w' ⟨rfl, rfl⟩) | (go_at_call 44; (with_reducible refine (MK.out _ HQ3.out).mono ?_); rintro e w' ⟨rfl, ⟨nd, rfl⟩⟩) | (go_at_call 45; (with_reducible refine (MR.out _ (pw_below_drewN HQ3.out _)).mono ?_); rintro e w' ⟨rfl, ⟨nd2, rfl⟩⟩))
    have hx := HX.out _ (pw_below_drewN HQ3.out nd)
    go_wp2
    refine wp_loop_rounds 1 ?_
    rw [rounds_succ]
    go_wp2
    go_ret2
    rw [HR1.out]
    exact ⟨none, 0, rfl, Nat.le_refl _, Kd.C_nil _ _, pw_below_drewN HB3.out _⟩
  · cases bm with
    | false =>
      have hr1 : 0 < r.length := by omega
      go_wp2_with (first | (go_at_call 11; (with_reducible refine (CK.out _ HJB.out.inn).mono ?_); rintro e w3 ⟨rfl, hb3⟩; have HB3 := Aside0.mk (below_step HB.out hb3); have HQ3 := Aside0.mk hb3; obtain ⟨z0, z1, z2, z3, z4, z5, z6⟩ := K0.out _ hb3; clear hb3) | (go_at_call 37; (with_reducible refine (WT.out _).mono ?_); rintro e w' ⟨rfl, rfl⟩) | (go_at_call 44; (with_reducible refine (MK.out _ HQ3.out).mono ?_); rintro e w' ⟨rfl, ⟨nd, rfl⟩⟩) | (go_at_call 45; (with_reducible refine (MR.out _ (pw_below_drewN HQ3.out _)).mono ?_); rintro e w' ⟨rfl, ⟨nd2, rfl⟩⟩))
      go_ret2
      rw [NO.out (by rw [decide_eq_false hr0]; rfl)]
      exact entP2_nil _ _ (by first | exact HB3.out | exact pw_below_drewN HB3.out _ | exact pw_below_drewN (pw_below_drewN HB3.out _) _)
    | true =>
      obtain ⟨m1, m2, m3⟩ := (mayB_iff r).1 HBM.out.symm
      have M3 := Aside0.mk m3
      obtain ⟨q, hq⟩ : ∃ q, q = entN j t r := ⟨_, rfl⟩
      have hq1 : (q : Int) ≤ x ∧ q + 1 ≤ r.length ∧ q ≤ 2 ∧ ((q : Int) = x ∨ (q : Int) = (r.length : Int) - 1) := by
        have h2 := EX.out
        rw [hq]
        unfold entN
        rw [← h2]
        omega
      obtain ⟨hq1, hq2, hq3, hq4⟩ := hq1
      have hR1 : R = (entF j t key r q, 0) := by
        rw [HR.out]
        unfold entriesL entB
        rw [← HBB.out, ← HBT.out, ← HBK.out, ← HBM.out, ← hq]
        simp
      have HR1 := Aside0.mk hR1
      have HQ := Aside0.mk hq1
      have HQ4 := Aside0.mk hq4
      clear hR1 m3 hq hq1 hq4
      go_upto_region 4 with (first | (go_at_call 11; (with_reducible refine (CK.out _ HJB.out.inn).mono ?_); rintro e w3 ⟨rfl, hb3⟩; have HB3 := Aside0.mk (below_step HB.out hb3); have HQ3 := Aside0.mk hb3; obtain ⟨z0, z1, z2, z3, z4, z5, z6⟩ := K0.out _ hb3; clear hb3) | (go_at_call 37; (with_reducible refine (WT.out _).mono ?_); rintro e w' ⟨rfl, rfl⟩) | (go_at_call 44; (with_reducible refine (MK.out _ HQ3.out).mono ?_); rintro e w' ⟨rfl, ⟨nd, rfl⟩⟩) | (go_at_call 45; (with_reducible refine (MR.out _ (pw_below_drewN HQ3.out _)).mono ?_); rintro e w' ⟨rfl, ⟨nd2, rfl⟩⟩))
      have hx := HX.out _ (pw_below_drewN (pw_below_drewN HQ3.out nd) nd2)
      have HB5 := Aside0.mk (pw_below_drewN (pw_below_drewN HB3.out nd) nd2)
      have HQ5 := Aside0.mk (pw_below_drewN (pw_below_drewN HQ3.out nd) nd2)
      simp only [World.drewN_drewN] at hx HB5 HQ5
      generalize hw5 : w3.drewN (nd + nd2) = w5 at hx HB5 HQ5 ⊢
      obtain ⟨y0, y1, y2, y3, y4, y5, y6⟩ := K0.out w5 HQ5.out
      clear hw5 z0 z1 z2 z3 z4 z5 z6
      go_cut [51, 52] (fun s u wx => s = .int .i64 (q : Int) ∧ u = .int .i64 0 ∧ w5 = wx)
      case first =>
        go_wp2
        all_goals go_meet
        all_goals refine ⟨?_, rfl, rfl⟩
        all_goals exact congrArg (Value.int .i64) (by have := HQ.out; have := HQ4.out; omega)
      case rest =>
        obtain ⟨rfl, rfl, rfl⟩ := hcut
        clear y0 y1 y2 y3 y4 y5 y6 hx
        go_wp2
        go_loopw [10, 52] (fun v i w' => ∃ k : Nat, i = .int .i64 k ∧ k ≤ q ∧ Aside0 (OwnF w' w2.heap.size v (entF j t key r k)) ∧ Aside0 (Below w2.heap.size w2 w')) (fun _ i _ => q - (intOf i).toNat)
        case atStart => exact ⟨0, rfl, Nat.zero_le _, ⟨Kd.R_nil _ _ _ _ _⟩, HQ5⟩
        case round =>
          obtain ⟨k, rfl, hk, ho, hb2⟩ := hrel
          by_cases hlt : k < q
          · obtain ⟨c0, c1, c2, c3, c4, c5, c6⟩ := K0.out wr hb2.out
            obtain ⟨ad2, A2, d2, ea, z0, hl2, hC2⟩ := at_L2 (Kd.C_below HRB.out hb2.out) ((k : Int) + 1) (by omega) (by omega)
            subst ea
            rw [show ((k : Int) + 1).toNat = k + 1 by omega] at z0
            have CT1 := Aside0.mk (CT.out (k : Int) wr (HJB.out.inn.below hb2.out))
            have hmem := M3.out _ (rd_L2_mem r (k + 1) (by omega))
            have hsn := entF_snoc j t key r k
            rw [show ((k : Int) + 1) = ((k + 1 : Nat) : Int) by omega] at z0 hl2 hC2
            generalize rd_L2 r ((k + 1 : Nat) : Int) = f at z0 hl2 hC2 hmem hsn
            have RE := Aside0.mk (fun (W : World) (hb : Below wr.heap.size wr W) => rowEntry A2 d2 f B d key W (Kd.C_below hC2 hb) hl2 (Kd.C_below HKB.out (below_step hb2.out hb)) HD.out hmem HBK.out.symm)
            have k0 : (0 : Int) ≤ (k : Int) + 1 := by omega
            have k1 : (k : Int) + 1 < (r.length : Int) := by omega
            have ea2 : ad2.add (k + 1) = ⟨ad2.block, ad2.off + (k + 1), none⟩ := by unfold Addr.add; rw [if_neg (by omega)]
            rw [ea2] at z0
            clear ea2
            have Z0 := Aside0.mk z0
            obtain ⟨tr, htr⟩ : ∃ tr, treeL j t (k : Int) = tr := ⟨_, rfl⟩
            rw [htr] at CT1 hsn
            have HSN := Aside0.mk hsn
            clear hsn htr hl2 hC2 hmem z0
            go_upto_region 8 with (first | (go_at_call 15; (with_reducible refine CT1.out.mono ?_); rintro e w6 ⟨rfl, hb6⟩; have HB6 := Aside0.mk hb6; have z0 := pw_cell_below hb6 Z0.out; clear hb6))
            go_upto_region 9 with (first | (go_at_call 46; (with_reducible refine (RE.out _ HB6.out).mono ?_); rintro e w7 ⟨v7, rfl, ho7, hb7⟩; obtain ⟨A7, c7, rfl⟩ := Kd.R_slice ho7; have HO7 := Aside0.mk ho7; have HB7 := Aside0.mk hb7; clear ho7 hb7))
            go_wp2_with (first | ((with_reducible refine gate_builtin (b := .append) (xs := #[.tmp 72, .tmp 76]) rfl ?_); at_builtin; refine append_own (W := w7) w2.heap.size rfl (.tmp 72) (.tmp 76) rfl _ (entF j t key r k) ⟨tr.1, entryL f key⟩ (.slice A7 (entryL f key).length c7) w6.heap.size rfl rfl (Nat.le_trans hb2.out.size HB6.out.size) (fun q_ hq_ => Nat.lt_of_lt_of_le (ho.out.lt q_ hq_) HB6.out.size) HO7.out ((ho.out.below HB6.out).below HB7.out) (Nat.le_trans hb2.out.size (Nat.le_trans HB6.out.size HB7.out.size)) (by unfold entF; rw [List.length_map, List.length_range]; omega) ?_; intro v8 w8 ho8 hb8; have HO8 := Aside0.mk ho8; have HB8 := Aside0.mk ((below_step (below_step hb2.out HB6.out) HB7.out).trans hb8); clear ho8 hb8))
            go_roundw
            case rel => exact ⟨k + 1, by go_num, by omega, ⟨by rw [HSN.out]; exact HO8.out⟩, HB8⟩
            case measure => simp [intOf]; omega
          · obtain rfl : k = q := by omega
            obtain ⟨A9, c9, rfl, hc9, hC9⟩ := ho.out.reads
            go_wp2
            go_ret2
            rw [HR1.out]
            exact ⟨A9, c9, rfl, hc9, hC9, below_step HB.out hb2.out⟩
end Go.Proofs.Ytecdnhmdodedmaa.Ch
