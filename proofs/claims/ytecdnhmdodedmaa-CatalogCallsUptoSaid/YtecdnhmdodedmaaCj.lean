/- catalog.MayOp: which calls may be. -/
import Derived.Test.YtecdnhmdodedmaaCi
import Derived.Laws.CopyOwn
namespace Go.Proofs.Ytecdnhmdodedmaa.Ch
open Go.RowKit Go.Proofs.YtecdnhmdodedmaaW.PrintWords Go.Proofs.YtecdnhmdodedmaaW.PrintLast Go.Proofs.YtecdnhmdodedmaaW.PrintMore Go.Proofs.Ytecdnhmdodedmaa.HS Go.Proofs.Ytecdnhmdodedmaa.Ca Go.Proofs.Ytecdnhmdodedmaa.It
set_option linter.unusedVariables false
set_option linter.unusedSimpArgs false
/-- What a kind of call names, as the table has it. -/
def kindsA : Array Value := #[.bool false, .bool false, .bool false, .bool false, .bool true, .bool false, .bool false, .bool false, .bool true, .bool true, .bool false, .bool false, .bool true, .bool true, .bool false, .bool false, .bool true, .bool false, .bool false, .bool false, .bool false, .bool false, .bool true, .bool false, .bool false, .bool false, .bool true, .bool true]
def zerosA : Array Value := Array.replicate 28 (.bool false)
theorem info112 : (Try.prog.info? 112).map (fun i => (i.zero, i.size)) = some (some (.agg zerosA), 28) := by kernel_rfl
theorem size112 : (Try.prog.info? 112).map (·.size) = some kindsA.size := by kernel_rfl
theorem built112 : Try.prog.built 112 [(1, .agg #[.bool true, .bool false, .bool false, .bool false]), (2, .agg #[.bool true, .bool true, .bool false, .bool false]), (3, .agg #[.bool true, .bool true, .bool false, .bool false]), (4, .agg #[.bool true, .bool false, .bool false, .bool false]), (5, .agg #[.bool false, .bool false, .bool true, .bool false]), (6, .agg #[.bool false, .bool false, .bool true, .bool true])] = some kindsA := by kernel_rfl
theorem one112 : kindsA.all (·.oneCell') = true := by kernel_rfl
theorem zer112 : zerosA.size = kindsA.size := by kernel_rfl
theorem build_run {ops : Array Oper} {rest : List Oper} {o : Oper} {a : Act} {w : World} {Q : Exit → Act → World → Prop} (hg : o.guard = none) (t : TypeId) (parts : Array (Nat × Operand)) (ho : o.op = .build t parts) (ps : List (Nat × Value)) (hp : (parts.map fun (i, x) => (i, a.eval x)).toList = ps)
    (cells : Array Value) (hb : Try.prog.built t ps = some cells) (h : wpList Try.prog ops Q rest (a.put o.dst (.agg cells)) w) : wpList Try.prog ops Q (o :: rest) a w :=
  wpList_build hg t parts ho (by rw [hp, hb]; rfl) (by rw [hp, hb]; exact h)
set_option maxRecDepth 100000 in
theorem kinds (w : World) : Calls Try.prog 61 #[] w fun e w' => e = .returned (.agg kindsA) ∧ Below w.heap.size w w' := by
  have hb := below_alloc (Below.refl w.heap.size w) (.cells zerosA 112)
  have hblk := blk_new w (.cells zerosA 112)
  have HB := Aside0.mk hb
  have HK := Aside0.mk hblk
  clear hb hblk
  go_enter Try.func61, Try.ntmps61
  go_upto_region 1 with fail
  rw [show (Obj.cells #[.bool false, .bool false, .bool false, .bool false, .bool false, .bool false, .bool false, .bool false, .bool false, .bool false, .bool false, .bool false, .bool false, .bool false, .bool false, .bool false, .bool false, .bool false, .bool false, .bool false, .bool false, .bool false, .bool false, .bool false, .bool false, .bool false, .bool false, .bool false] 112) = .cells zerosA 112 from rfl]
  generalize w.alloc (.cells zerosA 112) = w1 at HB HK ⊢
  generalize hz : zerosA = z at HK
  generalize hk : kindsA = k
  have HZ := Aside0.mk hz
  have HKK := Aside0.mk hk
  clear hz hk
  refine wp_region_lit ?_
  iterate 6 refine wpList_plain rfl (fun K hK => ?_); go_simp; refine hK _ _ ?_; clear hK K
  refine build_run rfl 112 _ rfl [(1, .agg #[.bool true, .bool false, .bool false, .bool false]), (2, .agg #[.bool true, .bool true, .bool false, .bool false]), (3, .agg #[.bool true, .bool true, .bool false, .bool false]), (4, .agg #[.bool true, .bool false, .bool false, .bool false]), (5, .agg #[.bool false, .bool false, .bool true, .bool false]), (6, .agg #[.bool false, .bool false, .bool true, .bool true])] (by first | rfl | (go_simp; done) | (simp [Act.eval]; done)) _ built112 ?_
  simp only [Act.put, List.setIfInBounds_toArray, List.set_cons_zero, List.set_cons_succ]
  rw [HKK.out]
  refine wpList_store_row (P := Try.prog) rfl 112 (.tmp 0) (.tmp 7) rfl w.heap.size k rfl rfl 112 z HK.out (by rw [← HKK.out]; exact size112) (by rw [← HZ.out, ← HKK.out]; exact zer112) (by rw [← HKK.out]; exact one112) ?_
  have HB2 := Aside0.mk (below_setRow HB.out (Nat.le_refl _) k)
  have HK2 := Aside0.mk (setRow_heap w1 w.heap.size z k 112 (0, 0) HK.out)
  generalize w1.setRow w.heap.size k = w2 at HB2 HK2 ⊢
  go_wp2
  refine bodyPost_ret (results_cell_row rfl _ _ w.heap.size 112 k (0, 0) _ rfl HK2.out Try.underlying112 rfl (by rw [← HKK.out]; exact size112)) rfl ?_
  exact ⟨by rw [HKK.out], HB2.out⟩
/-- What the table tells of a kind. -/
def kindOf (k : Int) : Bool × Bool × Bool × Bool := if k = 1 ∨ k = 4 then (true, false, false, false) else if k = 2 ∨ k = 3 then (true, true, false, false) else if k = 5 then (false, false, true, false) else (false, false, true, true)
theorem kind_at (k : Int) (h1 : 1 ≤ k) (h2 : k ≤ 6) (w : World) : (Instr.index 112 (.agg kindsA) (.int .i64 k)).run Try.prog w = .ok (.agg #[.bool (kindOf k).1, .bool (kindOf k).2.1, .bool (kindOf k).2.2.1, .bool (kindOf k).2.2.2]) w := by
  have : k = 1 ∨ k = 2 ∨ k = 3 ∨ k = 4 ∨ k = 5 ∨ k = 6 := by omega
  rcases this with rfl | rfl | rfl | rfl | rfl | rfl
  · show _ = Result.ok (Value.agg #[.bool true, .bool false, .bool false, .bool false]) w
    kernel_rfl
  · show _ = Result.ok (Value.agg #[.bool true, .bool true, .bool false, .bool false]) w
    kernel_rfl
  · show _ = Result.ok (Value.agg #[.bool true, .bool true, .bool false, .bool false]) w
    kernel_rfl
  · show _ = Result.ok (Value.agg #[.bool true, .bool false, .bool false, .bool false]) w
    kernel_rfl
  · show _ = Result.ok (Value.agg #[.bool false, .bool false, .bool true, .bool false]) w
    kernel_rfl
  · show _ = Result.ok (Value.agg #[.bool false, .bool false, .bool true, .bool true]) w
    kernel_rfl
theorem store_run {oi : Oper} {a : Act} {w : World} (ty : TypeId) (x y : Operand) (ho : oi.op = .store ty x y)
    (g : Nat) (cells : Array Value) (hx : a.eval x = .pointer (some ⟨g, 0, none⟩)) (hy : a.eval y = .agg cells)
    (t : TypeId) (old : Array Value) (hg : w.heap[g]? = some (.cells old t (0, 0))) (hi : (Try.prog.info? ty).map (·.size) = some cells.size)
    (hold : old.size = cells.size) (h1 : cells.all (·.oneCell') = true) : (execOp a.eval oi).run Try.prog w = .ok .skip (w.setRow g cells) := by
  unfold execOp
  simp only [ho, hx, hy, Instr.storeAt, Instr.sureAddr, Sem.run_bind, Sem.run_pure, Result.andThen_ok, run_storeVar_row w g t ty old cells hg hi hold h1]
/-- A call's cells. -/
def opV (o : S80) (A3 : Option Addr) (c3 : Nat) (A4 : Option Addr) (c4 : Nat) (A6 : Option Addr) (c6 : Nat) : Array Value := #[.int .i64 o.f0, .int .i64 o.f1, .int .i64 o.f2, .slice A3 o.f3.length c3, .slice A4 o.f4.length c4, .int .i64 o.f5, .slice A6 o.f6.length c6]
def keyB (k : List Int) : Bool := decide (1 ≤ k.length) && decide (k.length ≤ 32)
def rowsOk (o : S80) : Bool := if o.f0 = 2 ∨ o.f0 = 3 then mayB o.f6 else decide (o.f6.length = 0)
def restOk (j : Job) (o : S80) : Bool :=
  if o.f0 = 5 then wi o.f5 1 64 && (decide (o.f3.length ≤ 32) && (decide (o.f4.length ≤ 32) && wi o.f2 0 0))
  else if o.f0 = 6 then wi o.f5 1 64 && (decide (o.f3.length ≤ 24) && (decide (o.f4.length ≤ 24) && wi o.f2 0 (rd j.ts o.f1 - 1)))
  else decide (o.f5 = 0) && (decide (o.f4.length = 0) && (keyB o.f3 && wi o.f2 0 0))
/-- May a call be? -/
def mayOp (j : Job) (o : S80) : Bool := ok j && (wi o.f0 1 6 && (wi o.f1 0 ((j.ts.length : Int) - 1) && (rowsOk o && restOk j o)))
def OpIn (o : S80) (W : World) (A3 : Option Addr) (c3 : Nat) (A4 : Option Addr) (c4 : Nat) (A6 : Option Addr) (c6 : Nat) : Prop :=
  o.f3.length ≤ c3 ∧ Kd.C (Kd.int .u8) W A3 o.f3.length o.f3 ∧ o.f4.length ≤ c4 ∧ Kd.C (Kd.int .u8) W A4 o.f4.length o.f4 ∧ o.f6.length ≤ c6 ∧ Kd.C (Kd.slice 5 (Kd.int .u8)) W A6 o.f6.length o.f6
theorem OpIn.below {o : S80} {W V : World} {A3 : Option Addr} {c3 : Nat} {A4 : Option Addr} {c4 : Nat} {A6 : Option Addr} {c6 : Nat} (h : OpIn o W A3 c3 A4 c4 A6 c6) (hb : Below W.heap.size W V) : OpIn o V A3 c3 A4 c4 A6 c6 :=
  ⟨h.1, Kd.C_below h.2.1 hb, h.2.2.1, Kd.C_below h.2.2.2.1 hb, h.2.2.2.2.1, Kd.C_below h.2.2.2.2.2 hb⟩
theorem mayKey (A : Option Addr) (c : Nat) (l : List Int) (w : World) (h : Kd.C (Kd.int .u8) w A l.length l) (hc : l.length ≤ c) : Calls Try.prog 44 #[.slice A l.length c] w fun e w' => e = .returned (.bool (keyB l)) ∧ Drawn0 w w' :=
  row_MayKey.calls A c l (keyB l) w h hc (by
    unfold row_MayKey.f keyB
    by_cases h1 : 1 ≤ l.length
    · rw [if_pos (by omega), decide_eq_true h1]
      by_cases h2 : l.length ≤ 32
      · rw [decide_eq_true h2, decide_eq_true (by omega)]; rfl
      · rw [decide_eq_false h2, decide_eq_false (by omega)]; rfl
    · rw [if_neg (by omega), decide_eq_false h1]; rfl)
theorem rowMay (A : Option Addr) (c : Nat) (l : List (List Int)) (w : World) (h : Kd.C (Kd.slice 5 (Kd.int .u8)) w A l.length l) (hc : l.length ≤ c) : Calls Try.prog 45 #[.slice A l.length c] w fun e w' => e = .returned (.bool (mayB l)) ∧ Drawn0 w w' :=
  row_May.calls A c l (mayB l) w h hc rfl
set_option maxHeartbeats 8000000 in
set_option maxRecDepth 100000 in
theorem mayOp_call (j : Job) (o : S80) (A : Option Addr) (n : Nat) (A3 : Option Addr) (c3 : Nat) (A4 : Option Addr) (c4 : Nat) (A6 : Option Addr) (c6 : Nat) (w : World) (h : j.In w A n) (ho : OpIn o w A3 c3 A4 c4 A6 c6) :
    Calls Try.prog 35 #[.agg (j.v A n), .agg (opV o A3 c3 A4 c4 A6 c6)] w fun e w' => e = .returned (.bool (mayOp j o)) ∧ Below w.heap.size w w' := by
  obtain ⟨R, hR⟩ : ∃ R, R = mayOp j o := ⟨_, rfl⟩
  rw [← hR]
  have HR := Aside0.mk hR
  have CK := Aside0.mk (fun (W : World) (hi : j.In W A n) => check j A n W hi)
  unfold Job.v at CK ⊢
  unfold opV
  have hb0 := allocs_below [.cells #[.int .i64 j.w, .int .i64 j.l, .int .i64 j.wi, .int .i64 j.c, .int .i64 j.d, .int .i64 j.e, .slice A j.ts.length n] 24, .cells #[.int .i64 o.f0, .int .i64 o.f1, .int .i64 o.f2, .slice A3 o.f3.length c3, .slice A4 o.f4.length c4, .int .i64 o.f5, .slice A6 o.f6.length c6] 80] w w.heap.size (Nat.le_refl _)
  have hat := allocs_at [.cells #[.int .i64 j.w, .int .i64 j.l, .int .i64 j.wi, .int .i64 j.c, .int .i64 j.d, .int .i64 j.e, .slice A j.ts.length n] 24, .cells #[.int .i64 o.f0, .int .i64 o.f1, .int .i64 o.f2, .slice A3 o.f3.length c3, .slice A4 o.f4.length c4, .int .i64 o.f5, .slice A6 o.f6.length c6] 80] w
  have e0 := hat 0 _ rfl
  have e1 := hat 1 _ rfl
  clear hat hR
  simp only [List.foldl_cons, List.foldl_nil, List.length_cons, List.length_nil] at hb0 e0 e1
  have hi := h.below hb0
  have hoi := ho.below hb0
  have HI := Aside0.mk hi
  have HO := Aside0.mk hoi
  have HB := Aside0.mk hb0
  clear h ho hi hoi hb0
  go_enter Try.func35, Try.ntmps35
  go_upto_region 1 with fail
  obtain ⟨P0, q0⟩ : ∃ B, w.heap.size = B := ⟨_, rfl⟩
  rw [show w.heap.size + 0 = w.heap.size from rfl] at e0
  rw [q0] at e0 e1 ⊢
  have Q0 := Aside0.mk q0
  obtain ⟨P1, q1⟩ : ∃ B, P0 + 1 = B := ⟨_, rfl⟩
  rw [q1] at e1 ⊢
  generalize World.alloc _ _ = w2 at e0 e1 HI HO HB ⊢
  have L0 := Aside0.mk (And.intro (blk_lt e0) (blk_lt e1))
  have c0 : (_ : Option Value) = some (.int .i64 j.w) := (blk_cell e0 0).trans rfl
  have c1 : (_ : Option Value) = some (.int .i64 j.l) := (blk_cell e0 1).trans rfl
  have c2 : (_ : Option Value) = some (.int .i64 j.wi) := (blk_cell e0 2).trans rfl
  have c3' : (_ : Option Value) = some (.int .i64 j.c) := (blk_cell e0 3).trans rfl
  have c4' : (_ : Option Value) = some (.int .i64 j.d) := (blk_cell e0 4).trans rfl
  have c5 : (_ : Option Value) = some (.int .i64 j.e) := (blk_cell e0 5).trans rfl
  have c6' : (_ : Option Value) = some (.slice A j.ts.length n) := (blk_cell e0 6).trans rfl
  have E1 := Aside0.mk e1
  have E0 := Aside0.mk e0
  obtain ⟨E, eE⟩ : ∃ E, E = err (ok j) := ⟨_, rfl⟩
  rw [← eE] at CK
  clear e0 e1 q0 q1
  cases hok : ok j with
  | false =>
    have hE : (E != 0) = true := by rw [eE, hok]; rfl
    have HR2 := Aside0.mk (show R = false by rw [HR.out]; unfold mayOp; rw [hok]; rfl)
    clear eE hok
    go_wp2_with (go_at_call 11; (with_reducible refine (CK.out _ HI.out).mono ?_); rintro e w3 ⟨rfl, hb3⟩; have HB3 := Aside0.mk (below_step HB.out hb3); clear hb3)
    go_ret
    exact ⟨by rw [HR2.out]; first | done | rfl | simp, HB3.out⟩
  | true =>
    have hE : (E != 0) = false := by rw [eE, hok]; rfl
    obtain ⟨t1, t2, t3⟩ := okT_le hok
    have T3 := Aside0.mk t3
    clear t3
    clear eE
    have hok' := Aside0.mk hok
    clear hok
    have D0 := Aside0.mk (show w2.cell? ⟨P1, 0, none⟩ = some (.int .i64 o.f0) from (blk_cell E1.out 0).trans rfl)
    have D1 := Aside0.mk (show w2.cell? ⟨P1, 1, none⟩ = some (.int .i64 o.f1) from (blk_cell E1.out 1).trans rfl)
    have C6 := Aside0.mk (show w2.cell? ⟨P0, 6, none⟩ = some (.slice A j.ts.length n) from (blk_cell E0.out 6).trans rfl)
    obtain ⟨bt, hbt⟩ : ∃ b, b = wi o.f1 0 ((j.ts.length : Int) - 1) := ⟨_, rfl⟩
    have WT := Aside0.mk (fun (W : World) => within o.f1 0 ((j.ts.length : Int) - 1) W)
    rw [← hbt] at WT
    have HBT := Aside0.mk hbt
    clear hbt
    by_cases k1 : o.f0 < 1
    · have HR2 := Aside0.mk (show R = false by rw [HR.out]; unfold mayOp; rw [show wi o.f0 1 6 = false by simp [wi]; omega]; simp)
      go_wp2_with (first | (go_at_call 11; (with_reducible refine (CK.out _ HI.out).mono ?_); rintro e w3 ⟨rfl, hb3⟩; have HB3 := Aside0.mk (below_step HB.out hb3); have HQ3 := Aside0.mk hb3; have d0 := pw_cell_below hb3 D0.out; have d1 := pw_cell_below hb3 D1.out; have z6 := pw_cell_below hb3 C6.out; clear hb3))
      go_ret
      exact ⟨by rw [HR2.out]; first | done | rfl | simp, HB3.out⟩
    by_cases k2 : 6 < o.f0
    · have HR2 := Aside0.mk (show R = false by rw [HR.out]; unfold mayOp; rw [show wi o.f0 1 6 = false by simp [wi]; omega]; simp)
      go_wp2_with (first | (go_at_call 11; (with_reducible refine (CK.out _ HI.out).mono ?_); rintro e w3 ⟨rfl, hb3⟩; have HB3 := Aside0.mk (below_step HB.out hb3); have HQ3 := Aside0.mk hb3; have d0 := pw_cell_below hb3 D0.out; have d1 := pw_cell_below hb3 D1.out; have z6 := pw_cell_below hb3 C6.out; clear hb3))
      go_ret
      exact ⟨by rw [HR2.out]; first | done | rfl | simp, HB3.out⟩
    cases bt with
    | false =>
      have HR2 := Aside0.mk (show R = false by rw [HR.out]; unfold mayOp; rw [← HBT.out]; simp)
      go_wp2_with (first | (go_at_call 11; (with_reducible refine (CK.out _ HI.out).mono ?_); rintro e w3 ⟨rfl, hb3⟩; have HB3 := Aside0.mk (below_step HB.out hb3); have HQ3 := Aside0.mk hb3; have d0 := pw_cell_below hb3 D0.out; have d1 := pw_cell_below hb3 D1.out; have z6 := pw_cell_below hb3 C6.out; clear hb3) | (go_at_call 37; (with_reducible refine (WT.out _).mono ?_); rintro e w' ⟨rfl, rfl⟩))
      go_ret
      exact ⟨by rw [HR2.out]; first | done | rfl | simp, HB3.out⟩
    | true =>
      have f01 := (wi_iff _ _ _).1 HBT.out.symm
      have HF01 := Aside0.mk f01
      clear f01
      go_upto_region 3 with (first | (go_at_call 11; (with_reducible refine (CK.out _ HI.out).mono ?_); rintro e w3 ⟨rfl, hb3⟩; have HB3 := Aside0.mk (below_step HB.out hb3); have HQ3 := Aside0.mk hb3; have d0 := pw_cell_below hb3 D0.out; have d1 := pw_cell_below hb3 D1.out; have z6 := pw_cell_below hb3 C6.out; clear hb3) | (go_at_call 37; (with_reducible refine (WT.out _).mono ?_); rintro e w' ⟨rfl, rfl⟩))
      have hix := kind_at o.f0 (by omega) (by omega)
      obtain ⟨b0, b1, b2, b3, hkk⟩ : ∃ b0 b1 b2 b3, kindOf o.f0 = (b0, b1, b2, b3) := ⟨_, _, _, _, rfl⟩
      rw [hkk] at hix
      dsimp only at hix
      have HKK := Aside0.mk hkk
      clear hkk
      have D3 := Aside0.mk d0
      have L1 := Aside0.mk (show P1 < w3.heap.size from World.block_lt_of_cell? w3 _ d0)
      clear d0 d1 z6 hix
      have d0 : w3.drew.cell? ⟨P1, 0, none⟩ = some (.int .i64 o.f0) := D3.out
      have HS3 := Aside0.mk (below_drew (Below.refl w3.heap.size w3))
      obtain ⟨wd, hwd⟩ : ∃ v, w3.drew = v := ⟨_, rfl⟩
      refine start_ (n := 6) (S := fun w' => w'.cell? ⟨P1, 0, none⟩ = some (.int .i64 o.f0)) (ds := []) #[false, false, false, false, false, false] (by kernel_rfl) rfl rfl d0 (fun hHeld => ?_)
      generalize w3.drew = w4 at hHeld HS3 ⊢
      refine pure_ (i := 1) (N := some 35) (v := ?_) (a' := ?_) #[false, true, false, false, false, false] rfl rfl (by kernel_rfl) (fun _ _ _ h => h) (Or.inl ⟨by rfl, ?_⟩) ?_ ?_
      rotate_left
      · intro w'
        go_simp
        with_reducible rfl
      rotate_left
      · simp only [Act.put, List.setIfInBounds_toArray, List.set_cons_zero, List.set_cons_succ, i64_w, i32_w]
        rfl
      refine take_ (i := 2) (N := some 36) (v := ?_) (a' := ?_) #[false, true, true, false, false, false] rfl rfl (by kernel_rfl) (fun _ _ _ h => h) (Or.inl ⟨by rfl, ?_⟩) hHeld ?_ ?_
      rotate_left
      · intro w' s0
        go_simp
        with_reducible rfl
      rotate_left
      · simp only [Act.put, List.setIfInBounds_toArray, List.set_cons_zero, List.set_cons_succ, i64_w, i32_w]
        rfl
      have hix := kind_at o.f0 (by omega) (by omega)
      rw [HKK.out] at hix
      dsimp only at hix
      refine join_ (σ := Nat) 1 #[true, true, true, true, true, false] (fun s_ => [(34, .agg kindsA), (5, .pointer (some ⟨s_, 0, none⟩)), (37, .agg #[.bool b0, .bool b1, .bool b2, .bool b3])]) (fun s_ w' => w'.heap[s_]? = some (.cells #[.bool false, .bool false, .bool false, .bool false] 111 (0, 0)) ∧ Below w3.heap.size w3 w' ∧ w3.heap.size ≤ s_) ?_ ?_
      rotate_left
      · intro hCont
        refine two_ (i := 0) (j := 4) (Ni := some 34) (Nj := some 5) #[true, true, true, false, false, false] #[false, true, true, false, true, false] rfl rfl rfl rfl (by kernel_rfl) (by decide) (by decide) (fun K hK => ?_) (fun K hK => ?_)
        · refine goes_ Try.func61 (by kernel_rfl) rfl #[] (by rfl) rfl rfl (by (try simp only [List.map_toArray, List.map_cons, List.map_nil]); first | done | rfl) ?_
          refine (kinds w4).mono ?_
          rintro e w5 ⟨rfl, hb5⟩
          refine ⟨_, rfl, ?_⟩
          refine hK.out _ _ (pw_cell_below hb5 hHeld) (fun hHeld5 => ?_)
          clear hK K
          refine norm_ (a' := ?_) ?_ ?_
          rotate_left
          · show Act.put _ (some 34) _ = _
            simp only [Act.put, List.setIfInBounds_toArray, List.set_cons_zero, List.set_cons_succ, i64_w, i32_w]
            rfl
          refine pure_ (i := 3) (N := some 37) (v := ?_) (a' := ?_) #[true, true, true, true, false, false] rfl rfl (by kernel_rfl) (fun _ _ _ h => h) (Or.inl ⟨by rfl, ?_⟩) ?_ ?_
          rotate_left
          · intro w'
            go_simp
            with_reducible rfl
          rotate_left
          · simp only [Act.put, List.setIfInBounds_toArray, List.set_cons_zero, List.set_cons_succ, i64_w, i32_w]
            rfl
          refine one_ (i := 4) (N := some 5) #[true, true, true, true, true, false] rfl rfl (by kernel_rfl) (by decide) (fun K hK => ?_)
          refine value_ (v := .pointer (some ⟨w5.heap.size, 0, none⟩)) (w1 := w5.alloc (.cells #[.bool false, .bool false, .bool false, .bool false] 111)) (by rfl) rfl (by go_simp) ?_
          refine hK.out _ _ (pw_cell_below (below_alloc (Below.refl _ _) _) hHeld5) (fun hHeld6 => ?_)
          clear hK K
          exact norm_ (by simp only [putAll, Act.put, List.setIfInBounds_toArray, List.set_cons_zero, List.set_cons_succ]) (hCont w5.heap.size _ ⟨blk_new w5 _, below_alloc (below_step HS3.out hb5) _, (below_step HS3.out hb5).size⟩)
        · refine value_ (v := .pointer (some ⟨w4.heap.size, 0, none⟩)) (w1 := w4.alloc (.cells #[.bool false, .bool false, .bool false, .bool false] 111)) (by rfl) rfl (by go_simp) ?_
          refine hK.out _ _ (pw_cell_below (below_alloc (Below.refl _ _) _) hHeld) (fun hHeld5 => ?_)
          clear hK K
          refine norm_ (a' := ?_) ?_ ?_
          rotate_left
          · show Act.put _ (some 5) _ = _
            simp only [Act.put, List.setIfInBounds_toArray, List.set_cons_zero, List.set_cons_succ, i64_w, i32_w]
            rfl
          refine one_ (i := 0) (N := some 34) #[true, true, true, false, true, false] rfl rfl (by kernel_rfl) (by decide) (fun K hK => ?_)
          refine goes_ Try.func61 (by kernel_rfl) rfl #[] (by rfl) rfl rfl (by (try simp only [List.map_toArray, List.map_cons, List.map_nil]); first | done | rfl) ?_
          refine (kinds _).mono ?_
          rintro e w5 ⟨rfl, hb5⟩
          refine ⟨_, rfl, ?_⟩
          refine hK.out _ _ (pw_cell_below hb5 hHeld5) (fun hHeld6 => ?_)
          clear hK K
          refine norm_ (a' := ?_) ?_ ?_
          rotate_left
          · show Act.put _ (some 34) _ = _
            simp only [Act.put, List.setIfInBounds_toArray, List.set_cons_zero, List.set_cons_succ, i64_w, i32_w]
            rfl
          refine pure_ (i := 3) (N := some 37) (v := ?_) (a' := ?_) #[true, true, true, true, true, false] rfl rfl (by kernel_rfl) (fun _ _ _ h => h) (Or.inl ⟨by rfl, ?_⟩) ?_ ?_
          rotate_left
          · intro w'
            go_simp
            with_reducible rfl
          rotate_left
          · simp only [Act.put, List.setIfInBounds_toArray, List.set_cons_zero, List.set_cons_succ, i64_w, i32_w]
            rfl
          exact norm_ (by simp only [putAll, Act.put, List.setIfInBounds_toArray, List.set_cons_zero, List.set_cons_succ]) (hCont w4.heap.size _ ⟨(hb5.block _ (by simp)).trans (blk_new w4 _), below_step (below_alloc HS3.out _) hb5, HS3.out.size⟩)
      rintro P5 w5 ⟨hblk5, hb5, hle5⟩
      refine norm_ (a' := ?_) ?_ ?_
      rotate_left
      · simp only [putAll, Act.put, List.setIfInBounds_toArray, List.set_cons_zero, List.set_cons_succ]
        rfl
      have hHeld5 : w5.cell? ⟨P1, 0, none⟩ = some (.int .i64 o.f0) := pw_cell_below hb5 D3.out
      refine one_ (i := 5) (N := none) #[true, true, true, true, true, true] rfl rfl (by kernel_rfl) (by decide) (fun K hK => ?_)
      refine skip_ (w1 := w5.setRow P5 #[.bool b0, .bool b1, .bool b2, .bool b3]) (by rfl) rfl (store_run 111 (.tmp 5) (.tmp 37) rfl P5 _ rfl rfl 111 _ hblk5 (by kernel_rfl) rfl (by simp [Value.oneCell'])) ?_
      refine hK.out _ _ ((cell_setRow_other w5 P5 _ _ (by have := L1.out; show P1 ≠ P5; omega)).trans hHeld5) (fun hHeld6 => ?_)
      clear hK K
      refine done_ (by kernel_rfl) ?_
      have hb6 := Aside0.mk (below_setRow hb5 hle5 #[.bool b0, .bool b1, .bool b2, .bool b3])
      have hk6 := setRow_heap w5 P5 _ #[.bool b0, .bool b1, .bool b2, .bool b3] 111 (0, 0) hblk5
      clear hb5 hblk5 hHeld5 hix
      generalize w5.setRow P5 #[.bool b0, .bool b1, .bool b2, .bool b3] = w6 at hb6 hk6 hHeld6 ⊢
      have n0 : (_ : Option Value) = some (.bool b0) := (blk_cell hk6 0).trans rfl
      have n1 : (_ : Option Value) = some (.bool b1) := (blk_cell hk6 1).trans rfl
      have n2 : (_ : Option Value) = some (.bool b2) := (blk_cell hk6 2).trans rfl
      have n3 : (_ : Option Value) = some (.bool b3) := (blk_cell hk6 3).trans rfl
      simp only [Exit.then]
      have hq6 := below_step HQ3.out hb6.out
      have HBW := Aside0.mk (below_step HB3.out hb6.out)
      have HO6 := Aside0.mk (HO.out.below hq6)
      have HI6 := Aside0.mk (HI.out.below hq6)
      have o2 := pw_cell_below hq6 (show w2.cell? ⟨P1, 2, none⟩ = some (.int .i64 o.f2) from (blk_cell E1.out 2).trans rfl)
      have o3 := pw_cell_below hq6 (show w2.cell? ⟨P1, 3, none⟩ = some (.slice A3 o.f3.length c3) from (blk_cell E1.out 3).trans rfl)
      have o4 := pw_cell_below hq6 (show w2.cell? ⟨P1, 4, none⟩ = some (.slice A4 o.f4.length c4) from (blk_cell E1.out 4).trans rfl)
      have o5 := pw_cell_below hq6 (show w2.cell? ⟨P1, 5, none⟩ = some (.int .i64 o.f5) from (blk_cell E1.out 5).trans rfl)
      have o6 := pw_cell_below hq6 (show w2.cell? ⟨P1, 6, none⟩ = some (.slice A6 o.f6.length c6) from (blk_cell E1.out 6).trans rfl)
      have o1 := pw_cell_below hq6 D1.out
      have j6 := pw_cell_below hq6 C6.out
      have MK := Aside0.mk (fun (n : Nat) => mayKey A3 c3 o.f3 (w6.drewN n) (Kd.C_drewN HO6.out.2.1 n) HO6.out.1)
      have MR := Aside0.mk (fun (n : Nat) => rowMay A6 c6 o.f6 (w6.drewN n) (Kd.C_drewN HO6.out.2.2.2.2.2 n) HO6.out.2.2.2.2.1)
      have MK0 := Aside0.mk (mayKey A3 c3 o.f3 w6 HO6.out.2.1 HO6.out.1)
      have MR0 := Aside0.mk (rowMay A6 c6 o.f6 w6 HO6.out.2.2.2.2.2 HO6.out.2.2.2.2.1)
      obtain ⟨bk, hbk⟩ : ∃ b, b = keyB o.f3 := ⟨_, rfl⟩
      obtain ⟨bm, hbm⟩ : ∃ b, b = mayB o.f6 := ⟨_, rfl⟩
      rw [← hbk] at MK MK0
      rw [← hbm] at MR MR0
      have HBK := Aside0.mk hbk
      have HBM := Aside0.mk hbm
      clear hbk hbm hq6 hb6 hk6 hHeld6
      have hk : o.f0 = 1 ∨ o.f0 = 2 ∨ o.f0 = 3 ∨ o.f0 = 4 ∨ o.f0 = 5 ∨ o.f0 = 6 := by omega
      have hR2 : R = (rowsOk o && restOk j o) := by rw [HR.out]; unfold mayOp; rw [hok'.out, ← HBT.out, show wi o.f0 1 6 = true by simp [wi]; omega]; simp
      have HR3 := Aside0.mk hR2
      clear hR2
      rcases hk with hk | hk | hk | hk | hk | hk
      all_goals have hb4 := HKK.out
      all_goals rw [hk] at hb4
      · obtain ⟨rfl, rfl, rfl, rfl⟩ : b0 = true ∧ b1 = false ∧ b2 = false ∧ b3 = false := by simpa [kindOf, eq_comm] using hb4
        clear hb4
        go_wp2_with (first | (go_at_call 44; (with_reducible first | refine MK0.out.mono ?_ | refine (MK.out _).mono ?_); rintro e w' ⟨rfl, ⟨nd, rfl⟩⟩) | (go_at_call 45; (with_reducible first | refine MR0.out.mono ?_ | refine (MR.out _).mono ?_); rintro e w' ⟨rfl, ⟨nd, rfl⟩⟩) | (go_at_call 37; (with_reducible refine (within _ _ _ _).mono ?_); rintro e w' ⟨rfl, rfl⟩))
        all_goals go_ret
        all_goals refine ⟨?_, by first | exact HBW.out | exact pw_below_drewN HBW.out _ | exact pw_below_drewN (pw_below_drewN HBW.out _) _⟩
        all_goals rw [HR3.out]
        all_goals unfold rowsOk restOk
        all_goals rw [← HBK.out, ← HBM.out, hk]
        all_goals show Ending.returned (Value.bool _) = _
        all_goals simp [*]
      · obtain ⟨rfl, rfl, rfl, rfl⟩ : b0 = true ∧ b1 = true ∧ b2 = false ∧ b3 = false := by simpa [kindOf, eq_comm] using hb4
        clear hb4
        go_wp2_with (first | (go_at_call 44; (with_reducible first | refine MK0.out.mono ?_ | refine (MK.out _).mono ?_); rintro e w' ⟨rfl, ⟨nd, rfl⟩⟩) | (go_at_call 45; (with_reducible first | refine MR0.out.mono ?_ | refine (MR.out _).mono ?_); rintro e w' ⟨rfl, ⟨nd, rfl⟩⟩) | (go_at_call 37; (with_reducible refine (within _ _ _ _).mono ?_); rintro e w' ⟨rfl, rfl⟩))
        all_goals go_ret
        all_goals refine ⟨?_, by first | exact HBW.out | exact pw_below_drewN HBW.out _ | exact pw_below_drewN (pw_below_drewN HBW.out _) _⟩
        all_goals rw [HR3.out]
        all_goals unfold rowsOk restOk
        all_goals rw [← HBK.out, ← HBM.out, hk]
        all_goals show Ending.returned (Value.bool _) = _
        all_goals simp [*]
      · obtain ⟨rfl, rfl, rfl, rfl⟩ : b0 = true ∧ b1 = true ∧ b2 = false ∧ b3 = false := by simpa [kindOf, eq_comm] using hb4
        clear hb4
        go_wp2_with (first | (go_at_call 44; (with_reducible first | refine MK0.out.mono ?_ | refine (MK.out _).mono ?_); rintro e w' ⟨rfl, ⟨nd, rfl⟩⟩) | (go_at_call 45; (with_reducible first | refine MR0.out.mono ?_ | refine (MR.out _).mono ?_); rintro e w' ⟨rfl, ⟨nd, rfl⟩⟩) | (go_at_call 37; (with_reducible refine (within _ _ _ _).mono ?_); rintro e w' ⟨rfl, rfl⟩))
        all_goals go_ret
        all_goals refine ⟨?_, by first | exact HBW.out | exact pw_below_drewN HBW.out _ | exact pw_below_drewN (pw_below_drewN HBW.out _) _⟩
        all_goals rw [HR3.out]
        all_goals unfold rowsOk restOk
        all_goals rw [← HBK.out, ← HBM.out, hk]
        all_goals show Ending.returned (Value.bool _) = _
        all_goals simp [*]
      · obtain ⟨rfl, rfl, rfl, rfl⟩ : b0 = true ∧ b1 = false ∧ b2 = false ∧ b3 = false := by simpa [kindOf, eq_comm] using hb4
        clear hb4
        go_wp2_with (first | (go_at_call 44; (with_reducible first | refine MK0.out.mono ?_ | refine (MK.out _).mono ?_); rintro e w' ⟨rfl, ⟨nd, rfl⟩⟩) | (go_at_call 45; (with_reducible first | refine MR0.out.mono ?_ | refine (MR.out _).mono ?_); rintro e w' ⟨rfl, ⟨nd, rfl⟩⟩) | (go_at_call 37; (with_reducible refine (within _ _ _ _).mono ?_); rintro e w' ⟨rfl, rfl⟩))
        all_goals go_ret
        all_goals refine ⟨?_, by first | exact HBW.out | exact pw_below_drewN HBW.out _ | exact pw_below_drewN (pw_below_drewN HBW.out _) _⟩
        all_goals rw [HR3.out]
        all_goals unfold rowsOk restOk
        all_goals rw [← HBK.out, ← HBM.out, hk]
        all_goals show Ending.returned (Value.bool _) = _
        all_goals simp [*]
      · obtain ⟨rfl, rfl, rfl, rfl⟩ : b0 = false ∧ b1 = false ∧ b2 = true ∧ b3 = false := by simpa [kindOf, eq_comm] using hb4
        clear hb4
        go_wp2_with (first | (go_at_call 44; (with_reducible first | refine MK0.out.mono ?_ | refine (MK.out _).mono ?_); rintro e w' ⟨rfl, ⟨nd, rfl⟩⟩) | (go_at_call 45; (with_reducible first | refine MR0.out.mono ?_ | refine (MR.out _).mono ?_); rintro e w' ⟨rfl, ⟨nd, rfl⟩⟩) | (go_at_call 37; (with_reducible refine (within _ _ _ _).mono ?_); rintro e w' ⟨rfl, rfl⟩))
        all_goals go_ret
        all_goals refine ⟨?_, by first | exact HBW.out | exact pw_below_drewN HBW.out _ | exact pw_below_drewN (pw_below_drewN HBW.out _) _⟩
        all_goals rw [HR3.out]
        all_goals unfold rowsOk restOk
        all_goals rw [← HBK.out, ← HBM.out, hk]
        all_goals show Ending.returned (Value.bool _) = _
        all_goals simp [*]
        all_goals first | (intro h1_ h2_; exfalso; omega) | (rw [decide_eq_true (by omega), decide_eq_true (by omega)]; rfl)
      · obtain ⟨rfl, rfl, rfl, rfl⟩ : b0 = false ∧ b1 = false ∧ b2 = true ∧ b3 = true := by simpa [kindOf, eq_comm] using hb4
        clear hb4
        go_upto_region 6 with fail
        obtain ⟨ad, ea, hx⟩ := Kd.at_int HI6.out.C o.f1 HF01.out.1 (by have := HF01.out.2; omega)
        subst ea
        obtain ⟨x, ex⟩ : ∃ x, x = rd j.ts o.f1 := ⟨_, rfl⟩
        rw [← ex] at hx
        have hx2 : 0 ≤ x ∧ x ≤ 2 := by
          have hl : o.f1.toNat < j.ts.length := by have h1 := HF01.out.1; have h2 := HF01.out.2; omega
          have er : rd j.ts o.f1 = j.ts[o.f1.toNat] := by simp [rd, List.getD, hl]
          rw [ex, er]
          exact T3.out _ (List.getElem_mem hl)
        have hw : IntKind.i64.wrap (x - 1) = x - 1 := by rw [IntKind.wrap_i64]; omega
        have f1a := HF01.out.1
        have f1b : o.f1 < (j.ts.length : Int) := by have := HF01.out.2; omega
        have EX := Aside0.mk ex
        clear ex hx2
        go_quiet (fail)
        clear hw
        go_wp2_with (first | (go_at_call 44; (with_reducible first | refine MK0.out.mono ?_ | refine (MK.out _).mono ?_); rintro e w' ⟨rfl, ⟨nd, rfl⟩⟩) | (go_at_call 45; (with_reducible first | refine MR0.out.mono ?_ | refine (MR.out _).mono ?_); rintro e w' ⟨rfl, ⟨nd, rfl⟩⟩) | (go_at_call 37; (with_reducible refine (within _ _ _ _).mono ?_); rintro e w' ⟨rfl, rfl⟩))
        all_goals go_ret
        all_goals refine ⟨?_, by first | exact HBW.out | exact pw_below_drewN HBW.out _ | exact pw_below_drewN (pw_below_drewN HBW.out _) _⟩
        all_goals rw [HR3.out]
        all_goals unfold rowsOk restOk
        all_goals rw [← HBK.out, ← HBM.out, hk, ← EX.out]
        all_goals show Ending.returned (Value.bool _) = _
        all_goals simp [*]
        all_goals first | (intro h1_ h2_; exfalso; omega) | (rw [decide_eq_true (by omega), decide_eq_true (by omega)]; rfl)
end Go.Proofs.Ytecdnhmdodedmaa.Ch
