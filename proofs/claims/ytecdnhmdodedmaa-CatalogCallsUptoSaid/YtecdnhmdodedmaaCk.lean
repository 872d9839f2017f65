/- catalog.MayTxn, MaySessions: which transactions and sessions may be. -/
import Derived.Test.YtecdnhmdodedmaaCj
namespace Go.Proofs.Ytecdnhmdodedmaa.Ch
open Go.RowKit Go.Proofs.YtecdnhmdodedmaaW.PrintWords Go.Proofs.YtecdnhmdodedmaaW.PrintLast Go.Proofs.YtecdnhmdodedmaaW.PrintMore Go.Proofs.Ytecdnhmdodedmaa.HS Go.Proofs.Ytecdnhmdodedmaa.Ca Go.Proofs.Ytecdnhmdodedmaa.It
set_option linter.unusedVariables false
set_option linter.unusedSimpArgs false
/-- A call that writes. -/
def writesB (o : S80) : Bool := decide (o.f0 = 4) || (decide (o.f0 = 2) || decide (o.f0 = 3))
/-- A call that may not be, in a transaction that is a snapshot, or none. -/
def badOp (j : Job) (snap : Bool) (o : S80) : Bool := !mayOp j o || (snap && writesB o)
def mayTxn (j : Job) (t : S74) : Bool := ok j && (decide (t.f0.length ≤ 16) && (!(t.f1 && t.f2) && !(t.f0.any (badOp j t.f1))))
def maySessions (j : Job) (l : List (List S74)) : Bool := ok j && (decide ((l.length : Int) = j.w) && !(l.any fun s => decide (64 < s.length) || s.any fun t => !mayTxn j t))
/-- A job's block. -/
structure JobAt (j : Job) (A : Option Addr) (n : Nat) (P : Nat) (W : World) : Prop where
  blk : W.heap[P]? = some (.cells (j.v A n) 24 (0, 0))
  inn : j.In W A n
theorem JobAt.below {j : Job} {A : Option Addr} {n P : Nat} {W V : World} (h : JobAt j A n P W) (hb : Below W.heap.size W V) : JobAt j A n P V := ⟨(hb.block P (blk_lt h.1)).trans h.1, h.2.below hb⟩
set_option maxHeartbeats 4000000 in
set_option maxRecDepth 100000 in
theorem clo80 (j : Job) (A : Option Addr) (n : Nat) (o : S80) (A3 : Option Addr) (c3 : Nat) (A4 : Option Addr) (c4 : Nat) (A6 : Option Addr) (c6 : Nat) (snap ab : Bool) (v0 : Value) (P Q : Nat) (w : World)
    (hj : JobAt j A n P w) (ht : w.heap[Q]? = some (.cells #[v0, .bool snap, .bool ab] 74 (0, 0))) (ho : OpIn o w A3 c3 A4 c4 A6 c6) :
    Calls Try.prog 57 #[.agg (opV o A3 c3 A4 c4 A6 c6), .pointer (some ⟨P, 0, none⟩), .pointer (some ⟨Q, 0, none⟩)] w fun e w' => e = .returned (.bool (badOp j snap o)) ∧ Below w.heap.size w w' := by
  have CO := Aside0.mk (fun (W : World) (h1 : j.In W A n) (h2 : OpIn o W A3 c3 A4 c4 A6 c6) => mayOp_call j o A n A3 c3 A4 c4 A6 c6 W h1 h2)
  unfold badOp
  obtain ⟨R, hR⟩ : ∃ R, R = mayOp j o := ⟨_, rfl⟩
  rw [← hR] at CO ⊢
  clear hR
  obtain ⟨hj0, hji⟩ := hj
  unfold Job.v at hj0 CO
  unfold opV at CO ⊢
  have hb := below_alloc (Below.refl w.heap.size w) (.cells #[.int .i64 o.f0, .int .i64 o.f1, .int .i64 o.f2, .slice A3 o.f3.length c3, .slice A4 o.f4.length c4, .int .i64 o.f5, .slice A6 o.f6.length c6] 80)
  have hblk := blk_new w (.cells #[.int .i64 o.f0, .int .i64 o.f1, .int .i64 o.f2, .slice A3 o.f3.length c3, .slice A4 o.f4.length c4, .int .i64 o.f5, .slice A6 o.f6.length c6] 80)
  have hj1 := (hb.block P (blk_lt hj0)).trans hj0
  have ht1 := (hb.block Q (blk_lt ht)).trans ht
  have HI := Aside0.mk (hji.below hb)
  have HO := Aside0.mk (ho.below hb)
  have HB := Aside0.mk hb
  clear hj0 ht hji ho hb
  obtain ⟨wb, hwb⟩ : ∃ b, b = writesB o := ⟨_, rfl⟩
  rw [← hwb]
  have HWB := Aside0.mk hwb
  clear hwb
  go_enter Try.func57, Try.ntmps57
  go_upto_region 1 with fail
  obtain ⟨P2, q0⟩ : ∃ B, w.heap.size = B := ⟨_, rfl⟩
  rw [q0] at hblk ⊢
  generalize World.alloc _ _ = w1 at hblk hj1 ht1 HI HO HB ⊢
  have z0 : (_ : Option Value) = some (.int .i64 o.f0) := (blk_cell hblk 0).trans rfl
  have z1 : (_ : Option Value) = some (.int .i64 o.f1) := (blk_cell hblk 1).trans rfl
  have z2 : (_ : Option Value) = some (.int .i64 o.f2) := (blk_cell hblk 2).trans rfl
  have z3 : (_ : Option Value) = some (.slice A3 o.f3.length c3) := (blk_cell hblk 3).trans rfl
  have z4 : (_ : Option Value) = some (.slice A4 o.f4.length c4) := (blk_cell hblk 4).trans rfl
  have z5 : (_ : Option Value) = some (.int .i64 o.f5) := (blk_cell hblk 5).trans rfl
  have z6 : (_ : Option Value) = some (.slice A6 o.f6.length c6) := (blk_cell hblk 6).trans rfl
  have c0 : (_ : Option Value) = some (.int .i64 j.w) := (blk_cell hj1 0).trans rfl
  have c1 : (_ : Option Value) = some (.int .i64 j.l) := (blk_cell hj1 1).trans rfl
  have c2 : (_ : Option Value) = some (.int .i64 j.wi) := (blk_cell hj1 2).trans rfl
  have c3' : (_ : Option Value) = some (.int .i64 j.c) := (blk_cell hj1 3).trans rfl
  have c4' : (_ : Option Value) = some (.int .i64 j.d) := (blk_cell hj1 4).trans rfl
  have c5 : (_ : Option Value) = some (.int .i64 j.e) := (blk_cell hj1 5).trans rfl
  have c6' : (_ : Option Value) = some (.slice A j.ts.length n) := (blk_cell hj1 6).trans rfl
  have TQ := Aside0.mk ht1
  have Q0 := Aside0.mk q0
  clear hblk hj1 ht1 q0
  go_cut [5] (fun s wx => s = .bool wb ∧ w1 = wx)
  case first =>
    have hwb : wb = ((o.f0 == 4) || ((o.f0 == 2) || (o.f0 == 3))) := by
      rw [HWB.out]
      unfold writesB
      rw [Bool.eq_iff_iff]
      simp
    obtain ⟨b4, h4⟩ : ∃ b, (o.f0 == 4) = b := ⟨_, rfl⟩
    obtain ⟨b2, h2⟩ : ∃ b, (o.f0 == 2) = b := ⟨_, rfl⟩
    obtain ⟨b3, h3⟩ : ∃ b, (o.f0 == 3) = b := ⟨_, rfl⟩
    rw [h4, h2, h3] at hwb
    have HW2 := Aside0.mk hwb
    clear hwb
    cases b4 <;> cases b2 <;> cases b3
    all_goals go_wp2
    all_goals go_meet
    all_goals exact ⟨by rw [HW2.out]; rfl, rfl⟩
  case rest =>
    obtain ⟨rfl, rfl⟩ := hcut
    have AR := Aside0.mk (CO.out _ HI.out HO.out)
    cases R with
    | false =>
      go_wp2_with ((go_at_call 35; (with_reducible refine AR.out.mono ?_); rintro e w2 ⟨rfl, hb2⟩; have HB2 := Aside0.mk (below_step HB.out hb2); clear hb2))
      all_goals go_ret
      all_goals exact ⟨by first | rfl | simp [*], HB2.out⟩
    | true =>
      cases snap with
      | false =>
        have t1 : (_ : Option Value) = some (.bool false) := (blk_cell TQ.out 1).trans rfl
        have T1 := Aside0.mk t1
        go_wp2_with ((go_at_call 35; (with_reducible refine AR.out.mono ?_); rintro e w2 ⟨rfl, hb2⟩; have HB2 := Aside0.mk (below_step HB.out hb2); have t1' := pw_cell_below hb2 T1.out; clear hb2))
        all_goals go_ret
        all_goals exact ⟨by first | rfl | simp [*], HB2.out⟩
      | true =>
        have t1 : (_ : Option Value) = some (.bool true) := (blk_cell TQ.out 1).trans rfl
        have T1 := Aside0.mk t1
        go_wp2_with ((go_at_call 35; (with_reducible refine AR.out.mono ?_); rintro e w2 ⟨rfl, hb2⟩; have HB2 := Aside0.mk (below_step HB.out hb2); have t1' := pw_cell_below hb2 T1.out; clear hb2))
        all_goals go_ret
        all_goals exact ⟨by first | rfl | simp [*], HB2.out⟩
theorem ok_err (j : Job) : (err (ok j) == 0) = ok j := by unfold err; cases ok j <;> rfl
set_option maxHeartbeats 4000000 in
set_option maxRecDepth 100000 in
theorem mayTxn_call (j : Job) (A : Option Addr) (n : Nat) (t : S74) (B : Option Addr) (d : Nat) (w : World) (hj : j.In w A n) (hl : t.f0.length ≤ d) (hB : Kd.C k80 w B t.f0.length t.f0) :
    Calls Try.prog 31 #[.agg (j.v A n), .agg #[.slice B t.f0.length d, .bool t.f1, .bool t.f2]] w fun e w' => e = .returned (.bool (mayTxn j t)) ∧ Below w.heap.size w w' := by
  have CK := Aside0.mk (fun (W : World) (hi : j.In W A n) => check j A n W hi)
  have hb0 := allocs_below [.cells (j.v A n) 24, .cells #[.slice B t.f0.length d, .bool t.f1, .bool t.f2] 74] w w.heap.size (Nat.le_refl _)
  have hat := allocs_at [.cells (j.v A n) 24, .cells #[.slice B t.f0.length d, .bool t.f1, .bool t.f2] 74] w
  have e0 := hat 0 _ rfl
  have e1 := hat 1 _ rfl
  clear hat
  simp only [List.foldl_cons, List.foldl_nil, List.length_cons, List.length_nil] at hb0 e0 e1
  have hcon := fun (V : World) (P Q : Nat) (hv : JobAt j A n P V) (hq : V.heap[Q]? = some (.cells #[.slice B t.f0.length d, .bool t.f1, .bool t.f2] 74 (0, 0))) (hC : Kd.C k80 V B t.f0.length t.f0) =>
    contains80 B d t.f0 (badOp j t.f1) P Q V hC (fun i hi A3 c3 A4 c4 A6 c6 W hW hq' => clo80 j A n (rd_T80 t.f0 (i : Int)) A3 c3 A4 c4 A6 c6 t.f1 t.f2 _ P Q W (hv.below hW) ((hW.block Q (blk_lt hq)).trans hq) hq')
  have HCON := Aside0.mk hcon
  have hjb : JobAt j A n w.heap.size (((w.alloc (.cells (j.v A n) 24)).alloc (.cells #[.slice B t.f0.length d, .bool t.f1, .bool t.f2] 74))) := ⟨e0, hj.below hb0⟩
  have HJB := Aside0.mk hjb
  have HCB := Aside0.mk (Kd.C_below hB hb0)
  have HB := Aside0.mk hb0
  obtain ⟨R, hR⟩ : ∃ R, R = mayTxn j t := ⟨_, rfl⟩
  have hR2 : R = (ok j && (decide (t.f0.length ≤ 16) && (!(t.f1 && t.f2) && !(t.f0.any (badOp j t.f1))))) := hR
  rw [← hR]
  obtain ⟨bad, hbad⟩ : ∃ b, b = t.f0.any (badOp j t.f1) := ⟨_, rfl⟩
  rw [← hbad] at HCON hR2
  obtain ⟨b, hbb⟩ : ∃ b, b = ok j := ⟨_, rfl⟩
  have hE := ok_err j
  obtain ⟨E, eE⟩ : ∃ E, E = err (ok j) := ⟨_, rfl⟩
  rw [← eE] at CK hE
  rw [← hbb] at hE hR2
  obtain ⟨f1, hf1⟩ : ∃ b, b = t.f1 := ⟨_, rfl⟩
  obtain ⟨f2, hf2⟩ : ∃ b, b = t.f2 := ⟨_, rfl⟩
  rw [← hf1, ← hf2] at hR2 e0 e1 HCON HJB HCB HB ⊢
  have HR := Aside0.mk hR2
  clear hcon hbad hbb eE hj hB hb0 hjb hR2 hR hf1 hf2
  unfold Job.v at *
  go_enter Try.func31, Try.ntmps31
  go_upto_region 1 with fail
  obtain ⟨P0, q0⟩ : ∃ B, w.heap.size = B := ⟨_, rfl⟩
  rw [show w.heap.size + 0 = w.heap.size from rfl] at e0
  rw [q0] at e0 e1 HJB ⊢
  obtain ⟨P1, q1⟩ : ∃ B, P0 + 1 = B := ⟨_, rfl⟩
  rw [q1] at e1 ⊢
  generalize World.alloc _ _ = w2 at e0 e1 HJB HCB HB ⊢
  have c0 : (_ : Option Value) = some (.int .i64 j.w) := (blk_cell e0 0).trans rfl
  have c1 : (_ : Option Value) = some (.int .i64 j.l) := (blk_cell e0 1).trans rfl
  have c2 : (_ : Option Value) = some (.int .i64 j.wi) := (blk_cell e0 2).trans rfl
  have c3' : (_ : Option Value) = some (.int .i64 j.c) := (blk_cell e0 3).trans rfl
  have c4' : (_ : Option Value) = some (.int .i64 j.d) := (blk_cell e0 4).trans rfl
  have c5 : (_ : Option Value) = some (.int .i64 j.e) := (blk_cell e0 5).trans rfl
  have c6' : (_ : Option Value) = some (.slice A j.ts.length n) := (blk_cell e0 6).trans rfl
  have E1 := Aside0.mk e1
  clear e0 e1 q0 q1
  cases b with
  | false =>
    go_wp2_with (go_at_call 11; (with_reducible refine (CK.out _ HJB.out.inn).mono ?_); rintro e w3 ⟨rfl, hb3⟩; have HB3 := Aside0.mk (below_step HB.out hb3); clear hb3)
    go_ret
    exact ⟨by rw [HR.out]; first | done | rfl | simp, HB3.out⟩
  | true =>
    have K1 := Aside0.mk (fun (W : World) (hb : Below w2.heap.size w2 W) => And.intro (pw_cell_below hb ((blk_cell E1.out 0).trans rfl : w2.cell? ⟨P1, 0, none⟩ = some (.slice B t.f0.length d))) (And.intro (pw_cell_below hb ((blk_cell E1.out 1).trans rfl : w2.cell? ⟨P1, 1, none⟩ = some (.bool f1))) (pw_cell_below hb ((blk_cell E1.out 2).trans rfl : w2.cell? ⟨P1, 2, none⟩ = some (.bool f2)))))
    have CC := Aside0.mk (fun (W : World) (hb : Below w2.heap.size w2 W) => HCON.out W P0 P1 (HJB.out.below hb) ((hb.block P1 (blk_lt E1.out)).trans E1.out) (Kd.C_below HCB.out hb))
    go_wp2_with (first | (go_at_call 11; (with_reducible refine (CK.out _ HJB.out.inn).mono ?_); rintro e w3 ⟨rfl, hb3⟩; have HB3 := Aside0.mk (below_step HB.out hb3); have HQ3 := Aside0.mk hb3; obtain ⟨z0, z1, z2⟩ := K1.out _ hb3; clear hb3) | (go_at_call 58; (with_reducible refine (CC.out _ HQ3.out).mono ?_); rintro e w4 ⟨rfl, hb4⟩; have HB4 := Aside0.mk (below_step HB3.out hb4); clear hb4))
    all_goals go_ret
    all_goals refine ⟨?_, by first | exact HB4.out | exact HB3.out⟩
    all_goals rw [HR.out]
    all_goals show Ending.returned (Value.bool _) = _
    all_goals simp [*]
    all_goals (try (intro h_; omega))
    all_goals (try (rw [decide_eq_true (by omega)]; rfl))
/-- A list of transactions, read. -/
theorem clo74 (j : Job) (A : Option Addr) (n : Nat) (t : S74) (B : Option Addr) (d : Nat) (P : Nat) (w : World) (hj : JobAt j A n P w) (hl : t.f0.length ≤ d) (hB : Kd.C k80 w B t.f0.length t.f0) :
    Calls Try.prog 55 #[.agg #[.slice B t.f0.length d, .bool t.f1, .bool t.f2], .pointer (some ⟨P, 0, none⟩)] w fun e w' => e = .returned (.bool (!mayTxn j t)) ∧ Below w.heap.size w w' := by
  have CO := Aside0.mk (fun (W : World) (h1 : j.In W A n) (h2 : Kd.C k80 W B t.f0.length t.f0) => mayTxn_call j A n t B d W h1 hl h2)
  obtain ⟨R, hR⟩ : ∃ R, R = mayTxn j t := ⟨_, rfl⟩
  rw [← hR] at CO ⊢
  clear hR
  obtain ⟨hj0, hji⟩ := hj
  unfold Job.v at hj0 CO
  have hb := below_alloc (Below.refl w.heap.size w) (.cells #[.slice B t.f0.length d, .bool t.f1, .bool t.f2] 74)
  have hblk := blk_new w (.cells #[.slice B t.f0.length d, .bool t.f1, .bool t.f2] 74)
  have hj1 := (hb.block P (blk_lt hj0)).trans hj0
  have HI := Aside0.mk (hji.below hb)
  have HO := Aside0.mk (Kd.C_below hB hb)
  have HB := Aside0.mk hb
  clear hj0 hji hb hB hl
  go_enter Try.func55, Try.ntmps55
  go_upto_region 1 with fail
  obtain ⟨P2, q0⟩ : ∃ B, w.heap.size = B := ⟨_, rfl⟩
  rw [q0] at hblk ⊢
  generalize World.alloc _ _ = w1 at hblk hj1 HI HO HB ⊢
  have z0 : (_ : Option Value) = some (.slice B t.f0.length d) := (blk_cell hblk 0).trans rfl
  have z1 : (_ : Option Value) = some (.bool t.f1) := (blk_cell hblk 1).trans rfl
  have z2 : (_ : Option Value) = some (.bool t.f2) := (blk_cell hblk 2).trans rfl
  have c0 : (_ : Option Value) = some (.int .i64 j.w) := (blk_cell hj1 0).trans rfl
  have c1 : (_ : Option Value) = some (.int .i64 j.l) := (blk_cell hj1 1).trans rfl
  have c2 : (_ : Option Value) = some (.int .i64 j.wi) := (blk_cell hj1 2).trans rfl
  have c3' : (_ : Option Value) = some (.int .i64 j.c) := (blk_cell hj1 3).trans rfl
  have c4' : (_ : Option Value) = some (.int .i64 j.d) := (blk_cell hj1 4).trans rfl
  have c5 : (_ : Option Value) = some (.int .i64 j.e) := (blk_cell hj1 5).trans rfl
  have c6' : (_ : Option Value) = some (.slice A j.ts.length n) := (blk_cell hj1 6).trans rfl
  have AR := Aside0.mk (CO.out _ HI.out HO.out)
  clear hblk hj1 q0
  go_wp2_with ((go_at_call 31; (with_reducible refine AR.out.mono ?_); rintro e w2 ⟨rfl, hb2⟩; have HB2 := Aside0.mk (below_step HB.out hb2); clear hb2))
  go_ret
  exact ⟨rfl, HB2.out⟩
def badSession (j : Job) (s : List S74) : Bool := decide (64 < s.length) || s.any fun t => !mayTxn j t
set_option maxHeartbeats 4000000 in
set_option maxRecDepth 100000 in
theorem clo69 (j : Job) (A : Option Addr) (n : Nat) (s : List S74) (B : Option Addr) (d : Nat) (P : Nat) (w : World) (hj : JobAt j A n P w) (hB : Kd.C k74 w B s.length s) :
    Calls Try.prog 53 #[.slice B s.length d, .pointer (some ⟨P, 0, none⟩)] w fun e w' => e = .returned (.bool (badSession j s)) ∧ Below w.heap.size w w' := by
  have CC := Aside0.mk (contains74 B d s (fun t => !mayTxn j t) P w hB (fun i hi A' c' W hW hq => clo74 j A n (rd_T74 s (i : Int)) A' c' P W (hj.below hW) hq.1 hq.2))
  unfold badSession
  obtain ⟨b, hb⟩ : ∃ b, b = s.any fun t => !mayTxn j t := ⟨_, rfl⟩
  rw [← hb] at CC ⊢
  clear hj hB hb
  by_cases hl : 64 < s.length
  · go_enter Try.func53, Try.ntmps53
    go_wp2
    go_ret
    exact ⟨by simp [hl], Below.refl _ _⟩
  · go_enter Try.func53, Try.ntmps53
    go_wp2_with ((go_at_call 54; (with_reducible refine CC.out.mono ?_); rintro e w2 ⟨rfl, hb2⟩; have HB2 := Aside0.mk hb2; clear hb2))
    go_ret
    have h1 : decide (64 < s.length) = false := decide_eq_false hl
    have h2 : decide (64 < (s.length : Int)) = false := decide_eq_false (by omega)
    exact ⟨by first | (simp [h1, h2]; done) | (simp [h1, h2]; intro h3; omega), HB2.out⟩
set_option maxHeartbeats 4000000 in
set_option maxRecDepth 100000 in
theorem maySessions_call (j : Job) (A : Option Addr) (n : Nat) (l : List (List S74)) (B : Option Addr) (d : Nat) (w : World) (hj : j.In w A n) (hB : Kd.C (Kd.slice 74 k74) w B l.length l) :
    Calls Try.prog 29 #[.agg (j.v A n), .slice B l.length d] w fun e w' => e = .returned (.bool (maySessions j l)) ∧ Below w.heap.size w w' := by
  have CK := Aside0.mk (fun (W : World) (hi : j.In W A n) => check j A n W hi)
  have hb := below_alloc (Below.refl w.heap.size w) (.cells (j.v A n) 24)
  have hblk := blk_new w (.cells (j.v A n) 24)
  have HCON := Aside0.mk (fun (V : World) (P : Nat) (hv : JobAt j A n P V) (hC : Kd.C (Kd.slice 74 k74) V B l.length l) =>
    contains69 B d l (badSession j) P V hC (fun i hi A' c' W hW hq => clo69 j A n (rd_L10 l (i : Int)) A' c' P W (hv.below hW) hq.2))
  have HJB := Aside0.mk (JobAt.mk hblk (hj.below hb))
  have HCB := Aside0.mk (Kd.C_below hB hb)
  have HB := Aside0.mk hb
  obtain ⟨R, hR⟩ : ∃ R, R = maySessions j l := ⟨_, rfl⟩
  have hR2 : R = (ok j && (decide ((l.length : Int) = j.w) && !(l.any (badSession j)))) := hR
  rw [← hR]
  obtain ⟨bad, hbad⟩ : ∃ b, b = l.any (badSession j) := ⟨_, rfl⟩
  rw [← hbad] at HCON hR2
  obtain ⟨b, hbb⟩ : ∃ b, b = ok j := ⟨_, rfl⟩
  have hE := ok_err j
  obtain ⟨E, eE⟩ : ∃ E, E = err (ok j) := ⟨_, rfl⟩
  rw [← eE] at CK hE
  rw [← hbb] at hE hR2
  have HR := Aside0.mk hR2
  clear hbad hbb eE hj hB hb hR hR2
  unfold Job.v at *
  go_enter Try.func29, Try.ntmps29
  go_upto_region 1 with fail
  obtain ⟨P0, q0⟩ : ∃ B, w.heap.size = B := ⟨_, rfl⟩
  rw [q0] at hblk HJB ⊢
  generalize World.alloc _ _ = w2 at hblk HJB HCB HB ⊢
  have c0 : (_ : Option Value) = some (.int .i64 j.w) := (blk_cell hblk 0).trans rfl
  have c1 : (_ : Option Value) = some (.int .i64 j.l) := (blk_cell hblk 1).trans rfl
  have c2 : (_ : Option Value) = some (.int .i64 j.wi) := (blk_cell hblk 2).trans rfl
  have c3' : (_ : Option Value) = some (.int .i64 j.c) := (blk_cell hblk 3).trans rfl
  have c4' : (_ : Option Value) = some (.int .i64 j.d) := (blk_cell hblk 4).trans rfl
  have c5 : (_ : Option Value) = some (.int .i64 j.e) := (blk_cell hblk 5).trans rfl
  have c6' : (_ : Option Value) = some (.slice A j.ts.length n) := (blk_cell hblk 6).trans rfl
  have K0 := Aside0.mk c0
  clear hblk q0
  cases b with
  | false =>
    go_wp2_with (go_at_call 11; (with_reducible refine (CK.out _ HJB.out.inn).mono ?_); rintro e w3 ⟨rfl, hb3⟩; have HB3 := Aside0.mk (below_step HB.out hb3); clear hb3)
    go_ret
    exact ⟨by rw [HR.out]; first | done | rfl | simp, HB3.out⟩
  | true =>
    have CC := Aside0.mk (fun (W : World) (hb : Below w2.heap.size w2 W) => HCON.out W P0 (HJB.out.below hb) (Kd.C_below HCB.out hb))
    obtain ⟨bw, hbw⟩ : ∃ b, ((l.length : Int) == j.w) = b := ⟨_, rfl⟩
    have HBW := Aside0.mk (show decide ((l.length : Int) = j.w) = bw by rw [← hbw]; exact Bool.eq_iff_iff.2 (by simp))
    cases bw
    all_goals go_wp2_with (first | (go_at_call 11; (with_reducible refine (CK.out _ HJB.out.inn).mono ?_); rintro e w3 ⟨rfl, hb3⟩; have HB3 := Aside0.mk (below_step HB.out hb3); have HQ3 := Aside0.mk hb3; have z0 := pw_cell_below hb3 K0.out; clear hb3) | (go_at_call 56; (with_reducible refine (CC.out _ HQ3.out).mono ?_); rintro e w4 ⟨rfl, hb4⟩; have HB4 := Aside0.mk (below_step HB3.out hb4); clear hb4))
    all_goals go_ret
    all_goals refine ⟨?_, by first | exact HB4.out | exact HB3.out⟩
    all_goals rw [HR.out, HBW.out]
    all_goals first | done | rfl | simp
end Go.Proofs.Ytecdnhmdodedmaa.Ch
