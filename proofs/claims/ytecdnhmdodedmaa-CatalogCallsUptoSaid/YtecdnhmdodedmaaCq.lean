/- garnerlaw16.known answers true. -/
import Derived.Test.YtecdnhmdodedmaaCo
import Derived.Test.YtecdnhmdodedmaaLit
import Derived.Laws.Slices
namespace Go.Proofs.Ytecdnhmdodedmaa.Ch
open Go.RowKit Go.Proofs.YtecdnhmdodedmaaW.PrintWords Go.Proofs.YtecdnhmdodedmaaW.PrintLast Go.Proofs.YtecdnhmdodedmaaW.PrintMore Go.Proofs.Ytecdnhmdodedmaa.HS Go.Proofs.Ytecdnhmdodedmaa.Ca Go.Proofs.Ytecdnhmdodedmaa.It
open Go.Proofs.Ytecdnhmdodedmaa.Lits
set_option linter.unusedVariables false
set_option linter.unusedSimpArgs false
theorem drawn_below {w w' : World} (h : Drawn0 w w') : Below w.heap.size w w' := by obtain ⟨m, rfl⟩ := h; exact pw_below_drewN (Below.refl _ _) m
/-- A row of one element that has been laid. -/
theorem C_one {α : Type} {d : Kd α} {W : World} (e : TypeId) {x : α} {cs : List Value} (h : d.K W x cs) : d.C (W.alloc (.cells cs.toArray e)) (some ⟨W.heap.size, 0, none⟩) [x].length [x] := by
  have hb := below_alloc (Below.refl W.heap.size W) (.cells cs.toArray e)
  refine ⟨rfl, by simp, fun _ => ⟨_, rfl, fun j p hj => ?_⟩⟩
  have hj0 : j = 0 := by cases j with | zero => rfl | succ j => simp at hj
  subst hj0
  obtain rfl : x = p := by simpa using hj
  refine ⟨cs, d.K_len h, d.K_below hb h, fun i u hu => ?_⟩
  rw [Nat.zero_mul, Nat.zero_add]
  have ha : (⟨W.heap.size, 0, none⟩ : Addr).add i = ⟨W.heap.size, i, none⟩ := by unfold Addr.add; split <;> simp_all
  rw [ha]
  have := blk_cell (blk_new W (.cells cs.toArray e)) i
  rw [this]
  simpa using hu
theorem C_two {α : Type} {d : Kd α} {W : World} (e : TypeId) (hs : d.sz = 1) {x y : α} {u v : Value} (h : d.K W x [u]) (h2 : d.K W y [v]) : d.C (W.alloc (.cells #[u, v] e)) (some ⟨W.heap.size, 0, none⟩) [x, y].length [x, y] := by
  have hb := below_alloc (Below.refl W.heap.size W) (.cells #[u, v] e)
  refine ⟨rfl, by simp, fun _ => ⟨_, rfl, fun j p hj => ?_⟩⟩
  have ha : ∀ i, (⟨W.heap.size, 0, none⟩ : Addr).add i = ⟨W.heap.size, i, none⟩ := fun i => by unfold Addr.add; split <;> simp_all
  have hc := fun i => blk_cell (blk_new W (.cells #[u, v] e)) i
  match j, hj with
  | 0, hj =>
    obtain rfl : x = p := by simpa using hj
    refine ⟨[u], d.K_len h, d.K_below hb h, fun i z hz => ?_⟩
    have hi : i = 0 := by cases i with | zero => rfl | succ i => simp at hz
    subst hi
    rw [hs, ha, hc]
    simpa using hz
  | 1, hj =>
    obtain rfl : y = p := by simpa using hj
    refine ⟨[v], d.K_len h2, d.K_below hb h2, fun i z hz => ?_⟩
    have hi : i = 0 := by cases i with | zero => rfl | succ i => simp at hz
    subst hi
    rw [hs, ha, hc]
    simpa using hz
  | j + 2, hj => simp at hj
theorem JobAt.cells {j : Job} {A : Option Addr} {n P : Nat} {W : World} (h : JobAt j A n P W) : W.cell? ⟨P, 0, none⟩ = some (.int .i64 j.w) ∧ W.cell? ⟨P, 1, none⟩ = some (.int .i64 j.l) ∧ W.cell? ⟨P, 2, none⟩ = some (.int .i64 j.wi) ∧ W.cell? ⟨P, 3, none⟩ = some (.int .i64 j.c) ∧ W.cell? ⟨P, 4, none⟩ = some (.int .i64 j.d) ∧ W.cell? ⟨P, 5, none⟩ = some (.int .i64 j.e) ∧ W.cell? ⟨P, 6, none⟩ = some (.slice A j.ts.length n) :=
  ⟨(blk_cell h.blk 0).trans rfl, (blk_cell h.blk 1).trans rfl, (blk_cell h.blk 2).trans rfl, (blk_cell h.blk 3).trans rfl, (blk_cell h.blk 4).trans rfl, (blk_cell h.blk 5).trans rfl, (blk_cell h.blk 6).trans rfl⟩
def j0 : Job := ⟨1, 1, 3, 1024, 1024, 1, [0, 2]⟩
def e1 : List S62 := [⟨2, [98, 0, 1, 107]⟩]
def e2 : List S62 := [⟨2, [99, 0, 1, 107]⟩]
def o1 : S80 := ⟨5, 0, 0, [], [], 65, []⟩
def o2 : S80 := ⟨2, 0, 0, [107], [], 0, []⟩
theorem job0 (w : World) : Calls Try.prog 34 #[] w fun e w' => ∃ v, e = .returned (.agg #[.int .i64 1, .int .i64 1, .int .i64 3, .int .i64 1024, .int .i64 1024, .int .i64 1, v]) ∧ Kd.R (Kd.int .i64) 3 w' w.heap.size (fun _ => True) v [0, 2] ∧ Below w.heap.size w w' := garnerlaw16_job.calls 1 1 3 1024 1024 1 [0, 2] w rfl
theorem num_call (x : Int) (w : World) : Calls Try.prog 10 #[.int .i64 x] w fun e w' => e = .returned (.int .i64 x) ∧ Drawn0 w w' := garnerlaw16_num.calls x x w rfl
theorem same_call (K : Nat) (A B : Option Addr) (c d : Nat) (a b : List S62) (r : Bool) (h : garnerref16_SameEntries.f K a b = some r) (w : World) (hA : Kd.C k62 w A a.length a) (hc : a.length ≤ c) (hB : Kd.C k62 w B b.length b) (hd : b.length ≤ d) :
    Calls Try.prog 24 #[.slice A a.length c, .slice B b.length d] w fun e w' => e = .returned (.bool r) ∧ Drawn0 w w' := garnerref16_SameEntries.calls K A c a B d b r w hA hc hB hd h
def TupP (l : Array Value) (w : World) (e : Ending) (w' : World) : Prop := e = .returned (.tuple l) ∧ Below w.heap.size w w'
def OneP (v : Value) (w : World) (e : Ending) (w' : World) : Prop := e = .returned v ∧ Below w.heap.size w w'
theorem tr1 : treeL j0 0 (-1) = (0, 0) := by decide +kernel
theorem tr2 : treeL j0 1 (-1) = (1, 0) := by decide +kernel
theorem tr3 : treeL j0 1 1 = (3, 0) := by decide +kernel
theorem tr4 : treeL j0 0 0 = (0, 2) := by decide +kernel
theorem of0 : ofL j0 2 = (1, 0, 0) := by decide +kernel
theorem en1 : entriesL j0 1 [107] [[97], [98]] = (e1, 0) := by rfl
theorem en2 : entriesL j0 1 [107] [[97]] = ([], 0) := by rfl
theorem en3 : entriesL j0 1 [107] [[97], [99]] = (e2, 0) := by rfl
theorem wo1 : withoutL e1 e2 = e1 := by kernel_rfl
theorem wo2 : withoutL e2 e1 = e2 := by kernel_rfl
theorem ch1 : changesL j0 1 [107] [[97], [98]] [[97], [99]] = (e1, e2, 0) := by unfold changesL; rw [en1, en3, wo1, wo2]; rfl
theorem ok0 : ok j0 = true := by decide +kernel
theorem nm0 : (names j0).length = 4 := by decide +kernel
theorem mo1 : mayOp j0 o1 = false := by decide +kernel
theorem mo2 : mayOp j0 o2 = false := by decide +kernel
theorem se1 : garnerref16_SameEntries.f 3 e1 e1 = some true := by decide +kernel
theorem se2 : garnerref16_SameEntries.f 3 e2 e2 = some true := by decide +kernel
def TrueP (w : World) (e : Ending) (w' : World) : Prop := e = .returned (.bool true) ∧ Below w.heap.size w w'
set_option maxHeartbeats 16000000 in
set_option maxRecDepth 100000 in
theorem known_walk (w : World) : Calls Try.prog 8 #[] w (TrueP w) := by
  obtain ⟨j, hj⟩ : ∃ j, j = j0 := ⟨_, rfl⟩
  obtain ⟨ya, hya⟩ : ∃ y : List Int, y = [97] := ⟨_, rfl⟩
  obtain ⟨yb, hyb⟩ : ∃ y : List Int, y = [98] := ⟨_, rfl⟩
  obtain ⟨yc, hyc⟩ : ∃ y : List Int, y = [99] := ⟨_, rfl⟩
  obtain ⟨yk, hyk⟩ : ∃ y : List Int, y = [107] := ⟨_, rfl⟩
  obtain ⟨yeb, hyeb⟩ : ∃ y : List Int, y = [98, 0, 1, 107] := ⟨_, rfl⟩
  obtain ⟨yec, hyec⟩ : ∃ y : List Int, y = [99, 0, 1, 107] := ⟨_, rfl⟩
  have CT1 : Aside0 (∀ (A : Option Addr) (n : Nat) (W : World), j.In W A n → Calls Try.prog 15 #[.agg (j.v A n), .int .i64 0, .int .i64 (-1)] W (TupP #[.int .i64 0, .int .i64 0] W)) := ⟨fun A n W h => by have := tree_in j A n 0 (-1) W h; rw [hj, tr1] at this; rw [hj]; exact this⟩
  have CT2 : Aside0 (∀ (A : Option Addr) (n : Nat) (W : World), j.In W A n → Calls Try.prog 15 #[.agg (j.v A n), .int .i64 1, .int .i64 (-1)] W (TupP #[.int .i64 1, .int .i64 0] W)) := ⟨fun A n W h => by have := tree_in j A n 1 (-1) W h; rw [hj, tr2] at this; rw [hj]; exact this⟩
  have CT3 : Aside0 (∀ (A : Option Addr) (n : Nat) (W : World), j.In W A n → Calls Try.prog 15 #[.agg (j.v A n), .int .i64 1, .int .i64 1] W (TupP #[.int .i64 3, .int .i64 0] W)) := ⟨fun A n W h => by have := tree_in j A n 1 1 W h; rw [hj, tr3] at this; rw [hj]; exact this⟩
  have CT4 : Aside0 (∀ (A : Option Addr) (n : Nat) (W : World), j.In W A n → Calls Try.prog 15 #[.agg (j.v A n), .int .i64 0, .int .i64 0] W (TupP #[.int .i64 0, .int .i64 2] W)) := ⟨fun A n W h => by have := tree_in j A n 0 0 W h; rw [hj, tr4] at this; rw [hj]; exact this⟩
  have COF : Aside0 (∀ (A : Option Addr) (n : Nat) (W : World), j.In W A n → Calls Try.prog 17 #[.agg (j.v A n), .int .i64 2] W (TupP #[.int .i64 1, .int .i64 0, .int .i64 0] W)) := ⟨fun A n W h => by have := of_in j A n 2 W h; rw [hj, of0] at this; rw [hj]; exact this⟩
  have CK : Aside0 (∀ (A : Option Addr) (n : Nat) (W : World), j.In W A n → Calls Try.prog 11 #[.agg (j.v A n)] W (OneP (.int .i64 0) W)) := ⟨fun A n W h => by have := check j A n W h; rw [hj, ok0] at this; rw [hj]; exact this⟩
  have CTR : Aside0 (∀ (A : Option Addr) (n : Nat) (W : World), j.In W A n → Calls Try.prog 13 #[.agg (j.v A n)] W (OneP (.int .i64 4) W)) := ⟨fun A n W h => by have := trees j A n W h; rw [hj, nm0] at this; rw [hj]; exact this⟩
  have CE1 : Aside0 (∀ (A : Option Addr) (n : Nat) (B : Option Addr) (d : Nat) (D : Option Addr) (W : World), j.In W A n → Kd.C (Kd.int .u8) W B yk.length yk → yk.length ≤ d → Kd.C (Kd.slice 5 (Kd.int .u8)) W D 2 [ya, yb] → Calls Try.prog 20 #[.agg (j.v A n), .int .i64 1, .slice B yk.length d, .slice D 2 2] W (EntP2 (e1, 0) W)) := ⟨fun A n B d D W h h1 h2 h3 => by have := entries_call j A n 1 B d yk D 2 [ya, yb] W h h1 h2 h3 (by simp); rw [hj, hyk, hya, hyb, en1] at this; rw [hj, hyk]; exact this⟩
  have CE2 : Aside0 (∀ (A : Option Addr) (n : Nat) (B : Option Addr) (D : Option Addr) (W : World), j.In W A n → Kd.C (Kd.int .u8) W B 1 [107] → Kd.C (Kd.slice 5 (Kd.int .u8)) W D 2 [ya, yb] → Calls Try.prog 20 #[.agg (j.v A n), .int .i64 1, .slice B 1 1, .slice D 1 2] W (EntP2 ([], 0) W)) := ⟨fun A n B D W h h1 h3 => by have := entries_call j A n 1 B 1 [107] D 2 [ya] W h h1 (Nat.le_refl _) (Kd.C_take (m := 1) h3 (by simp)) (by simp); rw [hj, hya, en2] at this; rw [hj]; exact this⟩
  have CC : Aside0 (∀ (A : Option Addr) (n : Nat) (B : Option Addr) (d : Nat) (D : Option Addr) (D2 : Option Addr) (W : World), j.In W A n → Kd.C (Kd.int .u8) W B yk.length yk → yk.length ≤ d → Kd.C (Kd.slice 5 (Kd.int .u8)) W D 2 [ya, yb] → Kd.C (Kd.slice 5 (Kd.int .u8)) W D2 2 [ya, yc] → Calls Try.prog 22 #[.agg (j.v A n), .int .i64 1, .slice B yk.length d, .slice D 2 2, .slice D2 2 2] W (ChgP (e1, e2, 0) W)) := ⟨fun A n B d D D2 W h h1 h2 h3 h4 => by have := changes_call j A n 1 B d yk D 2 [ya, yb] D2 2 [ya, yc] W h h1 h2 h3 (by simp) h4 (by simp); rw [hj, hyk, hya, hyb, hyc, ch1] at this; rw [hj, hyk]; exact this⟩
  have SE1 : Aside0 (∀ (A B : Option Addr) (c : Nat) (W : World), Kd.C k62 W A e1.length e1 → e1.length ≤ c → Kd.C k62 W B 1 [⟨2, yeb⟩] → Calls Try.prog 24 #[.slice A e1.length c, .slice B 1 1] W fun e w' => e = .returned (.bool true) ∧ Drawn0 W w') := ⟨fun A B c W h1 h2 h3 => same_call 3 A B c 1 e1 [⟨2, yeb⟩] true (by rw [hyeb]; exact se1) W h1 h2 h3 (Nat.le_refl _)⟩
  have SE2 : Aside0 (∀ (A B : Option Addr) (c d : Nat) (W : World), Kd.C k62 W A e1.length e1 → e1.length ≤ c → Kd.C k62 W B e1.length e1 → e1.length ≤ d → Calls Try.prog 24 #[.slice A e1.length c, .slice B e1.length d] W fun e w' => e = .returned (.bool true) ∧ Drawn0 W w') := ⟨fun A B c d W h1 h2 h3 h4 => same_call 3 A B c d e1 e1 true se1 W h1 h2 h3 h4⟩
  have SE3 : Aside0 (∀ (A B : Option Addr) (c : Nat) (W : World), Kd.C k62 W A e2.length e2 → e2.length ≤ c → Kd.C k62 W B 1 [⟨2, yec⟩] → Calls Try.prog 24 #[.slice A e2.length c, .slice B 1 1] W fun e w' => e = .returned (.bool true) ∧ Drawn0 W w') := ⟨fun A B c W h1 h2 h3 => same_call 3 A B c 1 e2 [⟨2, yec⟩] true (by rw [hyec]; exact se2) W h1 h2 h3 (Nat.le_refl _)⟩
  have MO1 : Aside0 (∀ (A : Option Addr) (n : Nat) (W : World), j.In W A n → Calls Try.prog 35 #[.agg (j.v A n), .agg #[.int .i64 5, .int .i64 0, .int .i64 0, .slice none 0 0, .slice none 0 0, .int .i64 65, .slice none 0 0]] W (OneP (.bool false) W)) := ⟨fun A n W h => by have := mayOp_call j o1 A n none 0 none 0 none 0 W h ⟨Nat.le_refl _, Kd.C_nil _ _, Nat.le_refl _, Kd.C_nil _ _, Nat.le_refl _, Kd.C_nil _ _⟩; rw [hj, mo1] at this; rw [hj]; exact this⟩
  have MO2 : Aside0 (∀ (A : Option Addr) (n : Nat) (B : Option Addr) (d : Nat) (W : World), j.In W A n → Kd.C (Kd.int .u8) W B yk.length yk → yk.length ≤ d → Calls Try.prog 35 #[.agg (j.v A n), .agg #[.int .i64 2, .int .i64 0, .int .i64 0, .slice B yk.length d, .slice none 0 0, .int .i64 0, .slice none 0 0]] W (OneP (.bool false) W)) := ⟨fun A n B d W h h1 h2 => by rw [hyk] at h1 h2 ⊢; have := mayOp_call j o2 A n B d none 0 none 0 W h ⟨h2, h1, Nat.le_refl _, Kd.C_nil _ _, Nat.le_refl _, Kd.C_nil _ _⟩; rw [hj, mo2] at this; rw [hj]; exact this⟩
  have JV : Aside0 (∀ (A : Option Addr) (n : Nat) (W : World), Kd.C (Kd.int .i64) W A 2 [0, 2] → 2 ≤ n → j.In W A n) := ⟨fun A n W h1 h2 => by rw [hj]; exact ⟨h1, h2⟩⟩
  have JW : Aside0 (∀ (A : Option Addr) (n : Nat), (#[.int .i64 1, .int .i64 1, .int .i64 3, .int .i64 1024, .int .i64 1024, .int .i64 1, .slice A 2 n] : Array Value) = j.v A n) := ⟨fun A n => by rw [hj]; rfl⟩
  have NA := Aside0.mk hya
  have NB := Aside0.mk hyb
  have NC := Aside0.mk hyc
  have NK := Aside0.mk hyk
  have NEB := Aside0.mk hyeb
  have NEC := Aside0.mk hyec
  clear hj hya hyb hyc hyk hyeb hyec
  go_enter Try.func8, Try.ntmps8
  go_upto_region 2 with (first | (go_at_call 34; refine (job0 _).mono ?_; rintro e w1 ⟨v, rfl, ho, hb⟩; obtain ⟨A, n, rfl, hn, hC⟩ := Kd.R_reads ho; have HN := Aside0.mk hn; have HC := Aside0.mk hC; have HB0 := Aside0.mk hb; clear ho hn hC hb))
  have hblk := blk_new w1 (.cells (j.v A n) 24)
  have hb := below_alloc (Below.refl w1.heap.size w1) (.cells (j.v A n) 24)
  rw [show (Obj.cells #[.int .i64 1, .int .i64 1, .int .i64 3, .int .i64 1024, .int .i64 1024, .int .i64 1, .slice A 2 n] 24) = .cells (j.v A n) 24 from congrArg (fun z => Obj.cells z 24) (JW.out A n)]
  obtain ⟨P, hP⟩ : ∃ P, w1.heap.size = P := ⟨_, rfl⟩
  rw [hP] at hblk ⊢
  have HB1 := Aside0.mk (below_step HB0.out hb)
  have HJ1 := Aside0.mk (JobAt.mk hblk (JV.out A n _ (Kd.C_below HC.out hb) HN.out))
  generalize w1.alloc (.cells (j.v A n) 24) = w2 at HB1 HJ1 ⊢
  obtain ⟨c0, c1, c2, c3, c4, c5, c6⟩ := HJ1.out.cells
  clear hblk hb hP HB0 HC HN JW JV
  unfold Job.v at CT1 CT2 CT3 CT4 COF CK CTR CE1 CE2 CC MO1 MO2
  go_upto_region 3 with (first | (go_at_call 15; (with_reducible refine (CT1.out _ _ _ HJ1.out.inn).mono ?_); rintro e w11 ⟨rfl, hb⟩; have HB2 := Aside0.mk (below_step HB1.out hb); have HJ2 := Aside0.mk (HJ1.out.below hb); clear HB1 HJ1; clear hb c0 c1 c2 c3 c4 c5 c6; obtain ⟨c0, c1, c2, c3, c4, c5, c6⟩ := HJ2.out.cells))
  go_upto_region 4 with (first | (go_at_call 15; (with_reducible refine (CT2.out _ _ _ HJ2.out.inn).mono ?_); rintro e w12 ⟨rfl, hb⟩; have HB3 := Aside0.mk (below_step HB2.out hb); have HJ3 := Aside0.mk (HJ2.out.below hb); clear HB2 HJ2; clear hb c0 c1 c2 c3 c4 c5 c6; obtain ⟨c0, c1, c2, c3, c4, c5, c6⟩ := HJ3.out.cells))
  go_upto_region 5 with (first | (go_at_call 15; (with_reducible refine (CT3.out _ _ _ HJ3.out.inn).mono ?_); rintro e w13 ⟨rfl, hb⟩; have HB4 := Aside0.mk (below_step HB3.out hb); have HJ4 := Aside0.mk (HJ3.out.below hb); clear HB3 HJ3; clear hb c0 c1 c2 c3 c4 c5 c6; obtain ⟨c0, c1, c2, c3, c4, c5, c6⟩ := HJ4.out.cells))
  go_upto_region 6 with (first | (go_at_call 15; (with_reducible refine (CT4.out _ _ _ HJ4.out.inn).mono ?_); rintro e w14 ⟨rfl, hb⟩; have HB5 := Aside0.mk (below_step HB4.out hb); have HJ5 := Aside0.mk (HJ4.out.below hb); clear HB4 HJ4; clear hb c0 c1 c2 c3 c4 c5 c6; obtain ⟨c0, c1, c2, c3, c4, c5, c6⟩ := HJ5.out.cells))
  go_upto_region 7 with (first | (go_at_call 17; (with_reducible refine (COF.out _ _ _ HJ5.out.inn).mono ?_); rintro e w15 ⟨rfl, hb⟩; have HB6 := Aside0.mk (below_step HB5.out hb); have HJ6 := Aside0.mk (HJ5.out.below hb); clear HB5 HJ5; clear hb c0 c1 c2 c3 c4 c5 c6; obtain ⟨c0, c1, c2, c3, c4, c5, c6⟩ := HJ6.out.cells))
  go_upto_region 8 with (first | ((with_reducible refine gate_dst (N := 48) rfl ?_); (try (refine gate_guard (by rfl) ?_; dsimp only)); refine lit_step 5 42 ?hg (N := 48) ?hd ?ho2 ?hN ?hg2 ?ht ?he (y := ([97] : List Int)) (inner := [.int .u8 97]) ?hi ?hr ?hm ?_; (case hg2 => (intro v_; first | rfl | kernel_rfl)); (case ho2 => rfl); (case hN => (first | decide | (simp [Act.put]; done) | rfl)); (case ht => exact Try.underlying42); (case he => exact Try.underlying5); (case hi => rfl); (case hm => simp); (case hd => rfl); (case hg => rfl); (case hr => first | (go_simp; done) | (go_simp; rfl)); intro v_ w16 ho hb; obtain ⟨A16, c16_, e_⟩ := lit_slice ho; subst e_; have hlr := lit_reads ho; rw [← NA.out] at hlr ⊢; obtain ⟨-, hc16_, hC⟩ := hlr; clear ho; have HB7 := Aside0.mk (below_step HB6.out hb); have HJ7 := Aside0.mk (HJ6.out.below hb); clear HB6 HJ6; clear hb c0 c1 c2 c3 c4 c5 c6; obtain ⟨c0, c1, c2, c3, c4, c5, c6⟩ := HJ7.out.cells; have la_7 := Aside0.mk hC; clear hC) | ((with_reducible refine gate_dst (N := 50) rfl ?_); (try (refine gate_guard (by rfl) ?_; dsimp only)); refine lit_step 5 42 ?hg (N := 50) ?hd ?ho2 ?hN ?hg2 ?ht ?he (y := ([98] : List Int)) (inner := [.int .u8 98]) ?hi ?hr ?hm ?_; (case hg2 => (intro v_; first | rfl | kernel_rfl)); (case ho2 => rfl); (case hN => (first | decide | (simp [Act.put]; done) | rfl)); (case ht => exact Try.underlying42); (case he => exact Try.underlying5); (case hi => rfl); (case hm => simp); (case hd => rfl); (case hg => rfl); (case hr => first | (go_simp; done) | (go_simp; rfl)); intro v_ w17 ho hb; obtain ⟨A17, c17_, e_⟩ := lit_slice ho; subst e_; have hlr := lit_reads ho; rw [← NB.out] at hlr ⊢; obtain ⟨-, hc17_, hC⟩ := hlr; clear ho; have HB8 := Aside0.mk (below_step HB7.out hb); have HJ8 := Aside0.mk (HJ7.out.below hb); clear HB7 HJ7; have la_8 := Aside0.mk (Kd.C_below la_7.out hb); clear la_7; clear hb c0 c1 c2 c3 c4 c5 c6; obtain ⟨c0, c1, c2, c3, c4, c5, c6⟩ := HJ8.out.cells; have lb_8 := Aside0.mk hC; clear hC))
  have hb := below_alloc (Below.refl w17.heap.size w17) (.cells #[.slice A16 ya.length c16_, .slice A17 yb.length c17_] 42)
  have hX := C_two (d := Kd.slice 5 (Kd.int .u8)) (W := w17) 42 rfl (x := ya) (y := yb) (u := .slice A16 ya.length c16_) (v := .slice A17 yb.length c17_) ⟨A16, c16_, rfl, hc16_, la_8.out⟩ ⟨A17, c17_, rfl, hc17_, lb_8.out⟩
  obtain ⟨AX, hAX⟩ : ∃ A, A = some (⟨w17.heap.size, 0, none⟩ : Addr) := ⟨_, rfl⟩
  rw [← hAX] at hX ⊢
  clear hAX
  generalize World.alloc w17 (.cells #[.slice A16 ya.length c16_, .slice A17 yb.length c17_] 42) = w18 at hX hb ⊢
  have HB9 := Aside0.mk (below_step HB8.out hb)
  have HJ9 := Aside0.mk (HJ8.out.below hb)
  clear HB8 HJ8
  clear hb c0 c1 c2 c3 c4 c5 c6
  obtain ⟨c0, c1, c2, c3, c4, c5, c6⟩ := HJ9.out.cells
  have X_9 := Aside0.mk hX
  clear hX la_8 lb_8
  go_upto_region 9 with (first | ((with_reducible refine gate_dst (N := 55) rfl ?_); (try (refine gate_guard (by rfl) ?_; dsimp only)); refine lit_step 5 42 ?hg (N := 55) ?hd ?ho2 ?hN ?hg2 ?ht ?he (y := ([107] : List Int)) (inner := [.int .u8 107]) ?hi ?hr ?hm ?_; (case hg2 => (intro v_; first | rfl | kernel_rfl)); (case ho2 => rfl); (case hN => (first | decide | (simp [Act.put]; done) | rfl)); (case ht => exact Try.underlying42); (case he => exact Try.underlying5); (case hi => rfl); (case hm => simp); (case hd => rfl); (case hg => rfl); (case hr => first | (go_simp; done) | (go_simp; rfl)); intro v_ w19 ho hb; obtain ⟨A19, c19_, e_⟩ := lit_slice ho; subst e_; have hlr := lit_reads ho; rw [← NK.out] at hlr ⊢; obtain ⟨-, hc19_, hC⟩ := hlr; clear ho; have HB10 := Aside0.mk (below_step HB9.out hb); have HJ10 := Aside0.mk (HJ9.out.below hb); clear HB9 HJ9; have X_10 := Aside0.mk (Kd.C_below X_9.out hb); clear X_9; clear hb c0 c1 c2 c3 c4 c5 c6; obtain ⟨c0, c1, c2, c3, c4, c5, c6⟩ := HJ10.out.cells; have lk_10 := Aside0.mk hC; clear hC) | (go_at_call 20; (with_reducible refine (CE1.out _ _ _ _ _ _ HJ10.out.inn lk_10.out hc19_ X_10.out).mono ?_); rintro e w20 ⟨AL, cl, rfl, hcl, hC, hb⟩; have HB11 := Aside0.mk (below_step HB10.out hb); have HJ11 := Aside0.mk (HJ10.out.below hb); clear HB10 HJ10; have X_11 := Aside0.mk (Kd.C_below X_10.out hb); clear X_10; have lk_11 := Aside0.mk (Kd.C_below lk_10.out hb); clear lk_10; clear hb c0 c1 c2 c3 c4 c5 c6; obtain ⟨c0, c1, c2, c3, c4, c5, c6⟩ := HJ11.out.cells; have L_11 := Aside0.mk hC; clear hC))
  obtain ⟨i0, hi0, _, hsz0, _⟩ := info_parts info42
  have hcut := cut_to (P := Try.prog) 44 42 .i64 Try.underlying44 hi0 AX 2 2 1 (by omega) (by omega) (by omega)
  rw [show (1 : Int).toNat = 1 from rfl] at hcut
  clear hi0 hsz0
  have HD9 := Aside0.mk (below_drew (Below.refl w20.heap.size w20))
  refine start_ (n := 11) (S := fun w' => w'.cell? ⟨P, 0, none⟩ = some (.int .i64 j.w) ∧ w'.cell? ⟨P, 1, none⟩ = some (.int .i64 j.l) ∧ w'.cell? ⟨P, 2, none⟩ = some (.int .i64 j.wi) ∧ w'.cell? ⟨P, 3, none⟩ = some (.int .i64 j.c) ∧ w'.cell? ⟨P, 4, none⟩ = some (.int .i64 j.d) ∧ w'.cell? ⟨P, 5, none⟩ = some (.int .i64 j.e) ∧ w'.cell? ⟨P, 6, none⟩ = some (.slice A j.ts.length n)) (ds := []) #[false, false, false, false, false, false, false, false, false, false, false] (by kernel_rfl) rfl rfl ⟨c0, c1, c2, c3, c4, c5, c6⟩ (fun hHeld => ?_)
  generalize w20.drew = wd at hHeld HD9 ⊢
  refine take_ (i := 0) (N := some 62) (v := ?_) (a' := ?_) #[true, false, false, false, false, false, false, false, false, false, false] rfl rfl (by kernel_rfl) (fun _ _ _ h => h) (Or.inl ⟨by rfl, ?_⟩) hHeld ?_ ?_
  rotate_left
  · rintro w' ⟨s0, s1, s2, s3, s4, s5, s6⟩
    go_simp
    with_reducible rfl
  rotate_left
  · simp only [Act.put, List.setIfInBounds_toArray, List.set_cons_zero, List.set_cons_succ, i64_w, i32_w]
    rfl
  refine pure_ (i := 3) (N := some 65) (v := ?_) (a' := ?_) #[true, false, false, true, false, false, false, false, false, false, false] rfl rfl (by kernel_rfl) (fun _ _ _ h => h) (Or.inl ⟨by rfl, ?_⟩) ?_ ?_
  rotate_left
  · intro w'
    go_simp
    with_reducible rfl
  rotate_left
  · simp only [Act.put, List.setIfInBounds_toArray, List.set_cons_zero, List.set_cons_succ, i64_w, i32_w]
    rfl
  refine pure_ (i := 4) (N := some 66) (v := ?_) (a' := ?_) #[true, false, false, true, true, false, false, false, false, false, false] rfl rfl (by kernel_rfl) (fun _ _ _ h => h) (Or.inl ⟨by rfl, ?_⟩) ?_ ?_
  rotate_left
  · intro w'
    go_simp
    with_reducible rfl
  rotate_left
  · simp only [Act.put, List.setIfInBounds_toArray, List.set_cons_zero, List.set_cons_succ, i64_w, i32_w]
    rfl
  refine one_ (i := 1) (N := some 63) #[true, true, false, true, true, false, false, false, false, false, false] rfl rfl (by kernel_rfl) (by decide) (fun K hK => ?_)
  have hb := below_alloc (Below.refl wd.heap.size wd) (.cells #[.int .u8 107] 5)
  refine value_ (v := .slice (some ⟨wd.heap.size, 0, none⟩) 1 1) (w1 := wd.alloc (.cells #[.int .u8 107] 5)) (by rfl) rfl ?_ ?_
  · go_simp
    first | done | rfl
  have JD := Aside0.mk (HJ11.out.below HD9.out)
  refine hK.out _ _ ((JD.out.below hb).cells) (fun hHeld => ?_)
  clear hK K
  refine norm_ (a' := ?_) ?_ ?_
  rotate_left
  · show Act.put _ (some 63) _ = _
    simp only [Act.put, List.setIfInBounds_toArray, List.set_cons_zero, List.set_cons_succ, i64_w, i32_w]
    rfl
  refine one_ (i := 2) (N := some 64) #[true, true, true, true, true, false, false, false, false, false, false] rfl rfl (by kernel_rfl) (by decide) (fun K hK => ?_)
  have hb2 := below_alloc (Below.refl wd.heap.size wd) (.cells #[.int .u8 107] 5 (1, 2))
  have hcb := Lib.run_convert_bytes_const (P := Try.prog) wd 42 5 #[.int .u8 107] 1 1 Try.underlying42 Try.underlying5
  refine value_ (v := .slice (some ⟨wd.heap.size, 0, none⟩) 1 1) (w1 := wd.alloc (.cells #[.int .u8 107] 5 (1, 2))) (by rfl) rfl ?_ ?_
  · simp only [List.size_toArray, List.length_cons, List.length_nil, Nat.reduceAdd] at hcb
    go_simp
    first | done | rfl
  have HLT := Aside0.mk ((lit_reads (show Go.Proofs.Ytecdnhmdodedmaa.Lits.Lit 5 (wd.alloc (.cells #[.int .u8 107] 5 (1, 2))) (.slice (some ⟨wd.heap.size, 0, none⟩) 1 1) [107] from ⟨wd.heap.size, rfl, blk_new wd _, by simp⟩)).2.2)
  refine hK.out _ _ ((JD.out.below hb2).cells) (fun hHeld => ?_)
  have HBC := Aside0.mk (below_step HD9.out hb2)
  clear hb hb2 hcb
  obtain ⟨AK, hAK⟩ : ∃ A, A = some (⟨wd.heap.size, 0, none⟩ : Addr) := ⟨_, rfl⟩
  rw [← hAK] at HLT ⊢
  clear hAK
  generalize wd.alloc (.cells #[.int .u8 107] 5 (1, 2)) = we at HLT HBC hHeld ⊢
  clear hK K
  refine norm_ (a' := ?_) ?_ ?_
  rotate_left
  · show Act.put _ (some 64) _ = _
    simp only [Act.put, List.setIfInBounds_toArray, List.set_cons_zero, List.set_cons_succ, i64_w, i32_w]
    rfl
  refine one_ (i := 5) (N := some 67) #[true, true, true, true, true, true, false, false, false, false, false] rfl rfl (by kernel_rfl) (by decide) (fun K hK => ?_)
  refine goes_ Try.func20 (by kernel_rfl) rfl #[.agg #[.int .i64 j.w, .int .i64 j.l, .int .i64 j.wi, .int .i64 j.c, .int .i64 j.d, .int .i64 j.e, .slice A j.ts.length n], .int .i64 1, .slice AK 1 1, .slice AX 1 2] (by rfl) rfl rfl (by (try simp only [List.map_toArray, List.map_cons, List.map_nil]); first | done | rfl) ?_
  with_reducible refine (CE2.out _ _ _ _ _ (HJ11.out.below HBC.out).inn HLT.out (Kd.C_below X_11.out HBC.out)).mono ?_
  rintro e w21 ⟨AM, cm, rfl, hcm, hC, hb⟩
  refine ⟨_, rfl, ?_⟩
  have hb9 := below_step HBC.out hb
  refine hK.out _ _ ((HJ11.out.below hb9).cells) (fun hHeld => ?_)
  clear hK K
  refine norm_ (a' := ?_) ?_ ?_
  rotate_left
  · show Act.put _ (some 67) _ = _
    simp only [Act.put, List.setIfInBounds_toArray, List.set_cons_zero, List.set_cons_succ, i64_w, i32_w]
    rfl
  refine pure_ (i := 6) (N := some 61) (v := ?_) (a' := ?_) #[true, true, true, true, true, true, true, false, false, false, false] rfl rfl (by kernel_rfl) (fun _ _ _ h => h) (Or.inl ⟨by rfl, ?_⟩) ?_ ?_
  rotate_left
  · intro w'
    go_simp
    with_reducible rfl
  rotate_left
  · simp only [Act.put, List.setIfInBounds_toArray, List.set_cons_zero, List.set_cons_succ, i64_w, i32_w]
    rfl
  refine pure_ (i := 7) (N := some 68) (v := ?_) (a' := ?_) #[true, true, true, true, true, true, true, true, false, false, false] rfl rfl (by kernel_rfl) (fun _ _ _ h => h) (Or.inl ⟨by rfl, ?_⟩) ?_ ?_
  rotate_left
  · intro w'
    go_simp
    with_reducible rfl
  rotate_left
  · simp only [Act.put, List.setIfInBounds_toArray, List.set_cons_zero, List.set_cons_succ, i64_w, i32_w]
    rfl
  refine pure_ (i := 8) (N := some 69) (v := ?_) (a' := ?_) #[true, true, true, true, true, true, true, true, true, false, false] rfl rfl (by kernel_rfl) (fun _ _ _ h => h) (Or.inl ⟨by rfl, ?_⟩) ?_ ?_
  rotate_left
  · intro w'
    go_simp
    with_reducible rfl
  rotate_left
  · simp only [Act.put, List.setIfInBounds_toArray, List.set_cons_zero, List.set_cons_succ, i64_w, i32_w]
    rfl
  refine pure_ (i := 9) (N := some 16) (v := ?_) (a' := ?_) #[true, true, true, true, true, true, true, true, true, true, false] rfl rfl (by kernel_rfl) (fun _ _ _ h => h) (Or.inl ⟨by rfl, ?_⟩) ?_ ?_
  rotate_left
  · intro w'
    go_simp
    with_reducible rfl
  rotate_left
  · simp only [Act.put, List.setIfInBounds_toArray, List.set_cons_zero, List.set_cons_succ, i64_w, i32_w]
    rfl
  refine pure_ (i := 10) (N := some 17) (v := ?_) (a' := ?_) #[true, true, true, true, true, true, true, true, true, true, true] rfl rfl (by kernel_rfl) (fun _ _ _ h => h) (Or.inl ⟨by rfl, ?_⟩) ?_ ?_
  rotate_left
  · intro w'
    go_simp
    with_reducible rfl
  rotate_left
  · simp only [Act.put, List.setIfInBounds_toArray, List.set_cons_zero, List.set_cons_succ, i64_w, i32_w]
    rfl
  refine done_ (by kernel_rfl) ?_
  simp only [Exit.then]
  have hb := hb9
  clear hb9 hcut hHeld

  have HB12 := Aside0.mk (below_step HB11.out hb)
  have HJ12 := Aside0.mk (HJ11.out.below hb)
  clear HB11 HJ11
  have X_12 := Aside0.mk (Kd.C_below X_11.out hb)
  clear X_11
  have L_12 := Aside0.mk (Kd.C_below L_11.out hb)
  clear L_11
  clear hb c0 c1 c2 c3 c4 c5 c6
  obtain ⟨c0, c1, c2, c3, c4, c5, c6⟩ := HJ12.out.cells
  have M_12 := Aside0.mk hC
  clear hC
  go_upto_region 10 with fail
  go_upto_region 11 with (first | ((with_reducible refine gate_dst (N := 72) rfl ?_); (try (refine gate_guard (by rfl) ?_; dsimp only)); refine lit_step 5 42 ?hg (N := 72) ?hd ?ho2 ?hN ?hg2 ?ht ?he (y := ([107] : List Int)) (inner := [.int .u8 107]) ?hi ?hr ?hm ?_; (case hg2 => (intro v_; first | rfl | kernel_rfl)); (case ho2 => rfl); (case hN => (first | decide | (simp [Act.put]; done) | rfl)); (case ht => exact Try.underlying42); (case he => exact Try.underlying5); (case hi => rfl); (case hm => simp); (case hd => rfl); (case hg => rfl); (case hr => first | (go_simp; done) | (go_simp; rfl)); intro v_ w22 ho hb; obtain ⟨A22, c22_, e_⟩ := lit_slice ho; subst e_; have hlr := lit_reads ho; rw [← NK.out] at hlr ⊢; obtain ⟨-, hc22_, hC⟩ := hlr; clear ho; have HB13 := Aside0.mk (below_step HB12.out hb); have HJ13 := Aside0.mk (HJ12.out.below hb); clear HB12 HJ12; have X_13 := Aside0.mk (Kd.C_below X_12.out hb); clear X_12; have L_13 := Aside0.mk (Kd.C_below L_12.out hb); clear L_12; have M_13 := Aside0.mk (Kd.C_below M_12.out hb); clear M_12; clear hb c0 c1 c2 c3 c4 c5 c6; obtain ⟨c0, c1, c2, c3, c4, c5, c6⟩ := HJ13.out.cells; have lk_13 := Aside0.mk hC; clear hC) | ((with_reducible refine gate_dst (N := 75) rfl ?_); (try (refine gate_guard (by rfl) ?_; dsimp only)); refine lit_step 5 42 ?hg (N := 75) ?hd ?ho2 ?hN ?hg2 ?ht ?he (y := ([97] : List Int)) (inner := [.int .u8 97]) ?hi ?hr ?hm ?_; (case hg2 => (intro v_; first | rfl | kernel_rfl)); (case ho2 => rfl); (case hN => (first | decide | (simp [Act.put]; done) | rfl)); (case ht => exact Try.underlying42); (case he => exact Try.underlying5); (case hi => rfl); (case hm => simp); (case hd => rfl); (case hg => rfl); (case hr => first | (go_simp; done) | (go_simp; rfl)); intro v_ w23 ho hb; obtain ⟨A23, c23_, e_⟩ := lit_slice ho; subst e_; have hlr := lit_reads ho; rw [← NA.out] at hlr ⊢; obtain ⟨-, hc23_, hC⟩ := hlr; clear ho; have HB14 := Aside0.mk (below_step HB13.out hb); have HJ14 := Aside0.mk (HJ13.out.below hb); clear HB13 HJ13; have X_14 := Aside0.mk (Kd.C_below X_13.out hb); clear X_13; have L_14 := Aside0.mk (Kd.C_below L_13.out hb); clear L_13; have M_14 := Aside0.mk (Kd.C_below M_13.out hb); clear M_13; have lk_14 := Aside0.mk (Kd.C_below lk_13.out hb); clear lk_13; clear hb c0 c1 c2 c3 c4 c5 c6; obtain ⟨c0, c1, c2, c3, c4, c5, c6⟩ := HJ14.out.cells; have la_14 := Aside0.mk hC; clear hC) | ((with_reducible refine gate_dst (N := 77) rfl ?_); (try (refine gate_guard (by rfl) ?_; dsimp only)); refine lit_step 5 42 ?hg (N := 77) ?hd ?ho2 ?hN ?hg2 ?ht ?he (y := ([99] : List Int)) (inner := [.int .u8 99]) ?hi ?hr ?hm ?_; (case hg2 => (intro v_; first | rfl | kernel_rfl)); (case ho2 => rfl); (case hN => (first | decide | (simp [Act.put]; done) | rfl)); (case ht => exact Try.underlying42); (case he => exact Try.underlying5); (case hi => rfl); (case hm => simp); (case hd => rfl); (case hg => rfl); (case hr => first | (go_simp; done) | (go_simp; rfl)); intro v_ w24 ho hb; obtain ⟨A24, c24_, e_⟩ := lit_slice ho; subst e_; have hlr := lit_reads ho; rw [← NC.out] at hlr ⊢; obtain ⟨-, hc24_, hC⟩ := hlr; clear ho; have HB15 := Aside0.mk (below_step HB14.out hb); have HJ15 := Aside0.mk (HJ14.out.below hb); clear HB14 HJ14; have X_15 := Aside0.mk (Kd.C_below X_14.out hb); clear X_14; have L_15 := Aside0.mk (Kd.C_below L_14.out hb); clear L_14; have M_15 := Aside0.mk (Kd.C_below M_14.out hb); clear M_14; have lk_15 := Aside0.mk (Kd.C_below lk_14.out hb); clear lk_14; have la_15 := Aside0.mk (Kd.C_below la_14.out hb); clear la_14; clear hb c0 c1 c2 c3 c4 c5 c6; obtain ⟨c0, c1, c2, c3, c4, c5, c6⟩ := HJ15.out.cells; have lc_15 := Aside0.mk hC; clear hC) | ((with_reducible refine gate_dst (N := 79) rfl ?_); (try (refine gate_guard (by rfl) ?_; dsimp only)); refine wpList_plain rfl (fun K_ hK_ => ?_); go_simp; refine hK_ _ _ ?_; clear hK_ K_; have hb := below_alloc (Below.refl w24.heap.size w24) (.cells #[.slice A23 ya.length c23_, .slice A24 yc.length c24_] 42); have hX := C_two (d := Kd.slice 5 (Kd.int .u8)) (W := w24) 42 rfl (x := ya) (y := yc) (u := .slice A23 ya.length c23_) (v := .slice A24 yc.length c24_) ⟨A23, c23_, rfl, hc23_, la_15.out⟩ ⟨A24, c24_, rfl, hc24_, lc_15.out⟩; obtain ⟨AY, hAY⟩ : ∃ A, A = some (⟨w24.heap.size, 0, none⟩ : Addr) := ⟨_, rfl⟩; rw [← hAY] at hX ⊢; clear hAY; generalize World.alloc w24 (.cells #[.slice A23 ya.length c23_, .slice A24 yc.length c24_] 42) = w25 at hX hb ⊢; have HB16 := Aside0.mk (below_step HB15.out hb); have HJ16 := Aside0.mk (HJ15.out.below hb); clear HB15 HJ15; have X_16 := Aside0.mk (Kd.C_below X_15.out hb); clear X_15; have L_16 := Aside0.mk (Kd.C_below L_15.out hb); clear L_15; have M_16 := Aside0.mk (Kd.C_below M_15.out hb); clear M_15; have lk_16 := Aside0.mk (Kd.C_below lk_15.out hb); clear lk_15; have la_16 := Aside0.mk (Kd.C_below la_15.out hb); clear la_15; have lc_16 := Aside0.mk (Kd.C_below lc_15.out hb); clear lc_15; clear hb c0 c1 c2 c3 c4 c5 c6; obtain ⟨c0, c1, c2, c3, c4, c5, c6⟩ := HJ16.out.cells; have Y_16 := Aside0.mk hX; clear hX) | (go_at_call 22; (with_reducible refine (CC.out _ _ _ _ _ _ _ HJ16.out.inn lk_16.out hc22_ X_16.out Y_16.out).mono ?_); rintro e w26 ⟨AG, cg, AC, cc, rfl, hcg, hC, hcc, hD, hb⟩; have HB17 := Aside0.mk (below_step HB16.out hb); have HJ17 := Aside0.mk (HJ16.out.below hb); clear HB16 HJ16; have X_17 := Aside0.mk (Kd.C_below X_16.out hb); clear X_16; have L_17 := Aside0.mk (Kd.C_below L_16.out hb); clear L_16; have M_17 := Aside0.mk (Kd.C_below M_16.out hb); clear M_16; have lk_17 := Aside0.mk (Kd.C_below lk_16.out hb); clear lk_16; have la_17 := Aside0.mk (Kd.C_below la_16.out hb); clear la_16; have lc_17 := Aside0.mk (Kd.C_below lc_16.out hb); clear lc_16; have Y_17 := Aside0.mk (Kd.C_below Y_16.out hb); clear Y_16; clear hb c0 c1 c2 c3 c4 c5 c6; obtain ⟨c0, c1, c2, c3, c4, c5, c6⟩ := HJ17.out.cells; have G_17 := Aside0.mk hC; clear hC; have D_17 := Aside0.mk hD; clear hD))
  go_wp2_with (first | (go_at_call 11; (with_reducible refine (CK.out _ _ _ HJ17.out.inn).mono ?_); rintro e w27 ⟨rfl, hb⟩; have HB18 := Aside0.mk (below_step HB17.out hb); have HJ18 := Aside0.mk (HJ17.out.below hb); clear HB17 HJ17; have L_18 := Aside0.mk (Kd.C_below L_17.out hb); clear L_17; have G_18 := Aside0.mk (Kd.C_below G_17.out hb); clear G_17; have D_18 := Aside0.mk (Kd.C_below D_17.out hb); clear D_17; clear hb c0 c1 c2 c3 c4 c5 c6; obtain ⟨c0, c1, c2, c3, c4, c5, c6⟩ := HJ18.out.cells) | (go_at_call 10; (with_reducible refine (num_call 0 _).mono ?_); rintro e w28 ⟨rfl, hd⟩; have hb := drawn_below hd; clear hd; have HB19 := Aside0.mk (below_step HB18.out hb); have HJ19 := Aside0.mk (HJ18.out.below hb); clear HB18 HJ18; have L_19 := Aside0.mk (Kd.C_below L_18.out hb); clear L_18; have G_19 := Aside0.mk (Kd.C_below G_18.out hb); clear G_18; have D_19 := Aside0.mk (Kd.C_below D_18.out hb); clear D_18; clear hb c0 c1 c2 c3 c4 c5 c6; obtain ⟨c0, c1, c2, c3, c4, c5, c6⟩ := HJ19.out.cells) | (go_at_call 13; (with_reducible refine (CTR.out _ _ _ HJ19.out.inn).mono ?_); rintro e w29 ⟨rfl, hb⟩; have HB20 := Aside0.mk (below_step HB19.out hb); have HJ20 := Aside0.mk (HJ19.out.below hb); clear HB19 HJ19; have L_20 := Aside0.mk (Kd.C_below L_19.out hb); clear L_19; have G_20 := Aside0.mk (Kd.C_below G_19.out hb); clear G_19; have D_20 := Aside0.mk (Kd.C_below D_19.out hb); clear D_19; clear hb c0 c1 c2 c3 c4 c5 c6; obtain ⟨c0, c1, c2, c3, c4, c5, c6⟩ := HJ20.out.cells) | (go_at_call 10; (with_reducible refine (num_call 2 _).mono ?_); rintro e w30 ⟨rfl, hd⟩; have hb := drawn_below hd; clear hd; have HB21 := Aside0.mk (below_step HB20.out hb); have HJ21 := Aside0.mk (HJ20.out.below hb); clear HB20 HJ20; have L_21 := Aside0.mk (Kd.C_below L_20.out hb); clear L_20; have G_21 := Aside0.mk (Kd.C_below G_20.out hb); clear G_20; have D_21 := Aside0.mk (Kd.C_below D_20.out hb); clear D_20; clear hb c0 c1 c2 c3 c4 c5 c6; obtain ⟨c0, c1, c2, c3, c4, c5, c6⟩ := HJ21.out.cells) | (go_at_call 10; (with_reducible refine (num_call 0 _).mono ?_); rintro e w31 ⟨rfl, hd⟩; have hb := drawn_below hd; clear hd; have HB22 := Aside0.mk (below_step HB21.out hb); have HJ22 := Aside0.mk (HJ21.out.below hb); clear HB21 HJ21; have L_22 := Aside0.mk (Kd.C_below L_21.out hb); clear L_21; have G_22 := Aside0.mk (Kd.C_below G_21.out hb); clear G_21; have D_22 := Aside0.mk (Kd.C_below D_21.out hb); clear D_21; clear hb c0 c1 c2 c3 c4 c5 c6; obtain ⟨c0, c1, c2, c3, c4, c5, c6⟩ := HJ22.out.cells) | (go_at_call 10; (with_reducible refine (num_call 0 _).mono ?_); rintro e w32 ⟨rfl, hd⟩; have hb := drawn_below hd; clear hd; have HB23 := Aside0.mk (below_step HB22.out hb); have HJ23 := Aside0.mk (HJ22.out.below hb); clear HB22 HJ22; have L_23 := Aside0.mk (Kd.C_below L_22.out hb); clear L_22; have G_23 := Aside0.mk (Kd.C_below G_22.out hb); clear G_22; have D_23 := Aside0.mk (Kd.C_below D_22.out hb); clear D_22; clear hb c0 c1 c2 c3 c4 c5 c6; obtain ⟨c0, c1, c2, c3, c4, c5, c6⟩ := HJ23.out.cells) | (go_at_call 10; (with_reducible refine (num_call 0 _).mono ?_); rintro e w33 ⟨rfl, hd⟩; have hb := drawn_below hd; clear hd; have HB24 := Aside0.mk (below_step HB23.out hb); have HJ24 := Aside0.mk (HJ23.out.below hb); clear HB23 HJ23; have L_24 := Aside0.mk (Kd.C_below L_23.out hb); clear L_23; have G_24 := Aside0.mk (Kd.C_below G_23.out hb); clear G_23; have D_24 := Aside0.mk (Kd.C_below D_23.out hb); clear D_23; clear hb c0 c1 c2 c3 c4 c5 c6; obtain ⟨c0, c1, c2, c3, c4, c5, c6⟩ := HJ24.out.cells) | (go_at_call 10; (with_reducible refine (num_call 0 _).mono ?_); rintro e w34 ⟨rfl, hd⟩; have hb := drawn_below hd; clear hd; have HB25 := Aside0.mk (below_step HB24.out hb); have HJ25 := Aside0.mk (HJ24.out.below hb); clear HB24 HJ24; have L_25 := Aside0.mk (Kd.C_below L_24.out hb); clear L_24; have G_25 := Aside0.mk (Kd.C_below G_24.out hb); clear G_24; have D_25 := Aside0.mk (Kd.C_below D_24.out hb); clear D_24; clear hb c0 c1 c2 c3 c4 c5 c6; obtain ⟨c0, c1, c2, c3, c4, c5, c6⟩ := HJ25.out.cells) | (go_at_call 10; (with_reducible refine (num_call 0 _).mono ?_); rintro e w35 ⟨rfl, hd⟩; have hb := drawn_below hd; clear hd; have HB26 := Aside0.mk (below_step HB25.out hb); have HJ26 := Aside0.mk (HJ25.out.below hb); clear HB25 HJ25; have L_26 := Aside0.mk (Kd.C_below L_25.out hb); clear L_25; have G_26 := Aside0.mk (Kd.C_below G_25.out hb); clear G_25; have D_26 := Aside0.mk (Kd.C_below D_25.out hb); clear D_25; clear hb c0 c1 c2 c3 c4 c5 c6; obtain ⟨c0, c1, c2, c3, c4, c5, c6⟩ := HJ26.out.cells) | (go_at_call 10; (with_reducible refine (num_call 0 _).mono ?_); rintro e w36 ⟨rfl, hd⟩; have hb := drawn_below hd; clear hd; have HB27 := Aside0.mk (below_step HB26.out hb); have HJ27 := Aside0.mk (HJ26.out.below hb); clear HB26 HJ26; have L_27 := Aside0.mk (Kd.C_below L_26.out hb); clear L_26; have G_27 := Aside0.mk (Kd.C_below G_26.out hb); clear G_26; have D_27 := Aside0.mk (Kd.C_below D_26.out hb); clear D_26; clear hb c0 c1 c2 c3 c4 c5 c6; obtain ⟨c0, c1, c2, c3, c4, c5, c6⟩ := HJ27.out.cells) | (go_at_call 10; (with_reducible refine (num_call 0 _).mono ?_); rintro e w37 ⟨rfl, hd⟩; have hb := drawn_below hd; clear hd; have HB28 := Aside0.mk (below_step HB27.out hb); have HJ28 := Aside0.mk (HJ27.out.below hb); clear HB27 HJ27; have L_28 := Aside0.mk (Kd.C_below L_27.out hb); clear L_27; have G_28 := Aside0.mk (Kd.C_below G_27.out hb); clear G_27; have D_28 := Aside0.mk (Kd.C_below D_27.out hb); clear D_27; clear hb c0 c1 c2 c3 c4 c5 c6; obtain ⟨c0, c1, c2, c3, c4, c5, c6⟩ := HJ28.out.cells) | ((with_reducible refine gate_dst (N := 143) rfl ?_); (try (refine gate_guard (by rfl) ?_; dsimp only)); refine lit_step 5 42 ?hg (N := 143) ?hd ?ho2 ?hN ?hg2 ?ht ?he (y := ([98, 0, 1, 107] : List Int)) (inner := [.int .u8 98, .int .u8 0, .int .u8 1, .int .u8 107]) ?hi ?hr ?hm ?_; (case hg2 => (intro v_; first | rfl | kernel_rfl)); (case ho2 => rfl); (case hN => (first | decide | (simp [Act.put]; done) | rfl)); (case ht => exact Try.underlying42); (case he => exact Try.underlying5); (case hi => rfl); (case hm => simp); (case hd => rfl); (case hg => rfl); (case hr => first | (go_simp; done) | (go_simp; rfl)); intro v_ w38 ho hb; obtain ⟨A38, c38_, e_⟩ := lit_slice ho; subst e_; have hlr := lit_reads ho; rw [← NEB.out] at hlr ⊢; obtain ⟨-, hc38_, hC⟩ := hlr; clear ho; have HB29 := Aside0.mk (below_step HB28.out hb); have HJ29 := Aside0.mk (HJ28.out.below hb); clear HB28 HJ28; have L_29 := Aside0.mk (Kd.C_below L_28.out hb); clear L_28; have G_29 := Aside0.mk (Kd.C_below G_28.out hb); clear G_28; have D_29 := Aside0.mk (Kd.C_below D_28.out hb); clear D_28; clear hb c0 c1 c2 c3 c4 c5 c6; obtain ⟨c0, c1, c2, c3, c4, c5, c6⟩ := HJ29.out.cells; have lb_29 := Aside0.mk hC; clear hC) | (go_at_call 24; have hb0 := below_alloc (Below.refl w38.heap.size w38) (.cells #[.int .i64 2, .slice A38 yeb.length c38_] 62); have hX := C_one (d := k62) (W := w38) 62 (k62_mk w38 ⟨2, yeb⟩ hc38_ lb_29.out); (with_reducible refine (SE1.out _ _ _ _ (Kd.C_below L_29.out hb0) hcl hX).mono ?_); rintro e w39 ⟨rfl, hd⟩; have hb := below_step hb0 (drawn_below hd); clear hd hX hb0; have HB30 := Aside0.mk (below_step HB29.out hb); have HJ30 := Aside0.mk (HJ29.out.below hb); clear HB29 HJ29; have L_30 := Aside0.mk (Kd.C_below L_29.out hb); clear L_29; have G_30 := Aside0.mk (Kd.C_below G_29.out hb); clear G_29; have D_30 := Aside0.mk (Kd.C_below D_29.out hb); clear D_29; have lb_30 := Aside0.mk (Kd.C_below lb_29.out hb); clear lb_29; clear hb c0 c1 c2 c3 c4 c5 c6; obtain ⟨c0, c1, c2, c3, c4, c5, c6⟩ := HJ30.out.cells) | (go_at_call 24; (with_reducible refine (SE2.out _ _ _ _ _ G_30.out hcg L_30.out hcl).mono ?_); rintro e w40 ⟨rfl, hd⟩; have hb := drawn_below hd; clear hd; have HB31 := Aside0.mk (below_step HB30.out hb); have HJ31 := Aside0.mk (HJ30.out.below hb); clear HB30 HJ30; have L_31 := Aside0.mk (Kd.C_below L_30.out hb); clear L_30; have G_31 := Aside0.mk (Kd.C_below G_30.out hb); clear G_30; have D_31 := Aside0.mk (Kd.C_below D_30.out hb); clear D_30; have lb_31 := Aside0.mk (Kd.C_below lb_30.out hb); clear lb_30; clear hb c0 c1 c2 c3 c4 c5 c6; obtain ⟨c0, c1, c2, c3, c4, c5, c6⟩ := HJ31.out.cells) | ((with_reducible refine gate_dst (N := 161) rfl ?_); (try (refine gate_guard (by rfl) ?_; dsimp only)); refine lit_step 5 42 ?hg (N := 161) ?hd ?ho2 ?hN ?hg2 ?ht ?he (y := ([99, 0, 1, 107] : List Int)) (inner := [.int .u8 99, .int .u8 0, .int .u8 1, .int .u8 107]) ?hi ?hr ?hm ?_; (case hg2 => (intro v_; first | rfl | kernel_rfl)); (case ho2 => rfl); (case hN => (first | decide | (simp [Act.put]; done) | rfl)); (case ht => exact Try.underlying42); (case he => exact Try.underlying5); (case hi => rfl); (case hm => simp); (case hd => rfl); (case hg => rfl); (case hr => first | (go_simp; done) | (go_simp; rfl)); intro v_ w41 ho hb; obtain ⟨A41, c41_, e_⟩ := lit_slice ho; subst e_; have hlr := lit_reads ho; rw [← NEC.out] at hlr ⊢; obtain ⟨-, hc41_, hC⟩ := hlr; clear ho; have HB32 := Aside0.mk (below_step HB31.out hb); have HJ32 := Aside0.mk (HJ31.out.below hb); clear HB31 HJ31; have L_32 := Aside0.mk (Kd.C_below L_31.out hb); clear L_31; have G_32 := Aside0.mk (Kd.C_below G_31.out hb); clear G_31; have D_32 := Aside0.mk (Kd.C_below D_31.out hb); clear D_31; have lb_32 := Aside0.mk (Kd.C_below lb_31.out hb); clear lb_31; clear hb c0 c1 c2 c3 c4 c5 c6; obtain ⟨c0, c1, c2, c3, c4, c5, c6⟩ := HJ32.out.cells; have lc_32 := Aside0.mk hC; clear hC) | (go_at_call 24; have hb0 := below_alloc (Below.refl w41.heap.size w41) (.cells #[.int .i64 2, .slice A41 yec.length c41_] 62); have hX := C_one (d := k62) (W := w41) 62 (k62_mk w41 ⟨2, yec⟩ hc41_ lc_32.out); (with_reducible refine (SE3.out _ _ _ _ (Kd.C_below D_32.out hb0) hcc hX).mono ?_); rintro e w42 ⟨rfl, hd⟩; have hb := below_step hb0 (drawn_below hd); clear hd hX hb0; have HB33 := Aside0.mk (below_step HB32.out hb); have HJ33 := Aside0.mk (HJ32.out.below hb); clear HB32 HJ32; have L_33 := Aside0.mk (Kd.C_below L_32.out hb); clear L_32; have G_33 := Aside0.mk (Kd.C_below G_32.out hb); clear G_32; have D_33 := Aside0.mk (Kd.C_below D_32.out hb); clear D_32; have lb_33 := Aside0.mk (Kd.C_below lb_32.out hb); clear lb_32; have lc_33 := Aside0.mk (Kd.C_below lc_32.out hb); clear lc_32; clear hb c0 c1 c2 c3 c4 c5 c6; obtain ⟨c0, c1, c2, c3, c4, c5, c6⟩ := HJ33.out.cells) | (go_at_call 35; (with_reducible refine (MO1.out _ _ _ HJ33.out.inn).mono ?_); rintro e w43 ⟨rfl, hb⟩; have HB34 := Aside0.mk (below_step HB33.out hb); have HJ34 := Aside0.mk (HJ33.out.below hb); clear HB33 HJ33; have L_34 := Aside0.mk (Kd.C_below L_33.out hb); clear L_33; have G_34 := Aside0.mk (Kd.C_below G_33.out hb); clear G_33; have D_34 := Aside0.mk (Kd.C_below D_33.out hb); clear D_33; have lb_34 := Aside0.mk (Kd.C_below lb_33.out hb); clear lb_33; have lc_34 := Aside0.mk (Kd.C_below lc_33.out hb); clear lc_33; clear hb c0 c1 c2 c3 c4 c5 c6; obtain ⟨c0, c1, c2, c3, c4, c5, c6⟩ := HJ34.out.cells) | ((with_reducible refine gate_dst (N := 175) rfl ?_); (try (refine gate_guard (by rfl) ?_; dsimp only)); refine lit_step 5 42 ?hg (N := 175) ?hd ?ho2 ?hN ?hg2 ?ht ?he (y := ([107] : List Int)) (inner := [.int .u8 107]) ?hi ?hr ?hm ?_; (case hg2 => (intro v_; first | rfl | kernel_rfl)); (case ho2 => rfl); (case hN => (first | decide | (simp [Act.put]; done) | rfl)); (case ht => exact Try.underlying42); (case he => exact Try.underlying5); (case hi => rfl); (case hm => simp); (case hd => rfl); (case hg => rfl); (case hr => first | (go_simp; done) | (go_simp; rfl)); intro v_ w44 ho hb; obtain ⟨A44, c44_, e_⟩ := lit_slice ho; subst e_; have hlr := lit_reads ho; rw [← NK.out] at hlr ⊢; obtain ⟨-, hc44_, hC⟩ := hlr; clear ho; have HB35 := Aside0.mk (below_step HB34.out hb); have HJ35 := Aside0.mk (HJ34.out.below hb); clear HB34 HJ34; have L_35 := Aside0.mk (Kd.C_below L_34.out hb); clear L_34; have G_35 := Aside0.mk (Kd.C_below G_34.out hb); clear G_34; have D_35 := Aside0.mk (Kd.C_below D_34.out hb); clear D_34; have lb_35 := Aside0.mk (Kd.C_below lb_34.out hb); clear lb_34; have lc_35 := Aside0.mk (Kd.C_below lc_34.out hb); clear lc_34; clear hb c0 c1 c2 c3 c4 c5 c6; obtain ⟨c0, c1, c2, c3, c4, c5, c6⟩ := HJ35.out.cells; have lk_35 := Aside0.mk hC; clear hC) | (go_at_call 35; (with_reducible refine (MO2.out _ _ _ _ _ HJ35.out.inn lk_35.out hc44_).mono ?_); rintro e w45 ⟨rfl, hb⟩; have HB36 := Aside0.mk (below_step HB35.out hb); have HJ36 := Aside0.mk (HJ35.out.below hb); clear HB35 HJ35; have L_36 := Aside0.mk (Kd.C_below L_35.out hb); clear L_35; have G_36 := Aside0.mk (Kd.C_below G_35.out hb); clear G_35; have D_36 := Aside0.mk (Kd.C_below D_35.out hb); clear D_35; have lb_36 := Aside0.mk (Kd.C_below lb_35.out hb); clear lb_35; have lc_36 := Aside0.mk (Kd.C_below lc_35.out hb); clear lc_35; have lk_36 := Aside0.mk (Kd.C_below lk_35.out hb); clear lk_35; clear hb c0 c1 c2 c3 c4 c5 c6; obtain ⟨c0, c1, c2, c3, c4, c5, c6⟩ := HJ36.out.cells))
  go_ret
  exact ⟨by first | rfl | simp, HB36.out⟩
end Go.Proofs.Ytecdnhmdodedmaa.Ch

