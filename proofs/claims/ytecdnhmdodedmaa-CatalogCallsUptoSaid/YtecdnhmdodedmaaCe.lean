/- catalog.Tree, catalog.Of: their calls. -/
import Derived.Test.YtecdnhmdodedmaaCd
namespace Go.Proofs.Ytecdnhmdodedmaa.Ca
open Go.RowKit Go.Shelf Go.Proofs.YtecdnhmdodedmaaW.PrintWords Go.Proofs.YtecdnhmdodedmaaW.PrintLast Go.Proofs.YtecdnhmdodedmaaW.PrintMore Go.Proofs.Ytecdnhmdodedmaa.It
set_option linter.unusedVariables false
set_option linter.unusedSimpArgs false
/-- Which number a tree has, or 0 and an error. -/
def treeL (j : Job) (a b : Int) : Int × Int := ((found j fun x => (at_ (names j) x).1 == a && ((at_ (names j) x).2 == b)).1, (found j fun x => (at_ (names j) x).1 == a && ((at_ (names j) x).2 == b)).2.2)
/-- What a number is. -/
def ofL (j : Job) (a : Int) : Int × Int × Int := ((found j fun (x : Nat) => (x : Int) == a).2.1.1, (found j fun (x : Nat) => (x : Int) == a).2.1.2, (found j fun (x : Nat) => (x : Int) == a).2.2)

set_option maxRecDepth 100000 in
set_option maxHeartbeats 4000000 in
theorem tree_in (j : Job) (A : Option Addr) (c : Nat) (a b : Int) (w : World) (h : j.In w A c) : Calls Try.prog 15 #[.agg (j.v A c), .int .i64 a, .int .i64 b] w fun e w' => e = .returned (.tuple #[.int .i64 (treeL j a b).1, .int .i64 (treeL j a b).2]) ∧ Below w.heap.size w w' := by
  have hb0 := allocs_below [.cells #[.int .i64 j.w, .int .i64 j.l, .int .i64 j.wi, .int .i64 j.c, .int .i64 j.d, .int .i64 j.e, .slice A j.ts.length c] 24, .cells #[.int .i64 a] 3, .cells #[.int .i64 b] 3] w w.heap.size (Nat.le_refl _)
  have hsz := allocs_size [.cells #[.int .i64 j.w, .int .i64 j.l, .int .i64 j.wi, .int .i64 j.c, .int .i64 j.d, .int .i64 j.e, .slice A j.ts.length c] 24, .cells #[.int .i64 a] 3, .cells #[.int .i64 b] 3] w
  have hat := allocs_at [.cells #[.int .i64 j.w, .int .i64 j.l, .int .i64 j.wi, .int .i64 j.c, .int .i64 j.d, .int .i64 j.e, .slice A j.ts.length c] 24, .cells #[.int .i64 a] 3, .cells #[.int .i64 b] 3] w
  have e0 := hat 0 _ rfl
  have e1 := hat 1 _ rfl
  have e2 := hat 2 _ rfl
  clear hat
  simp only [List.foldl_cons, List.foldl_nil, List.length_cons, List.length_nil] at hb0 hsz e0 e1 e2
  unfold Job.v
  obtain ⟨R, hR⟩ : ∃ R, (found j fun x => (at_ (names j) x).1 == a && ((at_ (names j) x).2 == b)) = R := ⟨_, rfl⟩
  rw [show treeL j a b = (R.1, R.2.2) from by unfold treeL; rw [hR]]
  have HR := Aside0.mk hR
  clear hR
  go_enter Try.func15, Try.ntmps15
  go_upto_region 1 with fail
  obtain ⟨B1, q1⟩ : ∃ B, w.heap.size + 1 = B := ⟨_, rfl⟩
  obtain ⟨B2, q2⟩ : ∃ B, w.heap.size + 2 = B := ⟨_, rfl⟩
  try simp only [Nat.add_assoc, Nat.reduceAdd]
  rw [q1]
  rw [q1] at e1
  rw [q2]
  rw [q2] at e2
  rw [show w.heap.size + 0 = w.heap.size from rfl] at e0
  generalize World.alloc _ _ = W3 at hb0 hsz e0 e1 e2 ⊢
  have c0 : (_ : Option Value) = some (.int .i64 j.w) := (blk_cell e0 0).trans rfl
  have c1 : (_ : Option Value) = some (.int .i64 j.l) := (blk_cell e0 1).trans rfl
  have c2 : (_ : Option Value) = some (.int .i64 j.wi) := (blk_cell e0 2).trans rfl
  have c3 : (_ : Option Value) = some (.int .i64 j.c) := (blk_cell e0 3).trans rfl
  have c4 : (_ : Option Value) = some (.int .i64 j.d) := (blk_cell e0 4).trans rfl
  have c5 : (_ : Option Value) = some (.int .i64 j.e) := (blk_cell e0 5).trans rfl
  have c6 : (_ : Option Value) = some (.slice A j.ts.length c) := (blk_cell e0 6).trans rfl
  have d1 : (_ : Option Value) = some (.int .i64 a) := (blk_cell e1 0).trans rfl
  have d2 : (_ : Option Value) = some (.int .i64 b) := (blk_cell e2 0).trans rfl
  have C := Aside0.mk (callsIn_calls (findT_in j A c W3 (h.below hb0) a b B1 B2 d1 d2 _ rfl _ rfl))
  unfold Job.v at C
  rw [HR.out] at C
  have HS := Aside0.mk (show w.heap.size ≤ W3.heap.size by omega)
  have HB0 := Aside0.mk hb0
  clear hb0 hsz e0 e1 e2 h
  go_wp2_with (go_at_call 41; refine C.out.mono ?_; rintro e w1 ⟨rfl, hb1⟩; have H1 := Aside0.mk hb1; clear hb1)
  go_ret2
  exact ⟨rfl, (HB0.out.trans (H1.out.mono HS.out)).alloc (Nat.le_trans HS.out H1.out.size) _⟩

set_option maxRecDepth 100000 in
set_option maxHeartbeats 4000000 in
theorem of_in (j : Job) (A : Option Addr) (c : Nat) (a : Int) (w : World) (h : j.In w A c) : Calls Try.prog 17 #[.agg (j.v A c), .int .i64 a] w fun e w' => e = .returned (.tuple #[.int .i64 (ofL j a).1, .int .i64 (ofL j a).2.1, .int .i64 (ofL j a).2.2]) ∧ Below w.heap.size w w' := by
  have hb0 := allocs_below [.cells #[.int .i64 j.w, .int .i64 j.l, .int .i64 j.wi, .int .i64 j.c, .int .i64 j.d, .int .i64 j.e, .slice A j.ts.length c] 24, .cells #[.int .i64 a] 3] w w.heap.size (Nat.le_refl _)
  have hsz := allocs_size [.cells #[.int .i64 j.w, .int .i64 j.l, .int .i64 j.wi, .int .i64 j.c, .int .i64 j.d, .int .i64 j.e, .slice A j.ts.length c] 24, .cells #[.int .i64 a] 3] w
  have hat := allocs_at [.cells #[.int .i64 j.w, .int .i64 j.l, .int .i64 j.wi, .int .i64 j.c, .int .i64 j.d, .int .i64 j.e, .slice A j.ts.length c] 24, .cells #[.int .i64 a] 3] w
  have e0 := hat 0 _ rfl
  have e1 := hat 1 _ rfl
  clear hat
  simp only [List.foldl_cons, List.foldl_nil, List.length_cons, List.length_nil] at hb0 hsz e0 e1
  unfold Job.v
  obtain ⟨R, hR⟩ : ∃ R, (found j fun (x : Nat) => (x : Int) == a) = R := ⟨_, rfl⟩
  rw [show ofL j a = (R.2.1.1, R.2.1.2, R.2.2) from by unfold ofL; rw [hR]]
  have HR := Aside0.mk hR
  clear hR
  go_enter Try.func17, Try.ntmps17
  go_upto_region 1 with fail
  obtain ⟨B1, q1⟩ : ∃ B, w.heap.size + 1 = B := ⟨_, rfl⟩
  try simp only [Nat.add_assoc, Nat.reduceAdd]
  rw [q1]
  rw [q1] at e1
  rw [show w.heap.size + 0 = w.heap.size from rfl] at e0
  generalize World.alloc _ _ = W3 at hb0 hsz e0 e1 ⊢
  have c0 : (_ : Option Value) = some (.int .i64 j.w) := (blk_cell e0 0).trans rfl
  have c1 : (_ : Option Value) = some (.int .i64 j.l) := (blk_cell e0 1).trans rfl
  have c2 : (_ : Option Value) = some (.int .i64 j.wi) := (blk_cell e0 2).trans rfl
  have c3 : (_ : Option Value) = some (.int .i64 j.c) := (blk_cell e0 3).trans rfl
  have c4 : (_ : Option Value) = some (.int .i64 j.d) := (blk_cell e0 4).trans rfl
  have c5 : (_ : Option Value) = some (.int .i64 j.e) := (blk_cell e0 5).trans rfl
  have c6 : (_ : Option Value) = some (.slice A j.ts.length c) := (blk_cell e0 6).trans rfl
  have d1 : (_ : Option Value) = some (.int .i64 a) := (blk_cell e1 0).trans rfl
  have C := Aside0.mk (callsIn_calls (findO_in j A c W3 (h.below hb0) a B1 d1 _ rfl _ rfl))
  unfold Job.v at C
  rw [HR.out] at C
  have HS := Aside0.mk (show w.heap.size ≤ W3.heap.size by omega)
  have HB0 := Aside0.mk hb0
  clear hb0 hsz e0 e1 h
  go_wp2_with (go_at_call 41; refine C.out.mono ?_; rintro e w1 ⟨rfl, hb1⟩; have H1 := Aside0.mk hb1; clear hb1; have hv := blk_new w1 (.cells #[.int .i64 R.2.1.1, .int .i64 R.2.1.2] 40); have v0 : (_ : Option Value) = some (.int .i64 R.2.1.1) := (blk_cell hv 0).trans rfl; have v1 : (_ : Option Value) = some (.int .i64 R.2.1.2) := (blk_cell hv 1).trans rfl; clear hv)
  go_region
  all_goals go_wp2
  all_goals refine bodyPost_ret (v := .tuple #[.int .i64 R.2.1.1, .int .i64 R.2.1.2, .int .i64 R.2.2]) (by simp [results, Try.func17, Sem.run_bind, Result.andThen]) rfl ?_
  all_goals exact ⟨rfl, (((HB0.out.trans (H1.out.mono HS.out)).alloc (Nat.le_trans HS.out H1.out.size) _)).drew⟩

end Go.Proofs.Ytecdnhmdodedmaa.Ca
