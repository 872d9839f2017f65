/- catalog.Tree, catalog.Of: a tree's number, and what a number is. -/
import Derived.Test.YtecdnhmdodedmaaCc
import Derived.Laws.ResultCell
import Derived.Outline
namespace Go.Proofs.Ytecdnhmdodedmaa.Ca
open Go.RowKit Go.Shelf Go.Proofs.YtecdnhmdodedmaaW.PrintWords Go.Proofs.YtecdnhmdodedmaaW.PrintLast Go.Proofs.YtecdnhmdodedmaaW.PrintMore Go.Proofs.Ytecdnhmdodedmaa.It
set_option linter.unusedVariables false
set_option linter.unusedSimpArgs false
theorem eqA_named (d : Nat) (w : World) (x0 x1 y0 y1 : Int) :
    (Op.equalIn (d + 2) 40 (.agg #[.int .i64 x0, .int .i64 x1]) (.agg #[.int .i64 y0, .int .i64 y1])).run Try.prog w = .ok (x0 == y0 && (x1 == y1)) w := by
  refine eqA_of Try.underlying40 (by kernel_rfl) ?_
  refine eqf_cons (by rfl) (by go_simp; rfl) (by go_simp; rfl) (by go_simp) ?_
  exact eqf_last (by rfl) (by go_simp; rfl) (by go_simp; rfl) (by go_simp)
theorem eql_named (w : World) (x0 x1 y0 y1 : Int) : (Go.binOp .eql 40 (.agg #[.int .i64 x0, .int .i64 x1]) (.agg #[.int .i64 y0, .int .i64 y1])).run Try.prog w = .ok (.bool (x0 == y0 && (x1 == y1))) w := by
  simp only [Go.binOp]
  simp [Op.equal, Op.maxDepth, eqA_named 9998]
theorem neq_named (w : World) (x0 x1 y0 y1 : Int) : (Go.binOp .neq 40 (.agg #[.int .i64 x0, .int .i64 x1]) (.agg #[.int .i64 y0, .int .i64 y1])).run Try.prog w = .ok (.bool (!(x0 == y0 && (x1 == y1)))) w := by
  simp only [Go.binOp]
  simp [Op.equal, Op.maxDepth, eqA_named 9998]
theorem callsIn_calls {n : Nat} {P : Program} {f : FuncId} {args : Array Value} {w : World} {R : Ending → World → Prop} (h : CallsIn Fence.wide n P f args w R) : Calls P f args w R := callsIn_wide.1 h
theorem trees (j : Job) (A : Option Addr) (c : Nat) (w : World) (h : j.In w A c) : Calls Try.prog 13 #[.agg (j.v A c)] w fun e w' => e = .returned (.int .i64 ((names j).length : Nat)) ∧ Below w.heap.size w w' := callsIn_wide.1 (trees_in j A c w h)
set_option maxRecDepth 100000 in
theorem tree1 (n t i a b : Int) (P Q : Nat) (w : World) (h1 : w.cell? ⟨P, 0, none⟩ = some (.int .i64 a)) (h2 : w.cell? ⟨Q, 0, none⟩ = some (.int .i64 b)) :
    Calls Try.prog 42 #[.int .i64 n, .agg #[.int .i64 t, .int .i64 i], .pointer (some ⟨P, 0, none⟩), .pointer (some ⟨Q, 0, none⟩)] w fun e w' => e = .returned (.bool (t == a && (i == b))) ∧ Below w.heap.size w w' := by
  have hq := eql_named
  have hb := below_alloc (Below.refl w.heap.size w) (.cells #[.int .i64 t, .int .i64 i] 40)
  have z1 := pw_cell_below hb h1
  have z2 := pw_cell_below hb h2
  have hblk := blk_new w (.cells #[.int .i64 t, .int .i64 i] 40)
  have y0 : (_ : Option Value) = some (.int .i64 t) := (blk_cell hblk 0).trans rfl
  have y1 : (_ : Option Value) = some (.int .i64 i) := (blk_cell hblk 1).trans rfl
  have HB := Aside0.mk hb
  clear hb hblk h1 h2
  go_enter Try.func42, Try.ntmps42
  go_upto_region 1 with fail
  generalize w.alloc (.cells #[.int .i64 t, .int .i64 i] 40) = w1 at z1 z2 y0 y1 HB ⊢
  go_wp2
  go_ret
  exact ⟨rfl, HB.out⟩
set_option maxRecDepth 100000 in
theorem of1 (n t i a : Int) (P : Nat) (w : World) (h1 : w.cell? ⟨P, 0, none⟩ = some (.int .i64 a)) :
    Calls Try.prog 43 #[.int .i64 n, .agg #[.int .i64 t, .int .i64 i], .pointer (some ⟨P, 0, none⟩)] w fun e w' => e = .returned (.bool (n == a)) ∧ Below w.heap.size w w' := by
  have hb := below_alloc (Below.refl w.heap.size w) (.cells #[.int .i64 t, .int .i64 i] 40)
  have z1 := pw_cell_below hb h1
  have HB := Aside0.mk hb
  clear hb h1
  go_enter Try.func43, Try.ntmps43
  go_upto_region 1 with fail
  generalize w.alloc (.cells #[.int .i64 t, .int .i64 i] 40) = w1 at z1 HB ⊢
  go_wp2
  go_ret
  exact ⟨rfl, HB.out⟩
/-- The first one of which p holds. -/
def first (p : Nat → Bool) : Nat → Nat → Option Nat
  | 0, _ => none
  | d + 1, i => if p i then some i else first p d (i + 1)
theorem first_none (p : Nat → Bool) : ∀ (d i : Nat), (∀ x, i ≤ x → x < i + d → p x = false) → first p d i = none
  | 0, _, _ => rfl
  | d + 1, i, h => by
    rw [first, h i (Nat.le_refl _) (by omega)]
    exact first_none p d (i + 1) (fun x h1 h2 => h x (by omega) (by omega))
theorem first_some (p : Nat → Bool) : ∀ (d i x : Nat), i ≤ x → x < i + d → (∀ y, i ≤ y → y < x → p y = false) → p x = true → first p d i = some x
  | 0, _, _, h1, h2, _, _ => by omega
  | d + 1, i, x, h1, h2, h3, h4 => by
    rw [first]
    by_cases e : i = x
    · subst e; rw [h4]; rfl
    · rw [h3 i (Nat.le_refl _) (by omega)]
      exact first_some p d (i + 1) x (by omega) (by omega) (fun y a b => h3 y (by omega) b) h4
theorem results_tct {fn : Func} {p u v : Tmp} {ty : TypeId} (h : fn.results = #[.tmp u, .cell p ty, .tmp v]) (tmps : Array Value) (P : Program) (w : World) :
    (results fn tmps).run P w = ((asAddr (tmps.getD p undef)).run P w).andThen fun a w₁ => ((loadVar ty a).run P w₁).andThen fun x w₂ => .ok (.tuple #[tmps.getD u undef, x, tmps.getD v undef]) w₂ := by
  simp only [results, h]
  simp [Sem.run_bind, Result.andThen]
def lst (pre : List Nat) : Nat := pre.getLastD 0
theorem lst_snoc (pre : List Nat) (x : Nat) : lst (pre ++ [x]) = x := by simp [lst]
/-- What find answers. -/
def found (j : Job) (p : Nat → Bool) : Int × (Int × Int) × Int := match first p (names j).length 0 with
  | some x => ((x : Int), at_ (names j) x, 0)
  | none => (0, (0, 0), 2)

section
attribute [local go_sem] Oper.semAt_some
set_option maxRecDepth 100000 in
set_option maxHeartbeats 8000000 in
theorem findT_in (j : Job) (A : Option Addr) (c : Nat) (w : World) (h : j.In w A c) (a b : Int) (P Q : Nat) (h1 : w.cell? ⟨P, 0, none⟩ = some (.int .i64 a)) (h2 : w.cell? ⟨Q, 0, none⟩ = some (.int .i64 b)) (p : Nat → Bool) (ep : p = fun x => (at_ (names j) x).1 == a && ((at_ (names j) x).2 == b)) (R : Int × (Int × Int) × Int) (eR : R = found j p) :
    CallsIn Fence.wide 6 Try.prog 41 #[.agg (j.v A c), .func (.func 42) #[] #[.pointer (some ⟨P, 0, none⟩), .pointer (some ⟨Q, 0, none⟩)]] w fun e w' => e = .returned (.tuple #[.int .i64 R.1, .agg #[.int .i64 R.2.1.1, .int .i64 R.2.1.2], .int .i64 R.2.2]) ∧ Below w.heap.size w w' := by
  have EP := Aside0.mk ep
  have ER := Aside0.mk eR
  clear ep eR
  have AI := Aside0.mk (fun (n : Nat) (W : World) => all_in n j A c W)
  have AS := Aside0.mk (fun (Bs : Nat) (W : World) h1 h2 h3 => all_stops 5 (by decide) Bs w.heap.size j A c W h1 h2 h3)
  unfold Job.v at AI AS ⊢
  refine callsIn_of_wp_marks Try.func41 rfl trivial ?_ rfl
  simp only [Try.ntmps41, List.size_toArray, List.length_cons, List.length_nil, Nat.reduceAdd, Nat.reduceSub, Array.replicate_succ, Array.replicate_zero, List.push_toArray, List.append_toArray, List.nil_append, List.cons_append]
  gi_wp2
  refine wpIn_scope_wide ?_
  gi_wp2
  refine wpIn_label ?_
  gi_wp2_with (refine ⟨trivial, ?_⟩; gi_at_call 40; refine (AI.out _ _).mono ?_; rintro e w' ⟨rfl, rfl⟩)
  have hsz0 := allocs_size [.cells #[.int .i64 j.w, .int .i64 j.l, .int .i64 j.wi, .int .i64 j.c, .int .i64 j.d, .int .i64 j.e, .slice A j.ts.length c] 24, .cells #[.func (.func 42) #[] #[.pointer (some ⟨P, 0, none⟩), .pointer (some ⟨Q, 0, none⟩)]] 94, .cells #[.int .i64 0, .int .i64 0] 40, .cells #[.int .i64 0] 3, .cells #[.int .i64 0, .int .i64 0] 40, .cells #[.int .i64 2] 29, .cells #[.int .i64 j.w, .int .i64 j.l, .int .i64 j.wi, .int .i64 j.c, .int .i64 j.d, .int .i64 j.e, .slice A j.ts.length c] 24] w
  have hb0 := allocs_below [.cells #[.int .i64 j.w, .int .i64 j.l, .int .i64 j.wi, .int .i64 j.c, .int .i64 j.d, .int .i64 j.e, .slice A j.ts.length c] 24, .cells #[.func (.func 42) #[] #[.pointer (some ⟨P, 0, none⟩), .pointer (some ⟨Q, 0, none⟩)]] 94, .cells #[.int .i64 0, .int .i64 0] 40, .cells #[.int .i64 0] 3, .cells #[.int .i64 0, .int .i64 0] 40, .cells #[.int .i64 2] 29, .cells #[.int .i64 j.w, .int .i64 j.l, .int .i64 j.wi, .int .i64 j.c, .int .i64 j.d, .int .i64 j.e, .slice A j.ts.length c] 24] w w.heap.size (Nat.le_refl _)
  have hat := allocs_at [.cells #[.int .i64 j.w, .int .i64 j.l, .int .i64 j.wi, .int .i64 j.c, .int .i64 j.d, .int .i64 j.e, .slice A j.ts.length c] 24, .cells #[.func (.func 42) #[] #[.pointer (some ⟨P, 0, none⟩), .pointer (some ⟨Q, 0, none⟩)]] 94, .cells #[.int .i64 0, .int .i64 0] 40, .cells #[.int .i64 0] 3, .cells #[.int .i64 0, .int .i64 0] 40, .cells #[.int .i64 2] 29, .cells #[.int .i64 j.w, .int .i64 j.l, .int .i64 j.wi, .int .i64 j.c, .int .i64 j.d, .int .i64 j.e, .slice A j.ts.length c] 24] w
  have hF := hat 1 _ rfl
  have hR := hat 2 _ rfl
  have hN := hat 3 _ rfl
  have hX := hat 4 _ rfl
  have hE := hat 5 _ rfl
  have hA := hat 6 _ rfl
  clear hat
  simp only [List.foldl_cons, List.foldl_nil, List.length_cons, List.length_nil] at hsz0 hb0 hF hR hN hX hE hA
  obtain ⟨BA, eA⟩ : ∃ B, w.heap.size + 1 + 1 + 1 + 1 + 1 + 1 = B := ⟨_, rfl⟩
  rw [eA]
  obtain ⟨BE, eE⟩ : ∃ B, w.heap.size + 1 + 1 + 1 + 1 + 1 = B := ⟨_, rfl⟩
  rw [eE]
  obtain ⟨BX, eX⟩ : ∃ B, w.heap.size + 1 + 1 + 1 + 1 = B := ⟨_, rfl⟩
  rw [eX]
  obtain ⟨BN, eN⟩ : ∃ B, w.heap.size + 1 + 1 + 1 = B := ⟨_, rfl⟩
  rw [eN]
  obtain ⟨BR, eR⟩ : ∃ B, w.heap.size + 1 + 1 = B := ⟨_, rfl⟩
  rw [eR]
  obtain ⟨BF, eF⟩ : ∃ B, w.heap.size + 1 = B := ⟨_, rfl⟩
  rw [eF]
  rw [show w.heap.size + 1 = BF by omega] at hF
  rw [show w.heap.size + 2 = BR by omega] at hR
  rw [show w.heap.size + 3 = BN by omega] at hN
  rw [show w.heap.size + 4 = BX by omega] at hX
  rw [show w.heap.size + 5 = BE by omega] at hE
  rw [show w.heap.size + 6 = BA by omega] at hA
  generalize World.alloc _ (.cells #[.int .i64 j.w, .int .i64 j.l, .int .i64 j.wi, .int .i64 j.c, .int .i64 j.d, .int .i64 j.e, .slice A j.ts.length c] 24) = W0 at hsz0 hb0 hF hR hN hX hE hA ⊢
  have QA := Aside0.mk (show BF = w.heap.size + 1 ∧ BR = w.heap.size + 2 ∧ BN = w.heap.size + 3 ∧ BX = w.heap.size + 4 ∧ BE = w.heap.size + 5 ∧ BA = w.heap.size + 6 ∧ W0.heap.size = w.heap.size + 7 from ⟨by omega, by omega, by omega, by omega, by omega, by omega, by omega⟩)
  clear eA eE eX eN eR eF hsz0
  have hr : ∀ W', Below w.heap.size W0 W' → j.In W' A c := fun W' hb => h.below (hb0.trans hb)
  have hp : ∀ W', Below w.heap.size W0 W' → (fun V => V.cell? ⟨P, 0, none⟩ = some (.int .i64 a) ∧ V.cell? ⟨Q, 0, none⟩ = some (.int .i64 b)) W' := fun W' hb => ⟨pw_cell_below (hb0.trans hb) h1, pw_cell_below (hb0.trans hb) h2⟩
  have q1 := QA.out
  have fin : ∀ (W w2 : World) (x : Nat) (pre : List Nat), W0.heap.size ≤ W.heap.size → (∀ i ∈ pre, p i = false) → Below w.heap.size W0 W → Below W.heap.size W w2 →
      w2.heap[BR]? = some (.cells #[.int .i64 0, .int .i64 0] 40 (0, 0)) → w2.heap[BN]? = some (.cells #[.int .i64 0] 3 (0, 0)) → w2.heap[BX]? = some (.cells #[.int .i64 0, .int .i64 0] 40 (0, 0)) → w2.heap[BE]? = some (.cells #[.int .i64 2] 29 (0, 0)) → p x = true →
      KeepsFrom W0.heap.size W ((((w2.setCell ⟨BN, 0, none⟩ (.int .i64 (x : Int))).setCell ⟨BX, 0, none⟩ (.int .i64 (at_ (names j) x).1)).setCell ⟨BX, 1, none⟩ (.int .i64 (at_ (names j) x).2)).setCell ⟨BE, 0, none⟩ (.int .i64 0)).drew ∧
      (((((∃ ini last, pre ++ [x] = ini ++ [last] ∧ (∀ x ∈ ini, p x = false) ∧ p last = true)) ∧ ((((w2.setCell ⟨BN, 0, none⟩ (.int .i64 (x : Int))).setCell ⟨BX, 0, none⟩ (.int .i64 (at_ (names j) x).1)).setCell ⟨BX, 1, none⟩ (.int .i64 (at_ (names j) x).2)).setCell ⟨BE, 0, none⟩ (.int .i64 0)).drew.heap[BR]? = some (.cells #[.int .i64 0, .int .i64 0] 40 (0, 0))) ∧ ((((w2.setCell ⟨BN, 0, none⟩ (.int .i64 (x : Int))).setCell ⟨BX, 0, none⟩ (.int .i64 (at_ (names j) x).1)).setCell ⟨BX, 1, none⟩ (.int .i64 (at_ (names j) x).2)).setCell ⟨BE, 0, none⟩ (.int .i64 0)).drew.heap[BN]? = some (.cells #[.int .i64 (lst (pre ++ [x]) : Int)] 3 (0, 0))) ∧ ((((w2.setCell ⟨BN, 0, none⟩ (.int .i64 (x : Int))).setCell ⟨BX, 0, none⟩ (.int .i64 (at_ (names j) x).1)).setCell ⟨BX, 1, none⟩ (.int .i64 (at_ (names j) x).2)).setCell ⟨BE, 0, none⟩ (.int .i64 0)).drew.heap[BX]? = some (.cells #[.int .i64 (at_ (names j) (lst (pre ++ [x]))).1, .int .i64 (at_ (names j) (lst (pre ++ [x]))).2] 40 (0, 0))) ∧ ((((w2.setCell ⟨BN, 0, none⟩ (.int .i64 (x : Int))).setCell ⟨BX, 0, none⟩ (.int .i64 (at_ (names j) x).1)).setCell ⟨BX, 1, none⟩ (.int .i64 (at_ (names j) x).2)).setCell ⟨BE, 0, none⟩ (.int .i64 0)).drew.heap[BE]? = some (.cells #[.int .i64 0] 29 (0, 0)) ∧ Below w.heap.size W0 ((((w2.setCell ⟨BN, 0, none⟩ (.int .i64 (x : Int))).setCell ⟨BX, 0, none⟩ (.int .i64 (at_ (names j) x).1)).setCell ⟨BX, 1, none⟩ (.int .i64 (at_ (names j) x).2)).setCell ⟨BE, 0, none⟩ (.int .i64 0)).drew := by
    intro W w2 x pre hl hpre hB hb2 hR2 hN2 hX3 hE2 hpx
    have q := QA.out
    have e1 : BR ≠ BN := by omega
    have e2 : BR ≠ BX := by omega
    have e3 : BR ≠ BE := by omega
    have e4 : BN ≠ BX := by omega
    have e5 : BN ≠ BE := by omega
    have e6 : BX ≠ BE := by omega
    rw [lst_snoc]
    refine ⟨(KeepsFrom.of_grownBy (grown_of_below hb2) (by simp)).trans (((((KeepsOthers.setCell _ _ _).trans (KeepsOthers.setCell _ _ _)).trans (KeepsOthers.setCell _ _ _)).trans (KeepsOthers.setCell _ _ _)).trans (KeepsOthers.drew _) |>.from _), ⟨⟨⟨⟨pre, x, rfl, hpre, hpx⟩, ?_⟩, ?_⟩, ?_⟩, ?_, ?_⟩
    · exact blk_far (blk_far (blk_far (blk_far hR2 e1 _) e2 _) e2 _) e3 _
    · exact blk_far (blk_far (blk_far (blk_set hN2 0 _) e4 _) e4 _) e5 _
    · exact blk_far (blk_set (blk_set (blk_far hX3 e4.symm _) 0 _) 1 _) e6 _
    · exact blk_set (blk_far (blk_far (blk_far hE2 e5.symm _) e6.symm _) e6.symm _) 0 _
    · exact (((((hB.trans (hb2.mono (by have := hB.size; omega))).setCell (p := ⟨BN, 0, none⟩) (by show _ ≤ BN; omega) _).setCell (p := ⟨BX, 0, none⟩) (by show _ ≤ BX; omega) _).setCell (p := ⟨BX, 1, none⟩) (by show _ ≤ BX; omega) _).setCell (p := ⟨BE, 0, none⟩) (by show _ ≤ BE; omega) _).drew
  have FIN := Aside0.mk fin
  clear fin
  refine wpIn_rangeFunc_ownH (F := Fence.wide) rfl (by decide) (gf := 65) (lb := #[.pointer (some ⟨BA, 0, none⟩)]) rfl trivial (enters_of Try.func65 (by kernel_rfl) rfl)
    (AS.out BA W0 (by omega) hA hr) KpB.t (KpB.b (by omega) (by omega)) (Below.refl _ _) (fun _ => rfl)
    (fun pre W => ((((((W.heap[BF]? = some (.cells #[.func (.func 42) #[] #[.pointer (some ⟨P, 0, none⟩), .pointer (some ⟨Q, 0, none⟩)]] 94 (0, 0)) ∧ W.heap[BR]? = some (.cells #[.int .i64 0, .int .i64 0] 40 (0, 0))) ∧ W.heap[BN]? = some (.cells #[.int .i64 0] 3 (0, 0))) ∧ W.heap[BX]? = some (.cells #[.int .i64 0, .int .i64 0] 40 (0, 0))) ∧ W.heap[BE]? = some (.cells #[.int .i64 2] 29 (0, 0))) ∧ (∀ x ∈ pre, p x = false))) ∧ Below w.heap.size W0 W)
    (fun c pre W => ((((c = .exit 0 ∧ (∃ ini last, pre = ini ++ [last] ∧ (∀ x ∈ ini, p x = false) ∧ p last = true)) ∧ W.heap[BR]? = some (.cells #[.int .i64 0, .int .i64 0] 40 (0, 0))) ∧ W.heap[BN]? = some (.cells #[.int .i64 (lst pre : Int)] 3 (0, 0))) ∧ W.heap[BX]? = some (.cells #[.int .i64 (at_ (names j) (lst pre)).1, .int .i64 (at_ (names j) (lst pre)).2] 40 (0, 0))) ∧ W.heap[BE]? = some (.cells #[.int .i64 0] 29 (0, 0)) ∧ Below w.heap.size W0 W)
    (OwnFrom.and (OwnFrom.and (OwnFrom.and (OwnFrom.and (OwnFrom.and (OwnFrom.and (Own.from (blk_own BF 94 (fun _ => #[.func (.func 42) #[] #[.pointer (some ⟨P, 0, none⟩), .pointer (some ⟨Q, 0, none⟩)]])) _) (Own.from (blk_own BR 40 (fun _ => #[.int .i64 0, .int .i64 0])) _)) (Own.from (blk_own BN 3 (fun _ => #[.int .i64 0])) _)) (Own.from (blk_own BX 40 (fun _ => #[.int .i64 0, .int .i64 0])) _)) (Own.from (blk_own BE 29 (fun _ => #[.int .i64 2])) _)) (ownFrom_pure _ _)) (ownFrom_below (by omega) (by omega)))
    (fun c => OwnFrom.and (OwnFrom.and (OwnFrom.and (OwnFrom.and (ownFrom_pure _ _) (Own.from (blk_own BR 40 (fun _ => #[.int .i64 0, .int .i64 0])) _)) (Own.from (blk_own BN 3 (fun pre => #[.int .i64 (lst pre : Int)])) _)) (Own.from (blk_own BX 40 (fun pre => #[.int .i64 (at_ (names j) (lst pre)).1, .int .i64 (at_ (names j) (lst pre)).2])) _)) (OwnFrom.and (Own.from (blk_own BE 29 (fun _ => #[.int .i64 0])) _) (ownFrom_below (by omega) (by omega))))
    ⟨⟨⟨⟨⟨⟨hF, hR⟩, hN⟩, hX⟩, hE⟩, by simp⟩, Below.refl _ _⟩
    (fun x a' W => ∃ B', BA < B' ∧ W.heap[B']? = some (.cells #[.int .i64 (at_ (names j) x).1, .int .i64 (at_ (names j) x).2] 40 (0, 0)) ∧ a' = { tmps := #[.agg #[.int .i64 j.w, .int .i64 j.l, .int .i64 j.wi, .int .i64 j.c, .int .i64 j.d, .int .i64 j.e, .slice A j.ts.length c], .func (.func 42) #[] #[.pointer (some ⟨P, 0, none⟩), .pointer (some ⟨Q, 0, none⟩)], .pointer (some ⟨w.heap.size, 0, none⟩), .pointer (some ⟨BF, 0, none⟩), .int .i64 0, .pointer (some ⟨BR, 0, none⟩), .int .i64 0, .pointer (some ⟨BN, 0, none⟩), .pointer (some ⟨BX, 0, none⟩), .pointer (some ⟨BE, 0, none⟩), .int .i64 (x : Int), .pointer (some ⟨B', 0, none⟩), .agg #[.int .i64 0, .int .i64 0], .agg #[.int .i64 j.w, .int .i64 j.l, .int .i64 j.wi, .int .i64 j.c, .int .i64 j.d, .int .i64 j.e, .slice A j.ts.length c], .func (.func 65) #[] #[.pointer (some ⟨BA, 0, none⟩)], .int .i64 (x : Int), .agg #[.int .i64 (at_ (names j) x).1, .int .i64 (at_ (names j) x).2], undef, undef, undef, undef, undef, undef, undef, undef, undef], defers := [] })
    (fun x a' _ X Y row hs hg hr => by obtain ⟨B', h1, h2, h3⟩ := hs; exact ⟨B', h1, blk_own B' 40 (fun (_ : Unit) => #[.int .i64 (at_ (names j) x).1, .int .i64 (at_ (names j) x).2]) () X Y row h2 hg (fun r e => (hr r e).2), h3⟩)
    ?assign ?body ?done ?stop
  case assign =>
    clear q1
    rintro l pre x W K ⟨⟨⟨⟨⟨⟨hF', hR'⟩, hN'⟩, hX'⟩, hE'⟩, hpre⟩, hB⟩ hK
    dsimp only [encN]
    gi_wp2
    have hsw := hB.size
    have kp : ∀ {B : Nat} {o : Obj}, W.heap[B]? = some o → (W.alloc (.cells #[.int .i64 (at_ (names j) x).1, .int .i64 (at_ (names j) x).2] 40)).heap[B]? = some o := fun hb => (Below.heap_alloc W _ _ (Array.getElem?_eq_some_iff.1 hb).1).trans hb
    refine hK _ _ ((KeepsOthers.alloc _ _).from _) ⟨(Below.refl _ W).alloc (by have := QA.out; omega) _, Below.heap_alloc W _ _ (by have := QA.out; omega)⟩ ⟨⟨⟨⟨⟨⟨kp hF', kp hR'⟩, kp hN'⟩, kp hX'⟩, kp hE'⟩, hpre⟩, hB.alloc (by have := QA.out; omega) _⟩ ⟨W.heap.size, by have := QA.out; omega, World.alloc_heap_new W _, rfl⟩
  case body =>
    clear q1
    rintro l pre x a' W hl ⟨r, hrr⟩ ⟨⟨⟨⟨⟨⟨hF', hR'⟩, hN'⟩, hX'⟩, hE'⟩, hpre⟩, hB⟩ ⟨B', hB', hX2, rfl⟩ hlt
    have hf0 : (_ : Option Value) = some (.func (.func 42) #[] #[.pointer (some ⟨P, 0, none⟩), .pointer (some ⟨Q, 0, none⟩)]) := (blk_cell hF' 0).trans rfl
    have x0 : (_ : Option Value) = some (.int .i64 (at_ (names j) x).1) := (blk_cell hX2 0).trans rfl
    have x1 : (_ : Option Value) = some (.int .i64 (at_ (names j) x).2) := (blk_cell hX2 1).trans rfl
    have hcall : Calls Try.prog 42 (#[.int .i64 (x : Int), .agg #[.int .i64 (at_ (names j) x).1, .int .i64 (at_ (names j) x).2]] ++ #[.pointer (some ⟨P, 0, none⟩), .pointer (some ⟨Q, 0, none⟩)]) W fun e w' => e = .returned (.bool (p x)) ∧ Below W.heap.size W w' := by
      rw [EP.out]
      exact tree1 _ _ _ a b P Q W (hp W hB).1 (hp W hB).2
    have HBS := Aside0.mk (show BF < W.heap.size ∧ BR < W.heap.size ∧ BN < W.heap.size ∧ BX < W.heap.size ∧ BE < W.heap.size ∧ BA < W.heap.size from by have := QA.out; have := hB.size; omega)
    cases hpx : p x with
    | false =>
      rw [hpx] at hcall
      have HC := Aside0.mk hcall
      clear hcall
      gi_wp2_with (refine ⟨trivial, ?_⟩; gi_at_call 42; refine (CallsIn.inRound l (callsIn_wide.2 HC.out)).mono ?_; rintro e w2 ⟨rfl, hb2⟩)
      refine ⟨KeepsFrom.of_grownBy (grown_of_below hb2) (by simp), ⟨hb2.mono (by have := hB.size; have := QA.out; omega), hb2.block _ HBS.out.2.2.2.2.2⟩, ⟨⟨⟨⟨⟨(hb2.block _ HBS.out.1).trans hF', (hb2.block _ HBS.out.2.1).trans hR'⟩, (hb2.block _ HBS.out.2.2.1).trans hN'⟩, (hb2.block _ HBS.out.2.2.2.1).trans hX'⟩, (hb2.block _ HBS.out.2.2.2.2.1).trans hE'⟩, fun i hi => (List.mem_append.1 hi).elim (hpre i) (fun e => by simp at e; subst e; exact hpx)⟩, hB.trans (hb2.mono (by have := hB.size; have := QA.out; omega))⟩
    | true =>
      rw [hpx] at hcall
      have HC := Aside0.mk hcall
      have N1 : BN ≠ BX := by have := QA.out; omega
      have N2 : BN ≠ BE := by have := QA.out; omega
      have N3 : BX ≠ BE := by have := QA.out; omega
      have N4 : BX ≠ BN := by have := QA.out; omega
      have N5 : BE ≠ BN := by have := QA.out; omega
      have N6 : BE ≠ BX := by have := QA.out; omega
      have N7 : B' ≠ BN := by have := QA.out; omega
      have N8 : B' ≠ BX := by have := QA.out; omega
      have N9 : B' ≠ BE := by have := QA.out; omega
      have hf1 := Aside0.mk hN'
      have hf2 := Aside0.mk hX'
      have hf3 := Aside0.mk hE'
      clear hcall
      gi_wp2_with (refine ⟨trivial, ?_⟩; gi_at_call 42; refine (CallsIn.inRound l (callsIn_wide.2 HC.out)).mono ?_; rintro e w2 ⟨rfl, hb2⟩; have hN2 := (hb2.block _ HBS.out.2.2.1).trans hf1.out; have hX3 := (hb2.block _ HBS.out.2.2.2.1).trans hf2.out; have hE2 := (hb2.block _ HBS.out.2.2.2.2.1).trans hf3.out; have a0 : (_ : Option Value) = some (.int .i64 0) := (blk_cell hN2 0).trans rfl; have a1 := blk_frozen hN2 0; have a2 : (_ : Option Value) = some (.int .i64 0) := (blk_cell hX3 0).trans rfl; have a3 : (_ : Option Value) = some (.int .i64 0) := (blk_cell hX3 1).trans rfl; have a4 := blk_frozen hX3 0; have a5 := blk_frozen hX3 1; have a6 : (_ : Option Value) = some (.int .i64 2) := (blk_cell hE2 0).trans rfl; have a7 := blk_frozen hE2 0; have x0' := pw_cell_below hb2 x0; have x1' := pw_cell_below hb2 x1)
      have hR2 := (hb2.block _ HBS.out.2.1).trans hR'
      gi_region
      all_goals gi_wp2
      all_goals (have z := FIN.out W w2 x pre hB.size hpre hB hb2 hR2 hN2 hX3 hE2 hpx; exact ⟨z.1, ⟨⟨⟨⟨rfl, z.2.1.1.1.1⟩, z.2.1.1.1.2⟩, z.2.1.1.2⟩, z.2.1.2⟩, z.2.2⟩)
  case done =>
    clear q1
    rintro D ys W hD rfl ⟨⟨⟨⟨⟨⟨hF', hR'⟩, hN'⟩, hX'⟩, hE'⟩, hpre⟩, hB⟩ hK
    have r0 : (_ : Option Value) = some (.int .i64 0) := (blk_cell hR' 0).trans rfl
    have r1 : (_ : Option Value) = some (.int .i64 0) := (blk_cell hR' 1).trans rfl
    have r2 := blk_frozen hR' 0
    have r3 := blk_frozen hR' 1
    have b0 : (_ : Option Value) = some (.int .i64 0) := (blk_cell hN' 0).trans rfl
    have b1 : (_ : Option Value) = some (.int .i64 0) := (blk_cell hX' 0).trans rfl
    have b2 : (_ : Option Value) = some (.int .i64 0) := (blk_cell hX' 1).trans rfl
    have b3 : (_ : Option Value) = some (.int .i64 2) := (blk_cell hE' 0).trans rfl
    have q := QA.out
    have N1 : BR ≠ BN := by omega
    have N2 : BR ≠ BX := by omega
    have N3 : BR ≠ BE := by omega
    have N4 : BN ≠ BR := by omega
    have N5 : BX ≠ BR := by omega
    have N6 : BE ≠ BR := by omega
    have HR := Aside0.mk hR'
    have HB := Aside0.mk hB
    have HD := Aside0.mk (show w.heap.size ≤ D ∧ BR < D by have := hB.size; omega)
    have HP := Aside0.mk hpre
    have HK := Aside0.mk hK
    clear q hF' hR' hN' hX' hE' hpre hB hK hD
    gi_wp2
    gi_region
    all_goals gi_wp2
    all_goals refine ⟨by simp, .inl ⟨_, _, rfl, run_takeDeferred (((KeepsOthers.setCell _ _ _).trans (KeepsOthers.setCell _ _ _)).trans (KeepsOthers.drew _) |>.same D _ HK.out rfl), ?_⟩⟩
    obtain ⟨Z, hZ⟩ : ∃ Z, (((W.setCell ⟨BR, 0, none⟩ (.int .i64 0)).setCell ⟨BR, 1, none⟩ (.int .i64 0)).drew.putObj D (.deferred none)) = Z := ⟨_, rfl⟩
    rw [hZ]
    have hZR : Z.heap[BR]? = some (.cells #[.int .i64 0, .int .i64 0] 40 (0, 0)) := by
      rw [← hZ]
      have q := HD.out.2
      simp only [World.putObj]
      rw [Array.getElem?_setIfInBounds_ne (by omega)]
      exact blk_set (blk_set HR.out 0 _) 1 _
    have hZB : Below w.heap.size w Z := by
      rw [← hZ]
      have q := QA.out
      refine ((hb0.trans HB.out).setCell (p := ⟨BR, 0, none⟩) (by show _ ≤ BR; omega) (.int .i64 0)).setCell (p := ⟨BR, 1, none⟩) (by show _ ≤ BR; omega) (.int .i64 0) |>.drew |>.trans ?_
      exact belowK_b (w := w) (Nat.le_refl _) _ D _ _ HD.out.1 (((KeepsOthers.setCell _ _ _).trans (KeepsOthers.setCell _ _ _)).trans (KeepsOthers.drew _) |>.same D _ HK.out rfl) rfl rfl
    clear hZ
    have z0 : (_ : Option Value) = some (.int .i64 0) := (blk_cell hZR 0).trans rfl
    have z1 : (_ : Option Value) = some (.int .i64 0) := (blk_cell hZR 1).trans rfl
    have HZB := Aside0.mk hZB
    clear hZR hZB
    refine ⟨_, ?_, rfl, HZB.out⟩
    rw [results_tct rfl]
    rw [ER.out, show found j p = (0, (0, 0), 2) by unfold found; rw [first_none p _ 0 (fun i _ h => HP.out i (List.mem_range.2 (by omega)))]]
    go_simp
  case stop =>
    clear q1
    rintro D c' pre W hD ⟨k, hk, rfl⟩ ⟨⟨⟨⟨⟨rfl, ini, last, e1, e2, e3⟩, hR'⟩, hN'⟩, hX'⟩, hE', hB⟩ hK
    obtain ⟨k', rfl⟩ : ∃ k', k = k' + 1 := by
      cases k with
      | zero => simp at e1
      | succ k' => exact ⟨k', rfl⟩
    rw [List.range_succ] at e1 hN' hX'
    obtain ⟨rfl, e5⟩ := List.append_inj' e1 rfl
    obtain rfl : k' = last := by simpa using e5
    rw [lst_snoc] at hN' hX'
    have FV : Aside0 (found j p = ((k' : Int), at_ (names j) k', 0)) := ⟨by unfold found; rw [first_some p _ 0 k' (Nat.zero_le _) (by omega) (fun y _ h => e2 y (List.mem_range.2 h)) e3]⟩
    have r0 : (_ : Option Value) = some (.int .i64 0) := (blk_cell hR' 0).trans rfl
    have r1 : (_ : Option Value) = some (.int .i64 0) := (blk_cell hR' 1).trans rfl
    have r2 := blk_frozen hR' 0
    have r3 := blk_frozen hR' 1
    have b0 : (_ : Option Value) = some (.int .i64 (k' : Int)) := (blk_cell hN' 0).trans rfl
    have b1 : (_ : Option Value) = some (.int .i64 (at_ (names j) k').1) := (blk_cell hX' 0).trans rfl
    have b2 : (_ : Option Value) = some (.int .i64 (at_ (names j) k').2) := (blk_cell hX' 1).trans rfl
    have b3 : (_ : Option Value) = some (.int .i64 0) := (blk_cell hE' 0).trans rfl
    have q := QA.out
    have N1 : BR ≠ BN := by omega
    have N2 : BR ≠ BX := by omega
    have N3 : BR ≠ BE := by omega
    have N4 : BN ≠ BR := by omega
    have N5 : BX ≠ BR := by omega
    have N6 : BE ≠ BR := by omega
    have HR := Aside0.mk hR'
    have HB := Aside0.mk hB
    have HD := Aside0.mk (show w.heap.size ≤ D ∧ BR < D by have := hB.size; omega)
    have HK := Aside0.mk hK
    clear q hR' hN' hX' hE' hB hK hD e1 e2 e3 e5
    gi_wp2
    gi_region
    all_goals gi_wp2
    all_goals refine ⟨by simp, .inl ⟨_, _, rfl, run_takeDeferred (((KeepsOthers.setCell _ _ _).trans (KeepsOthers.setCell _ _ _)).trans (KeepsOthers.drew _) |>.same D _ HK.out rfl), ?_⟩⟩
    obtain ⟨Z, hZ⟩ : ∃ Z, (((W.setCell ⟨BR, 0, none⟩ (.int .i64 (at_ (names j) k').1)).setCell ⟨BR, 1, none⟩ (.int .i64 (at_ (names j) k').2)).drew.putObj D (.deferred none)) = Z := ⟨_, rfl⟩
    rw [hZ]
    have hZR : Z.heap[BR]? = some (.cells #[.int .i64 (at_ (names j) k').1, .int .i64 (at_ (names j) k').2] 40 (0, 0)) := by
      rw [← hZ]
      have q := HD.out.2
      simp only [World.putObj]
      rw [Array.getElem?_setIfInBounds_ne (by omega)]
      exact blk_set (blk_set HR.out 0 _) 1 _
    have hZB : Below w.heap.size w Z := by
      rw [← hZ]
      have q := QA.out
      refine ((hb0.trans HB.out).setCell (p := ⟨BR, 0, none⟩) (by show _ ≤ BR; omega) (.int .i64 (at_ (names j) k').1)).setCell (p := ⟨BR, 1, none⟩) (by show _ ≤ BR; omega) (.int .i64 (at_ (names j) k').2) |>.drew |>.trans ?_
      exact belowK_b (w := w) (Nat.le_refl _) _ D _ _ HD.out.1 (((KeepsOthers.setCell _ _ _).trans (KeepsOthers.setCell _ _ _)).trans (KeepsOthers.drew _) |>.same D _ HK.out rfl) rfl rfl
    clear hZ
    have z0 : (_ : Option Value) = some (.int .i64 (at_ (names j) k').1) := (blk_cell hZR 0).trans rfl
    have z1 : (_ : Option Value) = some (.int .i64 (at_ (names j) k').2) := (blk_cell hZR 1).trans rfl
    have HZB := Aside0.mk hZB
    clear hZR hZB
    refine ⟨_, ?_, rfl, HZB.out⟩
    rw [results_tct rfl]
    rw [ER.out, FV.out]
    go_simp
end

section
attribute [local go_sem] Oper.semAt_some
set_option maxRecDepth 100000 in
set_option maxHeartbeats 8000000 in
theorem findO_in (j : Job) (A : Option Addr) (c : Nat) (w : World) (h : j.In w A c) (a : Int) (P : Nat) (h1 : w.cell? ⟨P, 0, none⟩ = some (.int .i64 a)) (p : Nat → Bool) (ep : p = fun (x : Nat) => (x : Int) == a) (R : Int × (Int × Int) × Int) (eR : R = found j p) :
    CallsIn Fence.wide 6 Try.prog 41 #[.agg (j.v A c), .func (.func 43) #[] #[.pointer (some ⟨P, 0, none⟩)]] w fun e w' => e = .returned (.tuple #[.int .i64 R.1, .agg #[.int .i64 R.2.1.1, .int .i64 R.2.1.2], .int .i64 R.2.2]) ∧ Below w.heap.size w w' := by
  have EP := Aside0.mk ep
  have ER := Aside0.mk eR
  clear ep eR
  have AI := Aside0.mk (fun (n : Nat) (W : World) => all_in n j A c W)
  have AS := Aside0.mk (fun (Bs : Nat) (W : World) h1 h2 h3 => all_stops 5 (by decide) Bs w.heap.size j A c W h1 h2 h3)
  unfold Job.v at AI AS ⊢
  refine callsIn_of_wp_marks Try.func41 rfl trivial ?_ rfl
  simp only [Try.ntmps41, List.size_toArray, List.length_cons, List.length_nil, Nat.reduceAdd, Nat.reduceSub, Array.replicate_succ, Array.replicate_zero, List.push_toArray, List.append_toArray, List.nil_append, List.cons_append]
  gi_wp2
  refine wpIn_scope_wide ?_
  gi_wp2
  refine wpIn_label ?_
  gi_wp2_with (refine ⟨trivial, ?_⟩; gi_at_call 40; refine (AI.out _ _).mono ?_; rintro e w' ⟨rfl, rfl⟩)
  have hsz0 := allocs_size [.cells #[.int .i64 j.w, .int .i64 j.l, .int .i64 j.wi, .int .i64 j.c, .int .i64 j.d, .int .i64 j.e, .slice A j.ts.length c] 24, .cells #[.func (.func 43) #[] #[.pointer (some ⟨P, 0, none⟩)]] 94, .cells #[.int .i64 0, .int .i64 0] 40, .cells #[.int .i64 0] 3, .cells #[.int .i64 0, .int .i64 0] 40, .cells #[.int .i64 2] 29, .cells #[.int .i64 j.w, .int .i64 j.l, .int .i64 j.wi, .int .i64 j.c, .int .i64 j.d, .int .i64 j.e, .slice A j.ts.length c] 24] w
  have hb0 := allocs_below [.cells #[.int .i64 j.w, .int .i64 j.l, .int .i64 j.wi, .int .i64 j.c, .int .i64 j.d, .int .i64 j.e, .slice A j.ts.length c] 24, .cells #[.func (.func 43) #[] #[.pointer (some ⟨P, 0, none⟩)]] 94, .cells #[.int .i64 0, .int .i64 0] 40, .cells #[.int .i64 0] 3, .cells #[.int .i64 0, .int .i64 0] 40, .cells #[.int .i64 2] 29, .cells #[.int .i64 j.w, .int .i64 j.l, .int .i64 j.wi, .int .i64 j.c, .int .i64 j.d, .int .i64 j.e, .slice A j.ts.length c] 24] w w.heap.size (Nat.le_refl _)
  have hat := allocs_at [.cells #[.int .i64 j.w, .int .i64 j.l, .int .i64 j.wi, .int .i64 j.c, .int .i64 j.d, .int .i64 j.e, .slice A j.ts.length c] 24, .cells #[.func (.func 43) #[] #[.pointer (some ⟨P, 0, none⟩)]] 94, .cells #[.int .i64 0, .int .i64 0] 40, .cells #[.int .i64 0] 3, .cells #[.int .i64 0, .int .i64 0] 40, .cells #[.int .i64 2] 29, .cells #[.int .i64 j.w, .int .i64 j.l, .int .i64 j.wi, .int .i64 j.c, .int .i64 j.d, .int .i64 j.e, .slice A j.ts.length c] 24] w
  have hF := hat 1 _ rfl
  have hR := hat 2 _ rfl
  have hN := hat 3 _ rfl
  have hX := hat 4 _ rfl
  have hE := hat 5 _ rfl
  have hA := hat 6 _ rfl
  clear hat
  simp only [List.foldl_cons, List.foldl_nil, List.length_cons, List.length_nil] at hsz0 hb0 hF hR hN hX hE hA
  obtain ⟨BA, eA⟩ : ∃ B, w.heap.size + 1 + 1 + 1 + 1 + 1 + 1 = B := ⟨_, rfl⟩
  rw [eA]
  obtain ⟨BE, eE⟩ : ∃ B, w.heap.size + 1 + 1 + 1 + 1 + 1 = B := ⟨_, rfl⟩
  rw [eE]
  obtain ⟨BX, eX⟩ : ∃ B, w.heap.size + 1 + 1 + 1 + 1 = B := ⟨_, rfl⟩
  rw [eX]
  obtain ⟨BN, eN⟩ : ∃ B, w.heap.size + 1 + 1 + 1 = B := ⟨_, rfl⟩
  rw [eN]
  obtain ⟨BR, eR⟩ : ∃ B, w.heap.size + 1 + 1 = B := ⟨_, rfl⟩
  rw [eR]
  obtain ⟨BF, eF⟩ : ∃ B, w.heap.size + 1 = B := ⟨_, rfl⟩
  rw [eF]
  rw [show w.heap.size + 1 = BF by omega] at hF
  rw [show w.heap.size + 2 = BR by omega] at hR
  rw [show w.heap.size + 3 = BN by omega] at hN
  rw [show w.heap.size + 4 = BX by omega] at hX
  rw [show w.heap.size + 5 = BE by omega] at hE
  rw [show w.heap.size + 6 = BA by omega] at hA
  generalize World.alloc _ (.cells #[.int .i64 j.w, .int .i64 j.l, .int .i64 j.wi, .int .i64 j.c, .int .i64 j.d, .int .i64 j.e, .slice A j.ts.length c] 24) = W0 at hsz0 hb0 hF hR hN hX hE hA ⊢
  have QA := Aside0.mk (show BF = w.heap.size + 1 ∧ BR = w.heap.size + 2 ∧ BN = w.heap.size + 3 ∧ BX = w.heap.size + 4 ∧ BE = w.heap.size + 5 ∧ BA = w.heap.size + 6 ∧ W0.heap.size = w.heap.size + 7 from ⟨by omega, by omega, by omega, by omega, by omega, by omega, by omega⟩)
  clear eA eE eX eN eR eF hsz0
  have hr : ∀ W', Below w.heap.size W0 W' → j.In W' A c := fun W' hb => h.below (hb0.trans hb)
  have hp : ∀ W', Below w.heap.size W0 W' → (fun V => V.cell? ⟨P, 0, none⟩ = some (.int .i64 a)) W' := fun W' hb => pw_cell_below (hb0.trans hb) h1
  have q1 := QA.out
  have fin : ∀ (W w2 : World) (x : Nat) (pre : List Nat), W0.heap.size ≤ W.heap.size → (∀ i ∈ pre, p i = false) → Below w.heap.size W0 W → Below W.heap.size W w2 →
      w2.heap[BR]? = some (.cells #[.int .i64 0, .int .i64 0] 40 (0, 0)) → w2.heap[BN]? = some (.cells #[.int .i64 0] 3 (0, 0)) → w2.heap[BX]? = some (.cells #[.int .i64 0, .int .i64 0] 40 (0, 0)) → w2.heap[BE]? = some (.cells #[.int .i64 2] 29 (0, 0)) → p x = true →
      KeepsFrom W0.heap.size W ((((w2.setCell ⟨BN, 0, none⟩ (.int .i64 (x : Int))).setCell ⟨BX, 0, none⟩ (.int .i64 (at_ (names j) x).1)).setCell ⟨BX, 1, none⟩ (.int .i64 (at_ (names j) x).2)).setCell ⟨BE, 0, none⟩ (.int .i64 0)).drew ∧
      (((((∃ ini last, pre ++ [x] = ini ++ [last] ∧ (∀ x ∈ ini, p x = false) ∧ p last = true)) ∧ ((((w2.setCell ⟨BN, 0, none⟩ (.int .i64 (x : Int))).setCell ⟨BX, 0, none⟩ (.int .i64 (at_ (names j) x).1)).setCell ⟨BX, 1, none⟩ (.int .i64 (at_ (names j) x).2)).setCell ⟨BE, 0, none⟩ (.int .i64 0)).drew.heap[BR]? = some (.cells #[.int .i64 0, .int .i64 0] 40 (0, 0))) ∧ ((((w2.setCell ⟨BN, 0, none⟩ (.int .i64 (x : Int))).setCell ⟨BX, 0, none⟩ (.int .i64 (at_ (names j) x).1)).setCell ⟨BX, 1, none⟩ (.int .i64 (at_ (names j) x).2)).setCell ⟨BE, 0, none⟩ (.int .i64 0)).drew.heap[BN]? = some (.cells #[.int .i64 (lst (pre ++ [x]) : Int)] 3 (0, 0))) ∧ ((((w2.setCell ⟨BN, 0, none⟩ (.int .i64 (x : Int))).setCell ⟨BX, 0, none⟩ (.int .i64 (at_ (names j) x).1)).setCell ⟨BX, 1, none⟩ (.int .i64 (at_ (names j) x).2)).setCell ⟨BE, 0, none⟩ (.int .i64 0)).drew.heap[BX]? = some (.cells #[.int .i64 (at_ (names j) (lst (pre ++ [x]))).1, .int .i64 (at_ (names j) (lst (pre ++ [x]))).2] 40 (0, 0))) ∧ ((((w2.setCell ⟨BN, 0, none⟩ (.int .i64 (x : Int))).setCell ⟨BX, 0, none⟩ (.int .i64 (at_ (names j) x).1)).setCell ⟨BX, 1, none⟩ (.int .i64 (at_ (names j) x).2)).setCell ⟨BE, 0, none⟩ (.int .i64 0)).drew.heap[BE]? = some (.cells #[.int .i64 0] 29 (0, 0)) ∧ Below w.heap.size W0 ((((w2.setCell ⟨BN, 0, none⟩ (.int .i64 (x : Int))).setCell ⟨BX, 0, none⟩ (.int .i64 (at_ (names j) x).1)).setCell ⟨BX, 1, none⟩ (.int .i64 (at_ (names j) x).2)).setCell ⟨BE, 0, none⟩ (.int .i64 0)).drew := by
    intro W w2 x pre hl hpre hB hb2 hR2 hN2 hX3 hE2 hpx
    have q := QA.out
    have e1 : BR ≠ BN := by omega
    have e2 : BR ≠ BX := by omega
    have e3 : BR ≠ BE := by omega
    have e4 : BN ≠ BX := by omega
    have e5 : BN ≠ BE := by omega
    have e6 : BX ≠ BE := by omega
    rw [lst_snoc]
    refine ⟨(KeepsFrom.of_grownBy (grown_of_below hb2) (by simp)).trans (((((KeepsOthers.setCell _ _ _).trans (KeepsOthers.setCell _ _ _)).trans (KeepsOthers.setCell _ _ _)).trans (KeepsOthers.setCell _ _ _)).trans (KeepsOthers.drew _) |>.from _), ⟨⟨⟨⟨pre, x, rfl, hpre, hpx⟩, ?_⟩, ?_⟩, ?_⟩, ?_, ?_⟩
    · exact blk_far (blk_far (blk_far (blk_far hR2 e1 _) e2 _) e2 _) e3 _
    · exact blk_far (blk_far (blk_far (blk_set hN2 0 _) e4 _) e4 _) e5 _
    · exact blk_far (blk_set (blk_set (blk_far hX3 e4.symm _) 0 _) 1 _) e6 _
    · exact blk_set (blk_far (blk_far (blk_far hE2 e5.symm _) e6.symm _) e6.symm _) 0 _
    · exact (((((hB.trans (hb2.mono (by have := hB.size; omega))).setCell (p := ⟨BN, 0, none⟩) (by show _ ≤ BN; omega) _).setCell (p := ⟨BX, 0, none⟩) (by show _ ≤ BX; omega) _).setCell (p := ⟨BX, 1, none⟩) (by show _ ≤ BX; omega) _).setCell (p := ⟨BE, 0, none⟩) (by show _ ≤ BE; omega) _).drew
  have FIN := Aside0.mk fin
  clear fin
  refine wpIn_rangeFunc_ownH (F := Fence.wide) rfl (by decide) (gf := 65) (lb := #[.pointer (some ⟨BA, 0, none⟩)]) rfl trivial (enters_of Try.func65 (by kernel_rfl) rfl)
    (AS.out BA W0 (by omega) hA hr) KpB.t (KpB.b (by omega) (by omega)) (Below.refl _ _) (fun _ => rfl)
    (fun pre W => ((((((W.heap[BF]? = some (.cells #[.func (.func 43) #[] #[.pointer (some ⟨P, 0, none⟩)]] 94 (0, 0)) ∧ W.heap[BR]? = some (.cells #[.int .i64 0, .int .i64 0] 40 (0, 0))) ∧ W.heap[BN]? = some (.cells #[.int .i64 0] 3 (0, 0))) ∧ W.heap[BX]? = some (.cells #[.int .i64 0, .int .i64 0] 40 (0, 0))) ∧ W.heap[BE]? = some (.cells #[.int .i64 2] 29 (0, 0))) ∧ (∀ x ∈ pre, p x = false))) ∧ Below w.heap.size W0 W)
    (fun c pre W => ((((c = .exit 0 ∧ (∃ ini last, pre = ini ++ [last] ∧ (∀ x ∈ ini, p x = false) ∧ p last = true)) ∧ W.heap[BR]? = some (.cells #[.int .i64 0, .int .i64 0] 40 (0, 0))) ∧ W.heap[BN]? = some (.cells #[.int .i64 (lst pre : Int)] 3 (0, 0))) ∧ W.heap[BX]? = some (.cells #[.int .i64 (at_ (names j) (lst pre)).1, .int .i64 (at_ (names j) (lst pre)).2] 40 (0, 0))) ∧ W.heap[BE]? = some (.cells #[.int .i64 0] 29 (0, 0)) ∧ Below w.heap.size W0 W)
    (OwnFrom.and (OwnFrom.and (OwnFrom.and (OwnFrom.and (OwnFrom.and (OwnFrom.and (Own.from (blk_own BF 94 (fun _ => #[.func (.func 43) #[] #[.pointer (some ⟨P, 0, none⟩)]])) _) (Own.from (blk_own BR 40 (fun _ => #[.int .i64 0, .int .i64 0])) _)) (Own.from (blk_own BN 3 (fun _ => #[.int .i64 0])) _)) (Own.from (blk_own BX 40 (fun _ => #[.int .i64 0, .int .i64 0])) _)) (Own.from (blk_own BE 29 (fun _ => #[.int .i64 2])) _)) (ownFrom_pure _ _)) (ownFrom_below (by omega) (by omega)))
    (fun c => OwnFrom.and (OwnFrom.and (OwnFrom.and (OwnFrom.and (ownFrom_pure _ _) (Own.from (blk_own BR 40 (fun _ => #[.int .i64 0, .int .i64 0])) _)) (Own.from (blk_own BN 3 (fun pre => #[.int .i64 (lst pre : Int)])) _)) (Own.from (blk_own BX 40 (fun pre => #[.int .i64 (at_ (names j) (lst pre)).1, .int .i64 (at_ (names j) (lst pre)).2])) _)) (OwnFrom.and (Own.from (blk_own BE 29 (fun _ => #[.int .i64 0])) _) (ownFrom_below (by omega) (by omega))))
    ⟨⟨⟨⟨⟨⟨hF, hR⟩, hN⟩, hX⟩, hE⟩, by simp⟩, Below.refl _ _⟩
    (fun x a' W => ∃ B', BA < B' ∧ W.heap[B']? = some (.cells #[.int .i64 (at_ (names j) x).1, .int .i64 (at_ (names j) x).2] 40 (0, 0)) ∧ a' = { tmps := #[.agg #[.int .i64 j.w, .int .i64 j.l, .int .i64 j.wi, .int .i64 j.c, .int .i64 j.d, .int .i64 j.e, .slice A j.ts.length c], .func (.func 43) #[] #[.pointer (some ⟨P, 0, none⟩)], .pointer (some ⟨w.heap.size, 0, none⟩), .pointer (some ⟨BF, 0, none⟩), .int .i64 0, .pointer (some ⟨BR, 0, none⟩), .int .i64 0, .pointer (some ⟨BN, 0, none⟩), .pointer (some ⟨BX, 0, none⟩), .pointer (some ⟨BE, 0, none⟩), .int .i64 (x : Int), .pointer (some ⟨B', 0, none⟩), .agg #[.int .i64 0, .int .i64 0], .agg #[.int .i64 j.w, .int .i64 j.l, .int .i64 j.wi, .int .i64 j.c, .int .i64 j.d, .int .i64 j.e, .slice A j.ts.length c], .func (.func 65) #[] #[.pointer (some ⟨BA, 0, none⟩)], .int .i64 (x : Int), .agg #[.int .i64 (at_ (names j) x).1, .int .i64 (at_ (names j) x).2], undef, undef, undef, undef, undef, undef, undef, undef, undef], defers := [] })
    (fun x a' _ X Y row hs hg hr => by obtain ⟨B', h1, h2, h3⟩ := hs; exact ⟨B', h1, blk_own B' 40 (fun (_ : Unit) => #[.int .i64 (at_ (names j) x).1, .int .i64 (at_ (names j) x).2]) () X Y row h2 hg (fun r e => (hr r e).2), h3⟩)
    ?assign ?body ?done ?stop
  case assign =>
    clear q1
    rintro l pre x W K ⟨⟨⟨⟨⟨⟨hF', hR'⟩, hN'⟩, hX'⟩, hE'⟩, hpre⟩, hB⟩ hK
    dsimp only [encN]
    gi_wp2
    have hsw := hB.size
    have kp : ∀ {B : Nat} {o : Obj}, W.heap[B]? = some o → (W.alloc (.cells #[.int .i64 (at_ (names j) x).1, .int .i64 (at_ (names j) x).2] 40)).heap[B]? = some o := fun hb => (Below.heap_alloc W _ _ (Array.getElem?_eq_some_iff.1 hb).1).trans hb
    refine hK _ _ ((KeepsOthers.alloc _ _).from _) ⟨(Below.refl _ W).alloc (by have := QA.out; omega) _, Below.heap_alloc W _ _ (by have := QA.out; omega)⟩ ⟨⟨⟨⟨⟨⟨kp hF', kp hR'⟩, kp hN'⟩, kp hX'⟩, kp hE'⟩, hpre⟩, hB.alloc (by have := QA.out; omega) _⟩ ⟨W.heap.size, by have := QA.out; omega, World.alloc_heap_new W _, rfl⟩
  case body =>
    clear q1
    rintro l pre x a' W hl ⟨r, hrr⟩ ⟨⟨⟨⟨⟨⟨hF', hR'⟩, hN'⟩, hX'⟩, hE'⟩, hpre⟩, hB⟩ ⟨B', hB', hX2, rfl⟩ hlt
    have hf0 : (_ : Option Value) = some (.func (.func 43) #[] #[.pointer (some ⟨P, 0, none⟩)]) := (blk_cell hF' 0).trans rfl
    have x0 : (_ : Option Value) = some (.int .i64 (at_ (names j) x).1) := (blk_cell hX2 0).trans rfl
    have x1 : (_ : Option Value) = some (.int .i64 (at_ (names j) x).2) := (blk_cell hX2 1).trans rfl
    have hcall : Calls Try.prog 43 (#[.int .i64 (x : Int), .agg #[.int .i64 (at_ (names j) x).1, .int .i64 (at_ (names j) x).2]] ++ #[.pointer (some ⟨P, 0, none⟩)]) W fun e w' => e = .returned (.bool (p x)) ∧ Below W.heap.size W w' := by
      rw [EP.out]
      exact of1 _ _ _ a P W (hp W hB)
    have HBS := Aside0.mk (show BF < W.heap.size ∧ BR < W.heap.size ∧ BN < W.heap.size ∧ BX < W.heap.size ∧ BE < W.heap.size ∧ BA < W.heap.size from by have := QA.out; have := hB.size; omega)
    cases hpx : p x with
    | false =>
      rw [hpx] at hcall
      have HC := Aside0.mk hcall
      clear hcall
      gi_wp2_with (refine ⟨trivial, ?_⟩; gi_at_call 43; refine (CallsIn.inRound l (callsIn_wide.2 HC.out)).mono ?_; rintro e w2 ⟨rfl, hb2⟩)
      refine ⟨KeepsFrom.of_grownBy (grown_of_below hb2) (by simp), ⟨hb2.mono (by have := hB.size; have := QA.out; omega), hb2.block _ HBS.out.2.2.2.2.2⟩, ⟨⟨⟨⟨⟨(hb2.block _ HBS.out.1).trans hF', (hb2.block _ HBS.out.2.1).trans hR'⟩, (hb2.block _ HBS.out.2.2.1).trans hN'⟩, (hb2.block _ HBS.out.2.2.2.1).trans hX'⟩, (hb2.block _ HBS.out.2.2.2.2.1).trans hE'⟩, fun i hi => (List.mem_append.1 hi).elim (hpre i) (fun e => by simp at e; subst e; exact hpx)⟩, hB.trans (hb2.mono (by have := hB.size; have := QA.out; omega))⟩
    | true =>
      rw [hpx] at hcall
      have HC := Aside0.mk hcall
      have N1 : BN ≠ BX := by have := QA.out; omega
      have N2 : BN ≠ BE := by have := QA.out; omega
      have N3 : BX ≠ BE := by have := QA.out; omega
      have N4 : BX ≠ BN := by have := QA.out; omega
      have N5 : BE ≠ BN := by have := QA.out; omega
      have N6 : BE ≠ BX := by have := QA.out; omega
      have N7 : B' ≠ BN := by have := QA.out; omega
      have N8 : B' ≠ BX := by have := QA.out; omega
      have N9 : B' ≠ BE := by have := QA.out; omega
      have hf1 := Aside0.mk hN'
      have hf2 := Aside0.mk hX'
      have hf3 := Aside0.mk hE'
      clear hcall
      gi_wp2_with (refine ⟨trivial, ?_⟩; gi_at_call 43; refine (CallsIn.inRound l (callsIn_wide.2 HC.out)).mono ?_; rintro e w2 ⟨rfl, hb2⟩; have hN2 := (hb2.block _ HBS.out.2.2.1).trans hf1.out; have hX3 := (hb2.block _ HBS.out.2.2.2.1).trans hf2.out; have hE2 := (hb2.block _ HBS.out.2.2.2.2.1).trans hf3.out; have a0 : (_ : Option Value) = some (.int .i64 0) := (blk_cell hN2 0).trans rfl; have a1 := blk_frozen hN2 0; have a2 : (_ : Option Value) = some (.int .i64 0) := (blk_cell hX3 0).trans rfl; have a3 : (_ : Option Value) = some (.int .i64 0) := (blk_cell hX3 1).trans rfl; have a4 := blk_frozen hX3 0; have a5 := blk_frozen hX3 1; have a6 : (_ : Option Value) = some (.int .i64 2) := (blk_cell hE2 0).trans rfl; have a7 := blk_frozen hE2 0; have x0' := pw_cell_below hb2 x0; have x1' := pw_cell_below hb2 x1)
      have hR2 := (hb2.block _ HBS.out.2.1).trans hR'
      gi_region
      all_goals gi_wp2
      all_goals (have z := FIN.out W w2 x pre hB.size hpre hB hb2 hR2 hN2 hX3 hE2 hpx; exact ⟨z.1, ⟨⟨⟨⟨rfl, z.2.1.1.1.1⟩, z.2.1.1.1.2⟩, z.2.1.1.2⟩, z.2.1.2⟩, z.2.2⟩)
  case done =>
    clear q1
    rintro D ys W hD rfl ⟨⟨⟨⟨⟨⟨hF', hR'⟩, hN'⟩, hX'⟩, hE'⟩, hpre⟩, hB⟩ hK
    have r0 : (_ : Option Value) = some (.int .i64 0) := (blk_cell hR' 0).trans rfl
    have r1 : (_ : Option Value) = some (.int .i64 0) := (blk_cell hR' 1).trans rfl
    have r2 := blk_frozen hR' 0
    have r3 := blk_frozen hR' 1
    have b0 : (_ : Option Value) = some (.int .i64 0) := (blk_cell hN' 0).trans rfl
    have b1 : (_ : Option Value) = some (.int .i64 0) := (blk_cell hX' 0).trans rfl
    have b2 : (_ : Option Value) = some (.int .i64 0) := (blk_cell hX' 1).trans rfl
    have b3 : (_ : Option Value) = some (.int .i64 2) := (blk_cell hE' 0).trans rfl
    have q := QA.out
    have N1 : BR ≠ BN := by omega
    have N2 : BR ≠ BX := by omega
    have N3 : BR ≠ BE := by omega
    have N4 : BN ≠ BR := by omega
    have N5 : BX ≠ BR := by omega
    have N6 : BE ≠ BR := by omega
    have HR := Aside0.mk hR'
    have HB := Aside0.mk hB
    have HD := Aside0.mk (show w.heap.size ≤ D ∧ BR < D by have := hB.size; omega)
    have HP := Aside0.mk hpre
    have HK := Aside0.mk hK
    clear q hF' hR' hN' hX' hE' hpre hB hK hD
    gi_wp2
    gi_region
    all_goals gi_wp2
    all_goals refine ⟨by simp, .inl ⟨_, _, rfl, run_takeDeferred (((KeepsOthers.setCell _ _ _).trans (KeepsOthers.setCell _ _ _)).trans (KeepsOthers.drew _) |>.same D _ HK.out rfl), ?_⟩⟩
    obtain ⟨Z, hZ⟩ : ∃ Z, (((W.setCell ⟨BR, 0, none⟩ (.int .i64 0)).setCell ⟨BR, 1, none⟩ (.int .i64 0)).drew.putObj D (.deferred none)) = Z := ⟨_, rfl⟩
    rw [hZ]
    have hZR : Z.heap[BR]? = some (.cells #[.int .i64 0, .int .i64 0] 40 (0, 0)) := by
      rw [← hZ]
      have q := HD.out.2
      simp only [World.putObj]
      rw [Array.getElem?_setIfInBounds_ne (by omega)]
      exact blk_set (blk_set HR.out 0 _) 1 _
    have hZB : Below w.heap.size w Z := by
      rw [← hZ]
      have q := QA.out
      refine ((hb0.trans HB.out).setCell (p := ⟨BR, 0, none⟩) (by show _ ≤ BR; omega) (.int .i64 0)).setCell (p := ⟨BR, 1, none⟩) (by show _ ≤ BR; omega) (.int .i64 0) |>.drew |>.trans ?_
      exact belowK_b (w := w) (Nat.le_refl _) _ D _ _ HD.out.1 (((KeepsOthers.setCell _ _ _).trans (KeepsOthers.setCell _ _ _)).trans (KeepsOthers.drew _) |>.same D _ HK.out rfl) rfl rfl
    clear hZ
    have z0 : (_ : Option Value) = some (.int .i64 0) := (blk_cell hZR 0).trans rfl
    have z1 : (_ : Option Value) = some (.int .i64 0) := (blk_cell hZR 1).trans rfl
    have HZB := Aside0.mk hZB
    clear hZR hZB
    refine ⟨_, ?_, rfl, HZB.out⟩
    rw [results_tct rfl]
    rw [ER.out, show found j p = (0, (0, 0), 2) by unfold found; rw [first_none p _ 0 (fun i _ h => HP.out i (List.mem_range.2 (by omega)))]]
    go_simp
  case stop =>
    clear q1
    rintro D c' pre W hD ⟨k, hk, rfl⟩ ⟨⟨⟨⟨⟨rfl, ini, last, e1, e2, e3⟩, hR'⟩, hN'⟩, hX'⟩, hE', hB⟩ hK
    obtain ⟨k', rfl⟩ : ∃ k', k = k' + 1 := by
      cases k with
      | zero => simp at e1
      | succ k' => exact ⟨k', rfl⟩
    rw [List.range_succ] at e1 hN' hX'
    obtain ⟨rfl, e5⟩ := List.append_inj' e1 rfl
    obtain rfl : k' = last := by simpa using e5
    rw [lst_snoc] at hN' hX'
    have FV : Aside0 (found j p = ((k' : Int), at_ (names j) k', 0)) := ⟨by unfold found; rw [first_some p _ 0 k' (Nat.zero_le _) (by omega) (fun y _ h => e2 y (List.mem_range.2 h)) e3]⟩
    have r0 : (_ : Option Value) = some (.int .i64 0) := (blk_cell hR' 0).trans rfl
    have r1 : (_ : Option Value) = some (.int .i64 0) := (blk_cell hR' 1).trans rfl
    have r2 := blk_frozen hR' 0
    have r3 := blk_frozen hR' 1
    have b0 : (_ : Option Value) = some (.int .i64 (k' : Int)) := (blk_cell hN' 0).trans rfl
    have b1 : (_ : Option Value) = some (.int .i64 (at_ (names j) k').1) := (blk_cell hX' 0).trans rfl
    have b2 : (_ : Option Value) = some (.int .i64 (at_ (names j) k').2) := (blk_cell hX' 1).trans rfl
    have b3 : (_ : Option Value) = some (.int .i64 0) := (blk_cell hE' 0).trans rfl
    have q := QA.out
    have N1 : BR ≠ BN := by omega
    have N2 : BR ≠ BX := by omega
    have N3 : BR ≠ BE := by omega
    have N4 : BN ≠ BR := by omega
    have N5 : BX ≠ BR := by omega
    have N6 : BE ≠ BR := by omega
    have HR := Aside0.mk hR'
    have HB := Aside0.mk hB
    have HD := Aside0.mk (show w.heap.size ≤ D ∧ BR < D by have := hB.size; omega)
    have HK := Aside0.mk hK
    clear q hR' hN' hX' hE' hB hK hD e1 e2 e3 e5
    gi_wp2
    gi_region
    all_goals gi_wp2
    all_goals refine ⟨by simp, .inl ⟨_, _, rfl, run_takeDeferred (((KeepsOthers.setCell _ _ _).trans (KeepsOthers.setCell _ _ _)).trans (KeepsOthers.drew _) |>.same D _ HK.out rfl), ?_⟩⟩
    obtain ⟨Z, hZ⟩ : ∃ Z, (((W.setCell ⟨BR, 0, none⟩ (.int .i64 (at_ (names j) k').1)).setCell ⟨BR, 1, none⟩ (.int .i64 (at_ (names j) k').2)).drew.putObj D (.deferred none)) = Z := ⟨_, rfl⟩
    rw [hZ]
    have hZR : Z.heap[BR]? = some (.cells #[.int .i64 (at_ (names j) k').1, .int .i64 (at_ (names j) k').2] 40 (0, 0)) := by
      rw [← hZ]
      have q := HD.out.2
      simp only [World.putObj]
      rw [Array.getElem?_setIfInBounds_ne (by omega)]
      exact blk_set (blk_set HR.out 0 _) 1 _
    have hZB : Below w.heap.size w Z := by
      rw [← hZ]
      have q := QA.out
      refine ((hb0.trans HB.out).setCell (p := ⟨BR, 0, none⟩) (by show _ ≤ BR; omega) (.int .i64 (at_ (names j) k').1)).setCell (p := ⟨BR, 1, none⟩) (by show _ ≤ BR; omega) (.int .i64 (at_ (names j) k').2) |>.drew |>.trans ?_
      exact belowK_b (w := w) (Nat.le_refl _) _ D _ _ HD.out.1 (((KeepsOthers.setCell _ _ _).trans (KeepsOthers.setCell _ _ _)).trans (KeepsOthers.drew _) |>.same D _ HK.out rfl) rfl rfl
    clear hZ
    have z0 : (_ : Option Value) = some (.int .i64 (at_ (names j) k').1) := (blk_cell hZR 0).trans rfl
    have z1 : (_ : Option Value) = some (.int .i64 (at_ (names j) k').2) := (blk_cell hZR 1).trans rfl
    have HZB := Aside0.mk hZB
    clear hZR hZB
    refine ⟨_, ?_, rfl, HZB.out⟩
    rw [results_tct rfl]
    rw [ER.out, FV.out]
    go_simp
end

end Go.Proofs.Ytecdnhmdodedmaa.Ca
