/- catalog.Trees. -/
import Derived.Test.YtecdnhmdodedmaaCb
import Derived.Outline
namespace Go.Proofs.Ytecdnhmdodedmaa.Ca
open Go.RowKit Go.Shelf Go.Proofs.YtecdnhmdodedmaaW.PrintWords Go.Proofs.YtecdnhmdodedmaaW.PrintLast Go.Proofs.YtecdnhmdodedmaaW.PrintMore Go.Proofs.Ytecdnhmdodedmaa.It
set_option linter.unusedVariables false
set_option linter.unusedSimpArgs false
section
attribute [local go_sem] Oper.semAt_some
/-- catalog.All boxes the job. -/
theorem all_in (n : Nat) (j : Job) (A : Option Addr) (c : Nat) (w : World) :
    CallsIn Fence.wide n Try.prog 40 #[.agg (j.v A c)] w fun e w' => e = .returned (.func (.func 65) #[] #[.pointer (some ⟨w.heap.size, 0, none⟩)]) ∧ w' = w.alloc (.cells (j.v A c) 24) := by
  unfold Job.v
  refine callsIn_of_wp Try.func40 rfl trivial ?_ rfl
  simp only [Try.ntmps40, List.size_toArray, List.length_cons, List.length_nil, Nat.reduceAdd, Nat.reduceSub, Array.replicate_succ, Array.replicate_zero, List.push_toArray, List.append_toArray, List.nil_append, List.cons_append]
  gi_wp2
  go_ret
  exact ⟨rfl, rfl⟩
theorem all_stops (n : Nat) (hn : 1 ≤ n) (Bs n₀ : Nat) (j : Job) (A : Option Addr) (c : Nat) (w : World) (hn₀ : n₀ ≤ w.heap.size)
    (hBs : w.heap[Bs]? = some (.cells (j.v A c) 24 (0, 0))) (hr : ∀ W', Below n₀ w W' → j.In W' A c) :
    SeqStopsK Fence.wide n Try.prog 65 #[.pointer (some ⟨Bs, 0, none⟩)] (encN j) (KpB n₀ Bs) (fun ys => ys = List.range (names j).length) (fun pre => ∃ k, k ≤ (names j).length ∧ pre = List.range k) (names j).length w :=
  fun l J Jx W hW hJ _ hY h0 =>
    all1_in n hn l Bs n₀ j A c J Jx W hJ hY (Nat.le_trans hn₀ hW.size) ((hW.block Bs (Array.getElem?_eq_some_iff.1 hBs).1).trans hBs) (fun W' h => hr W' ((hW.mono hn₀).trans h)) h0
set_option maxRecDepth 100000 in
set_option maxHeartbeats 4000000 in
theorem trees_in (j : Job) (A : Option Addr) (c : Nat) (w : World) (h : j.In w A c) :
    CallsIn Fence.wide 6 Try.prog 13 #[.agg (j.v A c)] w fun e w' => e = .returned (.int .i64 ((names j).length : Nat)) ∧ Below w.heap.size w w' := by
  have AI := Aside0.mk (fun (n : Nat) (W : World) => all_in n j A c W)
  have AS := Aside0.mk (fun (Bs : Nat) (W : World) h1 h2 h3 => all_stops 5 (by decide) Bs w.heap.size j A c W h1 h2 h3)
  unfold Job.v at AI AS ⊢
  refine callsIn_of_wp_marks Try.func13 rfl trivial ?_ rfl
  simp only [Try.ntmps13, List.size_toArray, List.length_cons, List.length_nil, Nat.reduceAdd, Nat.reduceSub, Array.replicate_succ, Array.replicate_zero, List.push_toArray, List.append_toArray, List.nil_append, List.cons_append]
  obtain ⟨cs, ecs⟩ : ∃ cs : Array Value, cs = #[.int .i64 j.w, .int .i64 j.l, .int .i64 j.wi, .int .i64 j.c, .int .i64 j.d, .int .i64 j.e, .slice A j.ts.length c] := ⟨_, rfl⟩
  gi_wp2_with (refine ⟨trivial, ?_⟩; gi_at_call 40; refine (AI.out _ _).mono ?_; rintro e w' ⟨rfl, rfl⟩)
  have bN := (Boxed.new (w.alloc (.cells #[.int .i64 j.w, .int .i64 j.l, .int .i64 j.wi, .int .i64 j.c, .int .i64 j.d, .int .i64 j.e, .slice A j.ts.length c] 24)) 3 (.int .i64 0)).alloc (.cells #[.int .i64 j.w, .int .i64 j.l, .int .i64 j.wi, .int .i64 j.c, .int .i64 j.d, .int .i64 j.e, .slice A j.ts.length c] 24)
  have bK := World.alloc_heap_new ((w.alloc (.cells #[.int .i64 j.w, .int .i64 j.l, .int .i64 j.wi, .int .i64 j.c, .int .i64 j.d, .int .i64 j.e, .slice A j.ts.length c] 24)).alloc (.cells #[.int .i64 0] 3)) (.cells #[.int .i64 j.w, .int .i64 j.l, .int .i64 j.wi, .int .i64 j.c, .int .i64 j.d, .int .i64 j.e, .slice A j.ts.length c] 24)
  simp only [World.size_alloc] at bN bK
  have hB0 : Below w.heap.size w (((w.alloc (.cells #[.int .i64 j.w, .int .i64 j.l, .int .i64 j.wi, .int .i64 j.c, .int .i64 j.d, .int .i64 j.e, .slice A j.ts.length c] 24)).alloc (.cells #[.int .i64 0] 3)).alloc (.cells #[.int .i64 j.w, .int .i64 j.l, .int .i64 j.wi, .int .i64 j.c, .int .i64 j.d, .int .i64 j.e, .slice A j.ts.length c] 24)) := (((Below.refl _ w).alloc (Nat.le_refl _) _).alloc (by simp) _).alloc (by simp; omega) _
  have hsz : (((w.alloc (.cells #[.int .i64 j.w, .int .i64 j.l, .int .i64 j.wi, .int .i64 j.c, .int .i64 j.d, .int .i64 j.e, .slice A j.ts.length c] 24)).alloc (.cells #[.int .i64 0] 3)).alloc (.cells #[.int .i64 j.w, .int .i64 j.l, .int .i64 j.wi, .int .i64 j.c, .int .i64 j.d, .int .i64 j.e, .slice A j.ts.length c] 24)).heap.size = w.heap.size + 3 := by simp
  obtain ⟨W0, hW0⟩ : ∃ W0, ((w.alloc (.cells #[.int .i64 j.w, .int .i64 j.l, .int .i64 j.wi, .int .i64 j.c, .int .i64 j.d, .int .i64 j.e, .slice A j.ts.length c] 24)).alloc (.cells #[.int .i64 0] 3)).alloc (.cells #[.int .i64 j.w, .int .i64 j.l, .int .i64 j.wi, .int .i64 j.c, .int .i64 j.d, .int .i64 j.e, .slice A j.ts.length c] 24) = W0 := ⟨_, rfl⟩
  rw [hW0] at bN bK hB0 hsz ⊢
  clear hW0
  have hr : ∀ W', Below w.heap.size W0 W' → j.In W' A c := fun W' hb => h.below (hB0.trans hb)
  refine wpIn_rangeFunc_ownH (F := Fence.wide) rfl (by decide) (gf := 65) (lb := #[.pointer (some ⟨w.heap.size + 1 + 1, 0, none⟩)]) rfl trivial (enters_of Try.func65 (by kernel_rfl) rfl)
    (AS.out (w.heap.size + 1 + 1) W0 (by omega) bK hr) KpB.t (KpB.b (by omega) (by omega)) (Below.refl _ _) (fun _ => rfl)
    (fun pre W => Boxed W (w.heap.size + 1) 3 (.int .i64 (pre.length : Nat)) ∧ Below w.heap.size W0 W)
    (fun _ _ _ => False)
    (OwnFrom.and (Own.from (boxed_own _ _ _) _) (ownFrom_below (by omega) (by omega)))
    (fun c _ _ _ _ hs _ _ => hs)
    ⟨bN, Below.refl _ _⟩
    (fun x a' W => a' = { tmps := #[.agg #[.int .i64 j.w, .int .i64 j.l, .int .i64 j.wi, .int .i64 j.c, .int .i64 j.d, .int .i64 j.e, .slice A j.ts.length c], .pointer (some ⟨w.heap.size, 0, none⟩), .int .i64 0, .pointer (some ⟨w.heap.size + 1, 0, none⟩), .agg #[.int .i64 j.w, .int .i64 j.l, .int .i64 j.wi, .int .i64 j.c, .int .i64 j.d, .int .i64 j.e, .slice A j.ts.length c], .func (.func 65) #[] #[.pointer (some ⟨w.heap.size + 1 + 1, 0, none⟩)], .int .i64 (x : Int), .agg #[.int .i64 (at_ (names j) x).1, .int .i64 (at_ (names j) x).2], undef, undef, undef], defers := [] })
    (fun x a' _ X Y row hs hg hr => hs)
    ?assign ?body ?done ?stop
  case assign =>
    rintro l pre x W K ⟨bN', hB⟩ hK
    dsimp only [encN]
    gi_wp2
    exact hK _ _ ((KeepsOthers.refl _).from _) ⟨Below.refl _ _, rfl⟩ ⟨bN', hB⟩ (by first | rfl | (simp; done) | trace_state)
  case body =>
    rintro l pre x a' W hl ⟨r, hrr⟩ ⟨bN', hB⟩ rfl hlt
    have hcn := bN'.cell
    have hfn := bN'.frozen
    have hl12 := names_le j
    have hpl : (pre.length : Int) + 1 ≤ 9223372036854775807 := by omega
    gi_wp2
    have hB2 : Below w.heap.size W (W.setCell ⟨w.heap.size + 1, 0, none⟩ (.int .i64 ((pre.length : Int) + 1))) := (Below.refl w.heap.size W).setCell (p := ⟨w.heap.size + 1, 0, none⟩) (by simp) _
    exact ⟨(KeepsOthers.setCell _ _ _).from _, ⟨hB2, Below.heap_setCell _ _ _ _ (by simp)⟩, ⟨by simpa using bN'.set (.int .i64 ((pre.length : Int) + 1)), hB.trans hB2⟩⟩
  case done =>
    rintro D ys W hD rfl ⟨bN', hB⟩ hK
    have hcn := bN'.cell
    rw [List.length_range] at hcn
    gi_wp2
    refine ⟨by simp, .inl ⟨_, _, rfl, run_takeDeferred hK, ?_⟩⟩
    exact ⟨_, results_tmp rfl _ _ _, rfl, (hB0.trans hB).trans (belowK_b (w := w) (Nat.le_refl _) W D _ _ (by omega) hK rfl rfl)⟩
  case stop =>
    rintro D c' pre W hD _ hx hK
    exact hx.elim
end
end Go.Proofs.Ytecdnhmdodedmaa.Ca
