/- garnerlaw16.once: over the trees, up to a number of them. -/
import Derived.Test.YtecdnhmdodedmaaCe
import Derived.Test.YtecdnhmdodedmaaHSx0
import Derived.Test.YtecdnhmdodedmaaRdg
namespace Go.Proofs.Ytecdnhmdodedmaa.Ca
open Go.RowKit Go.Shelf Go.Proofs.YtecdnhmdodedmaaW.PrintWords Go.Proofs.YtecdnhmdodedmaaW.PrintLast Go.Proofs.YtecdnhmdodedmaaW.PrintMore Go.Proofs.Ytecdnhmdodedmaa.It
set_option linter.unusedVariables false
set_option linter.unusedSimpArgs false
/-- What the reference's list holds. -/
def namedL (j : Job) : List HS.S40 := (names j).map fun x => ⟨x.1, x.2⟩
theorem namedL_len (j : Job) : (namedL j).length = (names j).length := by simp [namedL]
theorem namedL_at (j : Job) (k : Nat) (h : k < (names j).length) : HS.rd_T40 (namedL j) (k : Int) = ⟨(at_ (names j) k).1, (at_ (names j) k).2⟩ := by
  unfold HS.rd_T40 namedL at_
  simp [List.getD, h]
/-- Has the last one come in its place? -/
def good (pre : List Nat) : Bool := match pre.getLast? with
  | none => true
  | some x => x + 1 == pre.length
theorem good_snoc (pre : List Nat) (x : Nat) : good (pre ++ [x]) = (x == pre.length) := by
  unfold good
  simp
theorem good_range (k : Nat) : good (List.range k) = true := by
  cases k with
  | zero => rfl
  | succ k => rw [List.range_succ, good_snoc]; simp
theorem results_c {fn : Func} {p : Tmp} {ty : TypeId} (h : fn.results = #[.cell p ty]) (tmps : Array Value) (P : Program) (w : World) :
    (results fn tmps).run P w = ((asAddr (tmps.getD p undef)).run P w).andThen fun a w₁ => (loadVar ty a).run P w₁ := by
  simp only [results, h]
  simp [Sem.run_bind, Result.andThen]
section
attribute [local go_sem] Oper.semAt_some
set_option maxRecDepth 100000 in
set_option maxHeartbeats 8000000 in
theorem once_in (j : Job) (A Aw : Option Addr) (c cw : Nat) (l : List HS.S40) (m : Int) (w : World) (h : j.In w A c) (el : l = namedL j) (hk : Kd.C HS.k40 w Aw l.length l) :
    CallsIn Fence.wide 6 Try.prog 14 #[.agg (j.v A c), .slice Aw l.length cw, .int .i64 m] w fun e w' => e = .returned (.bool true) ∧ Below w.heap.size w w' := by
  have EL := Aside0.mk el
  have HKW := Aside0.mk hk
  clear el hk
  have AI := Aside0.mk (fun (n : Nat) (W : World) => all_in n j A c W)
  have AS := Aside0.mk (fun (Bs : Nat) (W : World) h1 h2 h3 => all_stops 5 (by decide) Bs w.heap.size j A c W h1 h2 h3)
  have hfn := @Rd.run_eql_func_nil _ _ _ _ Try.underlying90
  unfold Job.v at AI AS ⊢
  refine callsIn_of_wp_marks Try.func14 rfl trivial ?_ rfl
  simp only [Try.ntmps14, List.size_toArray, List.length_cons, List.length_nil, Nat.reduceAdd, Nat.reduceSub, Array.replicate_succ, Array.replicate_zero, List.push_toArray, List.append_toArray, List.nil_append, List.cons_append]
  gi_wp2_with (refine ⟨trivial, ?_⟩; gi_at_call 40; refine (AI.out _ _).mono ?_; rintro e w' ⟨rfl, rfl⟩)
  have hsz0 := allocs_size [.cells #[.int .i64 j.w, .int .i64 j.l, .int .i64 j.wi, .int .i64 j.c, .int .i64 j.d, .int .i64 j.e, .slice A j.ts.length c] 24, .cells #[.slice Aw l.length cw] 26, .cells #[.int .i64 m] 3, .cells #[.bool false] 4, .cells #[.int .i64 0] 3, .cells #[.int .i64 j.w, .int .i64 j.l, .int .i64 j.wi, .int .i64 j.c, .int .i64 j.d, .int .i64 j.e, .slice A j.ts.length c] 24] w
  have hb0 := allocs_below [.cells #[.int .i64 j.w, .int .i64 j.l, .int .i64 j.wi, .int .i64 j.c, .int .i64 j.d, .int .i64 j.e, .slice A j.ts.length c] 24, .cells #[.slice Aw l.length cw] 26, .cells #[.int .i64 m] 3, .cells #[.bool false] 4, .cells #[.int .i64 0] 3, .cells #[.int .i64 j.w, .int .i64 j.l, .int .i64 j.wi, .int .i64 j.c, .int .i64 j.d, .int .i64 j.e, .slice A j.ts.length c] 24] w w.heap.size (Nat.le_refl _)
  have hat := allocs_at [.cells #[.int .i64 j.w, .int .i64 j.l, .int .i64 j.wi, .int .i64 j.c, .int .i64 j.d, .int .i64 j.e, .slice A j.ts.length c] 24, .cells #[.slice Aw l.length cw] 26, .cells #[.int .i64 m] 3, .cells #[.bool false] 4, .cells #[.int .i64 0] 3, .cells #[.int .i64 j.w, .int .i64 j.l, .int .i64 j.wi, .int .i64 j.c, .int .i64 j.d, .int .i64 j.e, .slice A j.ts.length c] 24] w
  have hW := hat 1 _ rfl
  have hM := hat 2 _ rfl
  have hR := hat 3 _ rfl
  have hN := hat 4 _ rfl
  have hA := hat 5 _ rfl
  clear hat
  simp only [List.foldl_cons, List.foldl_nil, List.length_cons, List.length_nil] at hsz0 hb0 hW hM hR hN hA
  obtain ⟨BA, eA⟩ : ∃ B, w.heap.size + 1 + 1 + 1 + 1 + 1 = B := ⟨_, rfl⟩
  rw [eA]
  obtain ⟨BN, eN⟩ : ∃ B, w.heap.size + 1 + 1 + 1 + 1 = B := ⟨_, rfl⟩
  rw [eN]
  obtain ⟨BR, eR⟩ : ∃ B, w.heap.size + 1 + 1 + 1 = B := ⟨_, rfl⟩
  rw [eR]
  obtain ⟨BM, eM⟩ : ∃ B, w.heap.size + 1 + 1 = B := ⟨_, rfl⟩
  rw [eM]
  obtain ⟨BW, eW⟩ : ∃ B, w.heap.size + 1 = B := ⟨_, rfl⟩
  rw [eW]
  rw [show w.heap.size + 1 = BW by omega] at hW
  rw [show w.heap.size + 2 = BM by omega] at hM
  rw [show w.heap.size + 3 = BR by omega] at hR
  rw [show w.heap.size + 4 = BN by omega] at hN
  rw [show w.heap.size + 5 = BA by omega] at hA
  generalize World.alloc _ (.cells #[.int .i64 j.w, .int .i64 j.l, .int .i64 j.wi, .int .i64 j.c, .int .i64 j.d, .int .i64 j.e, .slice A j.ts.length c] 24) = W0 at hsz0 hb0 hW hM hR hN hA ⊢
  have QA := Aside0.mk (show BW = w.heap.size + 1 ∧ BM = w.heap.size + 2 ∧ BR = w.heap.size + 3 ∧ BN = w.heap.size + 4 ∧ BA = w.heap.size + 5 ∧ W0.heap.size = w.heap.size + 6 from ⟨by omega, by omega, by omega, by omega, by omega, by omega⟩)
  clear eA eN eR eM eW hsz0
  have hr : ∀ W', Below w.heap.size W0 W' → j.In W' A c := fun W' hb => h.below (hb0.trans hb)
  have q1 := QA.out
  refine wpIn_rangeFunc_ownH (F := Fence.wide) rfl (by decide) (gf := 65) (lb := #[.pointer (some ⟨BA, 0, none⟩)]) rfl trivial (enters_of Try.func65 (by kernel_rfl) rfl)
    (AS.out BA W0 (by omega) hA hr) KpB.t (KpB.b (by omega) (by omega)) (Below.refl _ _) (fun _ => rfl)
    (fun pre W => ((((W.heap[BW]? = some (.cells #[.slice Aw l.length cw] 26 (0, 0)) ∧ W.heap[BM]? = some (.cells #[.int .i64 m] 3 (0, 0))) ∧ W.heap[BR]? = some (.cells #[.bool false] 4 (0, 0))) ∧ W.heap[BN]? = some (.cells #[.int .i64 (pre.length : Int)] 3 (0, 0)))) ∧ Below w.heap.size W0 W)
    (fun c pre W => (c = .ret ∧ W.heap[BR]? = some (.cells #[.bool (good pre)] 4 (0, 0))) ∧ Below w.heap.size W0 W)
    (OwnFrom.and (OwnFrom.and (OwnFrom.and (OwnFrom.and (Own.from (blk_own BW 26 (fun _ => #[.slice Aw l.length cw])) _) (Own.from (blk_own BM 3 (fun _ => #[.int .i64 m])) _)) (Own.from (blk_own BR 4 (fun _ => #[.bool false])) _)) (Own.from (blk_own BN 3 (fun (pre : List Nat) => #[.int .i64 (pre.length : Int)])) _)) (ownFrom_below (by omega) (by omega)))
    (fun c => OwnFrom.and (OwnFrom.and (ownFrom_pure _ _) (Own.from (blk_own BR 4 (fun (pre : List Nat) => #[.bool (good pre)])) _)) (ownFrom_below (by omega) (by omega)))
    ⟨⟨⟨⟨hW, hM⟩, hR⟩, hN⟩, Below.refl _ _⟩
    (fun x a' W => ∃ B', BA < B' ∧ W.heap[B']? = some (.cells #[.int .i64 (at_ (names j) x).1, .int .i64 (at_ (names j) x).2] 40 (0, 0)) ∧ a' = { tmps := #[.agg #[.int .i64 j.w, .int .i64 j.l, .int .i64 j.wi, .int .i64 j.c, .int .i64 j.d, .int .i64 j.e, .slice A j.ts.length c], .slice Aw l.length cw, .int .i64 m, .pointer (some ⟨w.heap.size, 0, none⟩), .pointer (some ⟨BW, 0, none⟩), .pointer (some ⟨BM, 0, none⟩), .pointer (some ⟨BR, 0, none⟩), .pointer (some ⟨BN, 0, none⟩), .func (.func 65) #[] #[.pointer (some ⟨BA, 0, none⟩)], .int .i64 (x : Int), .pointer (some ⟨B', 0, none⟩), .agg #[.int .i64 j.w, .int .i64 j.l, .int .i64 j.wi, .int .i64 j.c, .int .i64 j.d, .int .i64 j.e, .slice A j.ts.length c], .func (.func 65) #[] #[.pointer (some ⟨BA, 0, none⟩)], .func (.func 65) #[] #[.pointer (some ⟨BA, 0, none⟩)], .bool false, .func (.func 65) #[] #[.pointer (some ⟨BA, 0, none⟩)], .int .i64 (x : Int), .agg #[.int .i64 (at_ (names j) x).1, .int .i64 (at_ (names j) x).2], undef, undef, undef, undef, undef, undef, undef, undef, undef, undef, undef, undef, undef, undef, undef, undef, undef, undef, undef, undef, undef, undef, undef, undef, undef, undef], defers := [] })
    (fun x a' _ X Y row hs hg hr => by obtain ⟨B', h1, h2, h3⟩ := hs; exact ⟨B', h1, blk_own B' 40 (fun (_ : Unit) => #[.int .i64 (at_ (names j) x).1, .int .i64 (at_ (names j) x).2]) () X Y row h2 hg (fun r e => (hr r e).2), h3⟩)
    ?assign ?body ?done ?stop
  case assign =>
    clear q1
    rintro ll pre x W K ⟨⟨⟨⟨hW', hM'⟩, hR'⟩, hN'⟩, hB⟩ hK
    dsimp only [encN]
    gi_wp2
    have hsw := hB.size
    have kp : ∀ {B : Nat} {o : Obj}, W.heap[B]? = some o → (W.alloc (.cells #[.int .i64 (at_ (names j) x).1, .int .i64 (at_ (names j) x).2] 40)).heap[B]? = some o := fun hb => (Below.heap_alloc W _ _ (Array.getElem?_eq_some_iff.1 hb).1).trans hb
    refine hK _ _ ((KeepsOthers.alloc _ _).from _) ⟨(Below.refl _ W).alloc (by have := QA.out; omega) _, Below.heap_alloc W _ _ (by have := QA.out; omega)⟩ ⟨⟨⟨⟨kp hW', kp hM'⟩, kp hR'⟩, kp hN'⟩, hB.alloc (by have := QA.out; omega) _⟩ ⟨W.heap.size, by have := QA.out; omega, World.alloc_heap_new W _, rfl⟩
  case body =>
    clear q1
    rintro ll pre x a' W hll ⟨r, hrr⟩ ⟨⟨⟨⟨hW', hM'⟩, hR'⟩, hN'⟩, hB⟩ ⟨B', hB', hX2, rfl⟩ hlt
    have x0 : (_ : Option Value) = some (.int .i64 (at_ (names j) x).1) := (blk_cell hX2 0).trans rfl
    have x1 : (_ : Option Value) = some (.int .i64 (at_ (names j) x).2) := (blk_cell hX2 1).trans rfl
    have w0 : (_ : Option Value) = some (.slice Aw l.length cw) := (blk_cell hW' 0).trans rfl
    have m0 : (_ : Option Value) = some (.int .i64 m) := (blk_cell hM' 0).trans rfl
    have n0 : (_ : Option Value) = some (.int .i64 (pre.length : Int)) := (blk_cell hN' 0).trans rfl
    have n1 := blk_frozen hN' 0
    have r0 : (_ : Option Value) = some (.bool false) := (blk_cell hR' 0).trans rfl
    have r1 := blk_frozen hR' 0
    have N1 : BN ≠ BR := by have := QA.out; omega
    have N2 : BR ≠ BN := by have := QA.out; omega
    have N3 : BM ≠ BN := by have := QA.out; omega
    have N4 : BM ≠ BR := by have := QA.out; omega
    have hll' : pre.length < l.length := by rw [EL.out, namedL_len]; exact hlt
    have hnl : ¬ l.length ≤ pre.length := by omega
    obtain ⟨ad, had, y0, y1⟩ := HS.at_T40 (Kd.C_below HKW.out (hb0.trans hB)) (pre.length : Int) (by omega) (by omega)
    rw [show HS.rd_T40 l (pre.length : Int) = ⟨(at_ (names j) pre.length).1, (at_ (names j) pre.length).2⟩ by rw [EL.out, namedL_at j _ hlt]] at y0 y1
    simp only [Int.toNat_natCast] at y0 y1
    subst had
    have hqn := neq_named
    have hwr : wrap64 ((pre.length : Int) + 1) = (pre.length : Int) + 1 := by
      have := names_le j
      unfold wrap64
      omega
    have q := QA.out
    have hsz := hB.size
    have FN := Aside0.mk (show KeepsFrom W0.heap.size W (W.setCell ⟨BN, 0, none⟩ (.int .i64 ((pre.length : Int) + 1))).drew ∧ (Below w.heap.size W (W.setCell ⟨BN, 0, none⟩ (.int .i64 ((pre.length : Int) + 1))).drew ∧ (W.setCell ⟨BN, 0, none⟩ (.int .i64 ((pre.length : Int) + 1))).drew.heap[BA]? = W.heap[BA]?) ∧
        (W.setCell ⟨BN, 0, none⟩ (.int .i64 ((pre.length : Int) + 1))).drew.heap[BW]? = some (.cells #[.slice (some ad) l.length cw] 26 (0, 0)) ∧ (W.setCell ⟨BN, 0, none⟩ (.int .i64 ((pre.length : Int) + 1))).drew.heap[BM]? = some (.cells #[.int .i64 m] 3 (0, 0)) ∧ (W.setCell ⟨BN, 0, none⟩ (.int .i64 ((pre.length : Int) + 1))).drew.heap[BR]? = some (.cells #[.bool false] 4 (0, 0)) ∧
        (W.setCell ⟨BN, 0, none⟩ (.int .i64 ((pre.length : Int) + 1))).drew.heap[BN]? = some (.cells #[.int .i64 ((pre.length : Int) + 1)] 3 (0, 0)) ∧ Below w.heap.size W0 (W.setCell ⟨BN, 0, none⟩ (.int .i64 ((pre.length : Int) + 1))).drew from
      ⟨((KeepsOthers.setCell _ _ _).trans (KeepsOthers.drew _)).from _, ⟨((Below.refl w.heap.size W).setCell (p := ⟨BN, 0, none⟩) (by show _ ≤ BN; omega) _).drew, Below.heap_setCell _ _ _ _ (by show BA ≠ BN; omega)⟩, blk_far hW' (by show BW ≠ BN; omega) _, blk_far hM' (by show BM ≠ BN; omega) _, blk_far hR' (by show BR ≠ BN; omega) _, blk_set hN' 0 _, (hB.setCell (p := ⟨BN, 0, none⟩) (by show _ ≤ BN; omega) _).drew⟩)
    have FT := Aside0.mk (show KeepsFrom W0.heap.size W ((W.setCell ⟨BN, 0, none⟩ (.int .i64 ((pre.length : Int) + 1))).setCell ⟨BR, 0, none⟩ (.bool true)).drew ∧ ((W.setCell ⟨BN, 0, none⟩ (.int .i64 ((pre.length : Int) + 1))).setCell ⟨BR, 0, none⟩ (.bool true)).drew.heap[BR]? = some (.cells #[.bool true] 4 (0, 0)) ∧ Below w.heap.size W0 ((W.setCell ⟨BN, 0, none⟩ (.int .i64 ((pre.length : Int) + 1))).setCell ⟨BR, 0, none⟩ (.bool true)).drew from
      ⟨(((KeepsOthers.setCell _ _ _).trans (KeepsOthers.setCell _ _ _)).trans (KeepsOthers.drew _)).from _, blk_set (blk_far hR' (by show BR ≠ BN; omega) _) 0 _, ((hB.setCell (p := ⟨BN, 0, none⟩) (by show _ ≤ BN; omega) _).setCell (p := ⟨BR, 0, none⟩) (by show _ ≤ BR; omega) _).drew⟩)
    have FF := Aside0.mk (show KeepsFrom W0.heap.size W (W.setCell ⟨BR, 0, none⟩ (.bool false)).drew ∧ (W.setCell ⟨BR, 0, none⟩ (.bool false)).drew.heap[BR]? = some (.cells #[.bool false] 4 (0, 0)) ∧ Below w.heap.size W0 (W.setCell ⟨BR, 0, none⟩ (.bool false)).drew from
      ⟨((KeepsOthers.setCell _ _ _).trans (KeepsOthers.drew _)).from _, blk_set hR' 0 _, (hB.setCell (p := ⟨BR, 0, none⟩) (by show _ ≤ BR; omega) _).drew⟩)
    clear q hsz hW' hM' hR' hN' hB hX2
    by_cases hx : x = pre.length
    · subst hx
      gi_wp2
      gi_region
      all_goals gi_wp2
      all_goals first
        | exact ⟨FT.out.1, ⟨rfl, by rw [good_snoc, beq_self_eq_true]; exact FT.out.2.1⟩, FT.out.2.2⟩
        | exact ⟨FN.out.1, FN.out.2.1, ⟨⟨⟨FN.out.2.2.1, FN.out.2.2.2.1⟩, FN.out.2.2.2.2.1⟩, by rw [show (((pre ++ [pre.length]).length : Nat) : Int) = (pre.length : Int) + 1 by simp]; exact FN.out.2.2.2.2.2.1⟩, FN.out.2.2.2.2.2.2⟩
    · have hx1 : ¬ (x : Int) = (pre.length : Int) := by omega
      have HX := Aside0.mk hx
      gi_wp2
      gi_region
      all_goals gi_wp2
      all_goals exact ⟨FF.out.1, ⟨rfl, by rw [good_snoc, beq_eq_false_iff_ne.mpr HX.out]; exact FF.out.2.1⟩, FF.out.2.2⟩
  case done =>
    clear q1
    rintro D ys W hD rfl ⟨⟨⟨⟨hW', hM'⟩, hR'⟩, hN'⟩, hB⟩ hK
    rw [List.length_range, ← namedL_len, ← EL.out] at hN'
    have w0 : (_ : Option Value) = some (.slice Aw l.length cw) := (blk_cell hW' 0).trans rfl
    have n0 : (_ : Option Value) = some (.int .i64 (l.length : Int)) := (blk_cell hN' 0).trans rfl
    have r0 : (_ : Option Value) = some (.bool false) := (blk_cell hR' 0).trans rfl
    have r1 := blk_frozen hR' 0
    have N1 : BN ≠ BR := by have := QA.out; omega
    have N2 : BR ≠ BN := by have := QA.out; omega
    have HR := Aside0.mk hR'
    have HB := Aside0.mk hB
    have HD := Aside0.mk (show w.heap.size ≤ D ∧ BR < D by have := hB.size; have := QA.out; omega)
    have HK := Aside0.mk hK
    clear hW' hM' hR' hN' hB hK hD
    gi_wp2
    refine ⟨by simp, .inl ⟨_, _, rfl, run_takeDeferred ((KeepsOthers.setCell _ _ _).same D _ HK.out rfl), ?_⟩⟩
    obtain ⟨Z, hZ⟩ : ∃ Z, (W.setCell ⟨BR, 0, none⟩ (.bool true)).putObj D (.deferred none) = Z := ⟨_, rfl⟩
    rw [hZ]
    have hZR : Z.heap[BR]? = some (.cells #[.bool true] 4 (0, 0)) := by
      rw [← hZ]
      have q := HD.out.2
      simp only [World.putObj]
      rw [Array.getElem?_setIfInBounds_ne (by omega)]
      exact blk_set HR.out 0 _
    have hZB : Below w.heap.size w Z := by
      rw [← hZ]
      have q := QA.out
      refine (hb0.trans HB.out).setCell (p := ⟨BR, 0, none⟩) (by show _ ≤ BR; omega) (.bool true) |>.trans ?_
      exact belowK_b (w := w) (Nat.le_refl _) _ D _ _ HD.out.1 ((KeepsOthers.setCell _ _ _).same D _ HK.out rfl) rfl rfl
    clear hZ
    have z0 : (_ : Option Value) = some (.bool true) := (blk_cell hZR 0).trans rfl
    have HZB := Aside0.mk hZB
    clear hZR hZB
    refine ⟨_, ?_, rfl, HZB.out⟩
    rw [results_c rfl]
    go_simp
  case stop =>
    clear q1
    rintro D c' pre W hD ⟨k, hk2, rfl⟩ ⟨⟨rfl, hR'⟩, hB⟩ hK
    rw [good_range] at hR'
    have HR := Aside0.mk hR'
    have HB := Aside0.mk hB
    have HD := Aside0.mk (show w.heap.size ≤ D ∧ BR < D by have := hB.size; have := QA.out; omega)
    have HK := Aside0.mk hK
    clear hR' hB hK hD
    gi_wp2
    refine ⟨by simp, .inl ⟨_, _, rfl, run_takeDeferred (HK.out), ?_⟩⟩
    obtain ⟨Z, hZ⟩ : ∃ Z, (W).putObj D (.deferred none) = Z := ⟨_, rfl⟩
    rw [hZ]
    have hZR : Z.heap[BR]? = some (.cells #[.bool true] 4 (0, 0)) := by
      rw [← hZ]
      have q := HD.out.2
      simp only [World.putObj]
      rw [Array.getElem?_setIfInBounds_ne (by omega)]
      exact HR.out
    have hZB : Below w.heap.size w Z := by
      rw [← hZ]
      have q := QA.out
      refine (hb0.trans HB.out) |>.trans ?_
      exact belowK_b (w := w) (Nat.le_refl _) _ D _ _ HD.out.1 (HK.out) rfl rfl
    clear hZ
    have z0 : (_ : Option Value) = some (.bool true) := (blk_cell hZR 0).trans rfl
    have HZB := Aside0.mk hZB
    clear hZR hZB
    refine ⟨_, ?_, rfl, HZB.out⟩
    rw [results_c rfl]
    go_simp
end
end Go.Proofs.Ytecdnhmdodedmaa.Ca
