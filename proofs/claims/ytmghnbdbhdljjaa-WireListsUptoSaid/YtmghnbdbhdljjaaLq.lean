/- Pairs of numbers read: one (pair), and a list (wire.Take). -/
import Derived.Test.YtmghnbdbhdljjaaLp
import Derived.Test.YtmghnbdbhdljjaaTk
import Derived.Laws.ResultCell
namespace Go.Proofs.Ytmghnbdbhdljjaa.Li
open Go.RowKit Go.Proofs.YtmghnbdbhdljjaaW.PrintWords Go.Proofs.YtmghnbdbhdljjaaW.PrintLast Go.Proofs.YtmghnbdbhdljjaaW.PrintMore Go.Proofs.Ytmghnbdbhdljjaa.HS
set_option linter.unusedVariables false
set_option linter.unusedSimpArgs false
/-- One pair read: error, pair, place. -/
def pair1 (b : List Int) (n : Nat) : Int × (Int × Int) × Nat :=
  if (Tk.num1 b n).1 = 0 then ((Tk.num1 b (Tk.num1 b n).2.2).1, ((Tk.num1 b n).2.1, (Tk.num1 b (Tk.num1 b n).2.2).2.1), (Tk.num1 b (Tk.num1 b n).2.2).2.2) else ((Tk.num1 b n).1, (0, 0), n)
def PairP (R : Int × (Int × Int) × Nat) (g y : Nat) (b : List Int) (w : World) (e : Ending) (w' : World) : Prop := e = .returned (.tuple #[.agg #[.int .u64 R.2.1.1, .int .u64 R.2.1.2], .int .i64 R.1]) ∧ Rd.Is w' g y b R.2.2 ∧ w.grownBy w' (some g)
theorem set_row {W : World} {g : Nat} {cs cs' : Array Value} {t : TypeId} (h : W.heap[g]? = some (.cells cs t (0, 0))) (V : World) (hV : V.heap[g]? = some (.cells cs' t (0, 0))) (i : Nat) (v : Value) (hv : cs'[i]? = some v) : V.cell? ⟨g, i, none⟩ = some v := (blk_cell hV i).trans hv
set_option maxHeartbeats 4000000 in
set_option maxRecDepth 100000 in
theorem pair (g y : Nat) (b : List Int) (n : Nat) (w : World) (h : Rd.Is w g y b n) (hyl : 0 < b.length → y < w.heap.size) :
    Calls Try.prog 30 #[.pointer (some ⟨g, 0, none⟩)] w (PairP (pair1 b n) g y b w) := by
  have hg := h.lt
  have HB0 := Aside0.mk (below_alloc (Below.refl w.heap.size w) (.cells #[.int .u64 0, .int .u64 0] 51))
  have HI0 := Aside0.mk (h.below HB0.out)
  unfold pair1
  cases h1 : Tk.num1 b n with
  | mk e1 q1 =>
  obtain ⟨x1, n1⟩ := q1
  have C1 := Aside0.mk (fun (W : World) (hi : Rd.Is W g y b n) => (show Calls Try.prog 20 #[.pointer (some ⟨g, 0, none⟩)] W (Tk.OnePost (e1, x1, n1) g y b W) from h1 ▸ Tk.one_call g y b n W hi))
  dsimp only
  by_cases he : e1 = 0
  · rw [if_pos he]
    subst he
    cases h2 : Tk.num1 b n1 with
    | mk e2 q2 =>
    obtain ⟨x2, n2⟩ := q2
    have C2 := Aside0.mk (fun (W : World) (hi : Rd.Is W g y b n1) => (show Calls Try.prog 20 #[.pointer (some ⟨g, 0, none⟩)] W (Tk.OnePost (e2, x2, n2) g y b W) from h2 ▸ Tk.one_call g y b n1 W hi))
    clear h h1 h2
    go_enter Try.func30, Try.ntmps30
    go_upto_region 5 with (first | (go_at_call 20; first | ((with_reducible refine (C1.out _ HI0.out).mono ?_); rintro e w1 ⟨rfl, hi, hg⟩; have HI1 := Aside0.mk hi; have HG1 := Aside0.mk hg; clear hi hg) | ((with_reducible refine (C2.out _ HI1.out).mono ?_); rintro e w2 ⟨rfl, hi, hg⟩; have HI2 := Aside0.mk hi; have HG2 := Aside0.mk (HG1.out.trans hg); clear hi hg)))
    have hb2 := blk_grown (blk_new w (.cells #[.int .u64 0, .int .u64 0] 51)) HG2.out (by simp; omega)
    have y0 := (blk_cell hb2 0).trans rfl
    have y1 := (blk_cell hb2 1).trans rfl
    have f0 := blk_frozen hb2 0
    have f1 := blk_frozen hb2 1
    have HG3 := Aside0.mk ((World.grownBy_alloc w (.cells #[.int .u64 0, .int .u64 0] 51) (some g)).trans HG2.out)
    have HS := Aside0.mk (Nat.le_trans (Nat.le_refl _) HG3.out.size)
    have hV := blk_set (blk_set hb2 0 (.int .u64 x1)) 1 (.int .u64 x2)
    clear hb2
    go_wp2
    have ag := Try.isAgg51
    have HBV : Below w.heap.size w2 ((w2.setCell ⟨w.heap.size, 0, none⟩ (.int .u64 x1)).setCell ⟨w.heap.size, 1, none⟩ (.int .u64 x2)) := (((Below.refl w.heap.size w2).mono (Nat.le_refl _)).setCell (Nat.le_refl _) _).setCell (Nat.le_refl _) _
    refine bodyPost_ret (v := .tuple #[.agg #[.int .u64 x1, .int .u64 x2], .int .i64 e2]) ?_ rfl ⟨rfl, HI2.out.under HBV hg hyl, Rd.grown_under HG3.out HBV (Nat.le_refl _)⟩
    generalize ((w2.setCell ⟨w.heap.size, 0, none⟩ (.int .u64 x1)).setCell ⟨w.heap.size, 1, none⟩ (.int .u64 x2)) = V at hV
    have c0 := (blk_cell hV 0).trans rfl
    have c1 := (blk_cell hV 1).trans rfl
    clear hV
    rw [results_cell_tmp rfl]
    simp [asAddr, Result.andThen, go_sem, ag, Try.sizeOf51, c0, c1]
  · rw [if_neg he]
    have hbe : (e1 == 0) = false := beq_eq_false_iff_ne.mpr he
    have HN : Aside0 (n1 = n) := ⟨by rcases Tk.num1_or b n with h2 | h2 <;> rw [h1] at h2 <;> simp at h2 <;> omega⟩
    clear h h1 he
    go_enter Try.func30, Try.ntmps30
    go_upto_region 3 with (first | (go_at_call 20; ((with_reducible refine (C1.out _ HI0.out).mono ?_); rintro e w1 ⟨rfl, hi, hg⟩; have HI1 := Aside0.mk hi; have HG1 := Aside0.mk hg; clear hi hg)))
    have hb2 := blk_grown (blk_new w (.cells #[.int .u64 0, .int .u64 0] 51)) HG1.out (by simp; omega)
    have y0 := (blk_cell hb2 0).trans rfl
    have y1 := (blk_cell hb2 1).trans rfl
    have f0 := blk_frozen hb2 0
    have f1 := blk_frozen hb2 1
    have HG3 := Aside0.mk ((World.grownBy_alloc w (.cells #[.int .u64 0, .int .u64 0] 51) (some g)).trans HG1.out)
    have hV := blk_set (blk_set hb2 0 (.int .u64 0)) 1 (.int .u64 0)
    clear hb2
    go_wp2
    have ag := Try.isAgg51
    have HBV : Below w.heap.size w1 ((w1.setCell ⟨w.heap.size, 0, none⟩ (.int .u64 0)).setCell ⟨w.heap.size, 1, none⟩ (.int .u64 0)) := (((Below.refl w.heap.size w1).mono (Nat.le_refl _)).setCell (Nat.le_refl _) _).setCell (Nat.le_refl _) _
    refine bodyPost_ret (v := .tuple #[.agg #[.int .u64 0, .int .u64 0], .int .i64 e1]) ?_ rfl ⟨rfl, HN.out ▸ HI1.out.under HBV hg hyl, Rd.grown_under HG3.out HBV (Nat.le_refl _)⟩
    generalize ((w1.setCell ⟨w.heap.size, 0, none⟩ (.int .u64 0)).setCell ⟨w.heap.size, 1, none⟩ (.int .u64 0)) = V at hV
    have c0 := (blk_cell hV 0).trans rfl
    have c1 := (blk_cell hV 1).trans rfl
    clear hV
    rw [results_cell_tmp rfl]
    simp [asAddr, Result.andThen, go_sem, ag, Try.sizeOf51, c0, c1]
/-- A row of pairs of the call's own. -/
def OwnP (W : World) (base : Nat) (v : Value) (xs : List (Int × Int)) : Prop := Kd.R kp 51 W base (fun k => base ≤ k) v xs
theorem info_p : (Try.prog.info? 51).map (fun i => (i.zero, i.size, i.bytes)) = some (some (.agg #[.int .u64 0, .int .u64 0]), 2, 16) := by kernel_rfl
theorem OwnP.nil (W : World) (base : Nat) : OwnP W base (.slice none 0 0) [] := Kd.R_nil _ _ _ _ _
theorem ownP_new {W : World} (base : Nat) (hb : base ≤ W.heap.size) : OwnP (W.alloc (.cells #[] 51)) base (.slice (some ⟨W.heap.size, 0, none⟩) 0 0) [] := by
  refine ⟨fun k hk => ?_, [], ?_, Reps.none _ _⟩
  · have : W.heap.size = k := by simpa [Value.ownBlock] using hk
    omega
  · have h2 := World.ownsRow_lit (base := base) (e := 51) (size := 2) W #[] 0 hb (by simp [maxLen]) (by simp)
    exact h2
theorem OwnP.grown {w W : World} {base g : Nat} {v : Value} {xs : List (Int × Int)} (h : OwnP w base v xs) (hb : w.grownBy W (some g)) (hg : g < base) : OwnP W base v xs :=
  Kd.R_grown h hb (fun k hk e => by have h2 := Option.some.inj e; omega)
theorem OwnP.below {w W : World} {base : Nat} {v : Value} {xs : List (Int × Int)} (h : OwnP w base v xs) (hb : Below w.heap.size w W) : OwnP W base v xs := Kd.R_below h hb
theorem OwnP.reads {W : World} {base : Nat} {v : Value} {xs : List (Int × Int)} (h : OwnP W base v xs) : ∃ A c, v = .slice A xs.length c ∧ xs.length ≤ c ∧ Kd.C kp W A xs.length xs ∧ ∀ ad, A = some ad → base ≤ ad.block ∧ ad.block < W.heap.size := by
  obtain ⟨A, c, e, hc, hC⟩ := Kd.R_reads h
  refine ⟨A, c, e, hc, hC, fun ad he => ?_⟩
  subst he
  have hk : v.ownBlock = some ad.block := by rw [e]; rfl
  obtain ⟨inner, ho⟩ := Kd.R_own h
  exact ⟨h.1 ad.block hk, own_lt ho _ hk⟩
section
variable {ops : Array Oper} {o : Oper} {a : Act} {Q : Exit → Act → World → Prop} {rest : List Oper}
theorem append_pair {W : World} (base : Nat) (hgd : o.guard = none) (s x : Operand)
    (ho : o.op = .call { callee := .builtin .append, args := #[s, x], argTypes := #[50, 50] })
    (v : Value) (xs : List (Int × Int)) (p q : Int) (hs : a.eval s = v) (hx : a.eval x = .slice (some ⟨W.heap.size, 0, none⟩) 1 1)
    (HO : OwnP W base v xs) (hbase : base ≤ W.heap.size) (hl : (xs.length + 1) * 16 ≤ 140737488355328)
    (h : ∀ v1 w1, OwnP w1 base v1 (xs ++ [(p, q)]) → Below base W w1 → wpList Try.prog ops Q rest (a.put o.dst v1) w1) : wpList Try.prog ops Q (o :: rest) a (W.alloc (.cells #[.int .u64 p, .int .u64 q] 51)) :=
  Kd.R_append (P := Try.prog) kp (w0 := W) base hgd s x 50 51 (.agg #[.int .u64 0, .int .u64 0]) 16 ho Try.underlying50 info_p rfl (by decide) (by omega) v xs (p, q) [.int .u64 p, .int .u64 q] (fun k => base ≤ k) (fun _ => False) hs hx ⟨_, _, rfl, rfl, rfl⟩ (fun _ h => h.elim) (fun k hk => Nat.le_trans hbase hk) HO (Below.refl _ _) hbase hl
    (fun v1 w1 h1 h2 _ _ => h v1 w1 h1 h2)
end
theorem pair1_on {b : List Int} {n m : Nat} {x : Int × Int} (h : pair1 b n = (0, x, m)) : n < m := by
  unfold pair1 at h
  cases h1 : Tk.num1 b n with
  | mk e1 q1 =>
  obtain ⟨x1, n1⟩ := q1
  rw [h1] at h
  dsimp only at h
  by_cases he : e1 = 0
  · rw [if_pos he] at h
    subst he
    have := Tk.num1_on h1
    cases h2 : Tk.num1 b n1 with
    | mk e2 q2 =>
    obtain ⟨x2, n2⟩ := q2
    rw [h2] at h
    simp only [Prod.mk.injEq] at h
    obtain ⟨rfl, _, rfl⟩ := h
    have := Tk.num1_on h2
    omega
  · rw [if_neg he] at h
    simp only [Prod.mk.injEq] at h
    exact absurd h.1 he
theorem pair1_le (b : List Int) (n : Nat) : n ≤ (pair1 b n).2.2 := by
  have key : ∀ m, m ≤ (Tk.num1 b m).2.2 := fun m => by
    rcases Tk.num1_or b m with h | h
    · cases h1 : Tk.num1 b m with
      | mk e1 q1 =>
      obtain ⟨x1, n1⟩ := q1
      rw [h1] at h
      dsimp only at h
      subst h
      exact Nat.le_of_lt (Tk.num1_on h1)
    · rw [h]; exact Nat.le_refl _
  unfold pair1
  split
  · exact Nat.le_trans (key n) (key _)
  · exact Nat.le_refl _
def TakeP (R : Int × List (Int × Int) × Nat) (g y : Nat) (b : List Int) (w : World) (e : Ending) (w' : World) : Prop :=
  ∃ v : Value, e = .returned (.tuple #[v, .int .i64 R.1]) ∧ OwnP w' w.heap.size v R.2.1 ∧ Rd.Is w' g y b R.2.2 ∧ w.grownBy w' (some g)
set_option maxHeartbeats 8000000 in
set_option maxRecDepth 100000 in
theorem take (g y : Nat) (b : List Int) (n most : Nat) (w : World) (h : Rd.Is w g y b n) (hb : b.length ≤ 30000000) (hmost : most ≤ 9223372036854775807) :
    Calls Try.prog 29 #[.pointer (some ⟨g, 0, none⟩), .int .i64 most, .func (.func 30) #[] #[]] w (TakeP (Tk.ans (pair1 b) b n most) g y b w) := by
  have H := Aside0.mk h
  have hg := h.lt
  have hnb := h.le
  obtain ⟨ad, c, hy, k0, k1, kf, hc, hr⟩ := h.open_
  have hcount := Rd.count g y b n most w h hmost
  have hq := Rd.run_eql_func_nil (t := 56) Try.underlying56 30 #[] #[]
  obtain ⟨V, hV⟩ : ∃ V, V = Tk.all (pair1 b) b n most := ⟨_, rfl⟩
  obtain ⟨R, hA⟩ : ∃ R, R = Tk.ans (pair1 b) b n most := ⟨_, rfl⟩
  rw [← hA]
  replace hA : R = if V.1 = 0 then V else (V.1, [], n) := by rw [hA, hV]; rfl
  have HA := Aside0.mk hA
  unfold Tk.all at hV
  have hcs := Tk.cnt_most b n most
  cases hcnt : Rd.cnt b n most with
  | mk e0 q =>
  obtain ⟨x, m0⟩ := q
  rw [hcnt] at hcount hV hcs
  dsimp only at hcount hV hcs
  have hx : x ≤ 9223372036854775807 := Nat.le_trans hcs hmost
  have HN := Aside0.mk hcount
  have HV := Aside0.mk hV
  have HB := Aside0.mk hb
  clear h hcount hcnt hV hr hA hb hcs
  go_enter Try.func29, Try.ntmps29
  go_wp2_with (first | (go_at_call 38; refine (Rd.there _ _ _ _ _ H.out).mono ?_; rintro e w' ⟨rfl, rfl⟩) | (go_at_call 39; refine HN.out.mono ?_; rintro e w1 ⟨rfl, h1, h2⟩; have H1 := Aside0.mk h1; have H2 := Aside0.mk h2; clear h1 h2))
  have HR0 := Aside0.mk (ownP_new (W := w1) w.heap.size H2.out.size)
  have HI0 := Aside0.mk (H1.out.below (below_alloc (Below.refl _ _) (.cells #[] 51)))
  have HG0 := Aside0.mk (Rd.grown_under H2.out ((below_alloc (Below.refl w1.heap.size w1) (.cells #[] 51)).mono H2.out.size) (Nat.le_refl _))
  clear k0 k1 kf
  go_loopw [10, 11, 12] (fun e l i w' => ∃ (ev : Int) (k m : Nat) (acc : List (Int × Int)), e = .int .i64 ev ∧ i = .int .i64 k ∧ k ≤ x ∧ Aside0 (OwnP w' w.heap.size l acc) ∧ Aside0 (Rd.Is w' g y b m) ∧ Aside0 (w.grownBy w' (some g)) ∧ acc.length ≤ m + 1 ∧ Aside0 (ev = 0 → acc.length ≤ m) ∧ Aside0 (if ev = 0 then V = Tk.go (pair1 b) (x - k) m acc else V = (ev, acc, m))) (fun _ _ i _ => x - (intOf i).toNat)
  case atStart => exact ⟨e0, 0, m0, [], rfl, rfl, Nat.zero_le _, HR0, HI0, HG0, Nat.zero_le _, ⟨fun _ => Nat.zero_le _⟩, ⟨by by_cases he : e0 = 0; (· rw [if_pos he, HV.out, if_pos he]; rfl); rw [if_neg he, HV.out, if_neg he]⟩⟩
  case round =>
    clear HR0 HI0 HG0 H1 H2 HV HN
    obtain ⟨ev, k, m, acc, rfl, rfl, hkx, hro, hi, hgr, hal, hal2, hv⟩ := hrel
    by_cases hev : ev = 0
    · subst hev
      have hal3 := hal2.out rfl
      have hmb := hi.out.le
      have hbl := HB.out
      by_cases hlt : k < x
      · cases hrbs : pair1 b m with
        | mk e1 q1 =>
        obtain ⟨⟨p1, p2⟩, m1⟩ := q1
        have hv' := hv.out
        rw [if_pos rfl, show x - k = x - (k + 1) + 1 by omega] at hv'
        have HV2 := Aside0.mk (Tk.go_step (pair1 b) hv' hrbs)
        have HBA := Aside0.mk (below_alloc (Below.refl wr.heap.size wr) (.cells #[.int .u64 0, .int .u64 0] 51))
        have hcl := pair g y b m _ (hi.out.below HBA.out) (fun h0 => Nat.lt_of_lt_of_le (hi.out.row_lt h0) HBA.out.size)
        rw [hrbs] at hcl
        have HCL := Aside0.mk hcl
        have hm1 : e1 = 0 → acc.length + 1 ≤ m1 := fun h0 => by subst h0; have := pair1_on hrbs; omega
        have hm2 : acc.length + 1 ≤ m1 + 1 := by have := pair1_le b m; rw [hrbs] at this; dsimp only at this; omega
        have HM := Aside0.mk (And.intro hm1 hm2)
        have hgw : g < wr.heap.size := hi.out.lt
        clear hcl hrbs hv hv' hal2 hm1 hm2
        go_upto_region 10 with fail
        have hblk := blk_new wr (.cells #[.int .u64 0, .int .u64 0] 51)
        have HRA := Aside0.mk (hro.out.below HBA.out)
        have HGA := Aside0.mk (World.grownBy_alloc wr (.cells #[.int .u64 0, .int .u64 0] 51) (some g))
        generalize wr.alloc (.cells #[.int .u64 0, .int .u64 0] 51) = wa at hblk HRA HGA HCL ⊢
        go_upto_region 11 with (first | (go_at_call 30; refine HCL.out.mono ?_; rintro e w2 ⟨rfl, hi2, hg2⟩; dsimp only at hi2; have HI2 := Aside0.mk hi2; have HG2 := Aside0.mk hg2; have hb2 := blk_grown hblk HG2.out (by simp; omega); have y0 := (blk_cell hb2 0).trans rfl; have y1 := (blk_cell hb2 1).trans rfl; have f0 := blk_frozen hb2 0; have f1 := blk_frozen hb2 1; have HBK := Aside0.mk hb2; have HGW := Aside0.mk (HGA.out.trans hg2); clear hi2 hg2 hb2))
        have hV := blk_set (blk_set HBK.out 0 (.int .u64 p1)) 1 (.int .u64 p2)
        have HBV := Aside0.mk (show Below wr.heap.size w2 ((w2.setCell ⟨wr.heap.size, 0, none⟩ (.int .u64 p1)).setCell ⟨wr.heap.size, 1, none⟩ (.int .u64 p2)) from (((Below.refl wr.heap.size w2).mono (Nat.le_refl _)).setCell (Nat.le_refl _) _).setCell (Nat.le_refl _) _)
        clear y0 y1 f0 f1
        generalize (w2.setCell ⟨wr.heap.size, 0, none⟩ (.int .u64 p1)).setCell ⟨wr.heap.size, 1, none⟩ (.int .u64 p2) = wv at hV HBV ⊢
        have c0 := (blk_cell hV 0).trans rfl
        have c1 := (blk_cell hV 1).trans rfl
        have HIV := Aside0.mk (HI2.out.under HBV.out hgw (fun h0 => hi.out.row_lt h0))
        have HGV := Aside0.mk (Rd.grown_under (hgr.out.trans HGW.out) HBV.out hgr.out.size)
        have HOV := Aside0.mk (show OwnP wv w.heap.size _ acc from Kd.R_grown (hro.out) (Rd.grown_under HGW.out HBV.out (Nat.le_refl _)) (fun k hk e => by have h2 := Option.some.inj e; omega))
        have HSV := Aside0.mk (Nat.le_trans HGV.out.size (Nat.le_refl _))
        clear hV
        go_wp2_with (first | ((with_reducible refine gate_builtin (b := .append) (xs := #[.tmp 47, .tmp 49]) rfl ?_); at_builtin; refine append_pair (W := wv) w.heap.size rfl (.tmp 47) (.tmp 49) rfl _ acc p1 p2 rfl rfl HOV.out HSV.out (by omega) ?_; intro v3 w3 ho3 hb3; have HO3 := Aside0.mk ho3; have HB3 := Aside0.mk hb3; clear ho3 hb3))
        have hIs : Rd.Is w3 g y b m1 := HIV.out.under HB3.out hg H.out.row_lt
        have hGr : w.grownBy w3 (some g) := Rd.grown_under HGV.out HB3.out (Nat.le_refl _)
        have hln : (acc ++ [(p1, p2)]).length = acc.length + 1 := by rw [List.length_append]; rfl
        exact ⟨⟨e1, k + 1, m1, acc ++ [(p1, p2)], rfl, by simp, by omega, HO3, ⟨hIs⟩, ⟨hGr⟩, by rw [hln]; exact HM.out.2, ⟨fun h0 => by rw [hln]; exact HM.out.1 h0⟩, HV2⟩, by simp only [intOf]; omega⟩
      · obtain rfl : k = x := by omega
        have hvv : V = (0, acc, m) := by have := hv.out; rw [if_pos rfl, Nat.sub_self] at this; exact this
        clear hv hal2
        have HA2 := Aside0.mk (show R = (0, acc, m) by rw [HA.out, hvv]; exact if_pos rfl)
        clear hvv
        go_wp2
        go_ret2
        rw [HA2.out]
        exact ⟨_, rfl, hro.out, hi.out, hgr.out⟩
    · have hvv : V = (ev, acc, m) := by have := hv.out; rwa [if_neg hev] at this
      have hbe : (ev == 0) = false := beq_eq_false_iff_ne.mpr hev
      have HEV := Aside0.mk hev
      obtain ⟨ad2, c2, hy2, d0, d1, df, hc2, hr2⟩ := hi.out.open_
      clear hv hev hal2
      have HA2 := Aside0.mk (show R = (ev, [], n) by rw [HA.out, hvv]; exact if_neg HEV.out)
      clear hvv
      go_wp2
      go_ret2
      rw [HA2.out]
      exact ⟨_, rfl, OwnP.nil _ _, by simpa using hi.out.set n hnb, hgr.out.trans (Rd.set_grown _ _ _)⟩
end Go.Proofs.Ytmghnbdbhdljjaa.Li
