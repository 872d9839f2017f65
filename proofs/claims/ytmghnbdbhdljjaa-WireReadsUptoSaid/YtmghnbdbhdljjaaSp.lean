/- The law WireReads' step: one call of both readers. -/
import Derived.Test.YtmghnbdbhdljjaaRs
import Derived.Test.YtmghnbdbhdljjaaHSx1
namespace Go.Proofs.Ytmghnbdbhdljjaa.Sp
open Go.RowKit Go.Proofs.YtmghnbdbhdljjaaW.PrintWords Go.Proofs.YtmghnbdbhdljjaaW.PrintLast Go.Proofs.YtmghnbdbhdljjaaW.PrintMore Go.Proofs.Ytmghnbdbhdljjaa.HS
set_option linter.unusedVariables false
set_option linter.unusedSimpArgs false
theorem spoil1_go : ∀ (d k i : Nat) (x : List Int), i + d = 9 → d < k → x.length + d < 140737488355328 → garnerlaw01_spoil.l1 k x (i : Int) = some ()
  | 0, 0, i, x, _, h, _ => by omega
  | 0, k + 1, i, x, hi, h, hl => by rw [garnerlaw01_spoil.l1, if_neg (by omega)]
  | d + 1, 0, i, x, _, h, _ => by omega
  | d + 1, k + 1, i, x, hi, h, hl => by
    rw [garnerlaw01_spoil.l1, if_pos (by omega), if_pos (by omega), show wrap64 ((i : Int) + 1) = ((i + 1 : Nat) : Int) by unfold wrap64; omega]
    exact spoil1_go d k (i + 1) _ (by omega) (by omega) (by simp; omega)
theorem spoil0_go : ∀ (d k i : Nat) (x : List Int), i + d = x.length → d + 11 < k → x.length < 140737488351000 → garnerlaw01_spoil.l0 k x (i : Int) = some ()
  | 0, 0, i, x, _, h, _ => by omega
  | 0, k + 1, i, x, hi, h, hl => by
    rw [garnerlaw01_spoil.l0, if_neg (by omega)]
    exact spoil1_go 9 k 0 x (by omega) (by omega) (by omega)
  | d + 1, 0, i, x, _, h, _ => by omega
  | d + 1, k + 1, i, x, hi, h, hl => by
    rw [garnerlaw01_spoil.l0, if_pos (by omega), if_pos (by omega), show wrap64 ((i : Int) + 1) = ((i + 1 : Nat) : Int) by unfold wrap64; omega]
    exact spoil0_go d k (i + 1) _ (by simp; omega) (by omega) (by simp; omega)
theorem spoil_form (k : Nat) (x : List Int) (h : x.length + 11 < k) (hl : x.length < 140737488351000) : garnerlaw01_spoil.f k x = some () := spoil0_go x.length k 0 x (by omega) h hl
/-- Bytes of the call's own are written over and grown: nothing else is. -/
theorem spoil_call {w0 w : World} {base : Nat} {v : Value} {xs : List Int} (hB : Below w0.heap.size w0 w) (hbase : w0.heap.size ≤ base) (ho : Rd.Own w base v xs) (hl : xs.length ≤ 140737488350000) :
    Calls Try.prog 17 #[v] w fun e w' => e = .returned (.tuple #[]) ∧ Below w0.heap.size w0 w' ∧ w.grownBy w' v.ownBlock := by
  refine (garnerlaw01_spoil.calls (xs.length + 12) (fun k => some k = v.ownBlock) v xs w0 w hB (Kd.R_tight rfl (Kd.R_lower ho hbase)) (spoil_form _ _ (by omega) (by omega))).mono fun e w' ⟨h1, h2, h3⟩ => ⟨h1, h2, ?_⟩
  exact ⟨h2.os.trans hB.os.symm, h2.tape.trans hB.tape.symm, h2.output.trans hB.output.symm, h3.1, fun k hk hne => h3.2 k hk hne⟩
theorem is_grown {w W : World} {g y : Nat} {b : List Int} {n : Nat} {row : Option Nat} (h : Rd.Is w g y b n) (hw : w.grownBy W row) (h1 : some g ≠ row) (h2 : 0 < b.length → some y ≠ row) : Rd.Is W g y b n := by
  obtain ⟨ad, c, hb, hc, hr, hy, hne, hn, hB⟩ := h
  exact ⟨ad, c, blk_grown hb hw h1, hc, Rr.C_grown hr hw (fun h0 a e => by cases e; rw [hy]; exact h2 h0), hy, hne, hn, hB⟩
/-- The two readers: wire's at n, the references' at m. -/
structure St (w0 W : World) (g y h : Nat) (b : List Int) (n m : Nat) : Prop where
  r : Rd.Is W g y b n
  d : Rr.Is W h w0.heap.size b m
  lo : w0.heap.size ≤ g
  ne : g ≠ h
  yy : 0 < b.length → w0.heap.size ≤ y ∧ y ≠ h
  bel : Below w0.heap.size w0 W
section
variable {w0 W W' : World} {g y h : Nat} {b : List Int} {n m n' m' : Nat}
theorem St.ofR (s : St w0 W g y h b n m) (hi : Rd.Is W' g y b n') (hg : W.grownBy W' (some g)) : St w0 W' g y h b n' m :=
  ⟨hi, s.d.grown hg (fun k e => by cases e; exact ⟨s.ne, s.lo⟩), s.lo, s.ne, s.yy, s.bel.grown hg s.bel.size (fun k e => by cases e; exact s.lo)⟩
theorem St.ofD (s : St w0 W g y h b n m) (hi : Rr.Is W' h w0.heap.size b m') (hg : W.grownBy W' (some h)) : St w0 W' g y h b n m' :=
  ⟨is_grown s.r hg (fun e => s.ne (Option.some.inj e)) (fun h0 e => (s.yy h0).2 (Option.some.inj e)), hi, s.lo, s.ne, s.yy, s.bel.grown hg s.bel.size (fun k e => by cases e; exact s.d.low)⟩
theorem St.below (s : St w0 W g y h b n m) (hb : Below W.heap.size W W') : St w0 W' g y h b n m :=
  ⟨s.r.below hb, s.d.below hb, s.lo, s.ne, s.yy, below_step s.bel hb⟩
theorem St.row (s : St w0 W g y h b n m) {row : Option Nat} (hg : W.grownBy W' row) (hr : ∀ k, row = some k → w0.heap.size ≤ k ∧ k ≠ g ∧ k ≠ h ∧ (0 < b.length → k ≠ y)) : St w0 W' g y h b n m :=
  ⟨is_grown s.r hg (fun e => (hr g e.symm).2.1 rfl) (fun h0 e => (hr y e.symm).2.2.2 h0 rfl), s.d.grown hg (fun k e => ⟨(hr k e).2.2.1, (hr k e).1⟩), s.lo, s.ne, s.yy, s.bel.grown hg s.bel.size (fun k e => (hr k e).1)⟩
end
theorem keep_cell {w W : World} {g B i : Nat} {v : Value} (hg : w.grownBy W (some g)) (h : w.cell? ⟨B, i, none⟩ = some v) (hne : B ≠ g) : W.cell? ⟨B, i, none⟩ = some v := hg.cell h (by simpa using hne)
def Good (w0 : World) (g y h : Nat) (b : List Int) (e : Ending) (w' : World) : Prop := e = .returned (.bool true) ∧ ∃ n', St w0 w' g y h b n' n'
theorem num_call (x : Int) (w : World) : Calls Try.prog 24 #[.int .i64 x] w fun e w' => e = .returned (.int .i64 x) ∧ Drawn0 w w' := garnerlaw01_num.calls x x w rfl
theorem box_cells (w : World) (k most : Int) : (w.alloc (.cells #[.int .i64 k, .int .i64 most] 64)).cell? ⟨w.heap.size, 0, none⟩ = some (.int .i64 k) ∧ (w.alloc (.cells #[.int .i64 k, .int .i64 most] 64)).cell? ⟨w.heap.size, 1, none⟩ = some (.int .i64 most) :=
  ⟨(blk_cell (blk_new w _) 0).trans rfl, (blk_cell (blk_new w _) 1).trans rfl⟩
def SigPost (R : Int × Int × Nat) (g y : Nat) (b : List Int) (w : World) (e : Ending) (w' : World) : Prop := e = .returned (.tuple #[.int .i64 R.2.1, .int .i64 R.1]) ∧ Rd.Is w' g y b R.2.2 ∧ w.grownBy w' (some g)
theorem sig_call (g y : Nat) (b : List Int) (n : Nat) (w : World) (h : Rd.Is w g y b n) : Calls Try.prog 21 #[.pointer (some ⟨g, 0, none⟩)] w (SigPost (Rr.sig1 b n) g y b w) := by
  have hs := Rd.signed g y b n w h
  unfold Rr.sig1
  cases hr : Rd.rnum b 10 n 0 0 with
  | none => rw [hr] at hs; exact hs.mono fun e w' ⟨h1, h2, h3⟩ => ⟨h1, h2, h3.but _⟩
  | some q => rw [hr] at hs; exact hs
def flg1 (b : List Int) (n : Nat) : Int × Bool × Nat := match Rd.rflag b n with
  | some f => (0, f, n + 1)
  | none => (4, false, n)
def FlgPost (R : Int × Bool × Nat) (g y : Nat) (b : List Int) (w : World) (e : Ending) (w' : World) : Prop := e = .returned (.tuple #[.bool R.2.1, .int .i64 R.1]) ∧ Rd.Is w' g y b R.2.2 ∧ w.grownBy w' (some g)
def FlgPostD (R : Int × Bool × Nat) (g N : Nat) (b : List Int) (w : World) (e : Ending) (w' : World) : Prop := e = .returned (.tuple #[.bool R.2.1, .int .i64 R.1]) ∧ Rr.Is w' g N b R.2.2 ∧ w.grownBy w' (some g)
theorem flg_call (g y : Nat) (b : List Int) (n : Nat) (w : World) (h : Rd.Is w g y b n) : Calls Try.prog 23 #[.pointer (some ⟨g, 0, none⟩)] w (FlgPost (flg1 b n) g y b w) := by
  have hs := Rd.flag g y b n w h
  unfold flg1
  cases hr : Rd.rflag b n with
  | none => rw [hr] at hs; exact hs.mono fun e w' ⟨h1, h2, h3⟩ => ⟨h1, h2, h3.but _⟩
  | some q => rw [hr] at hs; exact hs
theorem flg_callD (g N : Nat) (b : List Int) (n : Nat) (w : World) (h : Rr.Is w g N b n) : Calls Try.prog 42 #[.pointer (some ⟨g, 0, none⟩)] w (FlgPostD (flg1 b n) g N b w) := by
  have hs := Rr.flag g N b n w h
  unfold flg1
  cases hr : Rd.rflag b n with
  | none => rw [hr] at hs; exact hs.mono fun e w' ⟨h1, h2, h3⟩ => ⟨h1, h2, h3.but _⟩
  | some q => rw [hr] at hs; exact hs
set_option maxHeartbeats 4000000 in
set_option maxRecDepth 100000 in
theorem step1 (w0 w : World) (g y h : Nat) (b : List Int) (n : Nat) (most : Int) (s : St w0 w g y h b n n) (hbl : b.length ≤ 1048576) :
    Calls Try.prog 31 #[.pointer (some ⟨g, 0, none⟩), .pointer (some ⟨h, 0, none⟩), .agg #[.int .i64 1, .int .i64 most]] w (Good w0 g y h b) := by
  obtain ⟨z0, z1⟩ := box_cells w 1 most
  have S0 := Aside0.mk (s.below (below_alloc (Below.refl _ _) (.cells #[.int .i64 1, .int .i64 most] 64)))
  have CR := Aside0.mk (fun (W : World) (hs : St w0 W g y h b n n) => Tk.one_call g y b n W hs.r)
  have CD := Aside0.mk (fun (W : World) (n' : Nat) (hs : St w0 W g y h b n' n) => Rr.one_call h _ b n W hs.d (by omega))
  generalize Tk.num1 b n = R at CR CD
  obtain ⟨e1, x1, n1⟩ := R
  clear s hbl
  go_enter Try.func31, Try.ntmps31
  go_wp2_with (first | (go_at_call 20; (with_reducible refine (CR.out _ S0.out).mono ?_); rintro e w1 ⟨rfl, hi, hg⟩; have S1 := Aside0.mk (S0.out.ofR hi hg); clear hi hg) | (go_at_call 40; (with_reducible refine (CD.out _ _ S1.out).mono ?_); rintro e w2 ⟨rfl, hi, hg⟩; have S2 := Aside0.mk (S1.out.ofD hi hg); clear hi hg) | (go_at_call 24; refine (num_call _ _).mono ?_; rintro e w3 ⟨rfl, hd⟩; have S3 := Aside0.mk (S2.out.below hd.below); clear hd))
  go_ret
  exact ⟨rfl, n1, S3.out⟩
set_option maxHeartbeats 4000000 in
set_option maxRecDepth 100000 in
theorem step2 (w0 w : World) (g y h : Nat) (b : List Int) (n : Nat) (most : Int) (s : St w0 w g y h b n n) (hbl : b.length ≤ 1048576) :
    Calls Try.prog 31 #[.pointer (some ⟨g, 0, none⟩), .pointer (some ⟨h, 0, none⟩), .agg #[.int .i64 2, .int .i64 most]] w (Good w0 g y h b) := by
  obtain ⟨z0, z1⟩ := box_cells w 2 most
  have S0 := Aside0.mk (s.below (below_alloc (Below.refl _ _) (.cells #[.int .i64 2, .int .i64 most] 64)))
  have CR := Aside0.mk (fun (W : World) (hs : St w0 W g y h b n n) => sig_call g y b n W hs.r)
  have CD := Aside0.mk (fun (W : World) (n' : Nat) (hs : St w0 W g y h b n' n) => Rr.signed h _ b n W hs.d (by omega))
  generalize Rr.sig1 b n = R at CR CD
  obtain ⟨e1, x1, n1⟩ := R
  clear s hbl
  go_enter Try.func31, Try.ntmps31
  go_wp2_with (first | (go_at_call 21; (with_reducible refine (CR.out _ S0.out).mono ?_); rintro e w1 ⟨rfl, hi, hg⟩; have S1 := Aside0.mk (S0.out.ofR hi hg); clear hi hg) | (go_at_call 41; (with_reducible refine (CD.out _ _ S1.out).mono ?_); rintro e w2 ⟨rfl, hi, hg⟩; have S2 := Aside0.mk (S1.out.ofD hi hg); clear hi hg) | (go_at_call 24; refine (num_call _ _).mono ?_; rintro e w3 ⟨rfl, hd⟩; have S3 := Aside0.mk (S2.out.below hd.below); clear hd))
  go_ret
  exact ⟨rfl, n1, S3.out⟩
set_option maxHeartbeats 4000000 in
set_option maxRecDepth 100000 in
theorem step3 (w0 w : World) (g y h : Nat) (b : List Int) (n : Nat) (most : Int) (s : St w0 w g y h b n n) (hbl : b.length ≤ 1048576) :
    Calls Try.prog 31 #[.pointer (some ⟨g, 0, none⟩), .pointer (some ⟨h, 0, none⟩), .agg #[.int .i64 3, .int .i64 most]] w (Good w0 g y h b) := by
  obtain ⟨z0, z1⟩ := box_cells w 3 most
  have S0 := Aside0.mk (s.below (below_alloc (Below.refl _ _) (.cells #[.int .i64 3, .int .i64 most] 64)))
  have CR := Aside0.mk (fun (W : World) (hs : St w0 W g y h b n n) => flg_call g y b n W hs.r)
  have CD := Aside0.mk (fun (W : World) (n' : Nat) (hs : St w0 W g y h b n' n) => flg_callD h _ b n W hs.d)
  generalize flg1 b n = R at CR CD
  obtain ⟨e1, x1, n1⟩ := R
  clear s hbl
  go_enter Try.func31, Try.ntmps31
  go_wp2_with (first | (go_at_call 23; (with_reducible refine (CR.out _ S0.out).mono ?_); rintro e w1 ⟨rfl, hi, hg⟩; have S1 := Aside0.mk (S0.out.ofR hi hg); clear hi hg) | (go_at_call 42; (with_reducible refine (CD.out _ _ S1.out).mono ?_); rintro e w2 ⟨rfl, hi, hg⟩; have S2 := Aside0.mk (S1.out.ofD hi hg); clear hi hg) | (go_at_call 24; refine (num_call _ _).mono ?_; rintro e w3 ⟨rfl, hd⟩; have S3 := Aside0.mk (S2.out.below hd.below); clear hd))
  go_ret
  exact ⟨rfl, n1, S3.out⟩
set_option maxHeartbeats 4000000 in
set_option maxRecDepth 100000 in
theorem step_other (w0 w : World) (g y h : Nat) (b : List Int) (n : Nat) (k most : Int) (s : St w0 w g y h b n n) (h1 : k ≠ 1) (h2 : k ≠ 2) (h3 : k ≠ 3) (h4 : k ≠ 4) (h5 : k ≠ 5) :
    Calls Try.prog 31 #[.pointer (some ⟨g, 0, none⟩), .pointer (some ⟨h, 0, none⟩), .agg #[.int .i64 k, .int .i64 most]] w (Good w0 g y h b) := by
  obtain ⟨z0, z1⟩ := box_cells w k most
  have S0 := Aside0.mk (s.below (below_alloc (Below.refl _ _) (.cells #[.int .i64 k, .int .i64 most] 64)))
  have g1 : (k == 1) = false := beq_eq_false_iff_ne.mpr h1
  have g2 : (k == 2) = false := beq_eq_false_iff_ne.mpr h2
  have g3 : (k == 3) = false := beq_eq_false_iff_ne.mpr h3
  have g4 : (k == 4) = false := beq_eq_false_iff_ne.mpr h4
  have g5 : (k == 5) = false := beq_eq_false_iff_ne.mpr h5
  clear s h1 h2 h3 h4 h5
  go_enter Try.func31, Try.ntmps31
  go_wp2
  go_ret
  exact ⟨rfl, n, S0.out⟩
set_option maxHeartbeats 4000000 in
set_option maxRecDepth 100000 in
theorem step4_neg (w0 w : World) (g y h : Nat) (b : List Int) (n : Nat) (most : Int) (s : St w0 w g y h b n n) (hm : most < 0) :
    Calls Try.prog 31 #[.pointer (some ⟨g, 0, none⟩), .pointer (some ⟨h, 0, none⟩), .agg #[.int .i64 4, .int .i64 most]] w (Good w0 g y h b) := by
  obtain ⟨z0, z1⟩ := box_cells w 4 most
  have S0 := Aside0.mk (s.below (below_alloc (Below.refl _ _) (.cells #[.int .i64 4, .int .i64 most] 64)))
  have CR := Aside0.mk (fun (W : World) (hs : St w0 W g y h b n n) => Rd.bytes_neg g y b n most W hs.r hm)
  have hg : w.heap.size ≠ g := by have := s.r.lt; omega
  have HG := Aside0.mk hg
  clear s hg
  go_enter Try.func31, Try.ntmps31
  go_wp2_with (first | (go_at_call 22; (with_reducible refine (CR.out _ S0.out).mono ?_); rintro e w1 ⟨v1, rfl, ho, hi, hg⟩; dsimp only at ho hi; obtain ⟨A1, c1, rfl, hc1, hC1, hlo1⟩ := ho.reads; have S1 := Aside0.mk (S0.out.ofR hi hg); replace z1 := keep_cell hg z1 HG.out; clear hi hg ho hC1 hlo1) | (go_at_call 24; refine (num_call _ _).mono ?_; rintro e w3 ⟨rfl, hd⟩; have S3 := Aside0.mk (S1.out.below hd.below); clear hd))
  go_ret
  exact ⟨rfl, n, S3.out⟩
set_option maxHeartbeats 4000000 in
set_option maxRecDepth 100000 in
theorem step5_neg (w0 w : World) (g y h : Nat) (b : List Int) (n : Nat) (most : Int) (s : St w0 w g y h b n n) (hm : most < 0) :
    Calls Try.prog 31 #[.pointer (some ⟨g, 0, none⟩), .pointer (some ⟨h, 0, none⟩), .agg #[.int .i64 5, .int .i64 most]] w (Good w0 g y h b) := by
  obtain ⟨z0, z1⟩ := box_cells w 5 most
  have S0 := Aside0.mk (s.below (below_alloc (Below.refl _ _) (.cells #[.int .i64 5, .int .i64 most] 64)))
  have CR := Aside0.mk (fun (W : World) (hs : St w0 W g y h b n n) => Tk.take_neg g y b n most W hs.r hm)
  have hg : w.heap.size ≠ g := by have := s.r.lt; omega
  have HG := Aside0.mk hg
  clear s hg
  go_enter Try.func31, Try.ntmps31
  go_wp2_with (first | (go_at_call 44; (with_reducible refine (CR.out _ S0.out).mono ?_); rintro e w1 ⟨v1, rfl, ho, hi, hg⟩; dsimp only at ho hi; obtain ⟨A1, c1, rfl, hc1, hC1, hlo1⟩ := ho.reads; have S1 := Aside0.mk (S0.out.ofR hi hg); replace z1 := keep_cell hg z1 HG.out; clear hi hg ho hC1 hlo1) | (go_at_call 24; refine (num_call _ _).mono ?_; rintro e w3 ⟨rfl, hd⟩; have S3 := Aside0.mk (S1.out.below hd.below); clear hd))
  go_ret
  exact ⟨rfl, n, S3.out⟩
set_option maxHeartbeats 4000000 in
set_option maxRecDepth 100000 in
theorem step4_ (w0 w : World) (g y h : Nat) (b : List Int) (n most : Nat) (s : St w0 w g y h b n n) (hbl : b.length ≤ 1048576) (hm : most ≤ 9223372036854775807) :
    Calls Try.prog 31 #[.pointer (some ⟨g, 0, none⟩), .pointer (some ⟨h, 0, none⟩), .agg #[.int .i64 4, .int .i64 most]] w (Good w0 g y h b) := by
  obtain ⟨z0, z1⟩ := box_cells w 4 most
  have S0 := Aside0.mk (s.below (below_alloc (Below.refl _ _) (.cells #[.int .i64 4, .int .i64 most] 64)))
  have CR := Aside0.mk (fun (W : World) (hs : St w0 W g y h b n n) => Rd.bytes g y b n most W hs.r hm (by omega))
  have CD := Aside0.mk (fun (W : World) (n' : Nat) (hs : St w0 W g y h b n' n) => Rr.bytes h _ b n most W hs.d hm (by omega))
  have hR : (Rd.rbs b n most).2.1.length ≤ 1048576 := by
    unfold Rd.rbs
    split
    split
    · split
      · simp
      · dsimp only; rw [List.length_take, List.length_drop]; omega
    · simp
  generalize Rd.rbs b n most = R at CR CD hR
  obtain ⟨e1, x1, n1⟩ := R
  dsimp only at hR
  have HL := Aside0.mk hR
  have hg : g < w.heap.size := s.r.lt
  have hh : h < w.heap.size := s.d.lt
  have hyl : 0 < b.length → y < w.heap.size := fun h0 => s.r.row_lt h0
  have hsz : (w.alloc (.cells #[.int .i64 4, .int .i64 most] 64)).heap.size = w.heap.size + 1 := by simp
  have HSZ := Aside0.mk hsz
  have HG := Aside0.mk (show w.heap.size ≠ g ∧ w.heap.size ≠ h ∧ g < w.heap.size ∧ h < w.heap.size ∧ (0 < b.length → y < w.heap.size) from ⟨by omega, by omega, hg, hh, hyl⟩)
  have m0 : ¬ ((most : Int) < 0) := by omega
  clear s hg hh hyl hR hsz hbl hm
  go_enter Try.func31, Try.ntmps31
  go_wp2_with (first | (go_at_call 22; (with_reducible refine (CR.out _ S0.out).mono ?_); rintro e w1 ⟨v1, rfl, ho, hi, hg⟩; dsimp only at ho hi; rw [HSZ.out] at ho; obtain ⟨A1, c1, rfl, hc1, hC1, hlo1⟩ := ho.reads; have S1 := Aside0.mk (S0.out.ofR hi hg); have HO1 := Aside0.mk ho; replace z1 := keep_cell hg z1 HG.out.1; clear hi hg ho hC1 hlo1) | (go_at_call 43; (with_reducible refine (CD.out _ _ S1.out).mono ?_); rintro e w2 ⟨v2, rfl, ho2, hi, hg⟩; dsimp only at ho2 hi; obtain ⟨A2, c2, rfl, hc2, hC2, hlo2⟩ := ho2.reads; have S2 := Aside0.mk (S1.out.ofD hi hg); have HO2 := Aside0.mk (HO1.out.grown hg (by have := HG.out.2.2.2.1; omega)); have hcv1 := Kd.C_string (P := Try.prog) (A := A1) (c := c1) Try.underlying23 Try.underlying5 Try.underlying9 (by obtain ⟨A', c', e', hc', hC', _⟩ := HO2.out.reads; cases e'; exact hC'); have hcv2 := Kd.C_string (P := Try.prog) (A := A2) (c := c2) Try.underlying23 Try.underlying5 Try.underlying9 hC2; replace z1 := keep_cell hg z1 HG.out.2.1; clear hi hg ho2 hC2 hlo2) | (go_at_call 24; refine (num_call _ _).mono ?_; rintro e w3 ⟨rfl, hd⟩; have S3 := Aside0.mk (S2.out.below hd.below); have HO3 := Aside0.mk (HO2.out.below hd.below); clear hd hcv1 hcv2) | (go_at_call 17; (refine (spoil_call S3.out.bel (by have := S0.out.bel.size; have := HSZ.out; omega) HO3.out (by have := HL.out; omega)).mono ?_); rintro e w4 ⟨rfl, hb, hg⟩; have S4 := Aside0.mk (S3.out.row hg (fun k hk => by have h1 := HO3.out.1 k hk; have h2 := HG.out; have h3 := S0.out.bel.size; have h4 := HSZ.out; exact ⟨by omega, by omega, by omega, fun h0 => by have := h2.2.2.2.2 h0; omega⟩)); clear hb hg))
  go_ret
  exact ⟨rfl, n1, S4.out⟩
set_option maxHeartbeats 4000000 in
set_option maxRecDepth 100000 in
theorem step5_ (w0 w : World) (g y h : Nat) (b : List Int) (n most : Nat) (s : St w0 w g y h b n n) (hbl : b.length ≤ 1048576) (hm : most ≤ 9223372036854775807) :
    Calls Try.prog 31 #[.pointer (some ⟨g, 0, none⟩), .pointer (some ⟨h, 0, none⟩), .agg #[.int .i64 5, .int .i64 most]] w (Good w0 g y h b) := by
  obtain ⟨z0, z1⟩ := box_cells w 5 most
  have S0 := Aside0.mk (s.below (below_alloc (Below.refl _ _) (.cells #[.int .i64 5, .int .i64 most] 64)))
  have CR := Aside0.mk (fun (W : World) (hs : St w0 W g y h b n n) => Tk.take g y b n most W hs.r hbl hm)
  have CD := Aside0.mk (fun (W : World) (n' : Nat) (hs : St w0 W g y h b n' n) => Rr.numbers h _ b n most W hs.d hbl hm)
  generalize Tk.ans (Tk.num1 b) b n most = R at CR CD
  obtain ⟨e1, x1, n1⟩ := R
  have hg : g < w.heap.size := s.r.lt
  have hh : h < w.heap.size := s.d.lt
  have hsz : (w.alloc (.cells #[.int .i64 5, .int .i64 most] 64)).heap.size = w.heap.size + 1 := by simp
  have HSZ := Aside0.mk hsz
  have HG := Aside0.mk (show w.heap.size ≠ g ∧ w.heap.size ≠ h ∧ g < w.heap.size ∧ h < w.heap.size from ⟨by omega, by omega, hg, hh⟩)
  have m0 : ¬ ((most : Int) < 0) := by omega
  clear s hg hh hsz hbl hm
  go_enter Try.func31, Try.ntmps31
  go_wp2_with (first | (go_at_call 44; (with_reducible refine (CR.out _ S0.out).mono ?_); rintro e w1 ⟨v1, rfl, ho, hi, hg⟩; dsimp only at ho hi; rw [HSZ.out] at ho; obtain ⟨A1, c1, rfl, hc1, hC1, hlo1⟩ := ho.reads; have S1 := Aside0.mk (S0.out.ofR hi hg); have HO1 := Aside0.mk ho; replace z1 := keep_cell hg z1 HG.out.1; clear hi hg ho hC1 hlo1) | (go_at_call 45; (with_reducible refine (CD.out _ _ S1.out).mono ?_); rintro e w2 ⟨v2, rfl, ho2, hi, hg⟩; dsimp only at ho2 hi; obtain ⟨A2, c2, rfl, hc2, hC2, hlo2⟩ := ho2.reads; have S2 := Aside0.mk (S1.out.ofD hi hg); have HO2 := Aside0.mk (HO1.out.grown hg (by have := HG.out.2.2.2; omega)); have HC2 := Aside0.mk hC2; have HC1 := Aside0.mk (show Kd.C (Kd.int .u64) w2 A1 x1.length x1 from (by obtain ⟨A', c', e', hc', hC', _⟩ := HO2.out.reads; cases e'; exact hC')); replace z1 := keep_cell hg z1 HG.out.2.1; clear hi hg ho2 hC2 hlo2) | (go_at_call 24; refine (num_call _ _).mono ?_; rintro e w3 ⟨rfl, hd⟩; have S3 := Aside0.mk (S2.out.below hd.below); have HC1' := Aside0.mk (Kd.C_below HC1.out hd.below); have HC2' := Aside0.mk (Kd.C_below HC2.out hd.below); clear hd HC1 HC2))
  clear z0 z1 HO1 HO2
  have hlm : x1.length ≤ 9223372036854775807 := HC1'.out.2.1
  go_loopw [28] (fun i w' => ∃ k : Nat, i = .int .i64 k ∧ k ≤ x1.length ∧ Aside0 (Below w3.heap.size w3 w')) (fun i _ => x1.length - (intOf i).toNat)
  case atStart => exact ⟨0, rfl, Nat.zero_le _, ⟨Below.refl _ _⟩⟩
  case round =>
    obtain ⟨k, rfl, hk, hb⟩ := hrel
    by_cases hlt : k < x1.length
    · obtain ⟨a1, ea1, hx1⟩ := Kd.at_int (Kd.C_below HC1'.out hb.out) (k : Int) (by omega) (by omega)
      obtain ⟨a2, ea2, hx2⟩ := Kd.at_int (Kd.C_below HC2'.out hb.out) (k : Int) (by omega) (by omega)
      subst ea1 ea2
      simp only [Int.toNat_natCast] at hx1 hx2
      have k0 : (0 : Int) ≤ (k : Int) := by omega
      have k1 : (k : Int) < (x1.length : Int) := by omega
      go_wp2
      repeat (go_quiet (fail); try go_wp2)
      exact ⟨⟨k + 1, by simp, by omega, ⟨by repeat (first | exact hb.out | apply pw_below_drewN | apply below_drew1)⟩⟩, by simp [intOf]; omega⟩
    · go_wp2
      go_ret
      exact ⟨rfl, n1, S3.out.below hb.out⟩
theorem step_call (w0 w : World) (g y h : Nat) (b : List Int) (n : Nat) (k most : Int) (s : St w0 w g y h b n n) (hbl : b.length ≤ 1048576) (hm : most ≤ 9223372036854775807) :
    Calls Try.prog 31 #[.pointer (some ⟨g, 0, none⟩), .pointer (some ⟨h, 0, none⟩), .agg #[.int .i64 k, .int .i64 most]] w (Good w0 g y h b) := by
  by_cases h1 : k = 1
  · subst h1; exact step1 w0 w g y h b n most s hbl
  by_cases h2 : k = 2
  · subst h2; exact step2 w0 w g y h b n most s hbl
  by_cases h3 : k = 3
  · subst h3; exact step3 w0 w g y h b n most s hbl
  by_cases h4 : k = 4
  · subst h4
    by_cases hn : most < 0
    · exact step4_neg w0 w g y h b n most s hn
    · obtain ⟨q, rfl⟩ := Int.eq_ofNat_of_zero_le (show 0 ≤ most by omega)
      exact step4_ w0 w g y h b n q s hbl (by omega)
  by_cases h5 : k = 5
  · subst h5
    by_cases hn : most < 0
    · exact step5_neg w0 w g y h b n most s hn
    · obtain ⟨q, rfl⟩ := Int.eq_ofNat_of_zero_le (show 0 ≤ most by omega)
      exact step5_ w0 w g y h b n q s hbl (by omega)
  exact step_other w0 w g y h b n k most s h1 h2 h3 h4 h5
end Go.Proofs.Ytmghnbdbhdljjaa.Sp
