/- wire.Take of numbers: what it answers, as a list. -/
import Derived.Test.YtmghnbdbhdljjaaWp
namespace Go.Proofs.Ytmghnbdbhdljjaa.Tk
open Go.RowKit Go.Proofs.YtmghnbdbhdljjaaW.PrintWords Go.Proofs.YtmghnbdbhdljjaaW.PrintLast Go.Proofs.YtmghnbdbhdljjaaW.PrintMore
set_option linter.unusedVariables false
set_option linter.unusedSimpArgs false
/-- One number read: error, number, place. -/
def num1 (b : List Int) (n : Nat) : Int × Int × Nat := match Rd.rnum b 10 n 0 0 with
  | some (x, m) => (0, (x : Int), m)
  | none => (4, 0, n)
section
variable {α : Type} (one : Nat → Int × α × Nat)
def go : Nat → Nat → List α → Int × List α × Nat
  | 0, n, acc => (0, acc, n)
  | k + 1, n, acc => if (one n).1 = 0 then go k (one n).2.2 (acc ++ [(one n).2.1]) else ((one n).1, acc ++ [(one n).2.1], (one n).2.2)
def all (b : List Int) (n most : Nat) : Int × List α × Nat := if (Rd.cnt b n most).1 = 0 then go one (Rd.cnt b n most).2.1 (Rd.cnt b n most).2.2 [] else ((Rd.cnt b n most).1, [], (Rd.cnt b n most).2.2)
/-- What Take answers: error, list, place. -/
def ans (b : List Int) (n most : Nat) : Int × List α × Nat := if (all one b n most).1 = 0 then all one b n most else ((all one b n most).1, [], n)
theorem go_step {k m : Nat} {acc : List α} {e1 : Int} {r1 : α} {m1 : Nat} {V : Int × List α × Nat} (h : V = go one (k + 1) m acc) (hr : one m = (e1, r1, m1)) : if e1 = 0 then V = go one k m1 (acc ++ [r1]) else V = (e1, acc ++ [r1], m1) := by
  rw [go, hr] at h
  dsimp only at h
  split at h <;> rename_i hc
  · rw [if_pos hc]; exact h
  · rw [if_neg hc]; exact h
end
theorem cnt_most (b : List Int) (n most : Nat) : (Rd.cnt b n most).2.1 ≤ most := by
  unfold Rd.cnt
  split
  · rename_i x m hr
    by_cases hlt : most < x
    · simp [hlt]
    · simp [hlt]; omega
  · simp
/-- A row of numbers of the call's own. -/
def Own (W : World) (base : Nat) (v : Value) (xs : List Int) : Prop := Kd.R (Kd.int .u64) 22 W base (fun k => base ≤ k) v xs
theorem info_u64 : (Try.prog.info? 22).map (fun i => (i.zero, i.size, i.bytes)) = some (some (.int .u64 0), 1, 8) := by kernel_rfl
theorem Own.nil (W : World) (base : Nat) : Own W base (.slice none 0 0) [] := Kd.R_nil _ _ _ _ _
theorem own_new {W : World} (base : Nat) (hb : base ≤ W.heap.size) : Own (W.alloc (.cells #[] 22)) base (.slice (some ⟨W.heap.size, 0, none⟩) 0 0) [] := by
  refine ⟨fun k hk => ?_, [], ?_, Reps.none _ _⟩
  · have : W.heap.size = k := by simpa [Value.ownBlock] using hk
    omega
  · have h2 := World.ownsRow_lit (base := base) (e := 22) (size := 1) W #[] 0 hb (by simp [maxLen]) (by simp)
    exact h2
theorem Own.grown {w W : World} {base g : Nat} {v : Value} {xs : List Int} (h : Own w base v xs) (hb : w.grownBy W (some g)) (hg : g < base) : Own W base v xs :=
  Kd.R_grown h hb (fun k hk e => by have h2 := Option.some.inj e; omega)
theorem Own.below {w W : World} {base : Nat} {v : Value} {xs : List Int} (h : Own w base v xs) (hb : Below w.heap.size w W) : Own W base v xs := Kd.R_below h hb
theorem Own.reads {W : World} {base : Nat} {v : Value} {xs : List Int} (h : Own W base v xs) : ∃ A c, v = .slice A xs.length c ∧ xs.length ≤ c ∧ Kd.C (Kd.int .u64) W A xs.length xs ∧ ∀ ad, A = some ad → base ≤ ad.block ∧ ad.block < W.heap.size := by
  obtain ⟨A, c, e, hc, hC⟩ := Kd.R_reads h
  refine ⟨A, c, e, hc, hC, fun ad he => ?_⟩
  subst he
  have hk : v.ownBlock = some ad.block := by rw [e]; rfl
  obtain ⟨inner, ho⟩ := Kd.R_own h
  exact ⟨h.1 ad.block hk, own_lt ho _ hk⟩
section
variable {ops : Array Oper} {o : Oper} {a : Act} {Q : Exit → Act → World → Prop} {rest : List Oper}
theorem append_one {W : World} (base : Nat) (hgd : o.guard = none) (s x : Operand)
    (ho : o.op = .call { callee := .builtin .append, args := #[s, x], argTypes := #[87, 87] })
    (v : Value) (xs : List Int) (p : Int) (hs : a.eval s = v) (hx : a.eval x = .slice (some ⟨W.heap.size, 0, none⟩) 1 1)
    (HO : Own W base v xs) (hbase : base ≤ W.heap.size) (hl : (xs.length + 1) * 8 ≤ 140737488355328)
    (h : ∀ v1 w1, Own w1 base v1 (xs ++ [p]) → Below base W w1 → wpList Try.prog ops Q rest (a.put o.dst v1) w1) : wpList Try.prog ops Q (o :: rest) a (W.alloc (.cells #[.int .u64 p] 22)) :=
  Kd.R_append (P := Try.prog) (Kd.int .u64) (w0 := W) base hgd s x 87 22 (.int .u64 0) 8 ho Try.underlying87 info_u64 rfl (by decide) (by omega) v xs p [.int .u64 p] (fun k => base ≤ k) (fun _ => False) hs hx rfl (fun _ h => h.elim) (fun k hk => Nat.le_trans hbase hk) HO (Below.refl _ _) hbase hl
    (fun v1 w1 h1 h2 _ _ => h v1 w1 h1 h2)
end
def OnePost (R : Int × Int × Nat) (g y : Nat) (b : List Int) (w : World) (e : Ending) (w' : World) : Prop := e = .returned (.tuple #[.int .u64 R.2.1, .int .i64 R.1]) ∧ Rd.Is w' g y b R.2.2 ∧ w.grownBy w' (some g)
theorem one_call (g y : Nat) (b : List Int) (n : Nat) (w : World) (h : Rd.Is w g y b n) : Calls Try.prog 20 #[.pointer (some ⟨g, 0, none⟩)] w (OnePost (num1 b n) g y b w) := by
  cases hr : Rd.rnum b 10 n 0 0 with
  | none =>
    have e : num1 b n = (4, 0, n) := by unfold num1; rw [hr]
    rw [e]
    exact (Rd.number_none w h hr).mono fun e w' ⟨h1, h2, h3⟩ => ⟨h1, h2, h3.but _⟩
  | some q =>
    obtain ⟨x, m⟩ := q
    have e : num1 b n = (0, (x : Int), m) := by unfold num1; rw [hr]
    rw [e]
    exact (Rd.number_some w h hr).mono fun e w' ⟨h1, h2, h3⟩ => ⟨h1, h2, h3⟩
theorem num1_on {b : List Int} {n m : Nat} {x : Int} (h : num1 b n = (0, x, m)) : n < m := by
  unfold num1 at h
  split at h
  · rename_i x' m' hr
    have := Rd.rnum_bd hr
    simp only [Prod.mk.injEq] at h
    omega
  · simp at h
theorem num1_or (b : List Int) (n : Nat) : (num1 b n).1 = 0 ∨ num1 b n = (4, 0, n) := by
  unfold num1
  split
  · exact Or.inl rfl
  · exact Or.inr rfl
def TakePost (R : Int × List Int × Nat) (g y : Nat) (b : List Int) (w : World) (e : Ending) (w' : World) : Prop :=
  ∃ v : Value, e = .returned (.tuple #[v, .int .i64 R.1]) ∧ Own w' w.heap.size v R.2.1 ∧ Rd.Is w' g y b R.2.2 ∧ w.grownBy w' (some g)
set_option maxHeartbeats 8000000 in
set_option maxRecDepth 100000 in
theorem take (g y : Nat) (b : List Int) (n most : Nat) (w : World) (h : Rd.Is w g y b n) (hb : b.length ≤ 1048576) (hmost : most ≤ 9223372036854775807) :
    Calls Try.prog 44 #[.pointer (some ⟨g, 0, none⟩), .int .i64 most, .func (.func 20) #[] #[]] w (TakePost (ans (num1 b) b n most) g y b w) := by
  have H := Aside0.mk h
  have hg := h.lt
  have hnb := h.le
  obtain ⟨ad, c, hy, k0, k1, kf, hc, hr⟩ := h.open_
  have hcount := Rd.count g y b n most w h hmost
  have hq := Rd.run_eql_func_nil (t := 90) Try.underlying90 20 #[] #[]
  obtain ⟨V, hV⟩ : ∃ V, V = all (num1 b) b n most := ⟨_, rfl⟩
  obtain ⟨R, hA⟩ : ∃ R, R = ans (num1 b) b n most := ⟨_, rfl⟩
  rw [← hA]
  replace hA : R = if V.1 = 0 then V else (V.1, [], n) := by rw [hA, hV]; rfl
  have HA := Aside0.mk hA
  unfold all at hV
  have hcs := cnt_most b n most
  cases hcnt : Rd.cnt b n most with
  | mk e0 q =>
  obtain ⟨x, m0⟩ := q
  rw [hcnt] at hcount hV hcs
  dsimp only at hcount hV hcs
  have hx : x ≤ 9223372036854775807 := Nat.le_trans hcs hmost
  have HN := Aside0.mk hcount
  have HV := Aside0.mk hV
  have HB := Aside0.mk hb
  clear h hcount hcnt hV hr hA hb hcs
  go_enter Try.func44, Try.ntmps44
  go_wp2_with (first | (go_at_call 38; refine (Rd.there _ _ _ _ _ H.out).mono ?_; rintro e w' ⟨rfl, rfl⟩) | (go_at_call 39; refine HN.out.mono ?_; rintro e w1 ⟨rfl, h1, h2⟩; have H1 := Aside0.mk h1; have H2 := Aside0.mk h2; clear h1 h2))
  have HR0 := Aside0.mk (own_new (W := w1) w.heap.size H2.out.size)
  have HI0 := Aside0.mk (H1.out.below (below_alloc (Below.refl _ _) (.cells #[] 22)))
  have HG0 := Aside0.mk (Rd.grown_under H2.out ((below_alloc (Below.refl w1.heap.size w1) (.cells #[] 22)).mono H2.out.size) (Nat.le_refl _))
  clear k0 k1 kf
  go_loopw [10, 11, 12] (fun e l i w' => ∃ (ev : Int) (k m : Nat) (acc : List Int), e = .int .i64 ev ∧ i = .int .i64 k ∧ k ≤ x ∧ Aside0 (Own w' w.heap.size l acc) ∧ Aside0 (Rd.Is w' g y b m) ∧ Aside0 (w.grownBy w' (some g)) ∧ acc.length ≤ m + 1 ∧ Aside0 (ev = 0 → acc.length ≤ m) ∧ Aside0 (if ev = 0 then V = go (num1 b) (x - k) m acc else V = (ev, acc, m))) (fun _ _ i _ => x - (intOf i).toNat)
  case atStart => exact ⟨e0, 0, m0, [], rfl, rfl, Nat.zero_le _, HR0, HI0, HG0, Nat.zero_le _, ⟨fun _ => Nat.zero_le _⟩, ⟨by by_cases he : e0 = 0; (· rw [if_pos he, HV.out, if_pos he]; rfl); rw [if_neg he, HV.out, if_neg he]⟩⟩
  case round =>
    clear HR0 HI0 HG0 H1 H2 HV HN
    obtain ⟨ev, k, m, acc, rfl, rfl, hkx, hro, hi, hgr, hal, hal2, hv⟩ := hrel
    by_cases hev : ev = 0
    · subst hev
      have hal3 := hal2.out rfl
      have hmb := hi.out.le
      have hbl := HB.out
      by_cases hlt : k < x
      · cases hrbs : num1 b m with
        | mk e1 q1 =>
        obtain ⟨r1, m1⟩ := q1
        have hv' := hv.out
        rw [if_pos rfl, show x - k = x - (k + 1) + 1 by omega] at hv'
        have HV2 := Aside0.mk (go_step (num1 b) hv' hrbs)
        have hcl := one_call g y b m wr hi.out
        rw [hrbs] at hcl
        have HCL := Aside0.mk hcl
        have hm1 : e1 = 0 → acc.length + 1 ≤ m1 := fun h0 => by subst h0; have := num1_on hrbs; omega
        have hm2 : acc.length + 1 ≤ m1 + 1 := by
          by_cases h0 : e1 = 0
          · have := hm1 h0; omega
          · rcases num1_or b m with h2 | h2
            · rw [hrbs] at h2; exact absurd h2 h0
            · rw [hrbs] at h2; simp only [Prod.mk.injEq] at h2; omega
        have HM := Aside0.mk (And.intro hm1 hm2)
        clear hcl hrbs hv hv' hal2 hm1 hm2
        go_wp2_with (first | (go_at_call 20; refine HCL.out.mono ?_; rintro e w2 ⟨rfl, hi2, hg2⟩; dsimp only at hi2; have HI2 := Aside0.mk hi2; have HG2 := Aside0.mk hg2; clear hi2 hg2) | ((with_reducible refine gate_builtin (b := .append) (xs := #[.tmp 47, .tmp 49]) rfl ?_); at_builtin; refine append_one (W := w2) w.heap.size rfl (.tmp 47) (.tmp 49) rfl _ acc r1 rfl rfl (hro.out.grown HG2.out hg) (Nat.le_trans hgr.out.size HG2.out.size) (by omega) ?_; intro v3 w3 ho3 hb3; have HO3 := Aside0.mk ho3; have HB3 := Aside0.mk hb3; clear ho3 hb3))
        have hIs : Rd.Is w3 g y b m1 := HI2.out.under HB3.out hg H.out.row_lt
        have hGr : w.grownBy w3 (some g) := Rd.grown_under (hgr.out.trans HG2.out) HB3.out (Nat.le_refl _)
        have hln : (acc ++ [r1]).length = acc.length + 1 := by rw [List.length_append]; rfl
        exact ⟨⟨e1, k + 1, m1, acc ++ [r1], rfl, by simp, by omega, HO3, ⟨hIs⟩, ⟨hGr⟩, by rw [hln]; exact HM.out.2, ⟨fun h0 => by rw [hln]; exact HM.out.1 h0⟩, HV2⟩, by simp only [intOf]; omega⟩
      · obtain rfl : k = x := by omega
        have hvv : V = (0, acc, m) := by have := hv.out; rw [if_pos rfl, Nat.sub_self] at this; exact this
        clear hv hal2
        have HA2 := Aside0.mk (show R = (0, acc, m) by rw [HA.out, hvv]; exact if_pos rfl)
        clear hvv
        go_wp2
        go_ret2
        rw [HA2.out]
        exact ⟨_, rfl, hro.out, hi.out, hgr.out⟩
    · have hvv : V = (ev, acc, m) := by have := hv.out; rwa [if_neg hev] at this
      have hbe : (ev == 0) = false := beq_eq_false_iff_ne.mpr hev
      have HEV := Aside0.mk hev
      obtain ⟨ad2, c2, hy2, d0, d1, df, hc2, hr2⟩ := hi.out.open_
      clear hv hev hal2
      have HA2 := Aside0.mk (show R = (ev, [], n) by rw [HA.out, hvv]; exact if_neg HEV.out)
      clear hvv
      go_wp2
      go_ret2
      rw [HA2.out]
      exact ⟨_, rfl, Own.nil _ _, by simpa using hi.out.set n hnb, hgr.out.trans (Rd.set_grown _ _ _)⟩
set_option maxHeartbeats 4000000 in
set_option maxRecDepth 100000 in
theorem take_neg (g y : Nat) (b : List Int) (n : Nat) (most : Int) (w : World) (h : Rd.Is w g y b n) (hm : most < 0) :
    Calls Try.prog 44 #[.pointer (some ⟨g, 0, none⟩), .int .i64 most, .func (.func 20) #[] #[]] w (TakePost (2, [], n) g y b w) := by
  have H := Aside0.mk h
  have hg := h.lt
  have hnb := h.le
  obtain ⟨ad, c, hy, k0, k1, kf, hc, hr⟩ := h.open_
  have hq := Rd.run_eql_func_nil (t := 90) Try.underlying90 20 #[] #[]
  clear h hr
  go_enter Try.func44, Try.ntmps44
  go_wp2_with (first | (go_at_call 38; refine (Rd.there _ _ _ _ _ H.out).mono ?_; rintro e w' ⟨rfl, rfl⟩) | (go_at_call 39; refine (Rd.count_neg _ _ _ _ _ _ H.out hm).mono ?_; rintro e w1 ⟨rfl, rfl⟩))
  refine wp_loop_rounds 1 ?_
  rw [rounds_succ]
  have HI0 := Aside0.mk (H.out.below (below_alloc (Below.refl _ _) (.cells #[] 22)))
  have HG0 := Aside0.mk (Rd.grown_under (Rd.grown_drewN w 0 (some g)) (below_alloc (Below.refl w.heap.size w) (.cells #[] 22)) (Nat.le_refl _))
  generalize w.alloc (.cells #[] 22) = w1 at HI0 HG0 ⊢
  obtain ⟨ad2, c2, hy2, d0, d1, df, hc2, hr2⟩ := HI0.out.open_
  clear hr2 k0 k1 kf
  go_wp2
  go_ret2
  exact ⟨_, rfl, Own.nil _ _, by simpa using HI0.out.set n hnb, HG0.out.trans (Rd.set_grown _ _ _)⟩
end Go.Proofs.Ytmghnbdbhdljjaa.Tk
