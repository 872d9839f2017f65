/- garnerref16.Check, Named, Tree: what they answer. -/
import Derived.Test.YtecdnhmdodedmaaCe
import Derived.Test.YtecdnhmdodedmaaHSx3
namespace Go.Proofs.Ytecdnhmdodedmaa.Ca
open Go.RowKit Go.Shelf Go.Proofs.YtecdnhmdodedmaaW.PrintWords Go.Proofs.YtecdnhmdodedmaaW.PrintLast Go.Proofs.YtecdnhmdodedmaaW.PrintMore Go.Proofs.Ytecdnhmdodedmaa.It
set_option linter.unusedVariables false
set_option linter.unusedSimpArgs false
theorem drop_rd (ts : List Int) (i : Nat) (h : i < ts.length) : ts.drop i = rd ts (i : Int) :: ts.drop (i + 1) := by
  rw [List.drop_eq_getElem_cons h]
  simp [rd, List.getD, h]
theorem step64 (i n : Nat) (h : i < n) (hn : n ≤ 1048576) : wrap64 ((i : Int) + 1) = ((i + 1 : Nat) : Int) := by unfold wrap64; omega
theorem chk_l0 (ts : List Int) (hts : ts.length ≤ 1048576) (a b c d e f : Int) : ∀ (n i K : Nat), i + n = ts.length → n + 1 ≤ K →
    HS.garnerref16_Check.l0 K (i : Int) a b c d e f ts = some (err (!(ts.drop i).any fun a => !wi a 0 2))
  | 0, i, 0, _, h2 => by omega
  | 0, i, K + 1, h1, _ => by
    rw [HS.garnerref16_Check.l0, if_neg (by omega), List.drop_eq_nil_of_le (by omega)]
    rfl
  | n + 1, i, 0, _, h2 => by omega
  | n + 1, i, K + 1, h1, h2 => by
    have ih := chk_l0 ts hts a b c d e f n (i + 1) K (by omega) (by omega)
    rw [HS.garnerref16_Check.l0, if_pos (by omega), if_pos (by omega), step64 i _ (by omega) hts, ih, drop_rd ts i (by omega), List.any_cons]
    generalize rd ts (i : Int) = x
    by_cases g1 : x < 0
    · rw [if_pos g1, show wi x 0 2 = false by simp [wi]; omega]; rfl
    · rw [if_neg g1]
      by_cases g2 : x > 2
      · rw [if_pos g2, show wi x 0 2 = false by simp [wi]; omega]; rfl
      · rw [if_neg g2, show wi x 0 2 = true by simp [wi]; omega]; simp
theorem refCheck_is (j : Job) (hts : j.ts.length ≤ 1048576) (K : Nat) (hK : j.ts.length + 4 ≤ K) : HS.garnerref16_Check.f K j.w j.l j.wi j.c j.d j.e j.ts = some (err (ok j)) := by
  obtain ⟨K, rfl⟩ : ∃ q, K = q + 2 := ⟨K - 2, by omega⟩
  have h0 := chk_l0 j.ts hts j.w j.l j.wi j.c j.d j.e j.ts.length 0 K (by omega) (by omega)
  rw [List.drop_zero] at h0
  have hj1 : ∀ q, HS.garnerref16_Check.j1 (K + 1) q j.w j.l j.wi j.c j.d j.e j.ts = some (err (!q && !(j.ts.any fun a => !wi a 0 2))) := by
    intro q
    rw [HS.garnerref16_Check.j1, show ((0 : Int)) = ((0 : Nat) : Int) from rfl, h0]
    cases q <;> simp [err]
  have hj0 : ∀ q, HS.garnerref16_Check.j0 (K + 2) q j.w j.l j.wi j.c j.d j.e j.ts = some (err (!q && okT j.ts)) := by
    intro q
    rw [HS.garnerref16_Check.j0, hj1, hj1]
    unfold okT
    cases q with
    | true => simp [err]
    | false =>
      by_cases g : (j.ts.length : Int) < 1
      · rw [if_neg (by simp), if_pos g, show wi (j.ts.length : Int) 1 4 = false by simp [wi]; omega]; simp
      · rw [if_neg (by simp), if_neg g]
        by_cases g2 : (j.ts.length : Int) > 4
        · rw [show wi (j.ts.length : Int) 1 4 = false by simp [wi]; omega]; simp [g2]
        · rw [show wi (j.ts.length : Int) 1 4 = true by simp [wi]; omega]; simp [g2]
  unfold HS.garnerref16_Check.f
  simp only [hj0]
  unfold ok
  cases hB : (B1 j && B2 j) with
  | true =>
    have hB2 := hB
    simp only [B1, B2, Bool.and_eq_true, wi_iff] at hB2
    obtain ⟨⟨⟨a1, a2⟩, ⟨a3, a4⟩, a5, a6⟩, ⟨a7, a8⟩, ⟨a9, a10⟩, a11, a12⟩ := hB2
    rw [if_neg (by omega), if_neg (by omega), if_neg (by omega), if_neg (by omega), if_neg (by omega), if_neg (by omega), if_neg (by omega), if_neg (by omega), if_neg (by omega), if_neg (by omega), if_neg (by omega), if_neg (by omega), decide_eq_false (by omega)]
    rfl
  | false =>
    rw [Bool.false_and]
    rw [show err (!true && okT j.ts) = err false from rfl]
    by_cases b0 : j.w < 1
    · rw [if_pos b0]
    rw [if_neg b0]
    by_cases b1 : j.w > 4
    · rw [if_pos b1]
    rw [if_neg b1]
    by_cases b2 : j.l < 1
    · rw [if_pos b2]
    rw [if_neg b2]
    by_cases b3 : j.l > 2
    · rw [if_pos b3]
    rw [if_neg b3]
    by_cases b4 : j.l > j.w
    · rw [if_pos b4]
    rw [if_neg b4]
    by_cases b5 : j.wi < 3
    · rw [if_pos b5]
    rw [if_neg b5]
    by_cases b6 : j.wi > 15
    · rw [if_pos b6]
    rw [if_neg b6]
    by_cases b7 : j.c < 1024
    · rw [if_pos b7]
    rw [if_neg b7]
    by_cases b8 : j.c > 65536
    · rw [if_pos b8]
    rw [if_neg b8]
    by_cases b9 : j.d < 1024
    · rw [if_pos b9]
    rw [if_neg b9]
    by_cases b10 : j.d > 1048576
    · rw [if_pos b10]
    rw [if_neg b10]
    by_cases b11 : j.e < 1
    · rw [if_pos b11]
    rw [if_neg b11]
    have hd : decide (j.e > 100) = true := by
      rw [decide_eq_true_iff]
      by_cases g : j.e > 100
      · exact g
      · exfalso
        have : (B1 j && B2 j) = true := by
          simp only [B1, B2, Bool.and_eq_true, wi_iff]
          omega
        rw [this] at hB
        cases hB
    rw [hd]
    rfl
def rowsF (t : Nat) (q d : Nat) : List HS.S40 := (List.range' q d).map fun (q : Nat) => ⟨(t : Int), (q : Int) - 1⟩
theorem named_l1 (ts : List Int) (hts : ts.length ≤ 1048576) (t a : Nat) (ht : t < ts.length) (ha : rd ts (t : Int) = (a : Int)) (ha2 : a ≤ 2) (y0 y1 y2 y3 y4 y5 : Int) : ∀ (d q K : Nat) (x3 : List HS.S40), q + d = a + 1 → x3.length + d ≤ 1000 →
    HS.garnerref16_Named.l1 (K + d + 1) x3 (t : Int) ((q : Int) - 1) y0 y1 y2 y3 y4 y5 ts = HS.garnerref16_Named.l0 K (x3 ++ rowsF t q d) ((t + 1 : Nat) : Int) y0 y1 y2 y3 y4 y5 ts
  | 0, q, K, x3, h1, h2 => by
    rw [HS.garnerref16_Named.l1, if_pos (by omega), if_pos (by omega), ha, if_neg (by omega), step64 t _ ht hts]
    simp [rowsF]
  | d + 1, q, K, x3, h1, h2 => by
    have ih := named_l1 ts hts t a ht ha ha2 y0 y1 y2 y3 y4 y5 d (q + 1) K (x3 ++ [⟨(t : Int), (q : Int) - 1⟩]) (by omega) (by simp; omega)
    rw [show ((q + 1 : Nat) : Int) - 1 = wrap64 ((q : Int) - 1 + 1) by unfold wrap64; omega] at ih
    rw [HS.garnerref16_Named.l1, if_pos (by omega), if_pos (by omega), ha, if_pos (by omega), if_pos (by omega), show K + (d + 1) = K + d + 1 by omega, ih]
    simp [rowsF, List.range'_succ]
theorem rowsF_is (t a : Nat) : rowsF t 0 (a + 1) = (rowN t (a + 1)).map fun x => (⟨x.1, x.2⟩ : HS.S40) := by
  unfold rowsF rowN
  rw [List.map_map, List.range_eq_range']
  rfl
theorem named_l0 (ts : List Int) (h4 : ts.length ≤ 4) (hb : ∀ x ∈ ts, 0 ≤ x ∧ x ≤ 2) (y0 y1 y2 y3 y4 y5 : Int) : ∀ (n t K : Nat) (x3 : List HS.S40), t + n = ts.length → x3.length + 3 * n ≤ 900 → 5 * n + 1 ≤ K →
    HS.garnerref16_Named.l0 K x3 (t : Int) y0 y1 y2 y3 y4 y5 ts = some (x3 ++ (namesF t (ts.drop t)).map fun x => (⟨x.1, x.2⟩ : HS.S40))
  | _, _, 0, _, _, _, h => by omega
  | 0, t, K + 1, x3, h1, _, _ => by
    rw [HS.garnerref16_Named.l0, if_neg (by omega), List.drop_eq_nil_of_le (by omega)]
    simp [namesF]
  | n + 1, t, K + 1, x3, h1, h2, h3 => by
    have hx := hb (ts[t]'(by omega)) (List.getElem_mem _)
    obtain ⟨a, ha⟩ : ∃ a : Nat, ts[t]'(by omega) = (a : Int) := ⟨(ts[t]'(by omega)).toNat, by omega⟩
    have hr : rd ts (t : Int) = (a : Int) := by rw [← ha]; simp [rd, List.getD, show t < ts.length by omega]
    have hl1 := named_l1 ts (by omega) t a (by omega) hr (by omega) y0 y1 y2 y3 y4 y5 (a + 1) 0 (K - (a + 2)) x3 (by omega) (by omega)
    have ih := named_l0 ts h4 hb y0 y1 y2 y3 y4 y5 n (t + 1) (K - (a + 2)) (x3 ++ rowsF t 0 (a + 1)) (by omega) (by simp [rowsF]; omega) (by omega)
    rw [show K - (a + 2) + (a + 1) + 1 = K by omega] at hl1
    rw [HS.garnerref16_Named.l0, if_pos (by omega), show (-1 : Int) = ((0 : Nat) : Int) - 1 from rfl, hl1, ih, rowsF_is, drop_rd ts t (by omega), hr, namesF, List.map_append, List.append_assoc]
    rfl
theorem refNamed_is (j : Job) (hts : j.ts.length ≤ 1048576) (K : Nat) (hK : j.ts.length + 30 ≤ K) : HS.garnerref16_Named.f K j.w j.l j.wi j.c j.d j.e j.ts = some ((names j).map fun x => ⟨x.1, x.2⟩) := by
  unfold HS.garnerref16_Named.f
  rw [refCheck_is j hts K (by omega), Option.bind_some]
  unfold names
  cases hok : ok j with
  | false => rfl
  | true =>
    obtain ⟨t1, t2, t3⟩ := okT_le hok
    have h := named_l0 j.ts (by omega) t3 j.w j.l j.wi j.c j.d j.e j.ts.length 0 K [] (by omega) (by simp; omega) (by omega)
    rw [if_pos (show err true = 0 from rfl)]
    exact h.trans (by simp)
theorem refTree_l0 (j : Job) (a b : Int) : ∀ (n i K : Nat), i + n = (names j).length → n + 1 ≤ K →
    HS.garnerref16_Tree.l0 K a b ((names j).map fun x => ⟨x.1, x.2⟩) (i : Int) = some (match first (fun x => (at_ (names j) x).1 == a && ((at_ (names j) x).2 == b)) n i with
      | some x => ((x : Int), 0)
      | none => (0, 2))
  | _, _, 0, _, h => by omega
  | 0, i, K + 1, h1, _ => by
    rw [HS.garnerref16_Tree.l0, if_neg (by simp; omega)]
    rfl
  | n + 1, i, K + 1, h1, h2 => by
    have ih := refTree_l0 j a b n (i + 1) K (by omega) (by omega)
    have hle := names_le j
    have hr : HS.rd_T40 ((names j).map fun x => (⟨x.1, x.2⟩ : HS.S40)) (i : Int) = ⟨(at_ (names j) i).1, (at_ (names j) i).2⟩ := by
      unfold HS.rd_T40 at_
      simp [List.getD, show i < (names j).length by omega]
    rw [HS.garnerref16_Tree.l0, if_pos (by simp; omega), if_pos (by omega), hr, step64 i _ (show i < (names j).length by omega) (by omega), ih, first]
    dsimp only
    by_cases g1 : (at_ (names j) i).1 = a
    · rw [if_pos g1, beq_iff_eq.2 g1]
      by_cases g2 : (at_ (names j) i).2 = b
      · rw [if_pos g2, beq_iff_eq.2 g2]; rfl
      · rw [if_neg g2, beq_eq_false_iff_ne.2 g2]; rfl
    · rw [if_neg g1, beq_eq_false_iff_ne.2 g1]; rfl
theorem refTree_is (j : Job) (hts : j.ts.length ≤ 1048576) (a b : Int) (K : Nat) (hK : j.ts.length + 30 ≤ K) : HS.garnerref16_Tree.f K j.w j.l j.wi j.c j.d j.e j.ts a b = some (treeL j a b) := by
  unfold HS.garnerref16_Tree.f
  have hle := names_le j
  rw [refNamed_is j hts K hK, Option.bind_some]
  refine (refTree_l0 j a b (names j).length 0 K (by omega) (by omega)).trans ?_
  unfold treeL found
  cases first (fun x => (at_ (names j) x).1 == a && ((at_ (names j) x).2 == b)) (names j).length 0 <;> rfl
theorem ofL_is (j : Job) (i : Nat) (h : i < (names j).length) : ofL j (i : Int) = ((at_ (names j) i).1, (at_ (names j) i).2, 0) := by
  unfold ofL found
  rw [first_some _ _ 0 i (by omega) (by omega) (fun y _ hy => by simp; omega) (by simp)]
theorem ofL_none (j : Job) (i : Int) (h : i < 0 ∨ ((names j).length : Int) ≤ i) : ofL j i = (0, 0, 2) := by
  unfold ofL found
  rw [first_none _ _ 0 (fun y _ hy => by simp; omega)]
end Go.Proofs.Ytecdnhmdodedmaa.Ca
