/- Rows out of bytes, there and back, as lists: no program in sight but its plain functions. -/
import Derived.Test.YtmpbcmnnlkienaaPlainA
namespace Go.Proofs.Ytmpbcmnnlkienaa.Pure
open Go.RowKit Go.Proofs.Ytmpbcmnnlkienaa.HS Go.Proofs.YtmpbcmnnlkienaaW.PrintWords Go.Proofs.YtmpbcmnnlkienaaW.PrintLast Go.Proofs.YtmpbcmnnlkienaaW.PrintMore
set_option linter.unusedVariables false
theorem rnum_ge {b : List Int} (hb : Rd.Byt b) : ∀ (k i s a x m : Nat), 0 < s → Rd.rnum b k i s a = some (x, m) → a + 2 ^ s ≤ x
  | 0, i, s, a, x, m, _, h => by simp [Rd.rnum] at h
  | k + 1, i, s, a, x, m, hs, h => by
    rw [Rd.rnum] at h
    by_cases hl : i < b.length
    · rw [if_pos hl] at h
      have hv := Rd.byt_rd hb hl
      by_cases hbad : (s = 63 ∧ 1 < rd b i) ∨ (0 < s ∧ rd b i = 0)
      · rw [if_pos hbad] at h; cases h
      · rw [if_neg hbad] at h
        by_cases h1 : rd b i < 128
        · rw [if_pos h1] at h
          simp only [Option.some.injEq, Prod.mk.injEq] at h
          obtain ⟨rfl, rfl⟩ := h
          have h2 : 1 ≤ (rd b i).toNat % 128 := by omega
          have h3 : 1 * 2 ^ s ≤ (rd b i).toNat % 128 * 2 ^ s := Nat.mul_le_mul_right _ h2
          omega
        · rw [if_neg h1] at h
          have h4 := rnum_ge hb k (i + 1) (s + 7) _ x m (by omega) h
          have h5 : 2 ^ (s + 7) = 128 * 2 ^ s := by rw [Nat.pow_add, Nat.mul_comm]
          omega
    · rw [if_neg hl] at h; cases h
theorem rnum_small {b : List Int} (hb : Rd.Byt b) {n x m : Nat} (h : Rd.rnum b 10 n 0 0 = some (x, m)) (hx : x < 128) : n < b.length ∧ rd b n = (x : Int) ∧ m = n + 1 := by
  rw [Rd.rnum] at h
  by_cases hl : n < b.length
  · rw [if_pos hl, if_neg (by omega)] at h
    have hv := Rd.byt_rd hb hl
    by_cases h1 : rd b n < 128
    · rw [if_pos h1] at h
      simp only [Option.some.injEq, Prod.mk.injEq] at h
      obtain ⟨h2, rfl⟩ := h
      refine ⟨hl, ?_, rfl⟩
      simp only [Nat.pow_zero, Nat.mul_one, Nat.zero_add] at h2
      omega
    · rw [if_neg h1] at h
      have h4 := rnum_ge hb 9 (n + 1) (0 + 7) _ x m (by omega) h
      have : (2 : Nat) ^ (0 + 7) = 128 := by decide
      omega
  · rw [if_neg hl] at h; cases h
theorem rnum_mk {b : List Int} {n x : Nat} (hl : n < b.length) (hx : rd b n = (x : Int)) (h : x < 128) : Rd.rnum b 10 n 0 0 = some (x, n + 1) := by
  rw [Rd.rnum, if_pos hl, if_neg (by omega), if_pos (by omega), hx, Int.toNat_natCast]
  simp only [Nat.pow_zero, Nat.mul_one, Nat.zero_add]
  rw [Nat.mod_eq_of_lt h]
theorem cnt_mk {b : List Int} {n most x m : Nat} (h : Rd.rnum b 10 n 0 0 = some (x, m)) (hx : x ≤ most) : Rd.cnt b n most = (0, x, m) := by
  unfold Rd.cnt
  rw [h]
  exact if_neg (by omega)
theorem cnt_zero {b : List Int} {n most x m : Nat} (h : Rd.cnt b n most = (0, x, m)) : Rd.rnum b 10 n 0 0 = some (x, m) ∧ x ≤ most := by
  unfold Rd.cnt at h
  cases hr : Rd.rnum b 10 n 0 0 with
  | none => rw [hr] at h; cases h
  | some q =>
    obtain ⟨y, p⟩ := q
    rw [hr] at h
    dsimp only at h
    by_cases hl : most < y
    · rw [if_pos hl] at h; cases h
    · rw [if_neg hl] at h; cases h; exact ⟨rfl, by omega⟩
theorem rbs_some {b : List Int} (hb : Rd.Byt b) {n m most : Nat} (hm : most < 128) {r : List Int} (h : Rd.rbs b n most = (0, r, m)) : n < b.length ∧ rd b n = (r.length : Int) ∧ m = n + 1 + r.length ∧ m ≤ b.length ∧ r = (b.drop (n + 1)).take r.length ∧ r.length ≤ most := by
  unfold Rd.rbs at h
  cases hc : Rd.cnt b n most with
  | mk e0 q =>
  obtain ⟨x, m0⟩ := q
  rw [hc] at h
  dsimp only at h
  by_cases he : e0 = 0
  · subst he
    rw [if_pos rfl] at h
    obtain ⟨h1, h2⟩ := cnt_zero hc
    obtain ⟨h3, h4, rfl⟩ := rnum_small hb h1 (by omega)
    by_cases hl : b.length - (n + 1) < x
    · rw [if_pos hl] at h; cases h
    · rw [if_neg hl] at h
      simp only [Prod.mk.injEq, true_and] at h
      obtain ⟨h5, rfl⟩ := h
      have hrl : r.length = x := by rw [← h5, List.length_take, List.length_drop]; omega
      exact ⟨h3, by rw [hrl]; exact h4, by omega, by omega, by rw [hrl]; exact h5.symm, by omega⟩
  · rw [if_neg he] at h
    simp only [Prod.mk.injEq] at h
    exact absurd h.1 he
theorem rbs_mk {b : List Int} {n q most : Nat} (hq : q ≤ most) (hm : most < 128) (hl : n + 1 + q ≤ b.length) (hx : rd b n = (q : Int)) : Rd.rbs b n most = (0, (b.drop (n + 1)).take q, n + 1 + q) := by
  unfold Rd.rbs
  rw [cnt_mk (rnum_mk (by omega) hx (by omega)) hq]
  dsimp only
  rw [if_pos rfl, if_neg (by omega)]
theorem takeGo_spec {b : List Int} (hb : Rd.Byt b) : ∀ (k n : Nat) (acc L : List (List Int)) (m : Nat), n ≤ b.length → takeGo b k n acc = (0, L, m) → ∃ l', L = acc ++ l' ∧ l'.length = k ∧ (∀ f ∈ l', f.length ≤ 24) ∧ b.drop n = cat l' ++ b.drop m ∧ m ≤ b.length
  | 0, n, acc, L, m, hn, h => by
    rw [takeGo] at h
    simp only [Prod.mk.injEq, true_and] at h
    obtain ⟨rfl, rfl⟩ := h
    exact ⟨[], by simp, rfl, by simp, by simp [cat], hn⟩
  | k + 1, n, acc, L, m, hn, h => by
    rw [takeGo] at h
    cases hr : Rd.rbs b n 24 with
    | mk e q =>
    obtain ⟨r, m1⟩ := q
    rw [hr] at h
    dsimp only at h
    by_cases he : e = 0
    · subst he
      rw [if_pos rfl] at h
      obtain ⟨h1, h2, h3, h4, h5, h6⟩ := rbs_some hb (by decide) hr
      obtain ⟨l', rfl, h7, h8, h9, h10⟩ := takeGo_spec hb k m1 (acc ++ [r]) L m h4 h
      refine ⟨r :: l', by simp, by simp [h7], fun f hf => ?_, ?_, h10⟩
      · rcases List.mem_cons.1 hf with rfl | hf
        · exact h6
        · exact h8 f hf
      · rw [cat_cons, List.cons_append, List.append_assoc, ← h9, List.drop_eq_getElem_cons h1, ← rd_at b n h1, h2]
        congr 1
        have h11 := List.take_append_drop r.length (b.drop (n + 1))
        rw [← h5, List.drop_drop, ← h3] at h11
        exact h11.symm
    · rw [if_neg he] at h
      simp only [Prod.mk.injEq] at h
      exact absurd h.1 he
theorem takeGo_mk {b : List Int} : ∀ (l : List (List Int)) (n : Nat) (acc : List (List Int)) (rest : List Int), (∀ f ∈ l, f.length ≤ 24) → n ≤ b.length → b.drop n = cat l ++ rest → takeGo b l.length n acc = (0, acc ++ l, n + (cat l).length)
  | [], n, acc, rest, _, _, _ => by simp [takeGo, cat]
  | f :: l, n, acc, rest, hf, hn, h => by
    rw [cat_cons, List.cons_append] at h
    have hlen := congrArg List.length h
    simp only [List.length_drop, List.length_cons, List.length_append] at hlen
    have h1 : n < b.length := by omega
    rw [List.drop_eq_getElem_cons h1, List.cons.injEq, ← rd_at b n h1, List.append_assoc] at h
    obtain ⟨h2, h3⟩ := h
    rw [List.length_cons, takeGo, rbs_mk (hf f (by simp)) (by decide) (by omega) h2]
    dsimp only
    rw [if_pos rfl, h3, List.take_left, takeGo_mk l (n + 1 + f.length) (acc ++ [f]) rest (fun g hg => hf g (by simp [hg])) (by omega) (by rw [← List.drop_drop, h3, List.drop_left]), cat_cons, List.length_cons, List.length_append]
    simp only [List.append_assoc, List.singleton_append, Prod.mk.injEq, true_and]
    omega
theorem mem_cat {l : List (List Int)} {f : List Int} (hf : f ∈ l) {x : Int} (hx : x ∈ f) : x ∈ cat l := by
  unfold cat
  exact List.mem_flatten.2 ⟨_, List.mem_map.2 ⟨f, hf, rfl⟩, by simp [hx]⟩
theorem readB_spec {b : List Int} (hb : Rd.Byt b) {r : List (List Int)} (h : readB b = some r) : mayB r = true ∧ Byts r ∧ rowB r = b := by
  unfold readB at h
  by_cases hc : (takeV b 0).1 = 0 ∧ (takeV b 0).2.2 = b.length ∧ mayB (takeV b 0).2.1 = true
  · rw [if_pos hc] at h
    obtain ⟨h1, h2, h3⟩ := hc
    have hr := Option.some.inj h
    rw [hr] at h3
    have hV : takeV b 0 = (0, r, b.length) := by
      rw [← h1, ← h2, ← hr]
    unfold takeV at hV
    cases hcn : Rd.cnt b 0 3 with
    | mk e0 q =>
    obtain ⟨x, m⟩ := q
    rw [hcn] at hV
    dsimp only at hV
    by_cases he : e0 = 0
    · subst he
      rw [if_pos rfl] at hV
      obtain ⟨h4, h5⟩ := cnt_zero hcn
      obtain ⟨h6, h7, h8⟩ := rnum_small hb h4 (by omega)
      obtain ⟨l', h9, h10, h11, h12, h13⟩ := takeGo_spec hb x m [] r b.length (by omega) hV
      rw [List.nil_append] at h9
      subst h9
      rw [List.drop_length, List.append_nil, h8, Nat.zero_add] at h12
      have hbb : b = (r.length : Int) :: cat r := by
        rw [← h12, h10, ← h7, rd_at b 0 h6, List.getElem_zero]
        cases b with
        | nil => simp at h6
        | cons y t => simp
      refine ⟨h3, fun f hf x hx => hb x ?_, ?_⟩
      · rw [hbb]; exact List.mem_cons_of_mem _ (mem_cat hf hx)
      · rw [rowB_eq h3]; exact hbb.symm
    · rw [if_neg he] at hV
      simp only [Prod.mk.injEq] at hV
      exact absurd hV.1 he
  · rw [if_neg hc] at h; cases h
theorem readB_rowB {r : List (List Int)} (h : mayB r = true) : readB (rowB r) = some r := by
  obtain ⟨h1, h2, h3⟩ := (may_iff r).1 h
  have hV : takeV (rowB r) 0 = (0, r, (rowB r).length) := by
    unfold takeV
    rw [rowB_eq h]
    have hx : rd ((r.length : Int) :: cat r) ((0 : Nat) : Int) = (r.length : Int) := by rw [rd_at _ 0 (by simp)]; rfl
    rw [cnt_mk (rnum_mk (by simp) hx (by omega)) h2]
    dsimp only
    rw [if_pos rfl, takeGo_mk r (0 + 1) [] [] h3 (by simp) (by simp)]
    simp only [List.nil_append, List.length_cons, Prod.mk.injEq, true_and]
    omega
  unfold readB
  rw [hV, if_pos ⟨rfl, rfl, h⟩]
end Go.Proofs.Ytmpbcmnnlkienaa.Pure
