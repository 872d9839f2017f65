/- wire, plainly: a number's form, there and back. -/
import Derived.Test.YtmghnbdbhdljjaaSf
namespace Go.Proofs.Ytmghnbdbhdljjaa.Rd
open Go.RowKit Go.Proofs.YtmghnbdbhdljjaaW.PrintWords Go.Proofs.YtmghnbdbhdljjaaW.PrintLast Go.Proofs.YtmghnbdbhdljjaaW.PrintMore
set_option linter.unusedVariables false
set_option linter.unusedSimpArgs false
theorem rd_nat {l : List Int} {i : Nat} (h : i < l.length) : rd l (i : Int) = l[i] := by simp [rd, h]
theorem rd_mid (p q : List Int) (x : Int) : rd (p ++ x :: q) (p.length : Int) = x := by
  rw [rd_nat (by simp)]
  simp
theorem wnumF_byt : ∀ (k n : Nat), n < 2 ^ (7 * k + 1) → Byt (wnumF k n)
  | 0, n, h => by
    intro x hx
    simp [wnumF] at hx
    simp at h
    omega
  | k + 1, n, h => by
    intro x hx
    rw [wnumF] at hx
    split at hx
    · rcases List.mem_cons.1 hx with rfl | hx
      · omega
      · refine wnumF_byt k (n / 128) ?_ x hx
        rw [show 7 * (k + 1) + 1 = (7 * k + 1) + 7 by omega, Nat.pow_add] at h
        exact Nat.div_lt_of_lt_mul (by rw [Nat.mul_comm]; exact h)
    · simp at hx; omega
theorem wnum_byt {n : Nat} (h : n < 18446744073709551616) : Byt (wnum n) := wnumF_byt 9 n (by simpa using h)
theorem pow7 (j : Nat) : 2 ^ (7 * (j + 1)) = 128 * 2 ^ (7 * j) := by rw [Nat.mul_add, Nat.pow_add, Nat.mul_comm]
/-- What was written is read. -/
theorem rnum_wnumF (q : List Int) : ∀ (k j n a : Nat) (p : List Int), k + j = 9 → n < 2 ^ (7 * k + 1) → (0 < j → 0 < n) → rnum (p ++ wnumF k n ++ q) (k + 1) p.length (7 * j) a = some (a + n * 2 ^ (7 * j), p.length + (wnumF k n).length)
  | 0, j, n, a, p, hj, hn, h0 => by
    simp at hn
    have hr : rd (p ++ [(n : Int)] ++ q) (p.length : Int) = n := by rw [List.append_assoc]; exact rd_mid p q _
    have h0 := h0 (by omega)
    rw [wnumF, rnum, if_pos (by simp), hr, if_neg (by omega), if_pos (by omega), Int.toNat_natCast, Nat.mod_eq_of_lt (by omega)]
    rfl
  | k + 1, j, n, a, p, hj, hn, h0 => by
    rw [wnumF]
    by_cases hb : 127 < n
    · rw [if_pos hb]
      have hr : rd (p ++ ((n % 128 + 128 : Nat) : Int) :: wnumF k (n / 128) ++ q) (p.length : Int) = ((n % 128 + 128 : Nat) : Int) := by rw [List.append_assoc]; exact rd_mid p _ _
      have hd : n / 128 < 2 ^ (7 * k + 1) := by
        rw [show 7 * (k + 1) + 1 = (7 * k + 1) + 7 by omega, Nat.pow_add] at hn
        exact Nat.div_lt_of_lt_mul (by rw [Nat.mul_comm]; exact hn)
      have ih := rnum_wnumF q k (j + 1) (n / 128) (a + n % 128 * 2 ^ (7 * j)) (p ++ [((n % 128 + 128 : Nat) : Int)]) (by omega) hd (fun _ => by omega)
      rw [rnum, if_pos (by simp), hr, if_neg (by omega), if_neg (by omega), Int.toNat_natCast, show (n % 128 + 128) % 128 = n % 128 by omega, show 7 * j + 7 = 7 * (j + 1) by omega]
      simp only [List.length_append, List.length_cons, List.length_nil, List.append_assoc, List.cons_append, List.nil_append] at ih ⊢
      rw [ih, pow7]
      refine congrArg some (Prod.ext ?_ (by dsimp only; omega))
      dsimp only
      rw [Nat.add_assoc, ← Nat.mul_assoc, ← Nat.add_mul, show n % 128 + n / 128 * 128 = n by omega]
    · rw [if_neg hb]
      have hr : rd (p ++ [(n : Int)] ++ q) (p.length : Int) = n := by rw [List.append_assoc]; exact rd_mid p q _
      rw [rnum, if_pos (by simp), hr, if_neg (by omega), if_pos (by omega), Int.toNat_natCast, Nat.mod_eq_of_lt (by omega)]
      rfl
theorem rnum_wnum (p q : List Int) (n : Nat) (hn : n < 18446744073709551616) : rnum (p ++ wnum n ++ q) 10 p.length 0 0 = some (n, p.length + (wnum n).length) := by
  have h := rnum_wnumF q 9 0 n 0 p rfl (by simpa using hn) (by omega)
  simpa [wnum] using h
/-- What is read has just the form that was read. -/
theorem rnum_form {b : List Int} (hB : Byt b) : ∀ (k j i a x m : Nat), k + j = 9 → rnum b (k + 1) i (7 * j) a = some (x, m) → ∃ v, x = a + v * 2 ^ (7 * j) ∧ (0 < j → 0 < v) ∧ i < m ∧ m ≤ b.length ∧ (b.drop i).take (m - i) = wnumF k v
  | 0, j, i, a, x, m, hj, h => by
    rw [rnum] at h
    by_cases hl : i < b.length
    · rw [if_pos hl] at h
      have hx := byt_rd hB hl
      obtain ⟨c, hc⟩ : ∃ c : Nat, rd b i = (c : Int) := ⟨_, (Int.toNat_of_nonneg hx.1).symm⟩
      have hg := rd_nat hl
      rw [hc] at h hx hg
      by_cases h1 : (7 * j = 63 ∧ 1 < (c : Int)) ∨ (0 < 7 * j ∧ (c : Int) = 0)
      · rw [if_pos h1] at h; cases h
      · rw [if_neg h1, if_pos (by omega)] at h
        simp only [Option.some.injEq, Prod.mk.injEq, Int.toNat_natCast] at h
        obtain ⟨rfl, rfl⟩ := h
        refine ⟨c, by rw [Nat.mod_eq_of_lt (by omega)], by omega, by omega, by omega, ?_⟩
        rw [List.drop_eq_getElem_cons hl, show i + 1 - i = 1 by omega, List.take_succ_cons, List.take_zero, ← hg, wnumF]
    · rw [if_neg hl] at h; cases h
  | k + 1, j, i, a, x, m, hj, h => by
    rw [rnum] at h
    by_cases hl : i < b.length
    · rw [if_pos hl] at h
      have hx := byt_rd hB hl
      obtain ⟨c, hc⟩ : ∃ c : Nat, rd b i = (c : Int) := ⟨_, (Int.toNat_of_nonneg hx.1).symm⟩
      have hg := rd_nat hl
      rw [hc] at h hx hg
      by_cases h1 : (7 * j = 63 ∧ 1 < (c : Int)) ∨ (0 < 7 * j ∧ (c : Int) = 0)
      · rw [if_pos h1] at h; cases h
      · rw [if_neg h1] at h
        by_cases h2 : (c : Int) < 128
        · rw [if_pos h2] at h
          simp only [Option.some.injEq, Prod.mk.injEq, Int.toNat_natCast] at h
          obtain ⟨rfl, rfl⟩ := h
          refine ⟨c, by rw [Nat.mod_eq_of_lt (by omega)], by omega, by omega, by omega, ?_⟩
          rw [List.drop_eq_getElem_cons hl, show i + 1 - i = 1 by omega, List.take_succ_cons, List.take_zero, ← hg, wnumF, if_neg (by omega)]
        · rw [if_neg h2, show 7 * j + 7 = 7 * (j + 1) by omega] at h
          obtain ⟨v, rfl, h3, h4, h5, h6⟩ := rnum_form hB k (j + 1) (i + 1) _ x m (by omega) h
          have h3 := h3 (by omega)
          rw [Int.toNat_natCast]
          refine ⟨c % 128 + v * 128, ?_, by omega, by omega, h5, ?_⟩
          · rw [pow7, Nat.add_assoc, ← Nat.mul_assoc, ← Nat.add_mul]
          · rw [List.drop_eq_getElem_cons hl, show m - i = (m - (i + 1)) + 1 by omega, List.take_succ_cons, h6, ← hg, wnumF, if_pos (by omega), show (c % 128 + v * 128) % 128 + 128 = c by omega, show (c % 128 + v * 128) / 128 = v by omega]
    · rw [if_neg hl] at h; cases h
theorem rnum_is {b : List Int} (hB : Byt b) {x m : Nat} (h : rnum b 10 0 0 0 = some (x, m)) : b.take m = wnum x ∧ m ≤ b.length ∧ (wnum x).length = m := by
  obtain ⟨v, h1, _, h3, h4, h5⟩ := rnum_form hB 9 0 0 0 x m rfl h
  simp only [Nat.mul_zero, Nat.pow_zero, Nat.mul_one, Nat.zero_add, List.drop_zero, Nat.sub_zero] at h1 h5
  subst h1
  refine ⟨h5, h4, ?_⟩
  unfold wnum
  rw [← h5, List.length_take]
  omega
/-- A signed number, folded. -/
def fold (z : Int) : Nat := if z < 0 then 2 * (-(z + 1)).toNat + 1 else 2 * z.toNat
theorem fold_lt {z : Int} (h1 : -9223372036854775808 ≤ z) (h2 : z < 9223372036854775808) : fold z < 18446744073709551616 := by unfold fold; split <;> omega
theorem sgn_fold {z : Int} : sgn (fold z) = z := by
  unfold sgn fold
  split <;> split <;> omega
def cflag (f : Bool) : Int := if f then 1 else 0
/-- The form of bytes. -/
def wbytes (b : List Int) : List Int := wnum b.length ++ b
theorem cnt_form {b : List Int} {n most x m : Nat} (h : rnum b 10 n 0 0 = some (x, m)) (hx : x ≤ most) : cnt b n most = (0, x, m) := by
  unfold cnt
  rw [h]
  exact if_neg (by omega)
theorem rbs_form (p b q : List Int) (most : Nat) (hm : b.length ≤ most) (hb : b.length < 18446744073709551616) : rbs (p ++ wbytes b ++ q) p.length most = (0, b, p.length + (wbytes b).length) := by
  have h := rnum_wnum p (b ++ q) b.length hb
  unfold wbytes
  rw [show p ++ (wnum b.length ++ b) ++ q = p ++ wnum b.length ++ (b ++ q) by simp]
  unfold rbs
  rw [cnt_form h hm]
  dsimp only
  rw [if_pos rfl, if_neg (by simp only [List.length_append]; omega)]
  refine congrArg (Prod.mk 0) (Prod.ext ?_ (by dsimp only; rw [List.length_append]; omega))
  dsimp only
  rw [show p.length + (wnum b.length).length = (p ++ wnum b.length).length by simp, List.drop_left, List.take_left]
theorem rflag_form (p q : List Int) (f : Bool) : rflag (p ++ cflag f :: q) p.length = some f := by
  unfold rflag
  rw [if_pos (by simp), rd_mid]
  cases f <;> rfl
theorem rbs_is {b y : List Int} (hB : Byt b) {m most : Nat} (h : rbs b 0 most = (0, y, m)) : b.take m = wbytes y ∧ (wbytes y).length = m ∧ m ≤ b.length ∧ y.length ≤ most := by
  unfold rbs at h
  cases hr : rnum b 10 0 0 0 with
  | none => unfold cnt at h; rw [hr] at h; simp at h
  | some q =>
    obtain ⟨x, p⟩ := q
    unfold cnt at h
    rw [hr] at h
    dsimp only at h
    by_cases h1 : most < x
    · rw [if_pos h1] at h; simp at h
    · rw [if_neg h1] at h
      dsimp only at h
      rw [if_pos rfl] at h
      by_cases h2 : b.length - p < x
      · rw [if_pos h2] at h; simp at h
      · rw [if_neg h2] at h
        simp only [Prod.mk.injEq, true_and] at h
        obtain ⟨rfl, rfl⟩ := h
        obtain ⟨h3, h4, h5⟩ := rnum_is hB hr
        have h6 : ((b.drop p).take x).length = x := by rw [List.length_take, List.length_drop]; omega
        unfold wbytes
        refine ⟨?_, by rw [List.length_append, h6, h5], by omega, by omega⟩
        rw [h6, ← h3, List.take_add]
/-- A form that is cut short by one. -/
theorem rbs_short (y : List Int) (most : Nat) (hm : y.length ≤ most) (hb : y.length < 18446744073709551616) : rbs ((wbytes y).take ((wbytes y).length - 1)) 0 most = (4, [], 0) := by
  cases y with
  | nil =>
    have : (wbytes []).take ((wbytes []).length - 1) = [] := by decide
    rw [this]
    rfl
  | cons a l =>
    have h1 : (wbytes (a :: l)).take ((wbytes (a :: l)).length - 1) = wnum (a :: l).length ++ (a :: l).take l.length := by
      unfold wbytes
      rw [List.length_append, List.length_cons, show (wnum (l.length + 1)).length + (l.length + 1) - 1 = (wnum (l.length + 1)).length + l.length by omega, List.take_length_add_append]
    have h := rnum_wnum [] ((a :: l).take l.length) (a :: l).length hb
    rw [h1]
    simp only [List.nil_append, List.length_nil, Nat.zero_add] at h
    unfold rbs
    rw [cnt_form h hm]
    dsimp only
    rw [if_pos rfl, if_pos (by simp only [List.length_append, List.length_take, List.length_cons]; omega)]
theorem rbs_err (b : List Int) (n most : Nat) : (rbs b n most).1 = 0 ∨ ((rbs b n most).1 = 3 ∨ (rbs b n most).1 = 4) ∧ rbs b n most = ((rbs b n most).1, [], n) := by
  unfold rbs cnt
  cases rnum b 10 n 0 0 with
  | none => exact Or.inr ⟨Or.inr rfl, rfl⟩
  | some q =>
    obtain ⟨x, m⟩ := q
    dsimp only
    by_cases h1 : most < x
    · rw [if_pos h1]; exact Or.inr ⟨Or.inl rfl, rfl⟩
    · rw [if_neg h1]
      dsimp only
      rw [if_pos rfl]
      by_cases h2 : b.length - m < x
      · rw [if_pos h2]; exact Or.inr ⟨Or.inr rfl, rfl⟩
      · rw [if_neg h2]; exact Or.inl rfl
end Go.Proofs.Ytmghnbdbhdljjaa.Rd
