/- Lists of pairs, plainly: there and back, and cut short. -/
import Derived.Test.YtmghnbdbhdljjaaLq
namespace Go.Proofs.Ytmghnbdbhdljjaa.Li
open Go.RowKit Go.Proofs.YtmghnbdbhdljjaaW.PrintWords Go.Proofs.YtmghnbdbhdljjaaW.PrintLast Go.Proofs.YtmghnbdbhdljjaaW.PrintMore Go.Proofs.Ytmghnbdbhdljjaa.HS
set_option linter.unusedVariables false
set_option linter.unusedSimpArgs false
theorem rd_take {b : List Int} {c i : Nat} (h : i < c) : rd (b.take c) (i : Int) = rd b (i : Int) := by
  unfold rd
  simp only [Int.toNat_natCast, List.getD_eq_getElem?_getD, List.getElem?_take, if_pos h]
/-- What is read of a beginning. -/
theorem rnum_take (b : List Int) (c : Nat) (hc : c ≤ b.length) : ∀ (k i s n : Nat), Rd.rnum (b.take c) k i s n = (Rd.rnum b k i s n).bind fun q => if q.2 ≤ c then some q else none
  | 0, i, s, n => rfl
  | k + 1, i, s, n => by
    have hl : (b.take c).length = c := by rw [List.length_take]; omega
    by_cases h : i < c
    · rw [Rd.rnum, Rd.rnum, hl, if_pos h, if_pos (show i < b.length by omega), rd_take h]
      by_cases h1 : (s = 63 ∧ 1 < rd b i) ∨ (0 < s ∧ rd b i = 0)
      · rw [if_pos h1, if_pos h1]; rfl
      · rw [if_neg h1, if_neg h1]
        by_cases h2 : rd b i < 128
        · rw [if_pos h2, if_pos h2]
          show _ = if i + 1 ≤ c then _ else _
          rw [if_pos (by omega)]
        · rw [if_neg h2, if_neg h2]
          exact rnum_take b c hc k (i + 1) (s + 7) _
    · have hn : Rd.rnum (b.take c) (k + 1) i s n = none := by rw [Rd.rnum, hl, if_neg h]
      rw [hn]
      have key : ∀ q, Rd.rnum b (k + 1) i s n = some q → ¬ q.2 ≤ c := by
        intro q hq
        have : ∀ (k i s n : Nat) (q : Nat × Nat), Rd.rnum b k i s n = some q → i < q.2 := by
          intro k
          induction k with
          | zero => intro i s n q h; simp [Rd.rnum] at h
          | succ k ih =>
            intro i s n q h
            rw [Rd.rnum] at h
            split at h
            · split at h
              · simp at h
              · split at h
                · simp only [Option.some.injEq] at h; subst h; exact Nat.lt_succ_self _
                · have := ih _ _ _ _ h; omega
            · simp at h
        have := this _ _ _ _ _ hq
        omega
      cases hr : Rd.rnum b (k + 1) i s n with
      | none => rfl
      | some q => exact (if_neg (key q hr)).symm
theorem num1_at (pre q : List Int) (x c : Nat) (hx : x < 18446744073709551616) (hc : c ≤ (pre ++ Rd.wnum x ++ q).length) :
    Tk.num1 ((pre ++ Rd.wnum x ++ q).take c) pre.length = if pre.length + (Rd.wnum x).length ≤ c then (0, (x : Int), pre.length + (Rd.wnum x).length) else (4, 0, pre.length) := by
  unfold Tk.num1
  rw [rnum_take _ _ hc, Rd.rnum_wnum pre q x hx]
  show (match (if pre.length + (Rd.wnum x).length ≤ c then some (x, pre.length + (Rd.wnum x).length) else none) with | some (x, m) => ((0 : Int), (x : Int), m) | none => (4, 0, pre.length)) = _
  by_cases h : pre.length + (Rd.wnum x).length ≤ c
  · rw [if_pos h, if_pos h]
  · rw [if_neg h, if_neg h]
theorem pair1_at (pre q : List Int) (p : Int × Int) (c : Nat) (hp : U p) (hc : c ≤ (pre ++ pairB p ++ q).length) :
    (pre.length + (pairB p).length ≤ c → pair1 ((pre ++ pairB p ++ q).take c) pre.length = (0, p, pre.length + (pairB p).length)) ∧ (¬ pre.length + (pairB p).length ≤ c → (pair1 ((pre ++ pairB p ++ q).take c) pre.length).1 = 4) := by
  obtain ⟨a, b⟩ := p
  obtain ⟨h0, h1, h2, h3⟩ := hp
  obtain ⟨x, rfl⟩ := Int.eq_ofNat_of_zero_le h0
  obtain ⟨z, rfl⟩ := Int.eq_ofNat_of_zero_le h2
  have e1 : pre ++ pairB ((x : Int), (z : Int)) ++ q = pre ++ Rd.wnum x ++ (Rd.wnum z ++ q) := by simp [pairB]
  have e2 : pre ++ pairB ((x : Int), (z : Int)) ++ q = (pre ++ Rd.wnum x) ++ Rd.wnum z ++ q := by simp [pairB]
  have n1 := num1_at pre (Rd.wnum z ++ q) x c (by omega) (by rw [← e1]; exact hc)
  have n2 := num1_at (pre ++ Rd.wnum x) q z c (by omega) (by rw [← e2]; exact hc)
  rw [← e1] at n1
  rw [← e2, List.length_append] at n2
  have hl : (pairB ((x : Int), (z : Int))).length = (Rd.wnum x).length + (Rd.wnum z).length := by simp [pairB]
  rw [hl]
  unfold pair1
  rw [n1]
  by_cases h4 : pre.length + (Rd.wnum x).length ≤ c
  · rw [if_pos h4]
    dsimp only
    rw [if_pos rfl, n2]
    by_cases h5 : pre.length + (Rd.wnum x).length + (Rd.wnum z).length ≤ c
    · rw [if_pos h5]
      exact ⟨fun _ => by rw [Nat.add_assoc], fun h => absurd (by omega) h⟩
    · rw [if_neg h5]
      exact ⟨fun h => absurd (by omega) h5, fun _ => rfl⟩
  · rw [if_neg h4]
    dsimp only
    rw [if_neg (by decide)]
    exact ⟨fun h => absurd (by omega) h4, fun _ => rfl⟩
theorem go_at (c : Nat) : ∀ (ps : List (Int × Int)) (pre : List Int) (acc : List (Int × Int)), (∀ p ∈ ps, U p) → pre.length ≤ c → c ≤ (pre ++ (ps.map pairB).flatten).length →
    (c = (pre ++ (ps.map pairB).flatten).length → Tk.go (pair1 ((pre ++ (ps.map pairB).flatten).take c)) ps.length pre.length acc = (0, acc ++ ps, c)) ∧ (c < (pre ++ (ps.map pairB).flatten).length → (Tk.go (pair1 ((pre ++ (ps.map pairB).flatten).take c)) ps.length pre.length acc).1 = 4)
  | [], pre, acc, hu, h1, h2 => by
    simp only [List.map_nil, List.flatten_nil, List.append_nil, List.length_nil] at h2 ⊢
    exact ⟨fun h => by rw [Tk.go, h], fun h => by omega⟩
  | p :: ps, pre, acc, hu, h1, h2 => by
    have e : pre ++ ((p :: ps).map pairB).flatten = pre ++ pairB p ++ (ps.map pairB).flatten := by simp
    rw [e] at h2 ⊢
    obtain ⟨q1, q2⟩ := pair1_at pre (ps.map pairB).flatten p c (hu p (by simp)) h2
    rw [List.length_cons, Tk.go]
    by_cases h3 : pre.length + (pairB p).length ≤ c
    · rw [q1 h3]
      dsimp only
      rw [if_pos rfl]
      have ih := go_at c ps (pre ++ pairB p) (acc ++ [p]) (fun x hx => hu x (by simp [hx])) (by rw [List.length_append]; exact h3) h2
      rw [show (pre ++ pairB p).length = pre.length + (pairB p).length from List.length_append] at ih
      rw [List.append_assoc acc] at ih
      exact ih
    · have h4 := q2 h3
      have hlt : c < (pre ++ pairB p ++ (ps.map pairB).flatten).length := by simp only [List.length_append]; omega
      refine ⟨fun h => by omega, fun _ => ?_⟩
      rw [if_neg (by rw [h4]; decide)]
      exact h4
theorem cnt_at (ps : List (Int × Int)) (c most : Nat) (hl : ps.length ≤ 1048577) (hc : c ≤ (putB ps).length) :
    Rd.cnt ((putB ps).take c) 0 most = if (Rd.wnum ps.length).length ≤ c then (if most < ps.length then (3, 0, (Rd.wnum ps.length).length) else (0, ps.length, (Rd.wnum ps.length).length)) else (4, 0, 0) := by
  unfold Rd.cnt
  have h := Rd.rnum_wnum [] ((ps.map pairB).flatten) ps.length (by omega)
  simp only [List.nil_append, List.length_nil, Nat.zero_add] at h
  rw [rnum_take _ _ hc]
  unfold putB
  rw [h]
  show (match (if (Rd.wnum ps.length).length ≤ c then some (ps.length, (Rd.wnum ps.length).length) else none) with | some (x, m) => if most < x then ((3 : Int), 0, m) else (0, x, m) | none => (4, 0, 0)) = _
  by_cases h1 : (Rd.wnum ps.length).length ≤ c
  · rw [if_pos h1, if_pos h1]
  · rw [if_neg h1, if_neg h1]
theorem back (ps : List (Int × Int)) (hu : ∀ p ∈ ps, U p) (hl : ps.length ≤ 1048577) : Tk.ans (pair1 (putB ps)) (putB ps) 0 ps.length = (0, ps, (putB ps).length) := by
  have h1 : (Rd.wnum ps.length).length ≤ (putB ps).length := by unfold putB; simp
  have hc := cnt_at ps (putB ps).length ps.length hl (Nat.le_refl _)
  rw [List.take_length, if_pos h1, if_neg (Nat.lt_irrefl _)] at hc
  have hg := (go_at (putB ps).length ps (Rd.wnum ps.length) [] hu h1 (Nat.le_refl _)).1 rfl
  rw [show Rd.wnum ps.length ++ (ps.map pairB).flatten = putB ps from rfl, List.take_length] at hg
  unfold Tk.ans Tk.all
  rw [hc]
  dsimp only
  rw [if_pos rfl, hg]
  rfl
theorem fewer (ps : List (Int × Int)) (h0 : 0 < ps.length) (hl : ps.length ≤ 1048577) : Tk.ans (pair1 (putB ps)) (putB ps) 0 (ps.length - 1) = (3, [], 0) := by
  have h1 : (Rd.wnum ps.length).length ≤ (putB ps).length := by unfold putB; simp
  have hc := cnt_at ps (putB ps).length (ps.length - 1) hl (Nat.le_refl _)
  rw [List.take_length, if_pos h1, if_pos (by omega)] at hc
  unfold Tk.ans Tk.all
  rw [hc]
  rfl
theorem short (ps : List (Int × Int)) (hu : ∀ p ∈ ps, U p) (hl : ps.length ≤ 1048577) (c : Nat) (hc : c < (putB ps).length) : Tk.ans (pair1 ((putB ps).take c)) ((putB ps).take c) 0 ps.length = (4, [], 0) := by
  have h := cnt_at ps c ps.length hl (Nat.le_of_lt hc)
  unfold Tk.ans Tk.all
  rw [h]
  by_cases h1 : (Rd.wnum ps.length).length ≤ c
  · rw [if_pos h1, if_neg (Nat.lt_irrefl _)]
    dsimp only
    rw [if_pos rfl]
    have hg := (go_at c ps (Rd.wnum ps.length) [] hu h1 (Nat.le_of_lt hc)).2 hc
    rw [show Rd.wnum ps.length ++ (ps.map pairB).flatten = putB ps from rfl] at hg
    rw [hg, if_neg (by decide)]
  · rw [if_neg h1]
    rfl
theorem putB_byt (ps : List (Int × Int)) (hu : ∀ p ∈ ps, U p) (hl : ps.length ≤ 1048577) : Rd.Byt (putB ps) := by
  unfold putB
  intro x hx
  rcases List.mem_append.1 hx with h | h
  · exact Rd.wnum_byt (by omega) x h
  · obtain ⟨l, h1, h2⟩ := List.mem_flatten.1 h
    obtain ⟨p, hp, rfl⟩ := List.mem_map.1 h1
    obtain ⟨a0, a1, b0, b1⟩ := hu p hp
    unfold pairB at h2
    rcases List.mem_append.1 h2 with h | h
    · exact Rd.wnum_byt (by omega) x h
    · exact Rd.wnum_byt (by omega) x h
theorem putB_len (ps : List (Int × Int)) : (putB ps).length ≤ 10 + 20 * ps.length := by
  have := put_len ps ps.length
  rwa [List.take_length] at this
end Go.Proofs.Ytmghnbdbhdljjaa.Li
