/- tid, plainly: decimal numerals, a word's text, there and back. -/
import Derived.Lib.ItoaLen
import Derived.Lib.ParseIntB
import Derived.Lib.IndexBytes
import Derived.Lib.SlTrimSet
namespace Go.Proofs.YtdgcgaibkiobjaaDoor.Tp
open Go
set_option linter.unusedVariables false
set_option linter.unusedSimpArgs false
abbrev dig := Lib.decDigits
def isD (c : UInt8) : Prop := 48 ≤ c.toNat ∧ c.toNat ≤ 57
instance (c : UInt8) : Decidable (isD c) := inferInstanceAs (Decidable (_ ∧ _))
def val (a : Nat) (l : List UInt8) : Nat := l.foldl (fun a c => a * 10 + (c.toNat - 48)) a
theorem val_append (a : Nat) (l m : List UInt8) : val a (l ++ m) = val (val a l) m := by unfold val; rw [List.foldl_append]
theorem dc_nat (d : Nat) (h : d < 10) : (UInt8.ofNat (48 + d)).toNat = 48 + d := by
  rw [UInt8.toNat_ofNat']
  omega
theorem isD_dc (d : Nat) (h : d < 10) : isD (UInt8.ofNat (48 + d)) := by unfold isD; rw [dc_nat d h]; omega
theorem dig_lt (u : Nat) (h : u < 10) : dig u = [UInt8.ofNat (48 + u)] := by unfold dig; rw [Lib.decDigits, dif_pos h]
theorem dig_ge (u : Nat) (h : ¬ u < 10) : dig u = dig (u / 10) ++ [UInt8.ofNat (48 + u % 10)] := by
  show Lib.decDigits u = Lib.decDigits (u / 10) ++ _
  rw [Lib.decDigits, dif_neg h]
theorem dig_facts : ∀ (k u : Nat), u < 10 ^ (k + 1) → (∀ c ∈ dig u, isD c) ∧ val 0 (dig u) = u ∧ (∃ c r, dig u = c :: r ∧ (0 < u → c.toNat ≠ 48)) ∧ (dig u).length ≤ k + 1
  | 0, u, h => by
    have h1 : u < 10 := by simpa using h
    rw [dig_lt u h1]
    refine ⟨fun c hc => ?_, ?_, ⟨_, _, rfl, fun h0 => ?_⟩, by simp⟩
    · rw [List.mem_singleton] at hc; rw [hc]; exact isD_dc u h1
    · simp only [val, List.foldl_cons, List.foldl_nil]; rw [dc_nat u h1]; omega
    · rw [dc_nat u h1]; omega
  | k + 1, u, h => by
    by_cases h1 : u < 10
    · rw [dig_lt u h1]
      refine ⟨fun c hc => ?_, ?_, ⟨_, _, rfl, fun h0 => ?_⟩, by simp⟩
      · rw [List.mem_singleton] at hc; rw [hc]; exact isD_dc u h1
      · simp only [val, List.foldl_cons, List.foldl_nil]; rw [dc_nat u h1]; omega
      · rw [dc_nat u h1]; omega
    · obtain ⟨g1, g2, ⟨c, r, g3, g4⟩, g5⟩ := dig_facts k (u / 10) (by rw [Nat.pow_succ] at h; omega)
      rw [dig_ge u h1]
      have hm : u % 10 < 10 := Nat.mod_lt _ (by omega)
      refine ⟨fun c hc => ?_, ?_, ⟨c, r ++ [UInt8.ofNat (48 + u % 10)], by rw [g3]; rfl, fun _ => g4 (by omega)⟩, by simp; omega⟩
      · rcases List.mem_append.1 hc with hc | hc
        · exact g1 c hc
        · rw [List.mem_singleton] at hc; rw [hc]; exact isD_dc _ hm
      · rw [val_append, g2]
        simp only [val, List.foldl_cons, List.foldl_nil]
        rw [dc_nat _ hm]
        omega
theorem dig_all (u : Nat) : (∀ c ∈ dig u, isD c) ∧ val 0 (dig u) = u ∧ (∃ c r, dig u = c :: r ∧ (0 < u → c.toNat ≠ 48)) := by
  have h : u < 10 ^ (u + 1) := Nat.lt_of_lt_of_le (Nat.lt_pow_self (by omega : 1 < 10)) (Nat.pow_le_pow_right (by omega) (by omega))
  obtain ⟨h1, h2, h3, _⟩ := dig_facts u u h
  exact ⟨h1, h2, h3⟩
theorem dig_len (u : Nat) (h : u < 10000000000) : (dig u).length ≤ 10 := (dig_facts 9 u (by simpa using h)).2.2.2
theorem val_ge (l : List UInt8) : ∀ a : Nat, a ≤ val a l := by
  induction l with
  | nil => intro a; exact Nat.le_refl _
  | cons c l ih => intro a; exact Nat.le_trans (by omega : a ≤ a * 10 + (c.toNat - 48)) (ih _)
/-- A numeral with no nought ahead is its number's. -/
theorem dig_val : ∀ (n : Nat) (l : List UInt8), l.length = n → l ≠ [] → (∀ c ∈ l, isD c) → (∀ c r, l = c :: r → c.toNat = 48 → r = []) → dig (val 0 l) = l
  | 0, l, hn, h0, _, _ => absurd (List.eq_nil_of_length_eq_zero hn) h0
  | n + 1, l, hn, h0, hd, hz => by
    obtain ⟨m, c, rfl⟩ : ∃ m c, l = m ++ [c] := ⟨l.dropLast, l.getLast h0, (List.dropLast_concat_getLast h0).symm⟩
    have hc := hd c (by simp)
    unfold isD at hc
    have hcc : UInt8.ofNat (48 + (c.toNat - 48)) = c := by
      apply UInt8.toNat_inj.1
      rw [dc_nat _ (by omega)]
      omega
    have hv : val 0 (m ++ [c]) = val 0 m * 10 + (c.toNat - 48) := by rw [val_append]; rfl
    rw [hv]
    cases m with
    | nil =>
      rw [show val 0 [] * 10 + (c.toNat - 48) = c.toNat - 48 by simp [val], dig_lt _ (by omega), hcc]
      rfl
    | cons b m =>
      have hb : b.toNat ≠ 48 := fun e => by have := hz b (m ++ [c]) rfl e; simp at this
      have hbd := hd b (by simp)
      unfold isD at hbd
      have hp : 0 < val 0 (b :: m) := Nat.lt_of_lt_of_le (by omega : 0 < 0 * 10 + (b.toNat - 48)) (val_ge m _)
      have ih := dig_val n (b :: m) (by simpa using hn) (by simp) (fun x hx => hd x (List.mem_append_left _ hx)) (fun x r e hx => by cases e; exact absurd hx hb)
      rw [dig_ge _ (by omega), show (val 0 (b :: m) * 10 + (c.toNat - 48)) / 10 = val 0 (b :: m) by omega, show (val 0 (b :: m) * 10 + (c.toNat - 48)) % 10 = c.toNat - 48 by omega, ih, hcc]
/-- What the reference's number reads. -/
def numR (l : List UInt8) : Int := if l = [] ∨ 12 < l.length ∨ (l.head? = some 48 ∧ 1 < l.length) then -1 else if ∀ c ∈ l, isD c then (val 0 l : Int) else -1
theorem numR_dig (u : Nat) (h : u < 10000000000) : numR (dig u) = (u : Int) := by
  obtain ⟨h1, h2, ⟨c, r, h3, h4⟩⟩ := dig_all u
  have h5 := dig_len u h
  unfold numR
  rw [if_neg, if_pos h1, h2]
  rintro (h | h | ⟨h, h'⟩)
  · rw [h3] at h; cases h
  · omega
  · by_cases h0 : 0 < u
    · rw [h3] at h
      have := h4 h0
      simp only [List.head?_cons, Option.some.injEq] at h
      rw [h] at this
      exact this rfl
    · have : u = 0 := by omega
      rw [this, dig_lt 0 (by omega)] at h'
      simp at h'
theorem numR_is {l : List UInt8} (h : 0 ≤ numR l) : ∃ u : Nat, numR l = (u : Int) ∧ l = dig u := by
  unfold numR at h ⊢
  by_cases h1 : l = [] ∨ 12 < l.length ∨ (l.head? = some 48 ∧ 1 < l.length)
  · rw [if_pos h1] at h; omega
  · rw [if_neg h1] at h ⊢
    by_cases h2 : ∀ c ∈ l, isD c
    · rw [if_pos h2]
      refine ⟨_, rfl, (dig_val _ l rfl (fun e => h1 (Or.inl e)) h2 (fun c r e hc => ?_)).symm⟩
      subst e
      cases r with
      | nil => rfl
      | cons x r => exact absurd (Or.inr (Or.inr ⟨by simp only [List.head?_cons]; exact congrArg some (UInt8.toNat_inj.1 (by rw [hc]; rfl)), by simp⟩)) h1
    · rw [if_neg h2] at h; omega
/-! ### a word's text -/
def suf (L d a : Bool) : List UInt8 := (if L = true then [76] else []) ++ ((if d = true then [68] else []) ++ (if a = true then [65] else []))
def canon (e n : Nat) (L d a : Bool) : List UInt8 := dig e ++ 46 :: (dig n ++ suf L d a)
def strip (c : UInt8) (l : List UInt8) : List UInt8 × Bool := if l.getLast? = some c then (l.dropLast, true) else (l, false)
/-- Up to the first point, and behind it. -/
def dotAt : List UInt8 → Option (List UInt8 × List UInt8)
  | [] => none
  | c :: r => if c = 46 then some ([], r) else match dotAt r with | some (x, y) => some (c :: x, y) | none => none
def refP (l : List UInt8) : Option (Int × Int × Bool × Bool × Bool) :=
  let (l1, a) := strip 65 l
  let (l2, d) := strip 68 l1
  let (l3, L) := strip 76 l2
  match dotAt l3 with
  | none => none
  | some (x, y) => if 0 ≤ numR x ∧ numR x ≤ 16777215 ∧ 0 ≤ numR y ∧ numR y ≤ 2147483647 then some (numR x, numR y, L, d, a) else none
theorem strip_eq (c : UInt8) (l : List UInt8) : l = (strip c l).1 ++ (if (strip c l).2 = true then [c] else []) := by
  unfold strip
  by_cases h : l.getLast? = some c
  · rw [if_pos h]
    obtain ⟨hne, hl⟩ : ∃ hne, l.getLast hne = c := by
      cases l with
      | nil => simp at h
      | cons x l => exact ⟨by simp, by rw [List.getLast?_eq_some_getLast (by simp)] at h; exact Option.some.inj h⟩
    simp only [if_true]
    rw [← hl, List.dropLast_concat_getLast]
  · rw [if_neg h]; simp
theorem dotAt_eq : ∀ (l x y : List UInt8), dotAt l = some (x, y) → l = x ++ 46 :: y
  | [], x, y, h => by cases h
  | c :: r, x, y, h => by
    rw [dotAt] at h
    by_cases hc : c = 46
    · rw [if_pos hc] at h; cases h; rw [hc]; rfl
    · rw [if_neg hc] at h
      cases hd : dotAt r with
      | none => rw [hd] at h; cases h
      | some q =>
        obtain ⟨x', y'⟩ := q
        rw [hd] at h
        cases h
        rw [dotAt_eq r _ _ hd]
        rfl
theorem dotAt_mk : ∀ (x y : List UInt8), (∀ c ∈ x, c ≠ 46) → dotAt (x ++ 46 :: y) = some (x, y)
  | [], y, _ => by simp [dotAt]
  | c :: x, y, h => by
    rw [List.cons_append, dotAt, if_neg (h c (by simp)), dotAt_mk x y (fun c hc => h c (List.mem_cons_of_mem _ hc))]
theorem strip_mk (c : UInt8) (l : List UInt8) (b : Bool) (h : l.getLast? ≠ some c) : strip c (l ++ if b = true then [c] else []) = (l, b) := by
  unfold strip
  cases b with
  | true => simp
  | false => simp only [Bool.false_eq_true, if_false, List.append_nil]; rw [if_neg h]
theorem dig_last (n : Nat) (p : List UInt8) : ∃ c, (p ++ dig n).getLast? = some c ∧ isD c := by
  obtain ⟨h1, _, ⟨c, r, h3, _⟩⟩ := dig_all n
  have hne : dig n ≠ [] := by rw [h3]; simp
  refine ⟨(dig n).getLast hne, ?_, h1 _ (List.getLast_mem hne)⟩
  rw [List.getLast?_append, List.getLast?_eq_some_getLast hne]
  rfl
theorem isD_ne {c x : UInt8} (h : isD c) (hx : ¬ (48 ≤ x.toNat ∧ x.toNat ≤ 57)) : c ≠ x := fun e => hx (e ▸ h)
/-- A text that the reference takes is its word's. -/
theorem refP_is {l : List UInt8} {e n : Int} {L d a : Bool} (h : refP l = some (e, n, L, d, a)) : ∃ u v : Nat, e = (u : Int) ∧ n = (v : Int) ∧ u ≤ 16777215 ∧ v ≤ 2147483647 ∧ l = canon u v L d a := by
  unfold refP at h
  have e1 := strip_eq 65 l
  generalize strip 65 l = q1 at h e1
  obtain ⟨l1, a'⟩ := q1
  dsimp only at h e1
  have e2 := strip_eq 68 l1
  generalize strip 68 l1 = q2 at h e2
  obtain ⟨l2, d'⟩ := q2
  dsimp only at h e2
  have e3 := strip_eq 76 l2
  generalize strip 76 l2 = q3 at h e3
  obtain ⟨l3, L'⟩ := q3
  dsimp only at h e3
  cases hd : dotAt l3 with
  | none => rw [hd] at h; cases h
  | some q =>
    obtain ⟨x, y⟩ := q
    rw [hd] at h
    dsimp only at h
    by_cases hb : 0 ≤ numR x ∧ numR x ≤ 16777215 ∧ 0 ≤ numR y ∧ numR y ≤ 2147483647
    · rw [if_pos hb] at h
      simp only [Option.some.injEq, Prod.mk.injEq] at h
      obtain ⟨rfl, rfl, rfl, rfl, rfl⟩ := h
      obtain ⟨u, hu, hx⟩ := numR_is hb.1
      obtain ⟨v, hv, hy⟩ := numR_is hb.2.2.1
      refine ⟨u, v, hu, hv, by omega, by omega, ?_⟩
      rw [e1, e2, e3, dotAt_eq l3 x y hd, hx, hy]
      unfold canon suf
      simp
    · rw [if_neg hb] at h; cases h
theorem refP_canon (e n : Nat) (L d a : Bool) (he : e ≤ 16777215) (hn : n ≤ 2147483647) : refP (canon e n L d a) = some ((e : Int), (n : Int), L, d, a) := by
  have hc : canon e n L d a = (((dig e ++ 46 :: dig n) ++ (if L = true then [76] else [])) ++ (if d = true then [68] else [])) ++ (if a = true then [65] else []) := by unfold canon suf; simp
  obtain ⟨c, hc1, hc2⟩ := dig_last n (dig e ++ [46])
  have hl0 : (dig e ++ 46 :: dig n).getLast? = some c := by rw [← hc1]; simp
  have h3 : (dig e ++ 46 :: dig n).getLast? ≠ some 76 := by rw [hl0]; intro h; exact isD_ne hc2 (by decide) (Option.some.inj h)
  have h2 : ((dig e ++ 46 :: dig n) ++ (if L = true then [76] else [])).getLast? ≠ some 68 := by
    cases L
    · simp only [Bool.false_eq_true, if_false, List.append_nil]; rw [hl0]; intro h; exact isD_ne hc2 (by decide) (Option.some.inj h)
    · simp only [if_true]; rw [List.getLast?_concat]; decide
  have h1 : (((dig e ++ 46 :: dig n) ++ (if L = true then [76] else [])) ++ (if d = true then [68] else [])).getLast? ≠ some 65 := by
    cases d
    · simp only [Bool.false_eq_true, if_false, List.append_nil]
      cases L
      · simp only [Bool.false_eq_true, if_false, List.append_nil]; rw [hl0]; intro h; exact isD_ne hc2 (by decide) (Option.some.inj h)
      · simp only [if_true]; rw [List.getLast?_concat]; decide
    · simp only [if_true]; rw [List.getLast?_concat]; decide
  unfold refP
  rw [hc, strip_mk 65 _ a h1]
  dsimp only
  rw [strip_mk 68 _ d h2]
  dsimp only
  rw [strip_mk 76 _ L h3]
  dsimp only
  rw [dotAt_mk _ _ (fun c hc => isD_ne ((dig_all e).1 c hc) (by decide))]
  dsimp only
  rw [numR_dig e (by omega), numR_dig n (by omega), if_pos (by omega)]
/-! ### what the library's functions read of it -/
theorem trim_canon (e n : Nat) (L d a : Bool) : Lib.trimRightS (canon e n L d a) [76, 68, 65] = dig e ++ 46 :: dig n := by
  have hc : canon e n L d a = (dig e ++ 46 :: dig n) ++ suf L d a := by unfold canon; simp
  have hs : ∀ c ∈ (suf L d a).reverse, ([76, 68, 65] : List UInt8).contains c = true := by cases L <;> cases d <;> cases a <;> decide
  obtain ⟨c, hc1, hc2⟩ := dig_last n (dig e ++ [46])
  have hl0 : (dig e ++ 46 :: dig n).getLast? = some c := by rw [← hc1]; simp
  have hct : ([76, 68, 65] : List UInt8).contains c = false := by
    have := hc2
    unfold isD at this
    simp only [List.contains_cons, List.contains_nil, Bool.or_false, Bool.or_eq_false_iff, beq_eq_false_iff_ne]
    exact ⟨isD_ne hc2 (by decide), isD_ne hc2 (by decide), isD_ne hc2 (by decide)⟩
  unfold Lib.trimRightS
  rw [hc, List.reverse_append, List.dropWhile_append_of_pos hs]
  obtain ⟨r, hr⟩ : ∃ r, (dig e ++ 46 :: dig n).reverse = c :: r := by
    cases h : (dig e ++ 46 :: dig n).reverse with
    | nil => simp at h
    | cons x r =>
      refine ⟨r, ?_⟩
      have : (dig e ++ 46 :: dig n).reverse.head? = some c := by rw [List.head?_reverse]; exact hl0
      rw [h] at this
      simp only [List.head?_cons, Option.some.injEq] at this
      rw [this]
  rw [hr, List.dropWhile_cons_of_neg (by rw [hct]; simp), ← hr, List.reverse_reverse]
theorem index_append : ∀ (x y : List UInt8), (∀ c ∈ x, c ≠ 46) → Lib.indexByte (x ++ 46 :: y) 46 = (x.length : Int)
  | [], y, _ => by simp [Lib.indexByte]
  | c :: x, y, h => by
    have hc := h c (by simp)
    rw [List.cons_append, Lib.indexByte, if_neg (by simpa using hc), index_append x y (fun c hc => h c (List.mem_cons_of_mem _ hc)), if_neg (by first | (simp; done) | (simp; omega))]
    simp
theorem parseM_dig (M : Nat) : ∀ (l : List UInt8) (a : Nat), (∀ c ∈ l, isD c) → val a l ≤ M → M < 18446744073709551616 → Lib.parseUintM M a l = .ok (val a l)
  | [], a, _, _, _ => rfl
  | c :: r, a, h, hv, hM => by
    have hc := h c (by simp)
    unfold isD at hc
    have hle : a * 10 + (c.toNat - 48) ≤ val (a * 10 + (c.toNat - 48)) r := val_ge r _
    have hv' : val (a * 10 + (c.toNat - 48)) r ≤ M := hv
    rw [Lib.parseUintM, if_pos hc, if_neg (by omega), if_neg (by omega)]
    exact parseM_dig M r _ (fun c hc => h c (List.mem_cons_of_mem _ hc)) hv hM
theorem parse_dig (B u : Nat) (hB : B = 32 ∨ B = 64) (h : u < 2147483648) : Lib.parseIntB B (dig u) = .ok (u : Int) := by
  obtain ⟨h1, h2, ⟨c, r, h3, _⟩⟩ := dig_all u
  have hc := h1 c (by rw [h3]; simp)
  unfold isD at hc
  have hM : Lib.parseUintB B (dig u) = .ok u := by
    unfold Lib.parseUintB
    rw [if_neg (by rw [h3]; simp)]
    have h4 := parseM_dig (2 ^ B - 1) (dig u) 0 h1 (by rw [h2]; rcases hB with rfl | rfl <;> omega) (by rcases hB with rfl | rfl <;> decide)
    rw [h2] at h4
    exact h4
  unfold Lib.parseIntB
  rw [h3] at hM ⊢
  dsimp only
  rw [if_neg (by omega), hM]
  dsimp only
  rw [if_neg (by rintro ⟨_, h5⟩; rcases hB with rfl | rfl <;> simp at h5 <;> omega), if_neg (by omega), if_neg (by omega)]
end Go.Proofs.YtdgcgaibkiobjaaDoor.Tp
