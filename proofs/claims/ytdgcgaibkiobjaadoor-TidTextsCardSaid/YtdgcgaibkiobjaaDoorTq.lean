/- tid: what the reference's printed functions answer, plainly. -/
import Derived.Test.YtdgcgaibkiobjaaDoorHTx2
import Derived.Test.YtdgcgaibkiobjaaDoorTp
import Derived.Test.YtdgcgaibkiobjaaDoorTt
namespace Go.Proofs.YtdgcgaibkiobjaaDoor.Tp
open Go Go.RowKit Go.Proofs.YtdgcgaibkiobjaaDoorW.PrintWords Go.Proofs.YtdgcgaibkiobjaaDoor.HT
set_option linter.unusedVariables false
set_option linter.unusedSimpArgs false
def B (l : List UInt8) : ByteArray := ⟨l.toArray⟩
theorem B_append (l m : List UInt8) : B l ++ B m = B (l ++ m) := by
  apply ByteArray.ext
  unfold B
  rw [ByteArray.data_append]
  simp
theorem B_size (l : List UInt8) : (B l).size = l.length := by unfold B; simp [ByteArray.size]
theorem B_list (l : List UInt8) : (B l).data.toList = l := by unfold B; simp
theorem B_of (s : ByteArray) : s = B s.data.toList := by unfold B; simp
theorem B_bt (l : List UInt8) (i : Nat) (h : i < l.length) : bt (B l) (i : Int) = ((l[i]'h).toNat : Int) := by
  unfold bt
  have h2 : (i : Int).toNat < (B l).size := by rw [B_size]; simpa using h
  rw [dif_pos h2]
  simp [B, ByteArray.getElem_eq_getElem_data]
theorem B_extract (l : List UInt8) (i j : Nat) : (B l).extract i j = B ((l.take j).drop i) := by
  apply ByteArray.ext
  unfold B
  rw [ByteArray.data_extract]
  simp [List.take_drop]
  rcases Nat.le_total i j with h | h
  · rw [Nat.add_sub_cancel' h]
  · rw [Nat.sub_eq_zero_of_le h, Nat.add_zero, List.drop_take, List.drop_take, Nat.sub_self, Nat.sub_eq_zero_of_le h]
theorem strs (d : Nat) (h : d < 10) : strOfNums [((48 + d : Nat) : Int)] = B [UInt8.ofNat (48 + d)] := by
  have e : (((48 + d : Nat) : Int)).toNat = 48 + d := by omega
  unfold strOfNums B
  simp only [List.map_cons, List.map_nil, e]
theorem digits_go : ∀ (k u : Nat) (l : List UInt8), u < 10 ^ (k + 1) → u < 9223372036854775808 → l.length + k ≤ 1000 → garnerref07_digits.l0 (k + 1) (u : Int) (B l) = some (B (dig u ++ l))
  | 0, u, l, h, h2, h3 => by
    have h1 : u < 10 := by simpa using h
    have e1 : (wrap64 (48 + Int.tmod (u : Int) 10)) % 256 = ((48 + u : Nat) : Int) := by
      rw [Int.tmod_eq_emod_of_nonneg (by omega)]; unfold wrap64; omega
    have e2 : wrap64 (Int.tdiv (u : Int) 10) = 0 := by rw [Int.tdiv_eq_ediv_of_nonneg (by omega)]; unfold wrap64; omega
    rw [garnerref07_digits.l0]
    simp only [Option.bind_some]
    rw [e1, e2, strs u h1, if_pos (by rw [B_size, B_size]; simp; omega), if_pos rfl, B_append, dig_lt u h1]
  | k + 1, u, l, h, h2, h3 => by
    have hm : u % 10 < 10 := Nat.mod_lt _ (by omega)
    have e1 : (wrap64 (48 + Int.tmod (u : Int) 10)) % 256 = ((48 + u % 10 : Nat) : Int) := by
      rw [Int.tmod_eq_emod_of_nonneg (by omega)]; unfold wrap64; omega
    have e2 : wrap64 (Int.tdiv (u : Int) 10) = ((u / 10 : Nat) : Int) := by rw [Int.tdiv_eq_ediv_of_nonneg (by omega)]; unfold wrap64; omega
    rw [garnerref07_digits.l0]
    simp only [Option.bind_some]
    rw [e1, e2, strs _ hm, if_pos (by rw [B_size, B_size]; simp; omega), B_append]
    by_cases h1 : u < 10
    · rw [if_pos (by omega), dig_lt u h1, Nat.mod_eq_of_lt h1]
    · rw [if_neg (by omega), digits_go k (u / 10) _ (by rw [Nat.pow_succ] at h; omega) (by omega) (by simp; omega), dig_ge u h1]
      simp
theorem digits_f (u : Nat) (h : u < 10000000000) : garnerref07_digits.f 20 (u : Int) = some (B (dig u)) := by
  have := digits_go 19 u [] (by have : (10 : Nat) ^ (19 + 1) = 100000000000000000000 := by decide
                                omega) (by omega) (by simp)
  unfold garnerref07_digits.f
  rw [List.append_nil] at this
  exact this
theorem text_canon (e n : Nat) (L d a : Bool) : Tk.textOf (B (dig e)) (B (dig n)) L d a = B (canon e n L d a) := by
  have h : ∀ l : List UInt8, (⟨l.toArray⟩ : ByteArray) = B l := fun _ => rfl
  have h1 : (⟨#[46]⟩ : ByteArray) = B [46] := rfl
  have h2 : (⟨#[76]⟩ : ByteArray) = B [76] := rfl
  have h3 : (⟨#[68]⟩ : ByteArray) = B [68] := rfl
  have h4 : (⟨#[65]⟩ : ByteArray) = B [65] := rfl
  cases L <;> cases d <;> cases a <;> simp only [Tk.textOf, h1, h2, h3, h4, B_append] <;> simp [canon, suf]
theorem word_text_f (e n : Nat) (L d a : Bool) (he : e < 10000000000) (hn : n < 10000000000) : garnerref07_Word_Text.f 20 (e : Int) (n : Int) L d a = some (B (canon e n L d a)) := by
  rw [← text_canon]
  unfold garnerref07_Word_Text.f
  have z1 := dig_len e he
  have z2 := dig_len n hn
  have s1 : (B (dig e)).size = (dig e).length := B_size _
  have s2 : (B (dig n)).size = (dig n).length := B_size _
  have p46 : (⟨#[46]⟩ : ByteArray).size = 1 := rfl
  have p76 : (⟨#[76]⟩ : ByteArray).size = 1 := rfl
  have p68 : (⟨#[68]⟩ : ByteArray).size = 1 := rfl
  have c1 : (B (dig e)).size + 1 ≤ 9223372036854775807 := by omega
  have c2 : ((B (dig e)) ++ (⟨#[46]⟩ : ByteArray)).size + (B (dig n)).size ≤ 9223372036854775807 := by rw [ByteArray.size_append]; omega
  have c3 : (((B (dig e)) ++ (⟨#[46]⟩ : ByteArray)) ++ B (dig n)).size + 1 ≤ 9223372036854775807 := by simp only [ByteArray.size_append]; omega
  have c4 : ((((B (dig e)) ++ (⟨#[46]⟩ : ByteArray)) ++ B (dig n)) ++ (⟨#[76]⟩ : ByteArray)).size + 1 ≤ 9223372036854775807 := by simp only [ByteArray.size_append]; omega
  have c5 : ((((B (dig e)) ++ (⟨#[46]⟩ : ByteArray)) ++ B (dig n)) ++ (⟨#[68]⟩ : ByteArray)).size + 1 ≤ 9223372036854775807 := by simp only [ByteArray.size_append]; omega
  have c6 : (((((B (dig e)) ++ (⟨#[46]⟩ : ByteArray)) ++ B (dig n)) ++ (⟨#[76]⟩ : ByteArray)) ++ (⟨#[68]⟩ : ByteArray)).size + 1 ≤ 9223372036854775807 := by simp only [ByteArray.size_append]; omega
  rw [digits_f e he]
  simp only [Option.bind_some]
  rw [if_pos c1, digits_f n hn]
  simp only [Option.bind_some]
  rw [if_pos c2]
  cases L <;> cases d <;> cases a <;> simp only [if_true, Bool.false_eq_true, if_false, if_pos c3, garnerref07_Word_Text.j0, if_pos c4, if_pos c5, if_pos c6, Tk.textOf]
theorem val_lt : ∀ (l : List UInt8) (a : Nat), (∀ c ∈ l, isD c) → val a l < (a + 1) * 10 ^ l.length
  | [], a, _ => by simp [val]
  | c :: l, a, h => by
    have hc := h c (by simp)
    unfold isD at hc
    have ih := val_lt l (a * 10 + (c.toNat - 48)) (fun c hc => h c (List.mem_cons_of_mem _ hc))
    refine Nat.lt_of_lt_of_le ih ?_
    rw [List.length_cons, Nat.pow_succ, Nat.mul_comm (10 ^ l.length) 10, ← Nat.mul_assoc]
    exact Nat.mul_le_mul_right _ (by omega)
theorem num_step (v t : Nat) (hv : v < 1000000000000) (h1 : 48 ≤ t) (h2 : t ≤ 57) : wrap64 (wrap64 (10 * (v : Int)) + ((t : Int) - 48) % 256) = ((v * 10 + (t - 48) : Nat) : Int) := by
  have a : wrap64 (10 * (v : Int)) = 10 * (v : Int) := by unfold wrap64; omega
  have b : ((t : Int) - 48) % 256 = (t : Int) - 48 := by omega
  rw [a, b]
  unfold wrap64
  omega
theorem number_go (l : List UInt8) (hl : l.length ≤ 12) : ∀ (r p : List UInt8) (k : Nat), l = p ++ r → (∀ c ∈ p, isD c) → r.length < k → garnerref07_number.l0 k (B l) ((val 0 p : Nat) : Int) (p.length : Int) = some (if ∀ c ∈ r, isD c then ((val 0 l : Nat) : Int) else -1) := by
  intro r
  induction r with
  | nil =>
    intro p k0 e hp hk
    obtain ⟨k, rfl⟩ : ∃ j, k0 = j + 1 := ⟨k0 - 1, by simp at hk; omega⟩
    rw [garnerref07_number.l0, if_neg (by rw [B_size, e]; simp), if_pos (by simp), e, List.append_nil]
  | cons c r ih =>
    intro p k0 e hp hk
    obtain ⟨k, rfl⟩ : ∃ j, k0 = j + 1 := ⟨k0 - 1, by simp at hk; omega⟩
    have hi : p.length < l.length := by rw [e]; simp
    have hb : bt (B l) (p.length : Int) = (c.toNat : Int) := by rw [B_bt l _ hi]; simp [e]
    rw [garnerref07_number.l0, if_pos (by rw [B_size]; omega), if_pos (by omega), hb]
    by_cases h1 : (c.toNat : Int) < 48
    · rw [if_pos h1, if_neg]
      intro h; have := h c (by simp); unfold isD at this; omega
    · rw [if_neg h1]
      by_cases h2 : (c.toNat : Int) > 57
      · rw [if_pos h2, if_neg]
        intro h; have := h c (by simp); unfold isD at this; omega
      · rw [if_neg h2]
        have hd : isD c := by unfold isD; omega
        have hv := val_lt p 0 hp
        have hp12 : 10 ^ p.length ≤ 10 ^ 12 := Nat.pow_le_pow_right (by omega) (by omega)
        have e12 : (10 : Nat) ^ 12 = 1000000000000 := by decide
        have hw : wrap64 (wrap64 (10 * ((val 0 p : Nat) : Int)) + ((c.toNat : Int) - 48) % 256) = ((val 0 (p ++ [c]) : Nat) : Int) := by
          have hq : val 0 (p ++ [c]) = val 0 p * 10 + (c.toNat - 48) := by rw [val_append]; rfl
          rw [hq]
          exact num_step _ _ (Nat.lt_of_lt_of_le hv (by omega)) (by omega) (by omega)
        have hw2 : wrap64 ((p.length : Int) + 1) = (((p ++ [c]).length : Nat) : Int) := by unfold wrap64; simp; omega
        rw [hw, hw2, ih (p ++ [c]) k (by rw [e]; simp) (fun x hx => by rcases List.mem_append.1 hx with hx | hx; exact hp x hx; rw [List.mem_singleton.1 hx]; exact hd) (by simp at hk; omega)]
        by_cases h3 : ∀ c ∈ r, isD c
        · rw [if_pos h3, if_pos (fun x hx => by rcases List.mem_cons.1 hx with rfl | hx; exact hd; exact h3 x hx)]
        · rw [if_neg h3, if_neg (fun h => h3 (fun x hx => h x (List.mem_cons_of_mem _ hx)))]
theorem number_f (l : List UInt8) (k : Nat) (hk : 14 ≤ k) (hl : l.length ≤ 1000) : garnerref07_number.f k (B l) = some (numR l) := by
  obtain ⟨k, rfl⟩ : ∃ j, k = j + 1 := ⟨k - 1, by omega⟩
  unfold garnerref07_number.f numR
  rw [B_size]
  cases l with
  | nil => simp [garnerref07_number.j0]
  | cons c r =>
    rw [if_neg (by first | (simp; done) | (simp; omega))]
    by_cases h12 : 12 < (c :: r).length
    · rw [if_pos (by omega), if_pos (Or.inr (Or.inl h12))]
      simp [garnerref07_number.j0]
    · have hb : bt (B (c :: r)) 0 = (c.toNat : Int) := B_bt (c :: r) 0 (by simp)
      have go := number_go (c :: r) (by omega) (c :: r) [] k rfl (by simp) (by omega)
      rw [if_neg (by omega), if_pos (by first | (simp; done) | (simp; omega)), hb]
      by_cases hc : (c.toNat : Int) = 48
      · have hc2 : c = 48 := UInt8.toNat_inj.1 (by simpa using (by omega : c.toNat = 48))
        rw [if_pos hc]
        by_cases h1 : 1 < (c :: r).length
        · rw [decide_eq_true (by omega), if_pos (Or.inr (Or.inr ⟨by rw [hc2]; rfl, h1⟩))]
          simp [garnerref07_number.j0]
        · rw [decide_eq_false (by omega), if_neg (by rintro (h | h | ⟨_, h⟩); cases h; omega; omega), garnerref07_number.j0, if_neg (by simp)]
          exact go
      · rw [if_neg hc, if_neg (by rintro (h | h | ⟨h, _⟩); cases h; omega; simp only [List.head?_cons, Option.some.injEq] at h; rw [h] at hc; exact hc rfl), garnerref07_number.j0, if_neg (by simp)]
        exact go
theorem strip_at (l : List UInt8) (m : Nat) (c : UInt8) (hm : m ≤ l.length) :
    (0 < m ∧ bt (B l) ((m : Int) - 1) = (c.toNat : Int) ∧ strip c (l.take m) = (l.take (m - 1), true)) ∨ (0 < m ∧ bt (B l) ((m : Int) - 1) ≠ (c.toNat : Int) ∧ strip c (l.take m) = (l.take m, false)) ∨ (m = 0 ∧ strip c (l.take m) = (l.take m, false)) := by
  rcases Nat.eq_zero_or_pos m with h0 | h0
  · exact Or.inr (Or.inr ⟨h0, by rw [h0]; rfl⟩)
  · have hi : m - 1 < l.length := by omega
    have hb : bt (B l) ((m : Int) - 1) = ((l[m - 1]'hi).toNat : Int) := by rw [← B_bt l (m - 1) hi]; congr 1; omega
    have hl : (l.take m).getLast? = some (l[m - 1]'hi) := by
      rw [List.getLast?_eq_getElem?, List.length_take, Nat.min_eq_left hm, List.getElem?_take_of_lt (by omega), List.getElem?_eq_getElem hi]
    by_cases hc : l[m - 1]'hi = c
    · refine Or.inl ⟨h0, by rw [hb, hc], ?_⟩
      unfold strip
      rw [hl, hc, if_pos rfl, List.dropLast_eq_take, List.length_take, Nat.min_eq_left hm, List.take_take, Nat.min_eq_left (by omega)]
    · refine Or.inr (Or.inl ⟨h0, fun h => hc (UInt8.toNat_inj.1 (by rw [hb] at h; omega)), ?_⟩)
      unfold strip
      rw [hl, if_neg (fun h => hc (Option.some.inj h))]
theorem w64m (m : Nat) (h0 : 0 < m) (h : m ≤ 1000) : wrap64 ((m : Int) - 1) = ((m - 1 : Nat) : Int) := by unfold wrap64; omega
theorem parse_A (l : List UInt8) (hl : l.length ≤ 1000) : ∃ (m : Nat) (a : Bool), m ≤ l.length ∧ strip 65 l = (l.take m, a) ∧ ∀ k, garnerref07_Parse.f (k + 1) (B l) = garnerref07_Parse.j1 k (B l) (m : Int) 0 0 false false a := by
  have ht : l.take l.length = l := List.take_length
  have h := strip_at l l.length 65 (Nat.le_refl _)
  rw [ht] at h
  rcases h with ⟨h0, hb, hs⟩ | ⟨h0, hb, hs⟩ | ⟨h0, hs⟩
  · refine ⟨l.length - 1, true, by omega, hs, fun k => ?_⟩
    have hb2 : (bt (B l) ((l.length - 1 : Nat) : Int) == 65) = true := by rw [beq_iff_eq, ← show (65 : UInt8).toNat = (65 : Int) from rfl, ← hb]; congr 1; omega
    unfold garnerref07_Parse.f
    rw [B_size, if_pos (by omega), w64m _ h0 hl, if_pos (by omega), if_pos (by omega), hb2, garnerref07_Parse.j0, if_pos rfl, w64m _ h0 hl]
  · refine ⟨l.length, false, by omega, by rw [ht]; exact hs, fun k => ?_⟩
    have hb2 : (bt (B l) ((l.length - 1 : Nat) : Int) == 65) = false := by rw [beq_eq_false_iff_ne]; intro h; exact hb (by rw [show (65 : UInt8).toNat = (65 : Int) from rfl, ← h]; congr 1; omega)
    unfold garnerref07_Parse.f
    rw [B_size, if_pos (by omega), w64m _ h0 hl, if_pos (by omega), if_pos (by omega), hb2, garnerref07_Parse.j0, if_neg (by decide)]
  · refine ⟨l.length, false, by omega, by rw [ht]; exact hs, fun k => ?_⟩
    unfold garnerref07_Parse.f
    rw [B_size, if_neg (by omega), garnerref07_Parse.j0, if_neg (by decide)]
theorem parse_D (l : List UInt8) (hl : l.length ≤ 1000) (m0 : Nat) (hm0 : m0 ≤ l.length) (a : Bool) : ∃ (m : Nat) (d : Bool), m ≤ l.length ∧ strip 68 (l.take m0) = (l.take m, d) ∧ ∀ k, garnerref07_Parse.j1 (k + 2) (B l) (m0 : Int) 0 0 false false a = garnerref07_Parse.j3 k (B l) (m : Int) 0 0 false d a := by
  have h := strip_at l m0 68 hm0
  rcases h with ⟨h0, hb, hs⟩ | ⟨h0, hb, hs⟩ | ⟨h0, hs⟩
  · refine ⟨m0 - 1, true, by omega, hs, fun k => ?_⟩
    have hb2 : (bt (B l) ((m0 - 1 : Nat) : Int) == 68) = true := by rw [beq_iff_eq, ← show (68 : UInt8).toNat = (68 : Int) from rfl, ← hb]; congr 1; omega
    rw [garnerref07_Parse.j1, B_size, if_pos (by omega), w64m _ h0 (by omega), if_pos (by omega), if_pos (by omega), hb2, garnerref07_Parse.j2, if_pos rfl, w64m _ h0 (by omega)]
  · refine ⟨m0, false, by omega, hs, fun k => ?_⟩
    have hb2 : (bt (B l) ((m0 - 1 : Nat) : Int) == 68) = false := by rw [beq_eq_false_iff_ne]; intro h; exact hb (by rw [show (68 : UInt8).toNat = (68 : Int) from rfl, ← h]; congr 1; omega)
    rw [garnerref07_Parse.j1, B_size, if_pos (by omega), w64m _ h0 (by omega), if_pos (by omega), if_pos (by omega), hb2, garnerref07_Parse.j2, if_neg (by decide)]
  · refine ⟨m0, false, by omega, hs, fun k => ?_⟩
    rw [garnerref07_Parse.j1, if_neg (by omega), garnerref07_Parse.j2, if_neg (by decide)]
theorem parse_L (l : List UInt8) (hl : l.length ≤ 1000) (m0 : Nat) (hm0 : m0 ≤ l.length) (d a : Bool) : ∃ (m : Nat) (L : Bool), m ≤ l.length ∧ strip 76 (l.take m0) = (l.take m, L) ∧ ∀ k, garnerref07_Parse.j3 (k + 3) (B l) (m0 : Int) 0 0 false d a = garnerref07_Parse.l0 k (B l) (m : Int) 0 0 0 L d a := by
  have h := strip_at l m0 76 hm0
  rcases h with ⟨h0, hb, hs⟩ | ⟨h0, hb, hs⟩ | ⟨h0, hs⟩
  · refine ⟨m0 - 1, true, by omega, hs, fun k => ?_⟩
    have hb2 : (bt (B l) ((m0 - 1 : Nat) : Int) == 76) = true := by rw [beq_iff_eq, ← show (76 : UInt8).toNat = (76 : Int) from rfl, ← hb]; congr 1; omega
    rw [garnerref07_Parse.j3, B_size, if_pos (by omega), w64m _ h0 (by omega), if_pos (by omega), if_pos (by omega), hb2, garnerref07_Parse.j4, if_pos rfl, w64m _ h0 (by omega), garnerref07_Parse.j5]
  · refine ⟨m0, false, by omega, hs, fun k => ?_⟩
    have hb2 : (bt (B l) ((m0 - 1 : Nat) : Int) == 76) = false := by rw [beq_eq_false_iff_ne]; intro h; exact hb (by rw [show (76 : UInt8).toNat = (76 : Int) from rfl, ← h]; congr 1; omega)
    rw [garnerref07_Parse.j3, B_size, if_pos (by omega), w64m _ h0 (by omega), if_pos (by omega), if_pos (by omega), hb2, garnerref07_Parse.j4, if_neg (by decide), garnerref07_Parse.j5]
  · refine ⟨m0, false, by omega, hs, fun k => ?_⟩
    rw [garnerref07_Parse.j3, if_neg (by omega), garnerref07_Parse.j4, if_neg (by decide), garnerref07_Parse.j5]
def parseOut : Option (Int × Int × Bool × Bool × Bool) → Int × Int × Bool × Bool × Bool × Bool
  | none => (0, 0, false, false, false, false)
  | some (e, n, L, d, a) => (e, n, L, d, a, true)
def dotOut (p : List UInt8) (L d a : Bool) : Option (List UInt8 × List UInt8) → Option (Int × Int × Bool × Bool × Bool)
  | none => none
  | some (x, y) => if 0 ≤ numR (p ++ x) ∧ numR (p ++ x) ≤ 16777215 ∧ 0 ≤ numR y ∧ numR y ≤ 2147483647 then some (numR (p ++ x), numR y, L, d, a) else none
theorem parse_dot (l : List UInt8) (hl : l.length ≤ 1000) (m : Nat) (hm : m ≤ l.length) (L d a : Bool) : ∀ (r : List UInt8) (i k : Nat), (l.take m).drop i = r → i ≤ m → r.length + 20 ≤ k → garnerref07_Parse.l0 k (B l) (m : Int) (i : Int) 0 0 L d a = some (parseOut (dotOut (l.take i) L d a (dotAt r))) := by
  intro r
  induction r with
  | nil =>
    intro i k0 hr hi hk
    obtain ⟨k, rfl⟩ : ∃ j, k0 = j + 2 := ⟨k0 - 2, by omega⟩
    have : m ≤ i := by
      have := congrArg List.length hr
      simp at this
      omega
    have e : i = m := by omega
    rw [garnerref07_Parse.l0, if_neg (by omega), garnerref07_Parse.j7, if_pos (by omega)]
    rfl
  | cons c r ih =>
    intro i k0 hr hi hk
    obtain ⟨k, rfl⟩ : ∃ j, k0 = j + 2 := ⟨k0 - 2, by omega⟩
    have hlen := congrArg List.length hr
    simp at hlen hk
    have him : i < m := by omega
    have hil : i < l.length := by omega
    have hci : l[i]'hil = c := by
      have h1 : (l.take m)[i]? = some c := by
        have h2 : ((l.take m).drop i)[0]? = some c := by rw [hr]; rfl
        rwa [List.getElem?_drop, Nat.add_zero] at h2
      rw [List.getElem?_take_of_lt him, List.getElem?_eq_getElem hil] at h1
      exact Option.some.inj h1
    have hb : bt (B l) (i : Int) = (c.toNat : Int) := by rw [B_bt l i hil, hci]
    have hr2 : (l.take m).drop (i + 1) = r := by
      rw [← List.drop_drop, hr]; rfl
    have hw : wrap64 ((i : Int) + 1) = ((i + 1 : Nat) : Int) := by unfold wrap64; omega
    rw [garnerref07_Parse.l0, B_size, if_pos (by omega), if_pos (by omega), if_pos (by omega), hb]
    by_cases hc : c = 46
    · have hc2 : (c.toNat : Int) = 46 := by rw [hc]; rfl
      have e1 : (B l).extract 0 ((i : Nat) : Int).toNat = B (l.take i) := by rw [B_extract]; simp
      have e2 : (B l).extract (((i + 1 : Nat) : Nat) : Int).toNat ((m : Nat) : Int).toNat = B r := by rw [B_extract]; simp [hr2]
      have e3 : dotAt (c :: r) = some ([], r) := by rw [dotAt, if_pos hc]
      rw [if_pos hc2, garnerref07_Parse.j7, if_neg (by omega), B_size, if_pos (by omega), if_pos (by omega), e1, number_f _ k (by omega) (by simp; omega), e3]
      rw [Option.bind_some, hw, if_pos (by omega), if_pos (by omega), if_pos (by omega), e2, number_f _ k (by omega) (by omega)]
      rw [Option.bind_some, dotOut, List.append_nil]
      by_cases g1 : numR (l.take i) < 0
      · rw [if_pos g1, if_neg (by omega)]; rfl
      · rw [if_neg g1]
        by_cases g2 : numR (l.take i) > 16777215
        · rw [if_pos g2, if_neg (by omega)]; rfl
        · rw [if_neg g2]
          by_cases g3 : numR r < 0
          · rw [if_pos g3, if_neg (by omega)]; rfl
          · rw [if_neg g3]
            by_cases g4 : numR r > 2147483647
            · rw [if_pos g4, if_neg (by omega)]; rfl
            · rw [if_neg g4, if_pos (by omega)]; rfl
    · have hc2 : ¬ (c.toNat : Int) = 46 := fun h => hc (UInt8.toNat_inj.1 (by rw [show (46 : UInt8).toNat = 46 from rfl]; omega))
      have ht : l.take (i + 1) = l.take i ++ [c] := by rw [List.take_add_one, List.getElem?_eq_getElem hil, hci]; rfl
      rw [if_neg hc2, hw, ih (i + 1) (k + 1) hr2 (by omega) (by omega), dotAt, if_neg hc]
      cases dotAt r with
      | none => rfl
      | some q => simp only [dotOut, ht, List.append_assoc, List.singleton_append]
theorem parse_f (l : List UInt8) (hl : l.length ≤ 1000) (k : Nat) (hk : l.length + 40 ≤ k) : garnerref07_Parse.f k (B l) = some (parseOut (refP l)) := by
  obtain ⟨k, rfl⟩ : ∃ j, k = j + 6 := ⟨k - 6, by omega⟩
  obtain ⟨m1, a, hm1, s1, p1⟩ := parse_A l hl
  obtain ⟨m2, d, hm2, s2, p2⟩ := parse_D l hl m1 hm1 a
  obtain ⟨m3, L, hm3, s3, p3⟩ := parse_L l hl m2 hm2 d a
  have pd : garnerref07_Parse.l0 k (B l) (m3 : Int) 0 0 0 L d a = some (parseOut (dotOut (l.take 0) L d a (dotAt (l.take m3)))) := parse_dot l hl m3 hm3 L d a (l.take m3) 0 k (by simp) (by omega) (by simp; omega)
  rw [p1 (k + 5), p2 (k + 3), p3 k, pd]
  unfold refP
  rw [s1]
  dsimp only
  rw [s2]
  dsimp only
  rw [s3]
  dsimp only
  cases dotAt (l.take m3) with
  | none => rfl
  | some q => obtain ⟨x, y⟩ := q; rfl
end Go.Proofs.YtdgcgaibkiobjaaDoor.Tp
