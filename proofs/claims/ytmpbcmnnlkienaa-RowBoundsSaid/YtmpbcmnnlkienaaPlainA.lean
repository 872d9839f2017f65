/- Rows, their bytes and their words, as lists: no program in sight but its plain functions. -/
import Derived.Test.YtmpbcmnnlkienaaHSx2
import Derived.Test.YtmpbcmnnlkienaaHSx3
import Derived.Test.YtmpbcmnnlkienaaU64
namespace Go.Proofs.Ytmpbcmnnlkienaa.Pure
open Go.RowKit Go.Proofs.Ytmpbcmnnlkienaa.HS Go.Proofs.YtmpbcmnnlkienaaW.PrintWords Go.Proofs.YtmpbcmnnlkienaaW.PrintLast Go.Proofs.YtmpbcmnnlkienaaW.PrintMore
set_option linter.unusedVariables false
theorem known30 : garnerlaw13_known.f 30 = some true := by decide +kernel
theorem known_ge : ∀ k, 30 ≤ k → garnerlaw13_known.f k = some true := by
  intro k hk
  induction k with
  | zero => omega
  | succ k ih =>
    rcases Nat.lt_or_ge k 30 with h | h
    · rw [show k + 1 = 30 by omega]; exact known30
    · exact garnerlaw13_known.mono k _ (ih h)
def Byts (l : List (List Int)) : Prop := ∀ f ∈ l, Rd.Byt f
theorem txt_list (l : List Int) : txt l = l.map fun n => UInt8.ofNat n.toNat := by
  unfold txt
  rw [ByteArray.toList_eq]
  rfl
theorem txt_inj : ∀ {a b : List Int}, Rd.Byt a → Rd.Byt b → txt a = txt b → a = b
  | [], [], _, _, _ => rfl
  | [], y :: b, _, _, h => by rw [txt_list, txt_list] at h; cases h
  | x :: a, [], _, _, h => by rw [txt_list, txt_list] at h; cases h
  | x :: a, y :: b, ha, hb, h => by
    rw [txt_list, txt_list, List.map_cons, List.map_cons, List.cons.injEq] at h
    have h1 := ha x (by simp)
    have h2 := hb y (by simp)
    have h3 : x = y := by
      have := congrArg UInt8.toNat h.1
      simp only [UInt8.toNat_ofNat'] at this
      omega
    rw [h3, txt_inj (a := a) (b := b) (fun z hz => ha z (by simp [hz])) (fun z hz => hb z (by simp [hz])) (by rw [txt_list, txt_list]; exact h.2)]
theorem txt_iff {a b : List Int} (ha : Rd.Byt a) (hb : Rd.Byt b) : txt a = txt b ↔ a = b := ⟨txt_inj ha hb, fun h => by rw [h]⟩
theorem txts_inj : ∀ {a b : List (List Int)}, Byts a → Byts b → a.map txt = b.map txt → a = b
  | [], [], _, _, _ => rfl
  | [], y :: b, _, _, h => by cases h
  | x :: a, [], _, _, h => by cases h
  | x :: a, y :: b, ha, hb, h => by
    rw [List.map_cons, List.map_cons, List.cons.injEq] at h
    rw [txt_inj (ha x (by simp)) (hb y (by simp)) h.1, txts_inj (a := a) (b := b) (fun z hz => ha z (by simp [hz])) (fun z hz => hb z (by simp [hz])) h.2]
theorem same_eq {a b : List (List Int)} (ha : Byts a) (hb : Byts b) : row_Same.f a b = some (decide (a = b)) := by
  unfold row_Same.f sameB
  congr 1
  rw [decide_eq_decide]
  exact ⟨txts_inj ha hb, fun h => by rw [h]⟩
theorem rd_at (x : List Int) (p : Nat) (h : p < x.length) : rd x (p : Int) = x[p] := by simp [rd, h]
theorem rd_L2_at (x : List (List Int)) (p : Nat) (h : p < x.length) : rd_L2 x (p : Int) = x[p] := by simp [rd_L2, h]
theorem w64s (p q : Nat) (h : p + q < 9223372036854775808) : wrap64 ((p : Int) + (q : Int)) = ((p + q : Nat) : Int) := by unfold wrap64; omega
theorem w64_1 (p : Nat) (h : p + 1 < 9223372036854775808) : wrap64 ((p : Int) + 1) = ((p + 1 : Nat) : Int) := w64s p 1 h
theorem byt_wf {l : List Int} (h : ∀ x ∈ l, (Go.Lit.int .u8 x).wf = true) : Rd.Byt l := fun x hx => by
  have h2 := h x hx
  simp [Go.Lit.wf, IntKind.min, IntKind.max, IntKind.signed, IntKind.bits] at h2
  omega
/-! ### how much a row is -/
def sz (l : List (List Int)) : Nat := l.length + (l.map List.length).sum
theorem size_go (l : List (List Int)) (hl : l.length < 1000000000000000) : ∀ (k i s : Nat), l.length - i < k → i ≤ l.length → s < 1000000000000000 → s < 4000000 ∨ i = 0 → ∃ n : Nat, garnerref13_Size.l0 k l (s : Int) (i : Int) = some (n : Int) ∧ (n ≤ 9000 → n = s + ((l.drop i).map List.length).sum)
  | 0, i, s, h, _, _, _ => by omega
  | k + 1, i, s, h, hi, hs, hs2 => by
    rw [garnerref13_Size.l0]
    by_cases hlt : i < l.length
    · rw [if_pos (by omega)]
      by_cases hb : s < 1048576
      · rw [if_pos (by omega), if_pos (by omega), rd_L2_at l i hlt, w64_1 i (by omega)]
        have hm : mn (l[i].length : Int) 1048576 = ((min l[i].length 1048576 : Nat) : Int) := by unfold mn; split <;> omega
        rw [hm, w64s s _ (by omega)]
        obtain ⟨n, h1, h2⟩ := size_go l hl k (i + 1) (s + min l[i].length 1048576) (by omega) (by omega) (by omega) (Or.inl (by omega))
        refine ⟨n, h1, fun h9 => ?_⟩
        have h3 := h2 h9
        rw [List.drop_eq_getElem_cons hlt, List.map_cons, List.sum_cons]
        omega
      · rw [if_neg (by omega)]
        exact ⟨s, rfl, fun h => by omega⟩
    · rw [if_neg (by omega), List.drop_eq_nil_of_le (by omega)]
      exact ⟨s, rfl, fun _ => by simp⟩
theorem size_eq (l : List (List Int)) (hl : l.length < 1000000000000000) (k : Nat) (hk : l.length < k) : ∃ n : Nat, garnerref13_Size.f k l = some (n : Int) ∧ (n ≤ 9000 → n = sz l) := by
  unfold garnerref13_Size.f
  obtain ⟨n, h1, h2⟩ := size_go l hl k 0 l.length (by omega) (by omega) (by omega) (Or.inr rfl)
  exact ⟨n, h1, fun h => by rw [h2 h]; rfl⟩
theorem sum_mem {l : List (List Int)} {f : List Int} (h : f ∈ l) : f.length ≤ (l.map List.length).sum := by
  induction l with
  | nil => cases h
  | cons x l ih =>
    rw [List.map_cons, List.sum_cons]
    rcases List.mem_cons.1 h with rfl | h
    · omega
    · have := ih h; omega
theorem refSame_go (a b : List (List Int)) (hlen : a.length = b.length) (hl : a.length < 1000000000000000) : ∀ (k i : Nat), a.length - i < k → i ≤ a.length → garnerref13_Same.l0 k a b (i : Int) = some (decide ((a.drop i).map txt = (b.drop i).map txt))
  | 0, i, h, _ => by omega
  | k + 1, i, h, hi => by
    rw [garnerref13_Same.l0]
    by_cases hlt : i < a.length
    · rw [if_pos (by omega), if_pos (by omega), if_pos (by omega), rd_L2_at a i hlt, rd_L2_at b i (by omega), w64_1 i (by omega), List.drop_eq_getElem_cons hlt, List.drop_eq_getElem_cons (show i < b.length by omega), List.map_cons, List.map_cons]
      show (if txt a[i] = txt b[i] then _ else _) = _
      by_cases he : txt a[i] = txt b[i]
      · rw [if_pos he, refSame_go a b hlen hl k (i + 1) (by omega) (by omega), he]
        simp
      · rw [if_neg he]
        symm
        congr 1
        rw [decide_eq_false_iff_not]
        intro h
        rw [List.cons.injEq] at h
        exact he h.1
    · rw [if_neg (by omega), List.drop_eq_nil_of_le (by omega), List.drop_eq_nil_of_le (by omega)]
      simp
theorem refSame_eq {a b : List (List Int)} (ha : Byts a) (hb : Byts b) (hl : a.length < 1000000000000000) (k : Nat) (hk : a.length < k) : garnerref13_Same.f k a b = some (decide (a = b)) := by
  unfold garnerref13_Same.f
  by_cases h : a.length = b.length
  · rw [if_pos (by omega), show (0 : Int) = ((0 : Nat) : Int) from rfl, refSame_go a b h hl k 0 (by omega) (by omega)]
    congr 1
    rw [decide_eq_decide]
    exact ⟨txts_inj ha hb, fun h => by rw [h]⟩
  · rw [if_neg (by omega), decide_eq_false (fun e => h (by rw [e]))]
/-! ### a row's bytes -/
theorem wnum_small {n : Nat} (h : n < 128) : Rd.wnum n = [(n : Int)] := by
  unfold Rd.wnum
  rw [Rd.wnumF, if_neg (by omega)]
theorem may_iff (l : List (List Int)) : mayB l = true ↔ 1 ≤ l.length ∧ l.length ≤ 3 ∧ ∀ f ∈ l, f.length ≤ 24 := by
  unfold mayB
  simp
def cat (l : List (List Int)) : List Int := (l.map fun f => (f.length : Int) :: f).flatten
theorem cat_cons (f : List Int) (l : List (List Int)) : cat (f :: l) = (f.length : Int) :: (f ++ cat l) := by simp [cat]
theorem rowB_eq {l : List (List Int)} (h : mayB l = true) : rowB l = (l.length : Int) :: cat l := by
  obtain ⟨h1, h2, h3⟩ := (may_iff l).1 h
  unfold rowB cat
  rw [wnum_small (by omega), show l.map fieldB = l.map fun f => (f.length : Int) :: f from List.map_congr_left (fun f hf => by unfold fieldB; rw [wnum_small (by have := h3 f hf; omega)]; rfl)]
  rfl
theorem cat_inj : ∀ {a b : List (List Int)}, a.length = b.length → ∀ {x y : List Int}, cat a ++ x = cat b ++ y → a = b ∧ x = y
  | [], [], _, x, y, h => ⟨rfl, h⟩
  | f :: a, g :: b, hl, x, y, h => by
    rw [cat_cons, cat_cons, List.cons_append, List.cons_append, List.cons.injEq, List.append_assoc, List.append_assoc] at h
    have h1 : f.length = g.length := by omega
    obtain ⟨h2, h3⟩ := List.append_inj h.2 h1
    obtain ⟨h4, h5⟩ := cat_inj (a := a) (b := b) (by simpa using hl) h3
    exact ⟨by rw [h2, h4], h5⟩
theorem rowB_inj {a b : List (List Int)} (ha : mayB a = true) (hb : mayB b = true) (h : rowB a = rowB b) : a = b := by
  rw [rowB_eq ha, rowB_eq hb, List.cons.injEq] at h
  exact (cat_inj (x := []) (y := []) (by omega) (by simpa using h.2)).1
theorem cat_byt : ∀ {l : List (List Int)}, Byts l → (∀ f ∈ l, f.length ≤ 24) → Rd.Byt (cat l)
  | [], _, _ => by intro x hx; simp [cat] at hx
  | f :: l, hb, hm => by
    rw [cat_cons]
    intro x hx
    rcases List.mem_cons.1 hx with rfl | hx
    · have := hm f (by simp); omega
    · rcases List.mem_append.1 hx with hx | hx
      · exact hb f (by simp) x hx
      · exact cat_byt (fun g hg => hb g (by simp [hg])) (fun g hg => hm g (by simp [hg])) x hx
theorem cat_len : ∀ {l : List (List Int)}, (∀ f ∈ l, f.length ≤ 24) → (cat l).length ≤ 25 * l.length
  | [], _ => by simp [cat]
  | f :: l, hm => by
    rw [cat_cons, List.length_cons, List.length_append, List.length_cons]
    have := hm f (by simp)
    have := cat_len (l := l) (fun g hg => hm g (by simp [hg]))
    omega
theorem rowB_byt {l : List (List Int)} (hb : Byts l) (h : mayB l = true) : Rd.Byt (rowB l) := by
  rw [rowB_eq h]
  obtain ⟨h1, h2, h3⟩ := (may_iff l).1 h
  intro x hx
  rcases List.mem_cons.1 hx with rfl | hx
  · omega
  · exact cat_byt hb h3 x hx
theorem rowB_len {l : List (List Int)} (h : mayB l = true) : 1 ≤ (rowB l).length ∧ (rowB l).length ≤ 76 := by
  rw [rowB_eq h, List.length_cons]
  obtain ⟨h1, h2, h3⟩ := (may_iff l).1 h
  have := cat_len h3
  omega
/-! ### bytes as words -/
/-- The first j bytes of group q. -/
def pk (b : List Int) (q : Nat) : Nat → Nat
  | 0 => 0
  | j + 1 => pk b q j * 256 + if 8 * q + j < b.length then (rd b ((8 * q + j : Nat) : Int)).toNat else 0
theorem pk_lt {b : List Int} (hb : Rd.Byt b) (q : Nat) : ∀ j, pk b q j < 256 ^ j
  | 0 => by show 0 < 1; omega
  | j + 1 => by
    have h := pk_lt hb q j
    rw [pk, Nat.pow_succ]
    by_cases hl : 8 * q + j < b.length
    · rw [if_pos hl]
      have h2 := Rd.byt_rd hb hl
      omega
    · rw [if_neg hl]; omega
theorem pk_end (b : List Int) (q j : Nat) (h : b.length ≤ 8 * q + j) : ∀ d, pk b q (j + d) = pk b q j * 256 ^ d
  | 0 => by simp
  | d + 1 => by
    rw [show j + (d + 1) = (j + d) + 1 by omega, pk, pk_end b q j h d, if_neg (by omega), Nat.pow_succ, Nat.mul_assoc]
    rfl
def wordsB (b : List Int) : List Int := (b.length : Int) :: (List.range ((b.length + 7) / 8)).map fun q => (pk b q 8 : Int)
theorem wordsB_len (b : List Int) : (wordsB b).length = 1 + (b.length + 7) / 8 := by unfold wordsB; simp; omega
/-- What stands in group q behind i bytes. -/
def part (b : List Int) (i q : Nat) : Nat := pk b q (min 8 (i - 8 * q)) * 256 ^ (8 - min 8 (i - 8 * q))
def partial_ (b : List Int) (i : Nat) : List Int := (b.length : Int) :: (List.range ((b.length + 7) / 8)).map fun q => (part b i q : Int)
theorem partial_end (b : List Int) : partial_ b b.length = wordsB b := by
  unfold partial_ wordsB
  congr 1
  refine List.map_congr_left fun q _ => ?_
  unfold part
  have h := pk_end b q (min 8 (b.length - 8 * q))
  by_cases h8 : 8 ≤ b.length - 8 * q
  · rw [Nat.min_eq_left h8]; simp
  · have h2 := h (by omega) (8 - min 8 (b.length - 8 * q))
    rw [show min 8 (b.length - 8 * q) + (8 - min 8 (b.length - 8 * q)) = 8 by omega] at h2
    rw [h2]
theorem part_zero (b : List Int) (q : Nat) : part b 0 q = 0 := by
  unfold part
  rw [Nat.zero_sub, Nat.min_zero]
  simp [pk]
theorem pow256 (n : Nat) : 256 ^ n = 2 ^ (8 * n) := by rw [Nat.pow_mul]
theorem part_or {b : List Int} (hb : Rd.Byt b) {i : Nat} (hi : i < b.length) :
    Go.bits .or .u64 (part b i (i / 8) : Int) (shl .u64 (IntKind.u64.wrap (rd b (i : Int))) ((56 - 8 * (i % 8) : Nat) : Int)) = (part b (i + 1) (i / 8) : Int) := by
  have hc := Rd.byt_rd hb hi
  obtain ⟨c, hcc⟩ : ∃ c : Nat, rd b (i : Int) = (c : Int) := ⟨(rd b (i : Int)).toNat, by omega⟩
  have hw : IntKind.u64.wrap (c : Int) = (c : Int) := Rd.wrap_u64_nat c (by omega)
  obtain ⟨q, j, hq, hj, e1, e2⟩ : ∃ q j, i = 8 * q + j ∧ j < 8 ∧ i / 8 = q ∧ i % 8 = j := ⟨i / 8, i % 8, by omega, by omega, rfl, rfl⟩
  rw [e1, e2]
  have m1 : min 8 (i - 8 * q) = j := by omega
  have m2 : min 8 (i + 1 - 8 * q) = j + 1 := by omega
  unfold part
  rw [m1, m2, pk, if_pos (by omega), ← hq, hcc, hw]
  have hp := pk_lt hb q j
  generalize pk b q j = P at hp
  have hs : shl .u64 (c : Int) ((56 - 8 * j : Nat) : Int) = ((c * 256 ^ (7 - j) : Nat) : Int) := by
    unfold shl
    rw [Int.toNat_natCast, Nat.min_eq_left (by show 56 - 8 * j ≤ 64; omega), show (2 : Int) ^ (56 - 8 * j) = ((2 ^ (56 - 8 * j) : Nat) : Int) by simp, show 56 - 8 * j = 8 * (7 - j) by omega, ← pow256, ← Int.natCast_mul]
    refine Rd.wrap_u64_nat _ ?_
    have h1 : 256 ^ (7 - j) ≤ 256 ^ 7 := Nat.pow_le_pow_right (by decide) (by omega)
    have h2 : c * 256 ^ (7 - j) ≤ 255 * 256 ^ 7 := Nat.mul_le_mul (by omega) h1
    omega
  have hsplit : (256 : Nat) ^ (8 - j) = 256 * 256 ^ (7 - j) := by rw [show 8 - j = (7 - j) + 1 by omega, Nat.pow_succ, Nat.mul_comm]
  have hfull : 256 ^ j * 256 ^ (8 - j) = 18446744073709551616 := by rw [← Nat.pow_add, show j + (8 - j) = 8 by omega]
  have hpos : 0 < 256 ^ (8 - j) := Nat.pow_pos (by decide)
  have ha : P * 256 ^ (8 - j) < 18446744073709551616 := by rw [← hfull]; exact Nat.mul_lt_mul_of_pos_right hp hpos
  have hcl : c * 256 ^ (7 - j) < 256 ^ (8 - j) := by rw [hsplit]; exact Nat.mul_lt_mul_of_pos_right (by omega) (Nat.pow_pos (by decide))
  have hle : 256 ^ (8 - j) ≤ 18446744073709551616 := by rw [← hfull]; exact Nat.le_mul_of_pos_left _ (Nat.pow_pos (by decide))
  rw [hs, u64_or_nat _ _ ha (by omega)]
  have hor := U64.or_append (8 * (8 - j)) P 0 0 (c * 256 ^ (7 - j)) (Nat.pow_pos (by decide)) (by rw [← pow256]; exact hcl)
  simp only [Nat.add_zero, Nat.mul_zero, Nat.zero_add, Nat.or_zero, Nat.zero_or] at hor
  rw [← pow256] at hor
  rw [Nat.mul_comm P, hor, show 8 - (j + 1) = 7 - j by omega, Nat.add_mul, Int.toNat_natCast, hsplit]
  congr 2
  rw [Nat.mul_comm, ← Nat.mul_assoc]
theorem part_other (b : List Int) (i q : Nat) (h : q ≠ i / 8) : part b (i + 1) q = part b i q := by
  unfold part
  rw [show min 8 (i + 1 - 8 * q) = min 8 (i - 8 * q) by omega]
theorem partial_get (b : List Int) (i q : Nat) (h : q < (b.length + 7) / 8) : rd (partial_ b i) ((1 + q : Nat) : Int) = (part b i q : Int) := by
  unfold rd partial_
  rw [Int.toNat_natCast, show 1 + q = q + 1 by omega, List.getD_cons_succ, List.getD_eq_getElem?_getD, List.getElem?_map, List.getElem?_range h]
  rfl
theorem partial_set {b : List Int} (hb : Rd.Byt b) {i : Nat} (hi : i < b.length) : (partial_ b i).set (1 + i / 8) (part b (i + 1) (i / 8) : Int) = partial_ b (i + 1) := by
  unfold partial_
  rw [show 1 + i / 8 = i / 8 + 1 by omega, List.set_cons_succ]
  congr 1
  apply List.ext_getElem?
  intro j
  rw [List.getElem?_set]
  by_cases hj : i / 8 = j
  · subst hj
    have hlt : i / 8 < (b.length + 7) / 8 := by omega
    rw [if_pos rfl, List.length_map, List.length_range, if_pos hlt, List.getElem?_map, List.getElem?_range hlt]
    rfl
  · rw [if_neg hj, List.getElem?_map, List.getElem?_map]
    by_cases hlt : j < (b.length + 7) / 8
    · rw [List.getElem?_range hlt]
      simp only [Option.map_some]
      rw [part_other b i j (fun h => hj h.symm)]
    · rw [List.getElem?_eq_none (by simp; omega)]
      rfl
theorem w_e1 (i : Nat) (h : i ≤ 1000) : wrap64 (Int.tdiv (i : Int) 8) = ((i / 8 : Nat) : Int) := by rw [U64.tdiv_pos (by omega)]; unfold wrap64; omega
theorem w_e2 (q : Nat) (h : q ≤ 1000) : wrap64 (1 + (q : Int)) = ((1 + q : Nat) : Int) := by unfold wrap64; omega
theorem w_e3 (i : Nat) (h : i ≤ 1000) : wrap64 (56 - wrap64 (8 * Int.tmod (i : Int) 8)) = ((56 - 8 * (i % 8) : Nat) : Int) := by rw [U64.tmod_pos (by omega)]; unfold wrap64; omega
theorem words_go {b : List Int} (hb : Rd.Byt b) (hl : b.length ≤ 1000) : ∀ (k i : Nat), b.length - i < k → i ≤ b.length → row_Words.l0 k (partial_ b i) b (b.length : Int) (i : Int) = some (wordsB b, 0)
  | 0, i, h, _ => by omega
  | k + 1, i, h, hi => by
    rw [row_Words.l0]
    by_cases hlt : i < b.length
    · have e1 : wrap64 (Int.tdiv (i : Int) 8) = ((i / 8 : Nat) : Int) := by rw [U64.tdiv_pos (by omega)]; unfold wrap64; omega
      have e2 : wrap64 (1 + ((i / 8 : Nat) : Int)) = ((1 + i / 8 : Nat) : Int) := by unfold wrap64; omega
      have e3 : wrap64 (56 - wrap64 (8 * Int.tmod (i : Int) 8)) = ((56 - 8 * (i % 8) : Nat) : Int) := by rw [U64.tmod_pos (by omega)]; unfold wrap64; omega
      have hpl : (partial_ b i).length = 1 + (b.length + 7) / 8 := by unfold partial_; simp; omega
      rw [e1, e2, e3, if_pos (by omega), if_pos (by omega), if_pos (by omega), if_pos (by omega), if_pos (by rw [hpl]; omega), if_pos (by omega), partial_get b i (i / 8) (by omega), part_or hb hlt, Int.toNat_natCast, partial_set hb hlt, w64_1 i (by omega)]
      exact words_go hb hl k (i + 1) (by omega) (by omega)
    · obtain rfl : i = b.length := by omega
      rw [if_neg (by omega), partial_end]
theorem words_start (b : List Int) : (List.replicate (1 + (b.length + 7) / 8) (0 : Int)).set 0 (b.length : Int) = partial_ b 0 := by
  unfold partial_
  rw [show 1 + (b.length + 7) / 8 = (b.length + 7) / 8 + 1 by omega, List.replicate_succ, List.set_cons_zero]
  congr 1
  apply List.ext_getElem?
  intro j
  rw [List.getElem?_map]
  by_cases hj : j < (b.length + 7) / 8
  · rw [List.getElem?_range hj, List.getElem?_replicate, if_pos hj]
    simp only [Option.map_some]
    rw [part_zero]
    rfl
  · rw [List.getElem?_eq_none (by simpa using hj), List.getElem?_eq_none (by simpa using hj)]
    rfl
theorem words_b (b : List Int) (hl : b.length ≤ 1000) : wrap64 (1 + wrap64 (Int.tdiv (wrap64 ((b.length : Int) + 7)) 8)) = ((1 + (b.length + 7) / 8 : Nat) : Int) := by
  rw [show wrap64 ((b.length : Int) + 7) = ((b.length + 7 : Nat) : Int) from w64s _ 7 (by omega), U64.tdiv_pos (by omega)]
  unfold wrap64
  omega
theorem words_run {b : List Int} (hb : Rd.Byt b) (hl : b.length ≤ 76) (k : Nat) (hk : 100 ≤ k) : (if 0 ≤ (wrap64 (1 + (wrap64 (Int.tdiv (wrap64 ((b.length : Int) + 7)) 8)))) then (if (wrap64 (1 + (wrap64 (Int.tdiv (wrap64 ((b.length : Int) + 7)) 8))) : Int).toNat ≤ 35184372088832 then ((some (List.replicate (wrap64 (1 + (wrap64 (Int.tdiv (wrap64 ((b.length : Int) + 7)) 8))) : Int).toNat 0 : List Int)).bind fun y120 => (if 0 < (y120.length : Int) then (row_Words.l0 k (y120.set (0 : Int).toNat (IntKind.u64.wrap ((b.length : Int)))) b (b.length : Int) 0) else (none))) else (none)) else (none)) = some (wordsB b, 0) := by
  have e2 : IntKind.u64.wrap (b.length : Int) = (b.length : Int) := Rd.wrap_u64_nat _ (by omega)
  rw [words_b b (by omega), Int.toNat_natCast, if_pos (Int.natCast_nonneg _)]
  have hle : 1 + (b.length + 7) / 8 ≤ 35184372088832 := by omega
  rw [if_pos hle, Option.bind_some]
  have hp : (0 : Int) < ((List.replicate (1 + (b.length + 7) / 8) (0 : Int)).length : Int) := by rw [List.length_replicate]; omega
  rw [if_pos hp, Int.toNat_zero, e2, words_start]
  exact words_go hb (by omega) k 0 (by omega) (by omega)
theorem words_eq {l : List (List Int)} (hb : Byts l) (k : Nat) (hk : 100 ≤ k) : row_Words.f k l = some (if mayB l = true then (wordsB (rowB l), 0) else ([], 2)) := by
  unfold row_Words.f row_Bytes.f
  rw [Option.bind_some]
  by_cases h : mayB l = true
  · rw [if_pos h, if_pos h]
    dsimp only
    rw [if_pos rfl]
    exact words_run (rowB_byt hb h) (rowB_len h).2 k hk
  · rw [if_neg h, if_neg h]
    dsimp only
    rw [if_neg (by decide)]
/-- A byte out of words. -/
theorem pk_byte {b : List Int} (hb : Rd.Byt b) (q : Nat) : ∀ (n j : Nat), j < n → pk b q n / 256 ^ (n - 1 - j) % 256 = if 8 * q + j < b.length then (rd b ((8 * q + j : Nat) : Int)).toNat else 0
  | 0, j, h => by omega
  | n + 1, j, h => by
    rw [pk]
    have hx : (if 8 * q + n < b.length then (rd b ((8 * q + n : Nat) : Int)).toNat else 0) < 256 := by
      by_cases hl : 8 * q + n < b.length
      · rw [if_pos hl]; have := Rd.byt_rd hb hl; omega
      · rw [if_neg hl]; omega
    by_cases hj : j = n
    · subst hj
      rw [show j + 1 - 1 - j = 0 by omega, Nat.pow_zero, Nat.div_one]
      omega
    · have ih := pk_byte hb q n j (by omega)
      generalize (if 8 * q + n < b.length then (rd b ((8 * q + n : Nat) : Int)).toNat else 0) = x at hx
      rw [show n + 1 - 1 - j = 1 + (n - 1 - j) by omega, Nat.pow_add, ← Nat.div_div_eq_div_mul, Nat.pow_one, show (pk b q n * 256 + x) / 256 = pk b q n by omega]
      exact ih
theorem wordsB_byte {b : List Int} (hb : Rd.Byt b) {i : Nat} (hi : i < b.length) : rd b (i : Int) = ((rd (wordsB b) ((1 + i / 8 : Nat) : Int)).toNat / 256 ^ (7 - i % 8) % 256 : Nat) := by
  have h1 : rd (wordsB b) ((1 + i / 8 : Nat) : Int) = (pk b (i / 8) 8 : Int) := by
    unfold rd wordsB
    rw [Int.toNat_natCast, show 1 + i / 8 = i / 8 + 1 by omega, List.getD_cons_succ, List.getD_eq_getElem?_getD, List.getElem?_map, List.getElem?_range (by omega)]
    rfl
  have h2 := pk_byte hb (i / 8) 8 (i % 8) (by omega)
  rw [show 8 * (i / 8) + i % 8 = i by omega, if_pos hi, show 8 - 1 - i % 8 = 7 - i % 8 by omega] at h2
  rw [h1, Int.toNat_natCast, h2]
  have := Rd.byt_rd hb hi
  omega
theorem wordsB_inj {a b : List Int} (ha : Rd.Byt a) (hb : Rd.Byt b) (h : wordsB a = wordsB b) : a = b := by
  have hl : a.length = b.length := by
    have := congrArg (fun l => l.head?) h
    simp [wordsB] at this
    omega
  apply List.ext_getElem hl
  intro i h1 h2
  rw [← rd_at a i h1, ← rd_at b i h2, wordsB_byte ha h1, wordsB_byte hb h2, h]
end Go.Proofs.Ytmpbcmnnlkienaa.Pure
