/- Which slices may be, their bytes, and of which slices a key is made, are what the chapter says. -/
import Derived.Test.YtbaaihpkolicmaaHSx7
import Derived.Test.YtbaaihpkolicmaaU64
namespace Go.Proofs.Ytbaaihpkolicmaa.Pure
open Go.RowKit Go.Proofs.Ytbaaihpkolicmaa.HS Go.Proofs.YtbaaihpkolicmaaW.PrintWords Go.Proofs.YtbaaihpkolicmaaW.PrintLast Go.Proofs.YtbaaihpkolicmaaW.PrintMore Go.Proofs.Ytbaaihpkolicmaa.U64
theorem w64 (n : Int) (h : -9223372036854775808 ≤ n ∧ n ≤ 9223372036854775807) : wrap64 n = n := by unfold wrap64; omega
def Byt (l : List Int) : Prop := ∀ x ∈ l, 0 ≤ x ∧ x < 256
theorem byt_of {l : List Int} (h : ∀ x ∈ l, (Go.Lit.int .u8 x).wf = true) : Byt l := fun x hx => by
  have := h x hx
  simp [Go.Lit.wf, IntKind.min, IntKind.max, IntKind.signed, IntKind.bits] at this
  omega
theorem Byt.at_ {l : List Int} (h : Byt l) (i : Nat) : 0 ≤ l.getD i 0 ∧ l.getD i 0 < 256 := by
  by_cases hi : i < l.length
  · have : l.getD i 0 = l[i] := by simp [List.getD, hi]
    rw [this]
    exact h _ (List.getElem_mem hi)
  · have : l.getD i 0 = 0 := by simp [List.getD, List.getElem?_eq_none (Nat.le_of_not_lt hi)]
    omega
theorem Byt.drop {l : List Int} (h : Byt l) (n : Nat) : Byt (l.drop n) := fun x hx => h x (List.mem_of_mem_drop hx)
theorem Byt.take {l : List Int} (h : Byt l) (n : Nat) : Byt (l.take n) := fun x hx => h x (List.mem_of_mem_take hx)
/-- Eight bytes as one number, the first one highest. -/
def wrd (r : List Int) : Int := r.getD 0 0 * 72057594037927936 + r.getD 1 0 * 281474976710656 + r.getD 2 0 * 1099511627776 + r.getD 3 0 * 4294967296 + r.getD 4 0 * 16777216 + r.getD 5 0 * 65536 + r.getD 6 0 * 256 + r.getD 7 0
theorem take_at (r : List Int) (n i : Nat) : (r.take n).getD i 0 = if i < n then r.getD i 0 else 0 := by
  simp only [List.getD, List.getElem?_take]
  split <;> simp
theorem wrd_range {r : List Int} (h : Byt r) : 0 ≤ wrd r ∧ wrd r < 18446744073709551616 := by
  have h0 := h.at_ 0; have h1 := h.at_ 1; have h2 := h.at_ 2; have h3 := h.at_ 3; have h4 := h.at_ 4; have h5 := h.at_ 5; have h6 := h.at_ 6; have h7 := h.at_ 7
  unfold wrd; omega
theorem shl_num (x : Int) (i : Nat) (h0 : 0 ≤ x) (hx : x < 256) (hi : i ≤ 56) : shl .u64 x (i : Int) = x * (2 ^ i : Nat) := by
  unfold shl
  have e : min (i : Int).toNat IntKind.u64.bits = i := by simp [IntKind.bits]; omega
  have hp : ((2 : Int) ^ i) = ((2 ^ i : Nat) : Int) := by simp
  have hle : (2 ^ i : Nat) ≤ 2 ^ 56 := Nat.pow_le_pow_right (by decide) hi
  rw [e, IntKind.wrap_u64, hp]
  generalize hP : (2 ^ i : Nat) = P at hle ⊢
  have h1 : x * (P : Int) ≤ 255 * (P : Int) := Int.mul_le_mul_of_nonneg_right (by omega) (by omega)
  exact Int.emod_eq_of_lt (Int.mul_nonneg h0 (by omega)) (by omega)
theorem or_step (a x : Int) (i : Nat) (a0 : 0 ≤ a) (a1 : a < 18446744073709551616) (h0 : 0 ≤ x) (hx : x < 256) (hi : i ≤ 56) (he : a / (2 ^ i : Nat) % 256 = 0) :
    Go.bits .or .u64 a (shl .u64 (IntKind.u64.wrap x) (i : Int)) = a + x * (2 ^ i : Nat) := by
  rw [IntKind.wrap_u64, Int.emod_eq_of_lt h0 (by omega), shl_num x i h0 hx hi]
  obtain ⟨n, rfl⟩ := Int.eq_ofNat_of_zero_le h0
  have := or_field' a a0 a1 i 8 n (by omega) (by simpa using he) (by omega)
  simpa using this
theorem wrd_step {r : List Int} (h : Byt r) (j : Nat) (hj : j < 8) :
    Go.bits .or .u64 (wrd (r.take j)) (shl .u64 (IntKind.u64.wrap (rd r (j : Int))) (wrap64 (56 - wrap64 (8 * (j : Int))))) = wrd (r.take (j + 1)) := by
  have hw := wrd_range (h.take j)
  have h0 := h.at_ 0; have h1 := h.at_ 1; have h2 := h.at_ 2; have h3 := h.at_ 3; have h4 := h.at_ 4; have h5 := h.at_ 5; have h6 := h.at_ 6; have h7 := h.at_ 7
  have e : wrap64 (56 - wrap64 (8 * (j : Int))) = ((56 - 8 * j : Nat) : Int) := by
    rw [w64 (8 * (j : Int)) (by omega), w64 _ (by omega)]; omega
  have hr : rd r (j : Int) = r.getD j 0 := by simp [rd]
  have hb := h.at_ j
  rw [e, hr]
  have key : wrd (r.take j) / ((2 ^ (56 - 8 * j) : Nat) : Int) % 256 = 0 ∧ wrd (r.take (j + 1)) = wrd (r.take j) + r.getD j 0 * ((2 ^ (56 - 8 * j) : Nat) : Int) := by
    have cases : j = 0 ∨ j = 1 ∨ j = 2 ∨ j = 3 ∨ j = 4 ∨ j = 5 ∨ j = 6 ∨ j = 7 := by omega
    rcases cases with rfl | rfl | rfl | rfl | rfl | rfl | rfl | rfl <;> simp only [wrd, take_at, Nat.reduceMul, Nat.reduceSub, Nat.reducePow, Nat.reduceLT, Nat.reduceAdd, if_true, if_false, Nat.lt_irrefl] <;> constructor <;> omega
  rw [key.2]
  exact or_step _ _ _ hw.1 hw.2 hb.1 hb.2 (by omega) key.1
theorem of_loop {r : List Int} (h : Byt r) (h8 : r.length ≤ 8) (x : Int) : ∀ d j k, j + d = r.length →
    slice_Of.l0 (k + d + 1) r (r.length : Int) (j : Int) (wrd (r.take j)) x = some (wrd r, x, 0)
  | 0, j, k, hj => by
    have : r.take j = r := List.take_of_length_le (by omega)
    rw [this]
    unfold slice_Of.l0
    rw [if_neg (by omega)]
  | d + 1, j, k, hj => by
    have ih := of_loop h h8 x d (j + 1) k (by omega)
    have e : wrap64 ((j : Int) + 1) = ((j + 1 : Nat) : Int) := by rw [w64 _ (by omega)]; omega
    have e2 : (0 : Int) ≤ wrap64 (56 - wrap64 (8 * (j : Int))) := by rw [w64 (8 * (j : Int)) (by omega), w64 _ (by omega)]; omega
    have hs := wrd_step h j (by omega)
    show slice_Of.l0 (k + d + 1 + 1) r (r.length : Int) (j : Int) (wrd (r.take j)) x = _
    unfold slice_Of.l0
    rw [if_pos (by omega), if_pos (by omega), if_pos (by omega), if_pos e2, hs, e]
    exact ih
theorem count_eq (l : List Int) (h : l.length ≤ 140737488351232) : slice_Count.f l = some ((cntS l : Nat) : Int) := by
  unfold slice_Count.f
  rw [w64 ((l.length : Int) + 7) (by omega), Int.tdiv_eq_ediv_of_nonneg (by omega), w64 _ (by omega)]
  congr 1
  unfold mx cntS
  split <;> omega
theorem wrd_take (r : List Int) : wrd (r.take 8) = wrd r := by simp [wrd]
/-- A slice by its bytes. -/
theorem of_eq {l : List Int} (h : Byt l) (hl : l.length ≤ 140737488351232) (i : Nat) (hi : i < cntS l) (k : Nat) :
    slice_Of.f (k + 12) l (i : Int) = some (wrd (l.drop (8 * i)), ((min (l.length - 8 * i) 9 : Nat) : Int), 0) := by
  have hc : 8 * i ≤ l.length := by unfold cntS at hi; omega
  unfold slice_Of.f
  rw [if_neg (by omega), count_eq l hl]
  show slice_Of.j0 (k + 12) l (i : Int) (decide ((i : Int) ≥ ((cntS l : Nat) : Int))) = _
  obtain ⟨m, hm⟩ : ∃ m, m = k + 11 := ⟨_, rfl⟩
  rw [decide_eq_false (by omega), show k + 12 = m + 1 by omega]
  rw [slice_Of.j0]
  have e : wrap64 (8 * (i : Int)) = ((8 * i : Nat) : Int) := by rw [w64 _ (by omega)]; omega
  have en : ((8 * i : Nat) : Int).toNat = 8 * i := Int.toNat_natCast _
  have em : ∀ n : Nat, mn (n : Int) 8 = ((min n 8 : Nat) : Int) := fun n => by unfold mn; split <;> omega
  have em9 : ∀ n : Nat, mn (n : Int) 9 = ((min n 9 : Nat) : Int) := fun n => by unfold mn; split <;> omega
  rw [if_neg (by decide), e, if_pos (by omega), if_pos (by omega), en, em, em9, if_pos (by omega), if_pos (by omega), Int.toNat_natCast]
  have ht : ((l.drop (8 * i)).take (min (l.drop (8 * i)).length 8)) = (l.drop (8 * i)).take 8 := by
    rcases Nat.le_total (l.drop (8 * i)).length 8 with q | q
    · rw [Nat.min_eq_left q, List.take_of_length_le (Nat.le_refl _), List.take_of_length_le q]
    · rw [Nat.min_eq_right q]
  rw [ht]
  have hlen : ((l.drop (8 * i)).take 8).length ≤ 8 := by rw [List.length_take]; omega
  have := of_loop ((h.drop (8 * i)).take 8) hlen ((min (l.drop (8 * i)).length 9 : Nat) : Int) ((l.drop (8 * i)).take 8).length 0 (k + 10 - ((l.drop (8 * i)).take 8).length) (by omega)
  rw [show k + 10 - ((l.drop (8 * i)).take 8).length + ((l.drop (8 * i)).take 8).length + 1 = k + 11 by omega] at this
  have hz : wrd (((l.drop (8 * i)).take 8).take 0) = 0 := by rw [List.take_zero]; rfl
  rw [hz, wrd_take] at this
  rw [hm]
  exact this.trans (by rw [List.length_drop])
theorem of_out (l : List Int) (hl : l.length ≤ 140737488351232) (i : Int) (hi : i < 0 ∨ (cntS l : Int) ≤ i) (k : Nat) : slice_Of.f (k + 1) l i = some (0, 0, 2) := by
  unfold slice_Of.f
  by_cases h : i < 0
  · rw [if_pos h]; rfl
  · rw [if_neg h, count_eq l hl]
    show slice_Of.j0 (k + 1) l i (decide (i ≥ ((cntS l : Nat) : Int))) = _
    rw [decide_eq_true (by omega)]
    rfl
theorem wrd_short {r : List Int} (h : r.length < 8) : ∃ q : Int, wrd r = q * ((2 ^ (64 - 8 * r.length) : Nat) : Int) := by
  have z : ∀ i, r.length ≤ i → r.getD i 0 = 0 := fun i hi => by simp [List.getD, List.getElem?_eq_none hi]
  have cases : r.length = 0 ∨ r.length = 1 ∨ r.length = 2 ∨ r.length = 3 ∨ r.length = 4 ∨ r.length = 5 ∨ r.length = 6 ∨ r.length = 7 := by omega
  have key : wrd r % ((2 ^ (64 - 8 * r.length) : Nat) : Int) = 0 := by
    rcases cases with e | e | e | e | e | e | e | e <;> rw [e] <;> rw [e] at z <;> unfold wrd
    · have := z 0 (by omega); have := z 1 (by omega); have := z 2 (by omega); have := z 3 (by omega); have := z 4 (by omega); have := z 5 (by omega); have := z 6 (by omega); have := z 7 (by omega); simp only [Nat.reduceMul, Nat.reduceSub, Nat.reducePow]; omega
    · have := z 1 (by omega); have := z 2 (by omega); have := z 3 (by omega); have := z 4 (by omega); have := z 5 (by omega); have := z 6 (by omega); have := z 7 (by omega); simp only [Nat.reduceMul, Nat.reduceSub, Nat.reducePow]; omega
    · have := z 2 (by omega); have := z 3 (by omega); have := z 4 (by omega); have := z 5 (by omega); have := z 6 (by omega); have := z 7 (by omega); simp only [Nat.reduceMul, Nat.reduceSub, Nat.reducePow]; omega
    · have := z 3 (by omega); have := z 4 (by omega); have := z 5 (by omega); have := z 6 (by omega); have := z 7 (by omega); simp only [Nat.reduceMul, Nat.reduceSub, Nat.reducePow]; omega
    · have := z 4 (by omega); have := z 5 (by omega); have := z 6 (by omega); have := z 7 (by omega); simp only [Nat.reduceMul, Nat.reduceSub, Nat.reducePow]; omega
    · have := z 5 (by omega); have := z 6 (by omega); have := z 7 (by omega); simp only [Nat.reduceMul, Nat.reduceSub, Nat.reducePow]; omega
    · have := z 6 (by omega); have := z 7 (by omega); simp only [Nat.reduceMul, Nat.reduceSub, Nat.reducePow]; omega
    · have := z 7 (by omega); simp only [Nat.reduceMul, Nat.reduceSub, Nat.reducePow]; omega
  exact ⟨wrd r / ((2 ^ (64 - 8 * r.length) : Nat) : Int), by rw [Int.mul_comm]; have := Int.mul_ediv_add_emod (wrd r) ((2 ^ (64 - 8 * r.length) : Nat) : Int); omega⟩
theorem shl_zero (x : Int) (n : Nat) (hn : n < 8) (q : Int) (hx : x = q * ((2 ^ (64 - 8 * n) : Nat) : Int)) : shl .u64 x ((8 * n : Nat) : Int) = 0 := by
  unfold shl
  have e : min (((8 * n : Nat) : Int)).toNat IntKind.u64.bits = 8 * n := by rw [Int.toNat_natCast]; simp [IntKind.bits]; omega
  have hp : ((2 : Int) ^ (8 * n)) = ((2 ^ (8 * n) : Nat) : Int) := by simp
  have h64 : 2 ^ (64 - 8 * n) * 2 ^ (8 * n) = 18446744073709551616 := by rw [← Nat.pow_add, show 64 - 8 * n + 8 * n = 64 by omega]
  rw [e, hp, hx, Int.mul_assoc, ← Int.natCast_mul, h64, IntKind.wrap_u64]
  exact Int.mul_emod_left q _
theorem may_eq {r : List Int} : slice_May.f (wrd r) ((min r.length 9 : Nat) : Int) = some true := by
  unfold slice_May.f
  rw [if_neg (by omega), if_neg (by omega)]
  by_cases h : ((min r.length 9 : Nat) : Int) ≥ 8
  · rw [if_pos h]
  · have hl : r.length < 8 := by omega
    have e : wrap64 (8 * ((min r.length 9 : Nat) : Int)) = ((8 * r.length : Nat) : Int) := by rw [w64 _ (by omega)]; omega
    obtain ⟨q, hq⟩ := wrd_short hl
    rw [if_neg h, e, if_pos (by omega), shl_zero _ _ hl q hq]
    rfl
theorem byte_at {r : List Int} (h : Byt r) (j : Nat) (hj : j < 8) : (shr .u64 (wrd r) (wrap64 (56 - (wrap64 (8 * (j : Int)))))) % 256 = r.getD j 0 := by
  have e : wrap64 (56 - wrap64 (8 * (j : Int))) = ((56 - 8 * j : Nat) : Int) := by
    rw [w64 (8 * (j : Int)) (by omega), w64 _ (by omega)]; omega
  have h0 := h.at_ 0; have h1 := h.at_ 1; have h2 := h.at_ 2; have h3 := h.at_ 3; have h4 := h.at_ 4; have h5 := h.at_ 5; have h6 := h.at_ 6; have h7 := h.at_ 7
  have e2 : min (((56 - 8 * j : Nat) : Int)).toNat IntKind.u64.bits = 56 - 8 * j := by rw [Int.toNat_natCast]; simp [IntKind.bits]; omega
  have hp : ((2 : Int) ^ (56 - 8 * j)) = ((2 ^ (56 - 8 * j) : Nat) : Int) := by simp
  unfold shr
  rw [e, e2, hp]
  have cases : j = 0 ∨ j = 1 ∨ j = 2 ∨ j = 3 ∨ j = 4 ∨ j = 5 ∨ j = 6 ∨ j = 7 := by omega
  rcases cases with rfl | rfl | rfl | rfl | rfl | rfl | rfl | rfl <;> simp only [wrd, Nat.reduceMul, Nat.reduceSub, Nat.reducePow] <;> omega
theorem take_set {r : List Int} (m j : Nat) (hj : j < m) (hm : m ≤ r.length) : (r.take j ++ List.replicate (m - j) 0).set j (r.getD j 0) = r.take (j + 1) ++ List.replicate (m - (j + 1)) 0 := by
  have hjl : j < r.length := by omega
  have e : m - j = (m - (j + 1)) + 1 := by omega
  have hlen : (r.take j).length = j := by rw [List.length_take]; omega
  rw [e, List.replicate_succ, List.set_append_right _ _ (by omega), hlen, Nat.sub_self, List.set_cons_zero, List.take_succ_eq_append_getElem hjl, List.append_assoc]
  simp [List.getD, hjl]
theorem bytes_loop {r : List Int} (h : Byt r) (m : Nat) (hm : m ≤ r.length) (h8 : m ≤ 8) (y : Int) : ∀ d j k, j + d = m →
    slice_Bytes.l0 (k + d + 1) (r.take j ++ List.replicate (m - j) 0) (m : Int) (j : Int) (wrd r) y = some (r.take m, 0)
  | 0, j, k, hj => by
    have : j = m := by omega
    subst this
    rw [Nat.sub_self, List.replicate_zero, List.append_nil]
    unfold slice_Bytes.l0
    rw [if_neg (by omega)]
  | d + 1, j, k, hj => by
    have ih := bytes_loop h m hm h8 y d (j + 1) k (by omega)
    have e : wrap64 ((j : Int) + 1) = ((j + 1 : Nat) : Int) := by rw [w64 _ (by omega)]; omega
    have e2 : (0 : Int) ≤ wrap64 (56 - wrap64 (8 * (j : Int))) := by rw [w64 (8 * (j : Int)) (by omega), w64 _ (by omega)]; omega
    have hlen : (r.take j ++ List.replicate (m - j) (0 : Int)).length = m := by rw [List.length_append, List.length_take, List.length_replicate]; omega
    show slice_Bytes.l0 (k + d + 1 + 1) _ (m : Int) (j : Int) (wrd r) y = _
    unfold slice_Bytes.l0
    rw [if_pos (by omega), if_pos e2, if_pos (by omega), hlen, if_pos (by omega), byte_at h j (by omega), Int.toNat_natCast, take_set m j (by omega) hm, e]
    exact ih
theorem bytes_eq {r : List Int} (h : Byt r) (k : Nat) : slice_Bytes.f (k + 12) (wrd r) ((min r.length 9 : Nat) : Int) = some (r.take 8, 0) := by
  have em : mn ((min r.length 9 : Nat) : Int) 8 = ((min r.length 8 : Nat) : Int) := by unfold mn; split <;> omega
  unfold slice_Bytes.f
  rw [may_eq, Option.bind_some, if_pos rfl, em, if_pos (by omega), Int.toNat_natCast, if_pos (by omega)]
  show slice_Bytes.l0 (k + 12) (List.replicate (min r.length 8) 0) ((List.replicate (min r.length 8) (0 : Int)).length : Int) 0 (wrd r) ((min r.length 9 : Nat) : Int) = _
  have := bytes_loop h (min r.length 8) (by omega) (by omega) ((min r.length 9 : Nat) : Int) (min r.length 8) 0 (k + 11 - min r.length 8) (by omega)
  rw [show k + 11 - min r.length 8 + min r.length 8 + 1 = k + 12 by omega, List.take_zero, List.nil_append, Nat.sub_zero] at this
  rw [List.length_replicate]
  refine this.trans ?_
  congr 2
  rcases Nat.le_total r.length 8 with q | q
  · rw [Nat.min_eq_left q, List.take_of_length_le (Nat.le_refl _), List.take_of_length_le q]
  · rw [Nat.min_eq_right q]
theorem of_ge {l : List Int} (h : Byt l) (hl : l.length ≤ 140737488351232) (i : Nat) (hi : i < cntS l) (k : Nat) (hk : 12 ≤ k) :
    slice_Of.f k l (i : Int) = some (wrd (l.drop (8 * i)), ((min (l.length - 8 * i) 9 : Nat) : Int), 0) := by
  have := of_eq h hl i hi (k - 12)
  rwa [show k - 12 + 12 = k by omega] at this
theorem known_ge : ∃ k0, ∀ k, k0 ≤ k → garnerlaw08_known.f k = some true := by
  have h0 : garnerlaw08_known.f 40 = some true := by decide +kernel
  refine ⟨40, fun k hk => ?_⟩
  induction k with
  | zero => omega
  | succ k ih =>
    rcases Nat.lt_or_ge k 40 with h | h
    · rw [show k + 1 = 40 by omega]; exact h0
    · exact garnerlaw08_known.mono k _ (ih h)
/-- The first m bytes of a word. -/
def bw (w : Int) (m : Nat) : List Int := (List.range m).map fun j => w / ((2 ^ (56 - 8 * j) : Nat) : Int) % 256
theorem bw_len (w : Int) (m : Nat) : (bw w m).length = m := by simp [bw]
theorem bw_at (w : Int) (m j : Nat) : (bw w m).getD j 0 = if j < m then w / ((2 ^ (56 - 8 * j) : Nat) : Int) % 256 else 0 := by
  unfold bw
  simp only [List.getD, List.getElem?_map]
  by_cases h : j < m
  · rw [if_pos h, List.getElem?_range h]; rfl
  · rw [if_neg h, List.getElem?_eq_none (by simp; omega)]; rfl
theorem bw_byt (w : Int) (m : Nat) : Byt (bw w m) := fun x hx => by
  obtain ⟨j, _, rfl⟩ := List.mem_map.1 hx
  exact ⟨Int.emod_nonneg _ (by decide), Int.emod_lt_of_pos _ (by decide)⟩
theorem byte_w (w : Int) (j : Nat) (hj : j < 8) : (shr .u64 w (wrap64 (56 - (wrap64 (8 * (j : Int)))))) % 256 = w / ((2 ^ (56 - 8 * j) : Nat) : Int) % 256 := by
  have e : wrap64 (56 - wrap64 (8 * (j : Int))) = ((56 - 8 * j : Nat) : Int) := by
    rw [w64 (8 * (j : Int)) (by omega), w64 _ (by omega)]; omega
  have e2 : min (((56 - 8 * j : Nat) : Int)).toNat IntKind.u64.bits = 56 - 8 * j := by rw [Int.toNat_natCast]; simp [IntKind.bits]; omega
  have hp : ((2 : Int) ^ (56 - 8 * j)) = ((2 ^ (56 - 8 * j) : Nat) : Int) := by simp
  unfold shr
  rw [e, e2, hp]
theorem bytesW_loop (w : Int) (m : Nat) (h8 : m ≤ 8) (y : Int) : ∀ d j k, j + d = m →
    slice_Bytes.l0 (k + d + 1) ((bw w m).take j ++ List.replicate (m - j) 0) (m : Int) (j : Int) w y = some (bw w m, 0)
  | 0, j, k, hj => by
    have : j = m := by omega
    subst this
    rw [Nat.sub_self, List.replicate_zero, List.append_nil, List.take_of_length_le (by rw [bw_len]; omega)]
    unfold slice_Bytes.l0
    rw [if_neg (by omega)]
  | d + 1, j, k, hj => by
    have ih := bytesW_loop w m h8 y d (j + 1) k (by omega)
    have e : wrap64 ((j : Int) + 1) = ((j + 1 : Nat) : Int) := by rw [w64 _ (by omega)]; omega
    have e2 : (0 : Int) ≤ wrap64 (56 - wrap64 (8 * (j : Int))) := by rw [w64 (8 * (j : Int)) (by omega), w64 _ (by omega)]; omega
    have hlen : ((bw w m).take j ++ List.replicate (m - j) (0 : Int)).length = m := by rw [List.length_append, List.length_take, List.length_replicate, bw_len]; omega
    have hb : (shr .u64 w (wrap64 (56 - (wrap64 (8 * (j : Int)))))) % 256 = (bw w m).getD j 0 := by rw [byte_w w j (by omega), bw_at, if_pos (by omega)]
    show slice_Bytes.l0 (k + d + 1 + 1) _ (m : Int) (j : Int) w y = _
    unfold slice_Bytes.l0
    rw [if_pos (by omega), if_pos e2, if_pos (by omega), hlen, if_pos (by omega), hb, Int.toNat_natCast, take_set m j (by omega) (by rw [bw_len]; omega), e]
    exact ih
/-- Which slices may be. -/
def may (w n : Int) : Bool := decide (0 ≤ n ∧ n ≤ 9 ∧ (8 ≤ n ∨ w % ((2 ^ (64 - 8 * n.toNat) : Nat) : Int) = 0))
theorem shl_eq_zero (w : Int) (n : Nat) (hn : n < 8) (w0 : 0 ≤ w) (w1 : w < 18446744073709551616) : (shl .u64 w ((8 * n : Nat) : Int) == 0) = decide (w % ((2 ^ (64 - 8 * n) : Nat) : Int) = 0) := by
  have e : min (((8 * n : Nat) : Int)).toNat IntKind.u64.bits = 8 * n := by rw [Int.toNat_natCast]; simp [IntKind.bits]; omega
  have hp : ((2 : Int) ^ (8 * n)) = ((2 ^ (8 * n) : Nat) : Int) := by simp
  unfold shl
  rw [e, hp, IntKind.wrap_u64]
  have : (w * ((2 ^ (8 * n) : Nat) : Int) % 18446744073709551616 = 0) ↔ (w % ((2 ^ (64 - 8 * n) : Nat) : Int) = 0) := by
    have cases : n = 0 ∨ n = 1 ∨ n = 2 ∨ n = 3 ∨ n = 4 ∨ n = 5 ∨ n = 6 ∨ n = 7 := by omega
    rcases cases with rfl | rfl | rfl | rfl | rfl | rfl | rfl | rfl <;> simp only [Nat.reduceMul, Nat.reduceSub, Nat.reducePow] <;> omega
  rw [Bool.eq_iff_iff, beq_iff_eq, decide_eq_true_iff]
  exact this
theorem mayW_eq (w n : Int) (w0 : 0 ≤ w) (w1 : w < 18446744073709551616) : slice_May.f w n = some (may w n) := by
  unfold slice_May.f may
  by_cases h1 : n < 0
  · rw [if_pos h1, decide_eq_false (by omega)]
  · rw [if_neg h1]
    by_cases h2 : n > 9
    · rw [if_pos h2, decide_eq_false (by omega)]
    · rw [if_neg h2]
      by_cases h3 : n ≥ 8
      · rw [if_pos h3, decide_eq_true ⟨by omega, by omega, .inl h3⟩]
      · obtain ⟨m, rfl⟩ := Int.eq_ofNat_of_zero_le (show 0 ≤ n by omega)
        have e : wrap64 (8 * (m : Int)) = ((8 * m : Nat) : Int) := by rw [w64 _ (by omega)]; omega
        rw [if_neg h3, e, if_pos (by omega), shl_eq_zero w m (by omega) w0 w1]
        congr 1
        rw [Bool.eq_iff_iff, decide_eq_true_iff, decide_eq_true_iff, Int.toNat_natCast]
        constructor
        · intro q; exact ⟨by omega, by omega, .inr q⟩
        · rintro ⟨_, _, q | q⟩
          · omega
          · exact q
theorem bytesW_yes (w n : Int) (w0 : 0 ≤ w) (w1 : w < 18446744073709551616) (h : may w n = true) (k : Nat) (hk : 12 ≤ k) : slice_Bytes.f k w n = some (bw w (min n.toNat 8), 0) := by
  have hn : 0 ≤ n ∧ n ≤ 9 := by unfold may at h; have := of_decide_eq_true h; exact ⟨this.1, this.2.1⟩
  obtain ⟨m, rfl⟩ := Int.eq_ofNat_of_zero_le hn.1
  have em : mn (m : Int) 8 = ((min m 8 : Nat) : Int) := by unfold mn; split <;> omega
  unfold slice_Bytes.f
  rw [mayW_eq w m w0 w1, Option.bind_some, if_pos h, em, if_pos (by omega), Int.toNat_natCast, if_pos (by omega), Int.toNat_natCast]
  show slice_Bytes.l0 k (List.replicate (min m 8) 0) ((List.replicate (min m 8) (0 : Int)).length : Int) 0 w (m : Int) = _
  have := bytesW_loop w (min m 8) (by omega) (m : Int) (min m 8) 0 (k - 1 - min m 8) (by omega)
  rw [show k - 1 - min m 8 + min m 8 + 1 = k by omega, List.take_zero, List.nil_append, Nat.sub_zero] at this
  rw [List.length_replicate]
  exact this
theorem bytesW_no (w n : Int) (w0 : 0 ≤ w) (w1 : w < 18446744073709551616) (h : may w n = false) (k : Nat) : slice_Bytes.f k w n = some ([], 2) := by
  unfold slice_Bytes.f
  rw [mayW_eq w n w0 w1, Option.bind_some, h, if_neg (by decide)]
theorem wrd_bw (w : Int) (m : Nat) (hm : m ≤ 8) (w0 : 0 ≤ w) (w1 : w < 18446744073709551616) (hz : w % ((2 ^ (64 - 8 * m) : Nat) : Int) = 0) : wrd (bw w m) = w := by
  have cases : m = 0 ∨ m = 1 ∨ m = 2 ∨ m = 3 ∨ m = 4 ∨ m = 5 ∨ m = 6 ∨ m = 7 ∨ m = 8 := by omega
  rcases cases with rfl | rfl | rfl | rfl | rfl | rfl | rfl | rfl | rfl <;> simp only [wrd, bw_at, Nat.reduceMul, Nat.reduceSub, Nat.reducePow, Nat.reduceLT, if_true, if_false, Nat.lt_irrefl] at hz ⊢ <;> omega
theorem cnt_one (l : List Int) (h : l.length ≤ 8) : cntS l = 1 := by unfold cntS; omega
theorem pw256 (d : Nat) : (2 ^ (8 * (d + 1)) : Nat) = 2 ^ (8 * d) * 256 := by rw [show 8 * (d + 1) = 8 * d + 8 by omega, Nat.pow_add]
theorem uwr (x : Int) (h0 : 0 ≤ x) (h1 : x < 18446744073709551616) : IntKind.u64.wrap x = x := by
  unfold IntKind.wrap
  simp [IntKind.bits, IntKind.signed]
  omega
theorem byteAt_loop (j : Nat) (hj : j < 8) : ∀ (d i k : Nat) (w : Int), 0 ≤ w → w < 18446744073709551616 → i + d = 7 - j → garnerref08_byteAt.l0 (k + d + 1) w (j : Int) (i : Int) = some (w / ((2 ^ (8 * d) : Nat) : Int) % 256)
  | 0, i, k, w, w0, w1, hi => by
    have e7 : wrap64 (7 - (j : Int)) = ((7 - j : Nat) : Int) := by unfold wrap64; omega
    rw [garnerref08_byteAt.l0, if_neg (by rw [e7]; omega), Int.tmod_eq_emod_of_nonneg w0]
    simp only [Nat.mul_zero, Nat.pow_zero, Int.natCast_one, Int.ediv_one]
    congr 1
    omega
  | d + 1, i, k, w, w0, w1, hi => by
    have e7 : wrap64 (7 - (j : Int)) = ((7 - j : Nat) : Int) := by unfold wrap64; omega
    have e1 : wrap64 ((i : Int) + 1) = ((i + 1 : Nat) : Int) := by unfold wrap64; omega
    rw [show k + (d + 1) + 1 = (k + d + 1) + 1 by omega, garnerref08_byteAt.l0, if_pos (by rw [e7]; omega), e1, Int.tdiv_eq_ediv_of_nonneg w0, uwr (w / 256) (by omega) (by omega), byteAt_loop j hj d (i + 1) k (w / 256) (by omega) (by omega) (by omega),
      Int.ediv_ediv_of_nonneg (by decide), pw256, Int.natCast_mul, Int.mul_comm]
    rfl
theorem byteAt_eq (w : Int) (w0 : 0 ≤ w) (w1 : w < 18446744073709551616) (j : Nat) (hj : j < 8) (k : Nat) (hk : 8 ≤ k) : garnerref08_byteAt.f k w (j : Int) = some (w / ((2 ^ (56 - 8 * j) : Nat) : Int) % 256) := by
  unfold garnerref08_byteAt.f
  have := byteAt_loop j hj (7 - j) 0 (k - 1 - (7 - j)) w w0 w1 (by omega)
  rwa [show k - 1 - (7 - j) + (7 - j) + 1 = k by omega, show 8 * (7 - j) = 56 - 8 * j by omega] at this
theorem mod_step (w : Int) (m : Nat) : w % ((2 ^ (8 * (m + 1)) : Nat) : Int) = 0 ↔ w / ((2 ^ (8 * m) : Nat) : Int) % 256 = 0 ∧ w % ((2 ^ (8 * m) : Nat) : Int) = 0 := by
  have hp : 0 < (2 ^ (8 * m) : Nat) := Nat.pow_pos (by decide)
  rw [pw256]
  generalize (2 ^ (8 * m) : Nat) = p at hp ⊢
  rw [Int.natCast_mul]
  constructor
  · intro h
    obtain ⟨q, rfl⟩ := Int.dvd_of_emod_eq_zero h
    rw [Int.mul_assoc]
    refine ⟨?_, Int.mul_emod_right _ _⟩
    rw [Int.mul_ediv_cancel_left _ (by omega)]
    exact Int.mul_emod_right _ _
  · rintro ⟨h1, h2⟩
    obtain ⟨q, rfl⟩ := Int.dvd_of_emod_eq_zero h2
    rw [Int.mul_ediv_cancel_left _ (by omega)] at h1
    obtain ⟨r, rfl⟩ := Int.dvd_of_emod_eq_zero h1
    rw [← Int.mul_assoc]
    exact Int.mul_emod_right _ _
theorem refMay_loop (w n : Int) (w0 : 0 ≤ w) (w1 : w < 18446744073709551616) : ∀ (d j k : Nat), j + d = 8 → 9 ≤ k → garnerref08_May.l0 (k + d) (j : Int) w n = some (decide (w % ((2 ^ (8 * d) : Nat) : Int) = 0))
  | 0, j, k, hj, hk => by
    obtain ⟨k, rfl⟩ : ∃ m, k = m + 1 := ⟨k - 1, by omega⟩
    rw [Nat.add_zero, garnerref08_May.l0, if_neg (by omega)]
    simp only [Nat.mul_zero, Nat.pow_zero, Int.natCast_one, Int.emod_one, decide_true]
  | d + 1, j, k, hj, hk => by
    have e1 : wrap64 ((j : Int) + 1) = ((j + 1 : Nat) : Int) := by unfold wrap64; omega
    have hm := mod_step w d
    rw [show k + (d + 1) = (k + d) + 1 by omega, garnerref08_May.l0, if_pos (by omega), byteAt_eq w w0 w1 j (by omega) _ (by omega), Option.bind_some, show 56 - 8 * j = 8 * d by omega, e1]
    by_cases h : w / ((2 ^ (8 * d) : Nat) : Int) % 256 = 0
    · rw [if_pos h, refMay_loop w n w0 w1 d (j + 1) k (by omega) hk]
      congr 1
      exact decide_eq_decide.mpr ⟨fun q => hm.mpr ⟨h, q⟩, fun q => (hm.mp q).2⟩
    · rw [if_neg h]
      congr 1
      exact (decide_eq_false (fun q => h (hm.mp q).1)).symm
theorem refMay_eq (w n : Int) (w0 : 0 ≤ w) (w1 : w < 18446744073709551616) (k : Nat) (hk : 20 ≤ k) : garnerref08_May.f k w n = some (may w n) := by
  unfold garnerref08_May.f may
  obtain ⟨k, rfl⟩ : ∃ m, k = m + 1 := ⟨k - 1, by omega⟩
  by_cases h0 : n < 0
  · rw [if_pos h0, garnerref08_May.j0, if_pos rfl, decide_eq_false (by omega)]
  · rw [if_neg h0, garnerref08_May.j0]
    by_cases h9 : n > 9
    · rw [decide_eq_true h9, if_pos rfl, decide_eq_false (by omega)]
    · rw [decide_eq_false h9, if_neg (by decide)]
      obtain ⟨m, rfl⟩ := Int.eq_ofNat_of_zero_le (show 0 ≤ n by omega)
      by_cases h8 : 8 ≤ m
      · obtain ⟨k, rfl⟩ : ∃ m, k = m + 1 := ⟨k - 1, by omega⟩
        rw [garnerref08_May.l0, if_neg (by omega), decide_eq_true ⟨by omega, by omega, .inl (by omega)⟩]
      · have := refMay_loop w (m : Int) w0 w1 (8 - m) m (k - (8 - m)) (by omega) (by omega)
        rw [show k - (8 - m) + (8 - m) = k by omega, show 8 * (8 - m) = 64 - 8 * m by omega] at this
        rw [this]
        congr 1
        refine decide_eq_decide.mpr ⟨fun q => ⟨by omega, by omega, .inr ?_⟩, fun q => ?_⟩
        · rw [Int.toNat_natCast]; exact q
        · rcases q.2.2 with r | r
          · omega
          · rwa [Int.toNat_natCast] at r
theorem bw_succ (w : Int) (j : Nat) : bw w (j + 1) = bw w j ++ [w / ((2 ^ (56 - 8 * j) : Nat) : Int) % 256] := by simp [bw, List.range_succ]
theorem refBytes_loop (w n : Int) (w0 : 0 ≤ w) (w1 : w < 18446744073709551616) (m : Nat) (hm : mn n 8 = (m : Int)) (h8 : m ≤ 8) : ∀ (d j k : Nat), j + d = m → 9 ≤ k → garnerref08_Bytes.l0 (k + d) (bw w j) (j : Int) w n = some (bw w m, 0)
  | 0, j, k, hj, hk => by
    obtain ⟨k, rfl⟩ : ∃ m, k = m + 1 := ⟨k - 1, by omega⟩
    obtain rfl : j = m := by omega
    rw [Nat.add_zero, garnerref08_Bytes.l0, if_neg (by rw [hm]; omega)]
  | d + 1, j, k, hj, hk => by
    have e1 : wrap64 ((j : Int) + 1) = ((j + 1 : Nat) : Int) := by unfold wrap64; omega
    rw [show k + (d + 1) = (k + d) + 1 by omega, garnerref08_Bytes.l0, if_pos (by rw [hm]; omega), byteAt_eq w w0 w1 j (by omega) _ (by omega), Option.bind_some, if_pos (by rw [bw_len]; omega), e1, ← bw_succ]
    exact refBytes_loop w n w0 w1 m hm h8 d (j + 1) k (by omega) hk
/-- What a slice's bytes are, and its error. -/
def byE (w n : Int) : List Int × Int := if may w n = true then (bw w (min n.toNat 8), 0) else ([], 2)
theorem bytes_byE (w n : Int) (w0 : 0 ≤ w) (w1 : w < 18446744073709551616) (k : Nat) (hk : 30 ≤ k) : slice_Bytes.f k w n = some (byE w n) ∧ garnerref08_Bytes.f k w n = some (byE w n) := by
  unfold byE
  by_cases h : may w n = true
  · rw [if_pos h]
    refine ⟨bytesW_yes w n w0 w1 h k (by omega), ?_⟩
    have hn : 0 ≤ n ∧ n ≤ 9 := by unfold may at h; have := of_decide_eq_true h; exact ⟨this.1, this.2.1⟩
    unfold garnerref08_Bytes.f
    rw [refMay_eq w n w0 w1 k (by omega), Option.bind_some, if_pos h]
    have em : mn n 8 = ((min n.toNat 8 : Nat) : Int) := by unfold mn; split <;> omega
    have := refBytes_loop w n w0 w1 (min n.toNat 8) em (by omega) (min n.toNat 8) 0 (k - min n.toNat 8) (by omega) (by omega)
    rw [show k - min n.toNat 8 + min n.toNat 8 = k by omega] at this
    exact this
  · have h' : may w n = false := Bool.eq_false_iff.mpr h
    rw [if_neg h]
    refine ⟨bytesW_no w n w0 w1 h' k, ?_⟩
    unfold garnerref08_Bytes.f
    rw [refMay_eq w n w0 w1 k (by omega), Option.bind_some, if_neg h]
theorem byE_err (w n : Int) : (byE w n).2 = 0 ∨ (byE w n).2 = 2 := by unfold byE; split <;> simp
theorem byE_len (w n : Int) : (byE w n).1.length ≤ 8 := by
  unfold byE
  split
  · rw [bw_len]; omega
  · simp
def Slc (l : List S26) : Prop := ∀ s ∈ l, (0 ≤ s.f0 ∧ s.f0 < 18446744073709551616)
theorem Slc.rd {l : List S26} (h : Slc l) (i : Nat) (hi : i < l.length) : 0 ≤ (rd_T26 l (i : Int)).f0 ∧ (rd_T26 l (i : Int)).f0 < 18446744073709551616 := by
  have e : rd_T26 l (i : Int) = l[i] := by simp [rd_T26, List.getD, hi]
  rw [e]
  exact h _ (List.getElem_mem hi)
theorem join_both {l : List S26} (h : Slc l) (hl : l.length ≤ 2000) (h1 : 0 < l.length) : ∀ (d i : Nat) (acc : List Int) (k : Nat), i + d = l.length → acc.length ≤ 8 * i → 40 ≤ k →
    ∃ r : List Int × Int, (r.2 = 0 ∨ r.2 = 2) ∧ slice_Join.l0 (k + d) l acc l (l.length : Int) (i : Int) = some r ∧ garnerref08_Join.l0 (k + d) l acc (i : Int) = some r
  | 0, i, acc, k, hi, ha, hk => by
    obtain ⟨k, rfl⟩ : ∃ m, k = m + 1 := ⟨k - 1, by omega⟩
    refine ⟨(acc, 0), .inl rfl, ?_, ?_⟩
    · rw [Nat.add_zero, slice_Join.l0, if_neg (by omega), if_neg (by omega)]
    · rw [Nat.add_zero, garnerref08_Join.l0, if_neg (by omega)]
  | d + 1, i, acc, k, hi, ha, hk => by
    have e1 : wrap64 ((i : Int) + 1) = ((i + 1 : Nat) : Int) := by unfold wrap64; omega
    obtain ⟨w0, w1⟩ := h.rd i (by omega)
    obtain ⟨b1, b2⟩ := bytes_byE _ (rd_T26 l (i : Int)).f1 w0 w1 (k + d) (by omega)
    rw [show k + (d + 1) = (k + d) + 1 by omega, slice_Join.l0, garnerref08_Join.l0, if_pos (by omega), if_pos (by omega), if_pos (by omega), if_pos (by omega), if_pos (by omega), b1, b2]
    have hlen := byE_len (rd_T26 l (i : Int)).f0 (rd_T26 l (i : Int)).f1
    generalize byE (rd_T26 l (i : Int)).f0 (rd_T26 l (i : Int)).f1 = b at hlen
    simp only [Option.bind_some]
    by_cases c1 : b.2 = 0
    · simp only [if_pos c1]
      by_cases c2 : (((rd_T26 l (i : Int)).f1 == 9) != decide ((i : Int) < wrap64 ((l.length : Int) - 1))) = true
      · simp only [if_pos c2]
        exact ⟨([], 2), .inr rfl, rfl, rfl⟩
      · simp only [if_neg c2]
        obtain ⟨r, hr0, hr1, hr2⟩ := join_both h hl h1 d (i + 1) (acc ++ b.1) k (by omega) (by rw [List.length_append]; omega) hk
        have hroom : acc.length + b.1.length < 140737488355328 := by omega
        simp only [if_pos hroom, e1, hr1, hr2]
        by_cases c3 : (i : Int) > 0
        · simp only [if_pos c3]
          by_cases c4 : (rd_T26 l (i : Int)).f1 = 0
          · simp only [if_pos c4]
            exact ⟨([], 2), .inr rfl, rfl, rfl⟩
          · simp only [if_neg c4]
            exact ⟨r, hr0, rfl, rfl⟩
        · simp only [if_neg c3]
          exact ⟨r, hr0, rfl, rfl⟩
    · simp only [if_neg c1]
      exact ⟨([], 2), .inr rfl, rfl, rfl⟩
theorem join_two {l : List S26} (h : Slc l) (hl : l.length ≤ 2000) (k : Nat) (hk : 2100 ≤ k) : ∃ r : List Int × Int, slice_Join.f k l = some r ∧ garnerref08_Join.f k l = some r := by
  unfold slice_Join.f garnerref08_Join.f
  by_cases h1 : l.length = 0
  · obtain ⟨k, rfl⟩ : ∃ m, k = m + 1 := ⟨k - 1, by omega⟩
    refine ⟨([], 2), ?_, ?_⟩
    · rw [slice_Join.l0, if_neg (by omega), if_pos (by omega)]
    · rw [if_pos (by omega)]
  · obtain ⟨r, _, hr1, hr2⟩ := join_both h hl (by omega) l.length 0 [] (k - l.length) (by omega) (by simp) (by omega)
    rw [show k - l.length + l.length = k by omega] at hr1 hr2
    exact ⟨r, hr1, by rw [if_neg (by omega)]; exact hr2⟩
theorem cmp_both (a b c d : Int) (k : Nat) (hk : 1 ≤ k) : ∃ r, slice_Compare.f a b c d = some r ∧ garnerref08_Compare.f k a b c d = some r := by
  obtain ⟨k, rfl⟩ : ∃ m, k = m + 1 := ⟨k - 1, by omega⟩
  unfold slice_Compare.f garnerref08_Compare.f
  rcases Int.lt_trichotomy a c with h | h | h
  · refine ⟨-1, ?_, ?_⟩
    · rw [if_neg (by omega), if_pos h]
    · rw [if_pos h, garnerref08_Compare.j0, if_pos rfl]
  · subst h
    rw [if_pos rfl, if_neg (Int.lt_irrefl a), if_pos rfl, garnerref08_Compare.j0]
    rcases Int.lt_trichotomy b d with g | g | g
    · refine ⟨-1, ?_, ?_⟩
      · rw [if_neg (by omega), if_pos g]
      · rw [if_pos (decide_eq_true g)]
    · refine ⟨0, ?_, ?_⟩
      · rw [if_pos g]
      · rw [if_neg (by rw [decide_eq_true_eq]; omega), if_neg (by omega), if_neg (by omega)]
    · refine ⟨1, ?_, ?_⟩
      · rw [if_neg (by omega), if_neg (by omega)]
      · rw [if_neg (by rw [decide_eq_true_eq]; omega), if_neg (by omega), if_pos (by omega)]
  · refine ⟨1, ?_, ?_⟩
    · rw [if_neg (by omega), if_neg (by omega)]
    · rw [if_neg (by omega), if_neg (by omega), garnerref08_Compare.j0, if_neg (by decide), if_pos (by omega)]
theorem words_loop (k0 : Nat) (hk0 : ∀ k, k0 ≤ k → garnerlaw08_known.f k = some true) {l : List S26} (h : Slc l) (hl : l.length ≤ 2000) : ∀ (d i k : Nat), i + d = l.length → k0 + 40 ≤ k → garnerlaw08_SliceWords.l0 (k + d) l (i : Int) = some true
  | 0, i, k, hi, hk => by
    obtain ⟨k, rfl⟩ : ∃ m, k = m + 1 := ⟨k - 1, by omega⟩
    rw [Nat.add_zero, garnerlaw08_SliceWords.l0, if_neg (by omega), hk0 k (by omega)]
    rfl
  | d + 1, i, k, hi, hk => by
    have e1 : wrap64 ((i : Int) + 1) = ((i + 1 : Nat) : Int) := by unfold wrap64; omega
    obtain ⟨w0, w1⟩ := h.rd i (by omega)
    obtain ⟨b1, b2⟩ := bytes_byE _ (rd_T26 l (i : Int)).f1 w0 w1 (k + d) (by omega)
    obtain ⟨r1, c1, c2⟩ := cmp_both (rd_T26 l (i : Int)).f0 (rd_T26 l (i : Int)).f1 (rd_T26 l 0).f0 (rd_T26 l 0).f1 (k + d) (by omega)
    obtain ⟨r2, c3, c4⟩ := cmp_both (rd_T26 l 0).f0 (rd_T26 l 0).f1 (rd_T26 l (i : Int)).f0 (rd_T26 l (i : Int)).f1 (k + d) (by omega)
    rw [show k + (d + 1) = (k + d) + 1 by omega, garnerlaw08_SliceWords.l0, if_pos (by omega), if_pos (by omega), b1, b2, Option.bind_some, Option.bind_some, mayW_eq _ _ w0 w1, Option.bind_some, refMay_eq _ _ w0 w1 _ (by omega), Option.bind_some,
      if_neg (by simp), if_pos rfl]
    unfold garnerlaw08_num.f
    rw [Option.bind_some, if_pos rfl, if_pos (by omega), c1, Option.bind_some, c2, Option.bind_some, if_pos rfl, c3, Option.bind_some, c4, Option.bind_some, if_pos rfl, e1]
    exact words_loop k0 hk0 h hl d (i + 1) k (by omega) hk
theorem SliceWords (l : List S26) (hw : ∀ s ∈ l, (Go.Lit.int .u64 s.f0).wf = true ∧ (Go.Lit.int .i64 s.f1).wf = true) : ∃ k, garnerlaw08_SliceWords.f k l = some true := by
  obtain ⟨k0, hk⟩ := known_ge
  have h : Slc l := fun s hs => u64_of_wf (hw s hs).1
  refine ⟨k0 + 3000, ?_⟩
  unfold garnerlaw08_SliceWords.f
  by_cases hl : l.length ≤ 2000
  · rw [if_neg (by omega)]
    obtain ⟨r, j1, j2⟩ := join_two h hl (k0 + 3000) (by omega)
    rw [j1, j2, Option.bind_some, Option.bind_some, if_pos rfl]
    unfold garnerlaw08_num.f
    rw [Option.bind_some, show k0 + 3000 = (k0 + 2999) + 1 by omega, garnerlaw08_SliceWords.j0, if_neg (by simp)]
    have := words_loop k0 hk h hl l.length 0 (k0 + 2999 - l.length) (by omega) (by omega)
    rw [show k0 + 2999 - l.length + l.length = k0 + 2999 by omega] at this
    exact this
  · rw [if_pos (by omega), hk _ (by omega)]
    rfl
end Go.Proofs.Ytbaaihpkolicmaa.Pure
