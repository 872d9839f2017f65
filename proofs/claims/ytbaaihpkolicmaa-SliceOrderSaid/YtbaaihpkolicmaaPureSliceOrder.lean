/- The bytes of a key's slices, put together, are the key, and of two keys the first slices that differ tell how the keys compare. -/
import Derived.Test.YtbaaihpkolicmaaHSx9
import Derived.Test.YtbaaihpkolicmaaU64
namespace Go.Proofs.Ytbaaihpkolicmaa.Pure
open Go.RowKit Go.Proofs.Ytbaaihpkolicmaa.HS Go.Proofs.YtbaaihpkolicmaaW.PrintWords Go.Proofs.YtbaaihpkolicmaaW.PrintLast Go.Proofs.YtbaaihpkolicmaaW.PrintMore Go.Proofs.Ytbaaihpkolicmaa.U64
theorem w64 (n : Int) (h : -9223372036854775808 ≤ n ∧ n ≤ 9223372036854775807) : wrap64 n = n := by unfold wrap64; omega
def Byt (l : List Int) : Prop := ∀ x ∈ l, 0 ≤ x ∧ x < 256
theorem byt_of {l : List Int} (h : ∀ x ∈ l, (Go.Lit.int .u8 x).wf = true) : Byt l := fun x hx => by
  have := h x hx
  simp [Go.Lit.wf, IntKind.min, IntKind.max, IntKind.signed, IntKind.bits] at this
  omega
theorem Byt.at_ {l : List Int} (h : Byt l) (i : Nat) : 0 ≤ l.getD i 0 ∧ l.getD i 0 < 256 := by
  by_cases hi : i < l.length
  · have : l.getD i 0 = l[i] := by simp [List.getD, hi]
    rw [this]
    exact h _ (List.getElem_mem hi)
  · have : l.getD i 0 = 0 := by simp [List.getD, List.getElem?_eq_none (Nat.le_of_not_lt hi)]
    omega
theorem Byt.drop {l : List Int} (h : Byt l) (n : Nat) : Byt (l.drop n) := fun x hx => h x (List.mem_of_mem_drop hx)
theorem Byt.take {l : List Int} (h : Byt l) (n : Nat) : Byt (l.take n) := fun x hx => h x (List.mem_of_mem_take hx)
/-- Eight bytes as one number, the first one highest. -/
def wrd (r : List Int) : Int := r.getD 0 0 * 72057594037927936 + r.getD 1 0 * 281474976710656 + r.getD 2 0 * 1099511627776 + r.getD 3 0 * 4294967296 + r.getD 4 0 * 16777216 + r.getD 5 0 * 65536 + r.getD 6 0 * 256 + r.getD 7 0
theorem take_at (r : List Int) (n i : Nat) : (r.take n).getD i 0 = if i < n then r.getD i 0 else 0 := by
  simp only [List.getD, List.getElem?_take]
  split <;> simp
theorem wrd_range {r : List Int} (h : Byt r) : 0 ≤ wrd r ∧ wrd r < 18446744073709551616 := by
  have h0 := h.at_ 0; have h1 := h.at_ 1; have h2 := h.at_ 2; have h3 := h.at_ 3; have h4 := h.at_ 4; have h5 := h.at_ 5; have h6 := h.at_ 6; have h7 := h.at_ 7
  unfold wrd; omega
theorem shl_num (x : Int) (i : Nat) (h0 : 0 ≤ x) (hx : x < 256) (hi : i ≤ 56) : shl .u64 x (i : Int) = x * (2 ^ i : Nat) := by
  unfold shl
  have e : min (i : Int).toNat IntKind.u64.bits = i := by simp [IntKind.bits]; omega
  have hp : ((2 : Int) ^ i) = ((2 ^ i : Nat) : Int) := by simp
  have hle : (2 ^ i : Nat) ≤ 2 ^ 56 := Nat.pow_le_pow_right (by decide) hi
  rw [e, IntKind.wrap_u64, hp]
  generalize hP : (2 ^ i : Nat) = P at hle ⊢
  have h1 : x * (P : Int) ≤ 255 * (P : Int) := Int.mul_le_mul_of_nonneg_right (by omega) (by omega)
  exact Int.emod_eq_of_lt (Int.mul_nonneg h0 (by omega)) (by omega)
theorem or_step (a x : Int) (i : Nat) (a0 : 0 ≤ a) (a1 : a < 18446744073709551616) (h0 : 0 ≤ x) (hx : x < 256) (hi : i ≤ 56) (he : a / (2 ^ i : Nat) % 256 = 0) :
    Go.bits .or .u64 a (shl .u64 (IntKind.u64.wrap x) (i : Int)) = a + x * (2 ^ i : Nat) := by
  rw [IntKind.wrap_u64, Int.emod_eq_of_lt h0 (by omega), shl_num x i h0 hx hi]
  obtain ⟨n, rfl⟩ := Int.eq_ofNat_of_zero_le h0
  have := or_field' a a0 a1 i 8 n (by omega) (by simpa using he) (by omega)
  simpa using this
theorem wrd_step {r : List Int} (h : Byt r) (j : Nat) (hj : j < 8) :
    Go.bits .or .u64 (wrd (r.take j)) (shl .u64 (IntKind.u64.wrap (rd r (j : Int))) (wrap64 (56 - wrap64 (8 * (j : Int))))) = wrd (r.take (j + 1)) := by
  have hw := wrd_range (h.take j)
  have h0 := h.at_ 0; have h1 := h.at_ 1; have h2 := h.at_ 2; have h3 := h.at_ 3; have h4 := h.at_ 4; have h5 := h.at_ 5; have h6 := h.at_ 6; have h7 := h.at_ 7
  have e : wrap64 (56 - wrap64 (8 * (j : Int))) = ((56 - 8 * j : Nat) : Int) := by
    rw [w64 (8 * (j : Int)) (by omega), w64 _ (by omega)]; omega
  have hr : rd r (j : Int) = r.getD j 0 := by simp [rd]
  have hb := h.at_ j
  rw [e, hr]
  have key : wrd (r.take j) / ((2 ^ (56 - 8 * j) : Nat) : Int) % 256 = 0 ∧ wrd (r.take (j + 1)) = wrd (r.take j) + r.getD j 0 * ((2 ^ (56 - 8 * j) : Nat) : Int) := by
    have cases : j = 0 ∨ j = 1 ∨ j = 2 ∨ j = 3 ∨ j = 4 ∨ j = 5 ∨ j = 6 ∨ j = 7 := by omega
    rcases cases with rfl | rfl | rfl | rfl | rfl | rfl | rfl | rfl <;> simp only [wrd, take_at, Nat.reduceMul, Nat.reduceSub, Nat.reducePow, Nat.reduceLT, Nat.reduceAdd, if_true, if_false, Nat.lt_irrefl] <;> constructor <;> omega
  rw [key.2]
  exact or_step _ _ _ hw.1 hw.2 hb.1 hb.2 (by omega) key.1
theorem of_loop {r : List Int} (h : Byt r) (h8 : r.length ≤ 8) (x : Int) : ∀ d j k, j + d = r.length →
    slice_Of.l0 (k + d + 1) r (r.length : Int) (j : Int) (wrd (r.take j)) x = some (wrd r, x, 0)
  | 0, j, k, hj => by
    have : r.take j = r := List.take_of_length_le (by omega)
    rw [this]
    unfold slice_Of.l0
    rw [if_neg (by omega)]
  | d + 1, j, k, hj => by
    have ih := of_loop h h8 x d (j + 1) k (by omega)
    have e : wrap64 ((j : Int) + 1) = ((j + 1 : Nat) : Int) := by rw [w64 _ (by omega)]; omega
    have e2 : (0 : Int) ≤ wrap64 (56 - wrap64 (8 * (j : Int))) := by rw [w64 (8 * (j : Int)) (by omega), w64 _ (by omega)]; omega
    have hs := wrd_step h j (by omega)
    show slice_Of.l0 (k + d + 1 + 1) r (r.length : Int) (j : Int) (wrd (r.take j)) x = _
    unfold slice_Of.l0
    rw [if_pos (by omega), if_pos (by omega), if_pos (by omega), if_pos e2, hs, e]
    exact ih
theorem count_eq (l : List Int) (h : l.length ≤ 140737488351232) : slice_Count.f l = some ((cntS l : Nat) : Int) := by
  unfold slice_Count.f
  rw [w64 ((l.length : Int) + 7) (by omega), Int.tdiv_eq_ediv_of_nonneg (by omega), w64 _ (by omega)]
  congr 1
  unfold mx cntS
  split <;> omega
theorem wrd_take (r : List Int) : wrd (r.take 8) = wrd r := by simp [wrd]
/-- A slice by its bytes. -/
theorem of_eq {l : List Int} (h : Byt l) (hl : l.length ≤ 140737488351232) (i : Nat) (hi : i < cntS l) (k : Nat) :
    slice_Of.f (k + 12) l (i : Int) = some (wrd (l.drop (8 * i)), ((min (l.length - 8 * i) 9 : Nat) : Int), 0) := by
  have hc : 8 * i ≤ l.length := by unfold cntS at hi; omega
  unfold slice_Of.f
  rw [if_neg (by omega), count_eq l hl]
  show slice_Of.j0 (k + 12) l (i : Int) (decide ((i : Int) ≥ ((cntS l : Nat) : Int))) = _
  obtain ⟨m, hm⟩ : ∃ m, m = k + 11 := ⟨_, rfl⟩
  rw [decide_eq_false (by omega), show k + 12 = m + 1 by omega]
  rw [slice_Of.j0]
  have e : wrap64 (8 * (i : Int)) = ((8 * i : Nat) : Int) := by rw [w64 _ (by omega)]; omega
  have en : ((8 * i : Nat) : Int).toNat = 8 * i := Int.toNat_natCast _
  have em : ∀ n : Nat, mn (n : Int) 8 = ((min n 8 : Nat) : Int) := fun n => by unfold mn; split <;> omega
  have em9 : ∀ n : Nat, mn (n : Int) 9 = ((min n 9 : Nat) : Int) := fun n => by unfold mn; split <;> omega
  rw [if_neg (by decide), e, if_pos (by omega), if_pos (by omega), en, em, em9, if_pos (by omega), if_pos (by omega), Int.toNat_natCast]
  have ht : ((l.drop (8 * i)).take (min (l.drop (8 * i)).length 8)) = (l.drop (8 * i)).take 8 := by
    rcases Nat.le_total (l.drop (8 * i)).length 8 with q | q
    · rw [Nat.min_eq_left q, List.take_of_length_le (Nat.le_refl _), List.take_of_length_le q]
    · rw [Nat.min_eq_right q]
  rw [ht]
  have hlen : ((l.drop (8 * i)).take 8).length ≤ 8 := by rw [List.length_take]; omega
  have := of_loop ((h.drop (8 * i)).take 8) hlen ((min (l.drop (8 * i)).length 9 : Nat) : Int) ((l.drop (8 * i)).take 8).length 0 (k + 10 - ((l.drop (8 * i)).take 8).length) (by omega)
  rw [show k + 10 - ((l.drop (8 * i)).take 8).length + ((l.drop (8 * i)).take 8).length + 1 = k + 11 by omega] at this
  have hz : wrd (((l.drop (8 * i)).take 8).take 0) = 0 := by rw [List.take_zero]; rfl
  rw [hz, wrd_take] at this
  rw [hm]
  exact this.trans (by rw [List.length_drop])
theorem of_out (l : List Int) (hl : l.length ≤ 140737488351232) (i : Int) (hi : i < 0 ∨ (cntS l : Int) ≤ i) (k : Nat) : slice_Of.f (k + 1) l i = some (0, 0, 2) := by
  unfold slice_Of.f
  by_cases h : i < 0
  · rw [if_pos h]; rfl
  · rw [if_neg h, count_eq l hl]
    show slice_Of.j0 (k + 1) l i (decide (i ≥ ((cntS l : Nat) : Int))) = _
    rw [decide_eq_true (by omega)]
    rfl
theorem wrd_short {r : List Int} (h : r.length < 8) : ∃ q : Int, wrd r = q * ((2 ^ (64 - 8 * r.length) : Nat) : Int) := by
  have z : ∀ i, r.length ≤ i → r.getD i 0 = 0 := fun i hi => by simp [List.getD, List.getElem?_eq_none hi]
  have cases : r.length = 0 ∨ r.length = 1 ∨ r.length = 2 ∨ r.length = 3 ∨ r.length = 4 ∨ r.length = 5 ∨ r.length = 6 ∨ r.length = 7 := by omega
  have key : wrd r % ((2 ^ (64 - 8 * r.length) : Nat) : Int) = 0 := by
    rcases cases with e | e | e | e | e | e | e | e <;> rw [e] <;> rw [e] at z <;> unfold wrd
    · have := z 0 (by omega); have := z 1 (by omega); have := z 2 (by omega); have := z 3 (by omega); have := z 4 (by omega); have := z 5 (by omega); have := z 6 (by omega); have := z 7 (by omega); simp only [Nat.reduceMul, Nat.reduceSub, Nat.reducePow]; omega
    · have := z 1 (by omega); have := z 2 (by omega); have := z 3 (by omega); have := z 4 (by omega); have := z 5 (by omega); have := z 6 (by omega); have := z 7 (by omega); simp only [Nat.reduceMul, Nat.reduceSub, Nat.reducePow]; omega
    · have := z 2 (by omega); have := z 3 (by omega); have := z 4 (by omega); have := z 5 (by omega); have := z 6 (by omega); have := z 7 (by omega); simp only [Nat.reduceMul, Nat.reduceSub, Nat.reducePow]; omega
    · have := z 3 (by omega); have := z 4 (by omega); have := z 5 (by omega); have := z 6 (by omega); have := z 7 (by omega); simp only [Nat.reduceMul, Nat.reduceSub, Nat.reducePow]; omega
    · have := z 4 (by omega); have := z 5 (by omega); have := z 6 (by omega); have := z 7 (by omega); simp only [Nat.reduceMul, Nat.reduceSub, Nat.reducePow]; omega
    · have := z 5 (by omega); have := z 6 (by omega); have := z 7 (by omega); simp only [Nat.reduceMul, Nat.reduceSub, Nat.reducePow]; omega
    · have := z 6 (by omega); have := z 7 (by omega); simp only [Nat.reduceMul, Nat.reduceSub, Nat.reducePow]; omega
    · have := z 7 (by omega); simp only [Nat.reduceMul, Nat.reduceSub, Nat.reducePow]; omega
  exact ⟨wrd r / ((2 ^ (64 - 8 * r.length) : Nat) : Int), by rw [Int.mul_comm]; have := Int.mul_ediv_add_emod (wrd r) ((2 ^ (64 - 8 * r.length) : Nat) : Int); omega⟩
theorem shl_zero (x : Int) (n : Nat) (hn : n < 8) (q : Int) (hx : x = q * ((2 ^ (64 - 8 * n) : Nat) : Int)) : shl .u64 x ((8 * n : Nat) : Int) = 0 := by
  unfold shl
  have e : min (((8 * n : Nat) : Int)).toNat IntKind.u64.bits = 8 * n := by rw [Int.toNat_natCast]; simp [IntKind.bits]; omega
  have hp : ((2 : Int) ^ (8 * n)) = ((2 ^ (8 * n) : Nat) : Int) := by simp
  have h64 : 2 ^ (64 - 8 * n) * 2 ^ (8 * n) = 18446744073709551616 := by rw [← Nat.pow_add, show 64 - 8 * n + 8 * n = 64 by omega]
  rw [e, hp, hx, Int.mul_assoc, ← Int.natCast_mul, h64, IntKind.wrap_u64]
  exact Int.mul_emod_left q _
theorem may_eq {r : List Int} : slice_May.f (wrd r) ((min r.length 9 : Nat) : Int) = some true := by
  unfold slice_May.f
  rw [if_neg (by omega), if_neg (by omega)]
  by_cases h : ((min r.length 9 : Nat) : Int) ≥ 8
  · rw [if_pos h]
  · have hl : r.length < 8 := by omega
    have e : wrap64 (8 * ((min r.length 9 : Nat) : Int)) = ((8 * r.length : Nat) : Int) := by rw [w64 _ (by omega)]; omega
    obtain ⟨q, hq⟩ := wrd_short hl
    rw [if_neg h, e, if_pos (by omega), shl_zero _ _ hl q hq]
    rfl
theorem byte_at {r : List Int} (h : Byt r) (j : Nat) (hj : j < 8) : (shr .u64 (wrd r) (wrap64 (56 - (wrap64 (8 * (j : Int)))))) % 256 = r.getD j 0 := by
  have e : wrap64 (56 - wrap64 (8 * (j : Int))) = ((56 - 8 * j : Nat) : Int) := by
    rw [w64 (8 * (j : Int)) (by omega), w64 _ (by omega)]; omega
  have h0 := h.at_ 0; have h1 := h.at_ 1; have h2 := h.at_ 2; have h3 := h.at_ 3; have h4 := h.at_ 4; have h5 := h.at_ 5; have h6 := h.at_ 6; have h7 := h.at_ 7
  have e2 : min (((56 - 8 * j : Nat) : Int)).toNat IntKind.u64.bits = 56 - 8 * j := by rw [Int.toNat_natCast]; simp [IntKind.bits]; omega
  have hp : ((2 : Int) ^ (56 - 8 * j)) = ((2 ^ (56 - 8 * j) : Nat) : Int) := by simp
  unfold shr
  rw [e, e2, hp]
  have cases : j = 0 ∨ j = 1 ∨ j = 2 ∨ j = 3 ∨ j = 4 ∨ j = 5 ∨ j = 6 ∨ j = 7 := by omega
  rcases cases with rfl | rfl | rfl | rfl | rfl | rfl | rfl | rfl <;> simp only [wrd, Nat.reduceMul, Nat.reduceSub, Nat.reducePow] <;> omega
theorem take_set {r : List Int} (m j : Nat) (hj : j < m) (hm : m ≤ r.length) : (r.take j ++ List.replicate (m - j) 0).set j (r.getD j 0) = r.take (j + 1) ++ List.replicate (m - (j + 1)) 0 := by
  have hjl : j < r.length := by omega
  have e : m - j = (m - (j + 1)) + 1 := by omega
  have hlen : (r.take j).length = j := by rw [List.length_take]; omega
  rw [e, List.replicate_succ, List.set_append_right _ _ (by omega), hlen, Nat.sub_self, List.set_cons_zero, List.take_succ_eq_append_getElem hjl, List.append_assoc]
  simp [List.getD, hjl]
theorem bytes_loop {r : List Int} (h : Byt r) (m : Nat) (hm : m ≤ r.length) (h8 : m ≤ 8) (y : Int) : ∀ d j k, j + d = m →
    slice_Bytes.l0 (k + d + 1) (r.take j ++ List.replicate (m - j) 0) (m : Int) (j : Int) (wrd r) y = some (r.take m, 0)
  | 0, j, k, hj => by
    have : j = m := by omega
    subst this
    rw [Nat.sub_self, List.replicate_zero, List.append_nil]
    unfold slice_Bytes.l0
    rw [if_neg (by omega)]
  | d + 1, j, k, hj => by
    have ih := bytes_loop h m hm h8 y d (j + 1) k (by omega)
    have e : wrap64 ((j : Int) + 1) = ((j + 1 : Nat) : Int) := by rw [w64 _ (by omega)]; omega
    have e2 : (0 : Int) ≤ wrap64 (56 - wrap64 (8 * (j : Int))) := by rw [w64 (8 * (j : Int)) (by omega), w64 _ (by omega)]; omega
    have hlen : (r.take j ++ List.replicate (m - j) (0 : Int)).length = m := by rw [List.length_append, List.length_take, List.length_replicate]; omega
    show slice_Bytes.l0 (k + d + 1 + 1) _ (m : Int) (j : Int) (wrd r) y = _
    unfold slice_Bytes.l0
    rw [if_pos (by omega), if_pos e2, if_pos (by omega), hlen, if_pos (by omega), byte_at h j (by omega), Int.toNat_natCast, take_set m j (by omega) hm, e]
    exact ih
theorem bytes_eq {r : List Int} (h : Byt r) (k : Nat) : slice_Bytes.f (k + 12) (wrd r) ((min r.length 9 : Nat) : Int) = some (r.take 8, 0) := by
  have em : mn ((min r.length 9 : Nat) : Int) 8 = ((min r.length 8 : Nat) : Int) := by unfold mn; split <;> omega
  unfold slice_Bytes.f
  rw [may_eq, Option.bind_some, if_pos rfl, em, if_pos (by omega), Int.toNat_natCast, if_pos (by omega)]
  show slice_Bytes.l0 (k + 12) (List.replicate (min r.length 8) 0) ((List.replicate (min r.length 8) (0 : Int)).length : Int) 0 (wrd r) ((min r.length 9 : Nat) : Int) = _
  have := bytes_loop h (min r.length 8) (by omega) (by omega) ((min r.length 9 : Nat) : Int) (min r.length 8) 0 (k + 11 - min r.length 8) (by omega)
  rw [show k + 11 - min r.length 8 + min r.length 8 + 1 = k + 12 by omega, List.take_zero, List.nil_append, Nat.sub_zero] at this
  rw [List.length_replicate]
  refine this.trans ?_
  congr 2
  rcases Nat.le_total r.length 8 with q | q
  · rw [Nat.min_eq_left q, List.take_of_length_le (Nat.le_refl _), List.take_of_length_le q]
  · rw [Nat.min_eq_right q]
/-- The slice i of a key. -/
def slc (l : List Int) (i : Nat) : S26 := ⟨wrd (l.drop (8 * i)), ((min (l.length - 8 * i) 9 : Nat) : Int)⟩
def slcs (l : List Int) (n : Nat) : List S26 := (List.range n).map (slc l)
theorem slcs_len (l : List Int) (n : Nat) : (slcs l n).length = n := by simp [slcs]
theorem slcs_at (l : List Int) (n i : Nat) (h : i < n) : rd_T26 (slcs l n) (i : Int) = slc l i := by simp [rd_T26, slcs, List.getD, h]
theorem slcs_snoc (l : List Int) (n : Nat) : slcs l n ++ [slc l n] = slcs l (n + 1) := by simp [slcs, List.range_succ]
theorem bytes_slc {l : List Int} (h : Byt l) (i k : Nat) : slice_Bytes.f (k + 12) (slc l i).f0 (slc l i).f1 = some ((l.drop (8 * i)).take 8, 0) := by
  have := bytes_eq (h.drop (8 * i)) k
  rw [List.length_drop] at this
  exact this
theorem join_loop {l : List Int} (h : Byt l) (hl : l.length ≤ 140737488351232) : ∀ d j k, j + d = cntS l →
    slice_Join.l0 (k + d + 13) (slcs l (cntS l)) (l.take (8 * j)) (slcs l (cntS l)) ((cntS l : Nat) : Int) (j : Int) = some (l, 0)
  | 0, j, k, hj => by
    have hc : cntS l ≠ 0 := by unfold cntS; omega
    have hx : l.take (8 * j) = l := List.take_of_length_le (by unfold cntS at hj; omega)
    rw [show k + 0 + 13 = (k + 12) + 1 by omega, hx]
    unfold slice_Join.l0
    rw [if_neg (by omega), slcs_len, if_neg (by omega)]
  | d + 1, j, k, hj => by
    have ih := join_loop h hl d (j + 1) k (by omega)
    have hcb : cntS l ≤ 140737488351233 := by unfold cntS; omega
    have e : wrap64 ((j : Int) + 1) = ((j + 1 : Nat) : Int) := by rw [w64 _ (by omega)]; omega
    have e2 : wrap64 (((cntS l : Nat) : Int) - 1) = ((cntS l - 1 : Nat) : Int) := by rw [w64 _ (by omega)]; omega
    have hb := bytes_slc h j (k + d + 1)
    have happ : l.take (8 * j) ++ (l.drop (8 * j)).take 8 = l.take (8 * (j + 1)) := by
      rw [show 8 * (j + 1) = 8 * j + 8 by omega, List.take_add]
    have hfull : ((slc l j).f1 = 9) ↔ j < cntS l - 1 := by
      show ((min (l.length - 8 * j) 9 : Nat) : Int) = 9 ↔ _
      unfold cntS at hj ⊢
      constructor <;> intro q <;> omega
    have hflag : ((((slc l j).f1) == 9) != (decide ((j : Int) < ((cntS l - 1 : Nat) : Int)))) = false := by
      by_cases q : j < cntS l - 1
      · have h9 := hfull.2 q
        rw [h9, decide_eq_true (by omega)]; rfl
      · have h9 : ¬ (slc l j).f1 = 9 := fun w => q (hfull.1 w)
        have : ((slc l j).f1 == 9) = false := by simpa using h9
        rw [this, decide_eq_false (by omega)]; rfl
    have hlen1 : ((l.take (8 * j)).length + ((l.drop (8 * j)).take 8).length) < 140737488355328 := by
      rw [List.length_take, List.length_take, List.length_drop]; omega
    rw [show k + (d + 1) + 13 = (k + d + 13) + 1 by omega]
    unfold slice_Join.l0
    rw [if_pos (by omega), if_pos (by omega), slcs_len, if_pos (by omega), slcs_at l _ j (by omega), show k + d + 13 = (k + d + 1) + 12 by omega, hb, Option.bind_some]
    rw [if_pos rfl, e2, hflag, if_neg (by decide)]
    by_cases j0 : (j : Int) > 0
    · have hne : ¬ (slc l j).f1 = 0 := by
        show ¬ ((min (l.length - 8 * j) 9 : Nat) : Int) = 0
        unfold cntS at hj
        omega
      rw [if_pos j0, if_neg hne, if_pos hlen1, happ, e]
      exact ih
    · rw [if_neg j0, if_pos hlen1, happ, e]
      exact ih
theorem join_eq {l : List Int} (h : Byt l) (hl : l.length ≤ 140737488351232) (k : Nat) : slice_Join.f (k + cntS l + 13) (slcs l (cntS l)) = some (l, 0) := by
  have := join_loop h hl (cntS l) 0 k (by omega)
  unfold slice_Join.f
  rw [slcs_len]
  simpa using this
/-- Two byte lists, compared. -/
def cmpB : List Int → List Int → Int
  | [], [] => 0
  | [], _ :: _ => -1
  | _ :: _, [] => 1
  | a :: xs, b :: ys => if a < b then -1 else if b < a then 1 else cmpB xs ys
theorem cmpB_neg : ∀ a b : List Int, cmpB b a = - cmpB a b
  | [], [] => rfl
  | [], _ :: _ => rfl
  | _ :: _, [] => rfl
  | a :: xs, b :: ys => by
    unfold cmpB
    by_cases h : a < b
    · rw [if_pos h, if_neg (by omega), if_pos h]; rfl
    · rw [if_neg h]
      by_cases g : b < a
      · rw [if_pos g, if_pos g, if_neg h]
      · rw [if_neg g, if_neg g, if_neg h, cmpB_neg xs ys]
theorem cmpB_range : ∀ a b : List Int, cmpB a b = -1 ∨ cmpB a b = 0 ∨ cmpB a b = 1
  | [], [] => .inr (.inl rfl)
  | [], _ :: _ => .inl rfl
  | _ :: _, [] => .inr (.inr rfl)
  | a :: xs, b :: ys => by
    unfold cmpB
    split
    · exact .inl rfl
    · split
      · exact .inr (.inr rfl)
      · exact cmpB_range xs ys
theorem cmpB_bytes : ∀ a b : List Int, Byt a → Byt b → Go.Lib.compareBytes (Go.Lib.bytesOf a) (Go.Lib.bytesOf b) = cmpB a b
  | [], [], _, _ => rfl
  | [], _ :: _, _, _ => rfl
  | _ :: _, [], _, _ => rfl
  | a :: xs, b :: ys, ha, hb => by
    have h1 := ha a List.mem_cons_self
    have h2 := hb b List.mem_cons_self
    have ih := cmpB_bytes xs ys (fun x hx => ha x (List.mem_cons_of_mem _ hx)) (fun x hx => hb x (List.mem_cons_of_mem _ hx))
    have lt : ∀ x y : Int, 0 ≤ x → x < 256 → 0 ≤ y → y < 256 → (UInt8.ofNat x.toNat < UInt8.ofNat y.toNat ↔ x < y) := fun x y x0 x1 y0 y1 => by
      rw [UInt8.lt_iff_toNat_lt, UInt8.toNat_ofNat_of_lt' (by show x.toNat < 256; omega), UInt8.toNat_ofNat_of_lt' (by show y.toNat < 256; omega)]
      omega
    show (if UInt8.ofNat a.toNat < UInt8.ofNat b.toNat then (-1 : Int) else if UInt8.ofNat b.toNat < UInt8.ofNat a.toNat then 1 else Go.Lib.compareBytes (Go.Lib.bytesOf xs) (Go.Lib.bytesOf ys)) = _
    rw [ih, cmpB]
    simp only [lt a b h1.1 h1.2 h2.1 h2.2, lt b a h2.1 h2.2 h1.1 h1.2]
theorem cmpKeys_eq {a b : List Int} (ha : Byt a) (hb : Byt b) : slice_CompareKeys.f a b = some (cmpB a b) := by
  show (bytes_Compare.f a b).bind _ = _
  unfold bytes_Compare.f
  rw [cmpB_bytes a b ha hb]
  rfl
theorem cmpB_drop (a b : List Int) (i : Nat) (ha : i < a.length) (hb : i < b.length) : cmpB (a.drop i) (b.drop i) = if a.getD i 0 < b.getD i 0 then -1 else if b.getD i 0 < a.getD i 0 then 1 else cmpB (a.drop (i + 1)) (b.drop (i + 1)) := by
  have ea : a.drop i = a.getD i 0 :: a.drop (i + 1) := by rw [List.drop_eq_getElem_cons ha]; simp [List.getD, ha]
  have eb : b.drop i = b.getD i 0 :: b.drop (i + 1) := by rw [List.drop_eq_getElem_cons hb]; simp [List.getD, hb]
  rw [ea, eb]
  rfl
theorem cmpB_ends (a b : List Int) (h : a = [] ∨ b = []) : cmpB a b = if a.length < b.length then -1 else if a.length > b.length then 1 else 0 := by
  rcases h with rfl | rfl
  · cases b <;> simp [cmpB]
  · cases a <;> simp [cmpB]
theorem refCmp_loop (a b : List Int) (hl : a.length ≤ 140737488351232) (hl2 : b.length ≤ 140737488351232) : ∀ d i k, i + d = min a.length b.length →
    garnerref08_CompareKeys.l0 (k + 2 * d + 2) a b (i : Int) = some (cmpB (a.drop i) (b.drop i))
  | 0, i, k, hi => by
    rw [show k + 2 * 0 + 2 = (k + 1) + 1 by omega]
    have hends := cmpB_ends (a.drop i) (b.drop i) (by
      rcases Nat.le_total a.length b.length with q | q
      · exact .inl (List.drop_eq_nil_of_le (by omega))
      · exact .inr (List.drop_eq_nil_of_le (by omega)))
    rw [List.length_drop, List.length_drop] at hends
    have fin : garnerref08_CompareKeys.j1 (k + 1) a b (i : Int) false = some (cmpB (a.drop i) (b.drop i)) := by
      rw [garnerref08_CompareKeys.j1, hends, if_neg (by decide)]
      by_cases h1 : (a.length : Int) < (b.length : Int)
      · rw [if_pos h1, if_pos (show a.length - i < b.length - i by omega)]
      · rw [if_neg h1, if_neg (show ¬ a.length - i < b.length - i by omega)]
        by_cases h2 : (a.length : Int) > (b.length : Int)
        · rw [if_pos h2, if_pos (show a.length - i > b.length - i by omega)]
        · rw [if_neg h2, if_neg (show ¬ a.length - i > b.length - i by omega)]
    rw [garnerref08_CompareKeys.l0]
    by_cases h1 : (i : Int) < (a.length : Int)
    · rw [if_pos h1, decide_eq_false (by omega)]; exact fin
    · rw [if_neg h1]; exact fin
  | d + 1, i, k, hi => by
    have ih := refCmp_loop a b hl hl2 d (i + 1) k (by omega)
    have e : wrap64 ((i : Int) + 1) = ((i + 1 : Nat) : Int) := by rw [w64 _ (by omega)]; omega
    have ra : rd a (i : Int) = a.getD i 0 := by simp [rd]
    have rb : rd b (i : Int) = b.getD i 0 := by simp [rd]
    rw [show k + 2 * (d + 1) + 2 = (k + 2 * d + 2) + 1 + 1 by omega, garnerref08_CompareKeys.l0, if_pos (by omega), decide_eq_true (by omega), garnerref08_CompareKeys.j1, if_pos rfl, if_pos (by omega), if_pos (by omega), if_pos (by omega), ra, rb, e, ih, cmpB_drop a b i (by omega) (by omega)]
    by_cases h1 : a.getD i 0 < b.getD i 0
    · rw [if_pos h1, if_pos h1]
    · rw [if_neg h1, if_neg h1]
      by_cases h2 : a.getD i 0 > b.getD i 0
      · rw [if_pos h2, if_pos h2]
      · rw [if_neg h2, if_neg h2]
theorem refCmp_eq (a b : List Int) (hl : a.length ≤ 140737488351232) (hl2 : b.length ≤ 140737488351232) (k : Nat) : garnerref08_CompareKeys.f (k + 2 * min a.length b.length + 2) a b = some (cmpB a b) := by
  have := refCmp_loop a b hl hl2 (min a.length b.length) 0 k (by omega)
  unfold garnerref08_CompareKeys.f
  simpa using this
/-- The first n bytes as one number. -/
def wn : Nat → List Int → Int
  | 0, _ => 0
  | n + 1, r => r.getD 0 0 * ((256 ^ n : Nat) : Int) + wn n r.tail
theorem wn_eight (r : List Int) : wn 8 r = wrd r := by
  have t : ∀ (l : List Int) i, l.tail.getD i 0 = l.getD (i + 1) 0 := fun l i => by cases l <;> simp [List.getD]
  simp only [wn, t, wrd, Nat.reducePow, Nat.reduceAdd]
  omega
theorem Byt.tail {l : List Int} (h : Byt l) : Byt l.tail := fun x hx => h x (List.mem_of_mem_tail hx)
theorem wn_range : ∀ n (r : List Int), Byt r → 0 ≤ wn n r ∧ wn n r < ((256 ^ n : Nat) : Int)
  | 0, _, _ => ⟨Int.le_refl _, by simp [wn]⟩
  | n + 1, r, h => by
    have ih := wn_range n r.tail h.tail
    have hb := h.at_ 0
    unfold wn
    have e : (256 ^ (n + 1) : Nat) = 256 * 256 ^ n := by rw [Nat.pow_succ, Nat.mul_comm]
    rw [e]
    generalize (256 ^ n : Nat) = P at ih ⊢
    have h1 : r.getD 0 0 * (P : Int) ≤ 255 * (P : Int) := Int.mul_le_mul_of_nonneg_right (by omega) (by omega)
    have h2 : 0 ≤ r.getD 0 0 * (P : Int) := Int.mul_nonneg hb.1 (by omega)
    constructor <;> omega
theorem wn_nil : ∀ n, wn n [] = 0
  | 0 => rfl
  | n + 1 => by unfold wn; rw [show ([] : List Int).tail = [] from rfl, wn_nil n]; simp
/-- Two slices compared, as numbers. -/
def cmp2 (u x v y : Int) : Int := if u = v then (if x = y then 0 else if x < y then -1 else 1) else if u < v then -1 else 1
theorem cmp2_eq (u x v y : Int) : slice_Compare.f u x v y = some (cmp2 u x v y) := by
  unfold slice_Compare.f cmp2
  by_cases h : u = v
  · rw [if_pos h, if_pos h]
    by_cases g : x = y
    · rw [if_pos g, if_pos g]
    · rw [if_neg g, if_neg g]; split <;> rfl
  · rw [if_neg h, if_neg h]; split <;> rfl
theorem first_cmp : ∀ n (a b : List Int), Byt a → Byt b → ¬ (n < a.length ∧ n < b.length ∧ wn n a = wn n b) →
    cmp2 (wn n a) ((min a.length (n + 1) : Nat) : Int) (wn n b) ((min b.length (n + 1) : Nat) : Int) = cmpB a b
  | 0, a, b, _, _, hn => by
    have h0 : a = [] ∨ b = [] := by
      cases a with
      | nil => exact .inl rfl
      | cons x xs => cases b with
        | nil => exact .inr rfl
        | cons y ys => exact absurd ⟨by simp, by simp, rfl⟩ hn
    rw [cmpB_ends a b h0]
    unfold cmp2 wn
    rw [if_pos rfl]
    rcases h0 with rfl | rfl
    · cases b <;> simp
    · cases a <;> simp
  | n + 1, [], [], _, _, _ => by simp [cmp2, cmpB]
  | n + 1, [], b :: ys, _, hb, _ => by
    have h := wn_range (n + 1) (b :: ys) hb
    rw [wn_nil]
    unfold cmp2 cmpB
    by_cases g : (0 : Int) = wn (n + 1) (b :: ys)
    · rw [if_pos g, if_neg (by simp only [List.length_nil, List.length_cons]; omega), if_pos (by simp only [List.length_nil, List.length_cons]; omega)]
    · rw [if_neg g, if_pos (by omega)]
  | n + 1, a :: xs, [], ha, _, _ => by
    have h := wn_range (n + 1) (a :: xs) ha
    rw [wn_nil]
    unfold cmp2 cmpB
    by_cases g : wn (n + 1) (a :: xs) = (0 : Int)
    · rw [if_pos g, if_neg (by simp only [List.length_nil, List.length_cons]; omega), if_neg (by simp only [List.length_nil, List.length_cons]; omega)]
    · rw [if_neg g, if_neg (by omega)]
  | n + 1, a :: xs, b :: ys, ha, hb, hn => by
    have ha' : Byt xs := ha.tail
    have hb' : Byt ys := hb.tail
    have h1 := wn_range n xs ha'
    have h2 := wn_range n ys hb'
    have ea : wn (n + 1) (a :: xs) = a * ((256 ^ n : Nat) : Int) + wn n xs := rfl
    have eb : wn (n + 1) (b :: ys) = b * ((256 ^ n : Nat) : Int) + wn n ys := rfl
    have la : ((min (a :: xs).length (n + 1 + 1) : Nat) : Int) = ((min xs.length (n + 1) : Nat) : Int) + 1 := by simp only [List.length_cons]; omega
    have lb : ((min (b :: ys).length (n + 1 + 1) : Nat) : Int) = ((min ys.length (n + 1) : Nat) : Int) + 1 := by simp only [List.length_cons]; omega
    rw [la, lb]
    unfold cmpB
    by_cases h : a < b
    · have hm : a * ((256 ^ n : Nat) : Int) + ((256 ^ n : Nat) : Int) ≤ b * ((256 ^ n : Nat) : Int) := by
        have := Int.mul_le_mul_of_nonneg_right (show a + 1 ≤ b by omega) (show (0 : Int) ≤ ((256 ^ n : Nat) : Int) by omega)
        rw [Int.add_mul, Int.one_mul] at this
        exact this
      rw [if_pos h]
      unfold cmp2
      rw [if_neg (by omega), if_pos (by omega)]
    · rw [if_neg h]
      by_cases g : b < a
      · have hm : b * ((256 ^ n : Nat) : Int) + ((256 ^ n : Nat) : Int) ≤ a * ((256 ^ n : Nat) : Int) := by
          have := Int.mul_le_mul_of_nonneg_right (show b + 1 ≤ a by omega) (show (0 : Int) ≤ ((256 ^ n : Nat) : Int) by omega)
          rw [Int.add_mul, Int.one_mul] at this
          exact this
        rw [if_pos g]
        unfold cmp2
        rw [if_neg (by omega), if_neg (by omega)]
      · rw [if_neg g]
        have hab : a = b := by omega
        subst hab
        have ih := first_cmp n xs ys ha' hb' (fun q => hn ⟨by simp; omega, by simp; omega, by rw [ea, eb, q.2.2]⟩)
        rw [← ih, ea, eb]
        unfold cmp2
        have s1 : (a * ((256 ^ n : Nat) : Int) + wn n xs = a * ((256 ^ n : Nat) : Int) + wn n ys) = (wn n xs = wn n ys) := propext ⟨fun q => by omega, fun q => by omega⟩
        have s2 : (a * ((256 ^ n : Nat) : Int) + wn n xs < a * ((256 ^ n : Nat) : Int) + wn n ys) = (wn n xs < wn n ys) := propext ⟨fun q => by omega, fun q => by omega⟩
        have s3 : (((min xs.length (n + 1) : Nat) : Int) + 1 = ((min ys.length (n + 1) : Nat) : Int) + 1) = (((min xs.length (n + 1) : Nat) : Int) = ((min ys.length (n + 1) : Nat) : Int)) := propext ⟨fun q => by omega, fun q => by omega⟩
        have s4 : (((min xs.length (n + 1) : Nat) : Int) + 1 < ((min ys.length (n + 1) : Nat) : Int) + 1) = (((min xs.length (n + 1) : Nat) : Int) < ((min ys.length (n + 1) : Nat) : Int)) := propext ⟨fun q => by omega, fun q => by omega⟩
        simp only [s1, s2, s3, s4]
theorem wn_inj : ∀ n (a b : List Int), Byt a → Byt b → (wn n a = wn n b ↔ ∀ i, i < n → a.getD i 0 = b.getD i 0)
  | 0, a, b, _, _ => ⟨fun _ i hi => by omega, fun _ => rfl⟩
  | n + 1, a, b, ha, hb => by
    have t : ∀ (l : List Int) i, l.tail.getD i 0 = l.getD (i + 1) 0 := fun l i => by cases l <;> simp [List.getD]
    have ih := wn_inj n a.tail b.tail ha.tail hb.tail
    have h1 := wn_range n a.tail ha.tail
    have h2 := wn_range n b.tail hb.tail
    unfold wn
    constructor
    · intro q
      have hh : a.getD 0 0 = b.getD 0 0 := by
        rcases Int.lt_trichotomy (a.getD 0 0) (b.getD 0 0) with h | h | h
        · have := Int.mul_le_mul_of_nonneg_right (show a.getD 0 0 + 1 ≤ b.getD 0 0 by omega) (show (0 : Int) ≤ ((256 ^ n : Nat) : Int) by omega)
          rw [Int.add_mul, Int.one_mul] at this
          omega
        · exact h
        · have := Int.mul_le_mul_of_nonneg_right (show b.getD 0 0 + 1 ≤ a.getD 0 0 by omega) (show (0 : Int) ≤ ((256 ^ n : Nat) : Int) by omega)
          rw [Int.add_mul, Int.one_mul] at this
          omega
      rw [hh] at q
      intro i hi
      cases i with
      | zero => exact hh
      | succ i => have := ih.1 (by omega) i (by omega); rw [t, t] at this; exact this
    · intro q
      have h0 := q 0 (by omega)
      have := ih.2 (fun i hi => by rw [t, t]; exact q (i + 1) (by omega))
      rw [h0, this]
theorem wrd_inj {a b : List Int} (ha : Byt a) (hb : Byt b) : wrd a = wrd b ↔ ∀ i, i < 8 → a.getD i 0 = b.getD i 0 := by
  rw [← wn_eight, ← wn_eight]
  exact wn_inj 8 a b ha hb
theorem of_ge {l : List Int} (h : Byt l) (hl : l.length ≤ 140737488351232) (i : Nat) (hi : i < cntS l) (k : Nat) (hk : 12 ≤ k) :
    slice_Of.f k l (i : Int) = some (wrd (l.drop (8 * i)), ((min (l.length - 8 * i) 9 : Nat) : Int), 0) := by
  have := of_eq h hl i hi (k - 12)
  rwa [show k - 12 + 12 = k by omega] at this
theorem drop_at (l : List Int) (n i : Nat) : (l.drop n).getD i 0 = l.getD (n + i) 0 := by simp [List.getD]
/-- The slices i of both keys go on, and are the same. -/
def cont (a b : List Int) (i : Nat) : Prop := 8 * i + 8 < a.length ∧ 8 * i + 8 < b.length ∧ wrd (a.drop (8 * i)) = wrd (b.drop (8 * i))
theorem cont_symm {a b : List Int} {i : Nat} (h : cont a b i) : cont b a i := ⟨h.2.1, h.1, h.2.2.symm⟩
def IsSh (a b : List Int) (n : Nat) : Prop := (∀ i, i < n → cont a b i) ∧ ¬ cont a b n
theorem IsSh.one {a b : List Int} {n m : Nat} (h : IsSh a b n) (g : IsSh a b m) : n = m := by
  rcases Nat.lt_trichotomy n m with q | q | q
  · exact absurd (g.1 n q) h.2
  · exact q
  · exact absurd (h.1 m q) g.2
theorem IsSh.symm {a b : List Int} {n : Nat} (h : IsSh a b n) : IsSh b a n := ⟨fun i hi => cont_symm (h.1 i hi), fun q => h.2 (cont_symm q)⟩
theorem ofC_in {l : List Int} (h : Byt l) (hl : l.length ≤ 140737488351232) (i : Nat) (hi : i < cntS l) : ofC l i = (wrd (l.drop (8 * i)), ((min (l.length - 8 * i) 9 : Nat) : Int), 0) := by
  unfold ofC
  rw [of_ge h hl i hi 12 (Nat.le_refl _)]
  rfl
theorem ofC_out (l : List Int) (hl : l.length ≤ 140737488351232) (i : Nat) (hi : cntS l ≤ i) : ofC l i = (0, 0, 2) := by
  unfold ofC
  rw [of_out l hl (i : Int) (.inr (by omega)) 11]
  rfl
theorem contC_iff {a b : List Int} (ha : Byt a) (hb : Byt b) (la : a.length ≤ 140737488351232) (lb : b.length ≤ 140737488351232) (i : Nat) (hi : i < cntS a) : contC a b i = true ↔ cont a b i := by
  unfold contC cont
  rw [ofC_in ha la i hi]
  by_cases h : i < cntS b
  · rw [ofC_in hb lb i h]
    simp only [Bool.and_eq_true, beq_iff_eq]
    unfold cntS at h hi
    constructor
    · rintro ⟨_, h1, h2, h3⟩
      exact ⟨by omega, by omega, h1⟩
    · rintro ⟨h1, h2, h3⟩
      exact ⟨trivial, h3, by omega, by omega⟩
  · rw [ofC_out b lb i (by omega)]
    unfold cntS at h hi
    constructor
    · intro q; simp at q
    · rintro ⟨h1, h2, h3⟩; omega
theorem sharedK_is {a b : List Int} (ha : Byt a) (hb : Byt b) (la : a.length ≤ 140737488351232) (lb : b.length ≤ 140737488351232) : ∀ d i, i + d = cntS a → (∀ j, j < i → cont a b j) → IsSh a b (sharedK a b d i)
  | 0, i, hi, hc => ⟨hc, fun q => by have := q.1; unfold cntS at hi; simp only [sharedK] at this; omega⟩
  | d + 1, i, hi, hc => by
    unfold sharedK
    by_cases h : contC a b i = true
    · rw [if_pos h]
      exact sharedK_is ha hb la lb d (i + 1) (by omega) (fun j hj => by
        rcases Nat.lt_or_ge j i with q | q
        · exact hc j q
        · rw [show j = i by omega]; exact (contC_iff ha hb la lb i (by omega)).1 h)
    · rw [if_neg h]
      exact ⟨hc, fun q => h ((contC_iff ha hb la lb i (by omega)).2 q)⟩
theorem shared_is {a b : List Int} (ha : Byt a) (hb : Byt b) (la : a.length ≤ 140737488351232) (lb : b.length ≤ 140737488351232) : ∃ n : Nat, slice_Shared.f a b = some (n : Int) ∧ IsSh a b n := by
  refine ⟨sharedK a b (cntS a) 0, ?_, sharedK_is ha hb la lb (cntS a) 0 (by omega) (fun j hj => by omega)⟩
  unfold slice_Shared.f
  rw [if_pos ⟨la, lb⟩]
theorem l1_eq {a b : List Int} (i : Nat) (ha : 8 * i + 8 < a.length) (hb : 8 * i + 8 < b.length) (la : a.length ≤ 140737488351232) : ∀ d j k, j + d = 8 → (∀ q, j ≤ q → q < 8 → a.getD (8 * i + q) 0 = b.getD (8 * i + q) 0) →
    garnerref08_Shared.l1 (k + d + 1) a b (i : Int) ((8 * i + j : Nat) : Int) = garnerref08_Shared.l0 k a b ((i + 1 : Nat) : Int)
  | 0, j, k, hj, _ => by
    have e : wrap64 ((i : Int) + 1) = ((i + 1 : Nat) : Int) := by rw [w64 _ (by omega)]; omega
    have e2 : wrap64 (wrap64 (8 * (i : Int)) + 8) = ((8 * i + 8 : Nat) : Int) := by rw [w64 (8 * (i : Int)) (by omega), w64 _ (by omega)]; omega
    rw [garnerref08_Shared.l1, e2, if_neg (by omega), e]
  | d + 1, j, k, hj, hq => by
    have e2 : wrap64 (wrap64 (8 * (i : Int)) + 8) = ((8 * i + 8 : Nat) : Int) := by rw [w64 (8 * (i : Int)) (by omega), w64 _ (by omega)]; omega
    have e3 : wrap64 (((8 * i + j : Nat) : Int) + 1) = ((8 * i + (j + 1) : Nat) : Int) := by rw [w64 _ (by omega)]; omega
    have ra : ∀ l : List Int, rd l ((8 * i + j : Nat) : Int) = l.getD (8 * i + j) 0 := fun l => by unfold rd; rw [Int.toNat_natCast]
    rw [garnerref08_Shared.l1, e2, if_pos (by omega), if_pos (by omega), if_pos (by omega), if_pos (by omega), ra, ra, if_pos (hq j (Nat.le_refl _) (by omega)), e3]
    exact l1_eq i ha hb la d (j + 1) k (by omega) (fun q h1 h2 => hq q (by omega) h2)
theorem l1_ne {a b : List Int} (i : Nat) (ha : 8 * i + 8 < a.length) (hb : 8 * i + 8 < b.length) (la : a.length ≤ 140737488351232) : ∀ d j k, j + d = 8 → (∃ q, j ≤ q ∧ q < 8 ∧ a.getD (8 * i + q) 0 ≠ b.getD (8 * i + q) 0) →
    garnerref08_Shared.l1 (k + d + 1) a b (i : Int) ((8 * i + j : Nat) : Int) = some (i : Int)
  | 0, j, k, hj, hq => by obtain ⟨q, h1, h2, _⟩ := hq; omega
  | d + 1, j, k, hj, hq => by
    have e2 : wrap64 (wrap64 (8 * (i : Int)) + 8) = ((8 * i + 8 : Nat) : Int) := by rw [w64 (8 * (i : Int)) (by omega), w64 _ (by omega)]; omega
    have e3 : wrap64 (((8 * i + j : Nat) : Int) + 1) = ((8 * i + (j + 1) : Nat) : Int) := by rw [w64 _ (by omega)]; omega
    have ra : ∀ l : List Int, rd l ((8 * i + j : Nat) : Int) = l.getD (8 * i + j) 0 := fun l => by unfold rd; rw [Int.toNat_natCast]
    rw [garnerref08_Shared.l1, e2, if_pos (by omega), if_pos (by omega), if_pos (by omega), if_pos (by omega), ra, ra]
    by_cases h : a.getD (8 * i + j) 0 = b.getD (8 * i + j) 0
    · rw [if_pos h, e3]
      obtain ⟨q, h1, h2, h3⟩ := hq
      exact l1_ne i ha hb la d (j + 1) k (by omega) ⟨q, by
        rcases Nat.lt_or_ge j q with w | w
        · omega
        · exact absurd (by rw [show q = j by omega]; exact h) h3, h2, h3⟩
    · rw [if_neg h]
theorem refShared_loop {a b : List Int} (ha : Byt a) (hb : Byt b) (la : a.length ≤ 140737488351232) (n : Nat) (hn : IsSh a b n) : ∀ d i k, i + d = n →
    garnerref08_Shared.l0 (k + 11 * d + 11) a b (i : Int) = some (n : Int) := by
  intro d
  induction d with
  | zero =>
    intro i k hi
    have hi : i = n := by omega
    subst hi
    have hb0 : i ≤ cntS a := by
      cases i with
      | zero => omega
      | succ j => have := (hn.1 j (by omega)).1; unfold cntS; omega
    have hcb : cntS a ≤ 140737488351233 / 8 + 1 := by unfold cntS; omega
    have e1 : wrap64 (8 * (i : Int)) = ((8 * i : Nat) : Int) := by rw [w64 _ (by omega)]; omega
    have e2 : wrap64 (((8 * i : Nat) : Int) + 8) = ((8 * i + 8 : Nat) : Int) := by rw [w64 _ (by omega)]; omega
    rw [show k + 11 * 0 + 11 = (k + 9) + 1 + 1 by omega, garnerref08_Shared.l0, e1, e2]
    by_cases h1 : (a.length : Int) > ((8 * i + 8 : Nat) : Int)
    · rw [if_pos h1]
      by_cases h2 : (b.length : Int) > ((8 * i + 8 : Nat) : Int)
      · rw [decide_eq_true h2, garnerref08_Shared.j1, if_pos rfl, e1]
        have hne : ∃ q, 0 ≤ q ∧ q < 8 ∧ a.getD (8 * i + q) 0 ≠ b.getD (8 * i + q) 0 := by
          rcases Classical.em (∃ q, 0 ≤ q ∧ q < 8 ∧ a.getD (8 * i + q) 0 ≠ b.getD (8 * i + q) 0) with q | q
          · exact q
          · exfalso
            refine hn.2 ⟨by omega, by omega, (wrd_inj (ha.drop _) (hb.drop _)).2 (fun j hj => ?_)⟩
            rw [drop_at, drop_at]
            exact Classical.byContradiction fun w => q ⟨j, by omega, hj, w⟩
        exact l1_ne i (by omega) (by omega) la 8 0 k (by omega) hne
      · rw [decide_eq_false h2, garnerref08_Shared.j1, if_neg (by decide)]
    · rw [if_neg h1, garnerref08_Shared.j1, if_neg (by decide)]
  | succ d ih =>
    intro i k hi
    have hc := hn.1 i (by omega)
    have e1 : wrap64 (8 * (i : Int)) = ((8 * i : Nat) : Int) := by have := hc.1; rw [w64 _ (by omega)]; omega
    have e2 : wrap64 (((8 * i : Nat) : Int) + 8) = ((8 * i + 8 : Nat) : Int) := by have := hc.1; rw [w64 _ (by omega)]; omega
    have h1 := hc.1
    have h2 := hc.2.1
    rw [show k + 11 * (d + 1) + 11 = (k + 11 * d + 11 + 8 + 1) + 1 + 1 by omega, garnerref08_Shared.l0, e1, e2, if_pos (by omega), decide_eq_true (by omega), garnerref08_Shared.j1, if_pos rfl, e1]
    have hq : ∀ q, 0 ≤ q → q < 8 → a.getD (8 * i + q) 0 = b.getD (8 * i + q) 0 := fun q _ hq => by
      have := (wrd_inj (ha.drop _) (hb.drop _)).1 hc.2.2 q hq
      rwa [drop_at, drop_at] at this
    exact (l1_eq i h1 h2 la 8 0 (k + 11 * d + 11) (by omega) hq).trans (ih (i + 1) k (by omega))
theorem refShared_ge {a b : List Int} (ha : Byt a) (hb : Byt b) (la : a.length ≤ 140737488351232) (n : Nat) (hn : IsSh a b n) (k : Nat) (hk : 11 * n + 11 ≤ k) : garnerref08_Shared.f k a b = some (n : Int) := by
  have := refShared_loop ha hb la n hn n 0 (k - 11 * n - 11) (by omega)
  rw [show k - 11 * n - 11 + 11 * n + 11 = k by omega] at this
  exact this
/-- Up to the shared slices the keys are the same bytes. -/
theorem cmp_shared {a b : List Int} (ha : Byt a) (hb : Byt b) : ∀ n, (∀ i, i < n → cont a b i) → cmpB a b = cmpB (a.drop (8 * n)) (b.drop (8 * n))
  | 0, _ => by simp
  | n + 1, h => by
    rw [cmp_shared ha hb n (fun i hi => h i (by omega))]
    have hc := h n (by omega)
    have hq : ∀ q, q < 8 → a.getD (8 * n + q) 0 = b.getD (8 * n + q) 0 := fun q hq => by
      have := (wrd_inj (ha.drop _) (hb.drop _)).1 hc.2.2 q hq
      rwa [drop_at, drop_at] at this
    have step : ∀ d q, q + d = 8 → cmpB (a.drop (8 * n + q)) (b.drop (8 * n + q)) = cmpB (a.drop (8 * (n + 1))) (b.drop (8 * (n + 1))) := by
      intro d
      induction d with
      | zero => intro q h; rw [show 8 * (n + 1) = 8 * n + q by omega]
      | succ d ih =>
        intro q h
        have h1 := hc.1
        have h2 := hc.2.1
        have he := hq q (by omega)
        rw [cmpB_drop a b _ (by omega) (by omega), he, if_neg (by omega), if_neg (by omega), ← ih (q + 1) (by omega)]
        rfl
    exact step 8 0 (by omega)
theorem last_cmp {a b : List Int} (ha : Byt a) (hb : Byt b) (n : Nat) (hn : IsSh a b n) :
    slice_Compare.f (wrd (a.drop (8 * n))) ((min (a.length - 8 * n) 9 : Nat) : Int) (wrd (b.drop (8 * n))) ((min (b.length - 8 * n) 9 : Nat) : Int) = some (cmpB a b) := by
  rw [cmp2_eq, cmp_shared ha hb n hn.1]
  have := first_cmp 8 (a.drop (8 * n)) (b.drop (8 * n)) (ha.drop _) (hb.drop _) (by
    rw [List.length_drop, List.length_drop, wn_eight, wn_eight]
    rintro ⟨h1, h2, h3⟩
    exact hn.2 ⟨by omega, by omega, h3⟩)
  rw [wn_eight, wn_eight, List.length_drop, List.length_drop] at this
  rw [this]
theorem sh_lt {a b : List Int} {n : Nat} (h : IsSh a b n) : n < cntS a ∧ n < cntS b := by
  cases n with
  | zero => unfold cntS; omega
  | succ j => have := (h.1 j (by omega)).1; have := (h.1 j (by omega)).2.1; unfold cntS; omega
section
variable {a b : List Int} (ha : Byt a) (hb : Byt b) (la : a.length ≤ 9000) (lb : b.length ≤ 9000) {k0 : Nat} (hk0 : ∀ k, k0 ≤ k → garnerlaw08_known.f k = some true)
include ha hb la lb hk0
theorem ord_l1 (n : Nat) (hn : IsSh a b n) : ∀ d i k, i + d = n → k0 + d + 14 ≤ k → garnerlaw08_SliceOrder.l1 k a b (cmpB a b) (n : Int) (i : Int) = some true := by
  intro d
  have hlt := sh_lt hn
  have hca : cntS a ≤ 1126 := by unfold cntS; omega
  have hcb : cntS b ≤ 1126 := by unfold cntS; omega
  induction d with
  | zero =>
    intro i k hi hk
    obtain ⟨m, rfl⟩ : ∃ m, k = m + 1 := ⟨k - 1, by omega⟩
    rw [garnerlaw08_SliceOrder.l1, if_neg (by omega), of_ge ha (by omega) n hlt.1 m (by omega), of_ge hb (by omega) n hlt.2 m (by omega)]
    simp only [Option.bind_some, garnerlaw08_num.f]
    rw [if_pos (by unfold wrap64; omega), last_cmp ha hb n hn, Option.bind_some, if_pos rfl, hk0 m (by omega)]
    rfl
  | succ d ih =>
    intro i k hi hk
    obtain ⟨m, rfl⟩ : ∃ m, k = m + 1 := ⟨k - 1, by omega⟩
    have hc := hn.1 i (by omega)
    have h1 := hc.1
    have h2 := hc.2.1
    have e : wrap64 ((i : Int) + 1) = ((i + 1 : Nat) : Int) := by rw [w64 _ (by omega)]; omega
    rw [garnerlaw08_SliceOrder.l1, if_pos (by omega), of_ge ha (by omega) i (by omega) m (by omega), of_ge hb (by omega) i (by omega) m (by omega)]
    simp only [Option.bind_some]
    rw [hc.2.2, show min (a.length - 8 * i) 9 = 9 by omega, show min (b.length - 8 * i) 9 = 9 by omega, if_neg (by simp), if_pos (by decide), e]
    exact ih (i + 1) m (by omega) (by omega)
theorem ord_j3 (k : Nat) (hk : k0 + 50000 ≤ k) : garnerlaw08_SliceOrder.j3 k a b false = some true := by
  obtain ⟨m, rfl⟩ : ∃ m, k = m + 1 := ⟨k - 1, by omega⟩
  obtain ⟨n, hs, hn⟩ := shared_is ha hb (by omega) (by omega)
  obtain ⟨n2, hs2, hn2⟩ := shared_is hb ha (by omega) (by omega)
  have : n2 = n := (hn.symm.one hn2).symm
  subst this
  have hlt := sh_lt hn
  have hca : cntS a ≤ 1126 := by unfold cntS; omega
  have hc := refCmp_eq a b (by omega) (by omega) (m - 2 * min a.length b.length - 2)
  rw [show m - 2 * min a.length b.length - 2 + 2 * min a.length b.length + 2 = m by omega] at hc
  have hw : wrap64 (-cmpB a b) = -cmpB a b := by rcases cmpB_range a b with h | h | h <;> rw [h] <;> (unfold wrap64; omega)
  rw [garnerlaw08_SliceOrder.j3, if_neg (by decide), hc, Option.bind_some, hs, Option.bind_some, cmpKeys_eq ha hb, Option.bind_some, if_pos rfl, cmpKeys_eq hb ha, Option.bind_some, hw, if_pos (cmpB_neg a b), refShared_ge ha hb (by omega) _ hn m (by omega), Option.bind_some, if_pos rfl, hs2, Option.bind_some]
  obtain ⟨q, rfl⟩ : ∃ q, m = q + 1 := ⟨m - 1, by omega⟩
  rw [bne_self_eq_false, garnerlaw08_SliceOrder.j4, if_neg (by decide)]
  exact ord_l1 ha hb la lb hk0 _ hn n2 0 q (by omega) (by omega)
theorem ord_l0 : ∀ d i k, i + d = cntS a → k0 + 2 * d + 60000 ≤ k → garnerlaw08_SliceOrder.l0 k a b (slcs a i) (i : Int) = some true := by
  intro d
  have hca : cntS a ≤ 1126 := by unfold cntS; omega
  induction d with
  | zero =>
    intro i k hi hk
    have hi : i = cntS a := by omega
    subst hi
    obtain ⟨m, rfl⟩ : ∃ m, k = m + 1 + 1 := ⟨k - 2, by omega⟩
    have hj := join_eq ha (by omega) (m - cntS a - 13)
    rw [show m - cntS a - 13 + cntS a + 13 = m by omega] at hj
    rw [garnerlaw08_SliceOrder.l0, count_eq a (by omega), Option.bind_some, if_neg (by omega), garnerlaw08_SliceOrder.j2, if_neg (by decide), hj]
    simp only [Option.bind_some, garnerlaw08_num.f]
    rw [if_pos trivial, bne_self_eq_false]
    exact ord_j3 ha hb la lb hk0 m (by omega)
  | succ d ih =>
    intro i k hi hk
    obtain ⟨m, rfl⟩ : ∃ m, k = m + 1 + 1 := ⟨k - 2, by omega⟩
    have e : wrap64 ((i : Int) + 1) = ((i + 1 : Nat) : Int) := by rw [w64 _ (by omega)]; omega
    have hmay := may_eq (r := a.drop (8 * i))
    rw [List.length_drop] at hmay
    rw [garnerlaw08_SliceOrder.l0, count_eq a (by omega), Option.bind_some, if_pos (by omega), decide_eq_true (by omega), garnerlaw08_SliceOrder.j2, if_pos rfl, of_ge ha (by omega) i (by omega) m (by omega)]
    simp only [Option.bind_some, garnerlaw08_num.f]
    rw [if_pos trivial, hmay, Option.bind_some, if_pos rfl, slcs_len, if_pos (by omega), e]
    have := ih (i + 1) m (by omega) (by omega)
    rw [← slcs_snoc] at this
    exact this
theorem ord_f : garnerlaw08_SliceOrder.f (k0 + 70000) a b = some true := by
  have hca : cntS a ≤ 1126 := by unfold cntS; omega
  unfold garnerlaw08_SliceOrder.f
  rw [if_neg (by omega), decide_eq_false (by omega), show k0 + 70000 = (k0 + 69999) + 1 by omega, garnerlaw08_SliceOrder.j0, if_neg (by decide)]
  exact ord_l0 ha hb la lb hk0 (cntS a) 0 (k0 + 69999) (by omega) (by omega)
end
theorem order_law (k0 : Nat) (hk0 : ∀ k, k0 ≤ k → garnerlaw08_known.f k = some true) : garnerlaw08_SliceOrder.Pure := by
  intro a b _ _ ha _ _ hb
  by_cases la : a.length ≤ 9000
  · by_cases lb : b.length ≤ 9000
    · exact ⟨_, ord_f (byt_of ha) (byt_of hb) la lb hk0⟩
    · refine ⟨k0 + 1, ?_⟩
      unfold garnerlaw08_SliceOrder.f
      rw [if_neg (by omega), decide_eq_true (by omega), garnerlaw08_SliceOrder.j0, if_pos rfl, hk0 k0 (Nat.le_refl _)]
      rfl
  · refine ⟨k0 + 1, ?_⟩
    unfold garnerlaw08_SliceOrder.f
    rw [if_pos (by omega), garnerlaw08_SliceOrder.j0, if_pos rfl, hk0 k0 (Nat.le_refl _)]
    rfl
theorem known_ge : ∃ k0, ∀ k, k0 ≤ k → garnerlaw08_known.f k = some true := by
  have h0 : garnerlaw08_known.f 40 = some true := by decide +kernel
  refine ⟨40, fun k hk => ?_⟩
  induction k with
  | zero => omega
  | succ k ih =>
    rcases Nat.lt_or_ge k 40 with h | h
    · rw [show k + 1 = 40 by omega]; exact h0
    · exact garnerlaw08_known.mono k _ (ih h)
theorem SliceOrder : garnerlaw08_SliceOrder.Pure := by
  obtain ⟨k0, h⟩ := known_ge
  exact order_law k0 h
end Go.Proofs.Ytbaaihpkolicmaa.Pure
