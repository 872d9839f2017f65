/- Every key has just the slices that the chapter says, by eight bytes, and no others. -/
import Derived.Test.YtbaaihpkolicmaaHSx5
import Derived.Test.YtbaaihpkolicmaaU64
namespace Go.Proofs.Ytbaaihpkolicmaa.Pure
open Go.RowKit Go.Proofs.Ytbaaihpkolicmaa.HS Go.Proofs.YtbaaihpkolicmaaW.PrintWords Go.Proofs.YtbaaihpkolicmaaW.PrintLast Go.Proofs.YtbaaihpkolicmaaW.PrintMore Go.Proofs.Ytbaaihpkolicmaa.U64
theorem w64 (n : Int) (h : -9223372036854775808 ≤ n ∧ n ≤ 9223372036854775807) : wrap64 n = n := by unfold wrap64; omega
def Byt (l : List Int) : Prop := ∀ x ∈ l, 0 ≤ x ∧ x < 256
theorem byt_of {l : List Int} (h : ∀ x ∈ l, (Go.Lit.int .u8 x).wf = true) : Byt l := fun x hx => by
  have := h x hx
  simp [Go.Lit.wf, IntKind.min, IntKind.max, IntKind.signed, IntKind.bits] at this
  omega
theorem Byt.at_ {l : List Int} (h : Byt l) (i : Nat) : 0 ≤ l.getD i 0 ∧ l.getD i 0 < 256 := by
  by_cases hi : i < l.length
  · have : l.getD i 0 = l[i] := by simp [List.getD, hi]
    rw [this]
    exact h _ (List.getElem_mem hi)
  · have : l.getD i 0 = 0 := by simp [List.getD, List.getElem?_eq_none (Nat.le_of_not_lt hi)]
    omega
theorem Byt.drop {l : List Int} (h : Byt l) (n : Nat) : Byt (l.drop n) := fun x hx => h x (List.mem_of_mem_drop hx)
theorem Byt.take {l : List Int} (h : Byt l) (n : Nat) : Byt (l.take n) := fun x hx => h x (List.mem_of_mem_take hx)
/-- Eight bytes as one number, the first one highest. -/
def wrd (r : List Int) : Int := r.getD 0 0 * 72057594037927936 + r.getD 1 0 * 281474976710656 + r.getD 2 0 * 1099511627776 + r.getD 3 0 * 4294967296 + r.getD 4 0 * 16777216 + r.getD 5 0 * 65536 + r.getD 6 0 * 256 + r.getD 7 0
theorem take_at (r : List Int) (n i : Nat) : (r.take n).getD i 0 = if i < n then r.getD i 0 else 0 := by
  simp only [List.getD, List.getElem?_take]
  split <;> simp
theorem wrd_range {r : List Int} (h : Byt r) : 0 ≤ wrd r ∧ wrd r < 18446744073709551616 := by
  have h0 := h.at_ 0; have h1 := h.at_ 1; have h2 := h.at_ 2; have h3 := h.at_ 3; have h4 := h.at_ 4; have h5 := h.at_ 5; have h6 := h.at_ 6; have h7 := h.at_ 7
  unfold wrd; omega
theorem shl_num (x : Int) (i : Nat) (h0 : 0 ≤ x) (hx : x < 256) (hi : i ≤ 56) : shl .u64 x (i : Int) = x * (2 ^ i : Nat) := by
  unfold shl
  have e : min (i : Int).toNat IntKind.u64.bits = i := by simp [IntKind.bits]; omega
  have hp : ((2 : Int) ^ i) = ((2 ^ i : Nat) : Int) := by simp
  have hle : (2 ^ i : Nat) ≤ 2 ^ 56 := Nat.pow_le_pow_right (by decide) hi
  rw [e, IntKind.wrap_u64, hp]
  generalize hP : (2 ^ i : Nat) = P at hle ⊢
  have h1 : x * (P : Int) ≤ 255 * (P : Int) := Int.mul_le_mul_of_nonneg_right (by omega) (by omega)
  exact Int.emod_eq_of_lt (Int.mul_nonneg h0 (by omega)) (by omega)
theorem or_step (a x : Int) (i : Nat) (a0 : 0 ≤ a) (a1 : a < 18446744073709551616) (h0 : 0 ≤ x) (hx : x < 256) (hi : i ≤ 56) (he : a / (2 ^ i : Nat) % 256 = 0) :
    Go.bits .or .u64 a (shl .u64 (IntKind.u64.wrap x) (i : Int)) = a + x * (2 ^ i : Nat) := by
  rw [IntKind.wrap_u64, Int.emod_eq_of_lt h0 (by omega), shl_num x i h0 hx hi]
  obtain ⟨n, rfl⟩ := Int.eq_ofNat_of_zero_le h0
  have := or_field' a a0 a1 i 8 n (by omega) (by simpa using he) (by omega)
  simpa using this
theorem wrd_step {r : List Int} (h : Byt r) (j : Nat) (hj : j < 8) :
    Go.bits .or .u64 (wrd (r.take j)) (shl .u64 (IntKind.u64.wrap (rd r (j : Int))) (wrap64 (56 - wrap64 (8 * (j : Int))))) = wrd (r.take (j + 1)) := by
  have hw := wrd_range (h.take j)
  have h0 := h.at_ 0; have h1 := h.at_ 1; have h2 := h.at_ 2; have h3 := h.at_ 3; have h4 := h.at_ 4; have h5 := h.at_ 5; have h6 := h.at_ 6; have h7 := h.at_ 7
  have e : wrap64 (56 - wrap64 (8 * (j : Int))) = ((56 - 8 * j : Nat) : Int) := by
    rw [w64 (8 * (j : Int)) (by omega), w64 _ (by omega)]; omega
  have hr : rd r (j : Int) = r.getD j 0 := by simp [rd]
  have hb := h.at_ j
  rw [e, hr]
  have key : wrd (r.take j) / ((2 ^ (56 - 8 * j) : Nat) : Int) % 256 = 0 ∧ wrd (r.take (j + 1)) = wrd (r.take j) + r.getD j 0 * ((2 ^ (56 - 8 * j) : Nat) : Int) := by
    have cases : j = 0 ∨ j = 1 ∨ j = 2 ∨ j = 3 ∨ j = 4 ∨ j = 5 ∨ j = 6 ∨ j = 7 := by omega
    rcases cases with rfl | rfl | rfl | rfl | rfl | rfl | rfl | rfl <;> simp only [wrd, take_at, Nat.reduceMul, Nat.reduceSub, Nat.reducePow, Nat.reduceLT, Nat.reduceAdd, if_true, if_false, Nat.lt_irrefl] <;> constructor <;> omega
  rw [key.2]
  exact or_step _ _ _ hw.1 hw.2 hb.1 hb.2 (by omega) key.1
theorem of_loop {r : List Int} (h : Byt r) (h8 : r.length ≤ 8) (x : Int) : ∀ d j k, j + d = r.length →
    slice_Of.l0 (k + d + 1) r (r.length : Int) (j : Int) (wrd (r.take j)) x = some (wrd r, x, 0)
  | 0, j, k, hj => by
    have : r.take j = r := List.take_of_length_le (by omega)
    rw [this]
    unfold slice_Of.l0
    rw [if_neg (by omega)]
  | d + 1, j, k, hj => by
    have ih := of_loop h h8 x d (j + 1) k (by omega)
    have e : wrap64 ((j : Int) + 1) = ((j + 1 : Nat) : Int) := by rw [w64 _ (by omega)]; omega
    have e2 : (0 : Int) ≤ wrap64 (56 - wrap64 (8 * (j : Int))) := by rw [w64 (8 * (j : Int)) (by omega), w64 _ (by omega)]; omega
    have hs := wrd_step h j (by omega)
    show slice_Of.l0 (k + d + 1 + 1) r (r.length : Int) (j : Int) (wrd (r.take j)) x = _
    unfold slice_Of.l0
    rw [if_pos (by omega), if_pos (by omega), if_pos (by omega), if_pos e2, hs, e]
    exact ih
theorem count_eq (l : List Int) (h : l.length ≤ 140737488351232) : slice_Count.f l = some ((cntS l : Nat) : Int) := by
  unfold slice_Count.f
  rw [w64 ((l.length : Int) + 7) (by omega), Int.tdiv_eq_ediv_of_nonneg (by omega), w64 _ (by omega)]
  congr 1
  unfold mx cntS
  split <;> omega
theorem wrd_take (r : List Int) : wrd (r.take 8) = wrd r := by simp [wrd]
/-- A slice by its bytes. -/
theorem of_eq {l : List Int} (h : Byt l) (hl : l.length ≤ 140737488351232) (i : Nat) (hi : i < cntS l) (k : Nat) :
    slice_Of.f (k + 12) l (i : Int) = some (wrd (l.drop (8 * i)), ((min (l.length - 8 * i) 9 : Nat) : Int), 0) := by
  have hc : 8 * i ≤ l.length := by unfold cntS at hi; omega
  unfold slice_Of.f
  rw [if_neg (by omega), count_eq l hl]
  show slice_Of.j0 (k + 12) l (i : Int) (decide ((i : Int) ≥ ((cntS l : Nat) : Int))) = _
  obtain ⟨m, hm⟩ : ∃ m, m = k + 11 := ⟨_, rfl⟩
  rw [decide_eq_false (by omega), show k + 12 = m + 1 by omega]
  rw [slice_Of.j0]
  have e : wrap64 (8 * (i : Int)) = ((8 * i : Nat) : Int) := by rw [w64 _ (by omega)]; omega
  have en : ((8 * i : Nat) : Int).toNat = 8 * i := Int.toNat_natCast _
  have em : ∀ n : Nat, mn (n : Int) 8 = ((min n 8 : Nat) : Int) := fun n => by unfold mn; split <;> omega
  have em9 : ∀ n : Nat, mn (n : Int) 9 = ((min n 9 : Nat) : Int) := fun n => by unfold mn; split <;> omega
  rw [if_neg (by decide), e, if_pos (by omega), if_pos (by omega), en, em, em9, if_pos (by omega), if_pos (by omega), Int.toNat_natCast]
  have ht : ((l.drop (8 * i)).take (min (l.drop (8 * i)).length 8)) = (l.drop (8 * i)).take 8 := by
    rcases Nat.le_total (l.drop (8 * i)).length 8 with q | q
    · rw [Nat.min_eq_left q, List.take_of_length_le (Nat.le_refl _), List.take_of_length_le q]
    · rw [Nat.min_eq_right q]
  rw [ht]
  have hlen : ((l.drop (8 * i)).take 8).length ≤ 8 := by rw [List.length_take]; omega
  have := of_loop ((h.drop (8 * i)).take 8) hlen ((min (l.drop (8 * i)).length 9 : Nat) : Int) ((l.drop (8 * i)).take 8).length 0 (k + 10 - ((l.drop (8 * i)).take 8).length) (by omega)
  rw [show k + 10 - ((l.drop (8 * i)).take 8).length + ((l.drop (8 * i)).take 8).length + 1 = k + 11 by omega] at this
  have hz : wrd (((l.drop (8 * i)).take 8).take 0) = 0 := by rw [List.take_zero]; rfl
  rw [hz, wrd_take] at this
  rw [hm]
  exact this.trans (by rw [List.length_drop])
theorem of_out (l : List Int) (hl : l.length ≤ 140737488351232) (i : Int) (hi : i < 0 ∨ (cntS l : Int) ≤ i) (k : Nat) : slice_Of.f (k + 1) l i = some (0, 0, 2) := by
  unfold slice_Of.f
  by_cases h : i < 0
  · rw [if_pos h]; rfl
  · rw [if_neg h, count_eq l hl]
    show slice_Of.j0 (k + 1) l i (decide (i ≥ ((cntS l : Nat) : Int))) = _
    rw [decide_eq_true (by omega)]
    rfl
theorem of_ge {l : List Int} (h : Byt l) (hl : l.length ≤ 140737488351232) (i : Nat) (hi : i < cntS l) (k : Nat) (hk : 12 ≤ k) :
    slice_Of.f k l (i : Int) = some (wrd (l.drop (8 * i)), ((min (l.length - 8 * i) 9 : Nat) : Int), 0) := by
  have := of_eq h hl i hi (k - 12)
  rwa [show k - 12 + 12 = k by omega] at this
theorem known_ge : ∃ k0, ∀ k, k0 ≤ k → garnerlaw08_known.f k = some true := by
  have h0 : garnerlaw08_known.f 40 = some true := by decide +kernel
  refine ⟨40, fun k hk => ?_⟩
  induction k with
  | zero => omega
  | succ k ih =>
    rcases Nat.lt_or_ge k 40 with h | h
    · rw [show k + 1 = 40 by omega]; exact h0
    · exact garnerlaw08_known.mono k _ (ih h)
/-- The first j bytes' number, with noughts behind them. -/
def pv (r : List Int) : Nat → Int
  | 0 => 0
  | j + 1 => pv r j * 256 + r.getD j 0
theorem pv_range {r : List Int} (h : Byt r) : ∀ j, 0 ≤ pv r j ∧ pv r j < ((256 ^ j : Nat) : Int)
  | 0 => by simp [pv]
  | j + 1 => by
    have ih := pv_range h j
    have hb := h.at_ j
    unfold pv
    rw [Nat.pow_succ]
    omega
theorem pv_eight (r : List Int) : pv r 8 = wrd r := by
  simp only [pv, wrd]
  omega
theorem uw (x : Int) (h0 : 0 ≤ x) (h1 : x < 18446744073709551616) : IntKind.u64.wrap x = x := by
  unfold IntKind.wrap
  simp [IntKind.bits, IntKind.signed]
  omega
theorem refOf_loop {r : List Int} (h : Byt r) (len : Int) : ∀ (d j k : Nat), j + d = 8 → garnerref08_Of.l0 (k + d + 1) r (j : Int) (pv r j) len = some (wrd r, len, 0)
  | 0, j, k, hj => by
    obtain rfl : j = 8 := by omega
    rw [garnerref08_Of.l0, if_neg (by omega), pv_eight]
  | d + 1, j, k, hj => by
    have e1 : wrap64 ((j : Int) + 1) = ((j + 1 : Nat) : Int) := by unfold wrap64; omega
    have ih := refOf_loop h len d (j + 1) k (by omega)
    have hp := pv_range h j
    have hb := h.at_ j
    have hpow : (256 ^ j : Nat) ≤ 72057594037927936 := by
      calc (256 ^ j : Nat) ≤ 256 ^ 7 := Nat.pow_le_pow_right (by decide) (by omega)
        _ = 72057594037927936 := by decide
    have e2 : IntKind.u64.wrap (pv r j * 256) = pv r j * 256 := uw _ (by omega) (by omega)
    rw [show k + (d + 1) + 1 = (k + d + 1) + 1 by omega, garnerref08_Of.l0, if_pos (by omega), e1, e2]
    by_cases hl : (j : Int) < (r.length : Int)
    · rw [if_pos hl, if_pos (by omega)]
      have e3 : rd r (j : Int) = r.getD j 0 := by simp [rd]
      rw [e3, uw (r.getD j 0) (by omega) (by omega), uw (pv r j * 256 + r.getD j 0) (by omega) (by omega)]
      exact ih
    · rw [if_neg hl]
      have e4 : r.getD j 0 = 0 := by
        have : r.length ≤ j := by omega
        simp [List.getD, this]
      rw [show pv r j * 256 = pv r (j + 1) by show _ = pv r j * 256 + r.getD j 0; rw [e4]; omega]
      exact ih
theorem refCnt_ge (l : List Int) (hl : l.length ≤ 140737488351232) (k : Nat) (hk : l.length + 2 ≤ k) : garnerref08_Count.f k l = some ((cntS l : Nat) : Int) := refCnt_eq l hl k hk
theorem refOf_in {l : List Int} (h : Byt l) (hl : l.length ≤ 140737488351232) (i : Nat) (hi : i < cntS l) (k : Nat) (hk : l.length + 20 ≤ k) :
    garnerref08_Of.f k l (i : Int) = some (wrd (l.drop (8 * i)), ((min (l.length - 8 * i) 9 : Nat) : Int), 0) := by
  have h8 : 8 * i ≤ l.length := by unfold cntS at hi; omega
  have e1 : wrap64 (8 * (i : Int)) = ((8 * i : Nat) : Int) := by unfold wrap64; unfold cntS at hi; omega
  unfold garnerref08_Of.f
  rw [if_neg (by omega), refCnt_ge l hl k (by omega)]
  simp only [Option.bind_some]
  obtain ⟨k, rfl⟩ : ∃ m, k = m + 10 := ⟨k - 10, by omega⟩
  rw [show k + 10 = (k + 9) + 1 by omega, garnerref08_Of.j0, if_neg (by rw [decide_eq_true_eq]; omega), e1, if_pos (by omega), if_pos (by omega), Int.toNat_natCast]
  have e2 : mn (((l.drop (8 * i)).length : Nat) : Int) 9 = ((min (l.length - 8 * i) 9 : Nat) : Int) := by
    rw [List.length_drop]; unfold mn; split <;> omega
  rw [e2]
  exact refOf_loop (h.drop (8 * i)) _ 8 0 k (by omega)
theorem refOf_out (l : List Int) (hl : l.length ≤ 140737488351232) (i : Int) (hi : i < 0 ∨ (cntS l : Int) ≤ i) (k : Nat) (hk : l.length + 20 ≤ k) : garnerref08_Of.f k l i = some (0, 0, 2) := by
  unfold garnerref08_Of.f
  obtain ⟨k, rfl⟩ : ∃ m, k = m + 1 := ⟨k - 1, by omega⟩
  by_cases h : i < 0
  · rw [if_pos h, garnerref08_Of.j0, if_pos rfl]
  · rw [if_neg h, refCnt_ge l hl _ (by omega)]
    simp only [Option.bind_some]
    rw [garnerref08_Of.j0, if_pos (by rw [decide_eq_true_eq]; omega)]
theorem both_of {l : List Int} (h : Byt l) (hl : l.length ≤ 140737488351232) (i : Int) : ∃ a b c, (c = 0 ∨ c = 2) ∧ ∀ k, l.length + 20 ≤ k → slice_Of.f k l i = some (a, b, c) ∧ garnerref08_Of.f k l i = some (a, b, c) := by
  by_cases hi : i < 0 ∨ (cntS l : Int) ≤ i
  · refine ⟨0, 0, 2, .inr rfl, fun k hk => ⟨?_, refOf_out l hl i hi k hk⟩⟩
    obtain ⟨k, rfl⟩ : ∃ m, k = m + 1 := ⟨k - 1, by omega⟩
    exact of_out l hl i hi k
  · obtain ⟨j, rfl⟩ : ∃ j : Nat, i = (j : Int) := ⟨i.toNat, by omega⟩
    exact ⟨_, _, 0, .inl rfl, fun k hk => ⟨of_ge h hl j (by omega) k (by omega), refOf_in h hl j (by omega) k hk⟩⟩
theorem okS_all {l : List Int} (h : Byt l) (hl : l.length ≤ 140737488351232) (i : Nat) (hi : i < cntS l) : okS l i = true := by
  have h1 := ofS_eq l i hl (l.length + 20) (by omega)
  have h2 := refS_eq l i hl (l.length + 20) (by omega)
  rw [of_ge h hl i hi _ (by omega)] at h1
  rw [refOf_in h hl i hi _ (by omega)] at h2
  rw [okS_iff, ← Option.some.inj h1, ← Option.some.inj h2]
  exact ⟨rfl, rfl, rfl⟩
theorem onceL_true {l : List Int} (h : Byt l) (hl : l.length ≤ 140737488351232) (most : Int) : ∀ d i, i + d = cntS l → onceL l most d i = true
  | 0, i, hi => by unfold onceL; rw [decide_eq_true_eq]; omega
  | d + 1, i, hi => by
    unfold onceL
    rw [if_pos (okS_all h hl i (by omega))]
    split
    · rfl
    · exact onceL_true h hl most d (i + 1) (by omega)
theorem once_true {l : List Int} (h : Byt l) (hl : l.length ≤ 140737488351232) (most : Int) : garnerlaw08_once.f l most = some true := by
  unfold garnerlaw08_once.f
  rw [if_pos hl]
  unfold onceB
  rw [onceL_true h hl most _ 0 (by omega)]
theorem str_snoc (l : List Int) : strOfNums (l ++ [119]) = strOfNums l ++ (⟨#[119]⟩ : ByteArray) := by
  apply ByteArray.ext
  rw [ByteArray.data_append]
  simp [strOfNums]
theorem SliceOf : garnerlaw08_SliceOf.Pure := by
  intro l i m _ _ hb _ _
  obtain ⟨k0, hk⟩ := known_ge
  have h := byt_of hb
  by_cases ll : l.length ≤ 9000
  · have hl : l.length ≤ 140737488351232 := by omega
    obtain ⟨a, b, c, hc, hof⟩ := both_of h hl i
    refine ⟨k0 + 10000, ?_⟩
    obtain ⟨h1, h2⟩ := hof (k0 + 10000) (by omega)
    have e1 : (l ++ [119]).take ((l.length : Int).toNat) = l := by rw [Int.toNat_natCast]; exact List.take_left' rfl
    have hn : garnerlaw08_num.f c = some c := by rcases hc with rfl | rfl <;> rfl
    unfold garnerlaw08_SliceOf.f
    rw [if_neg (by omega), if_pos (by simp only [List.length_nil]; omega), Option.bind_some, List.nil_append, if_pos (by omega), Option.bind_some, if_pos (by omega), if_pos (by rw [List.length_append]; simp only [List.length_cons, List.length_nil]; omega),
      e1, h1, h2, Option.bind_some, Option.bind_some, if_pos (by simp), hn, Option.bind_some, if_pos rfl, count_eq l hl, refCnt_ge l hl _ (by omega), Option.bind_some, Option.bind_some, if_pos rfl, once_true h hl m, Option.bind_some, if_pos rfl,
      once_true h hl 0, Option.bind_some, if_pos rfl, if_pos (by rw [strOfNums_size]; omega), if_pos (by rw [str_snoc]), hk _ (by omega)]
    rfl
  · refine ⟨k0, ?_⟩
    unfold garnerlaw08_SliceOf.f
    rw [if_pos (by omega), hk k0 (Nat.le_refl _)]
    rfl
end Go.Proofs.Ytbaaihpkolicmaa.Pure
