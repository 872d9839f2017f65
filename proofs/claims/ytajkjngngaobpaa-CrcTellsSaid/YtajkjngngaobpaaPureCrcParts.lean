/- However a text is cut in three, the sum of its parts is its sum, and it goes on from each cut. -/
import Derived.Test.YtajkjngngaobpaaHSx4
import Derived.Test.YtajkjngngaobpaaU64
namespace Go.Proofs.Ytajkjngngaobpaa.Pure
open Go.RowKit Go.Proofs.Ytajkjngngaobpaa.HS Go.Proofs.Ytajkjngngaobpaa Go.Proofs.YtajkjngngaobpaaW.PrintWords Go.Proofs.YtajkjngngaobpaaW.PrintLast Go.Proofs.YtajkjngngaobpaaW.PrintMore
set_option linter.unusedVariables false
/-- One bit of a register. -/
def h1 (s : Nat) : Nat := s / 2 ^^^ 2197175160 * (s % 2)
def hn : Nat → Nat → Nat
  | 0, s => s
  | j + 1, s => h1 (hn j s)
theorem h1_xor (a b : Nat) : h1 (a ^^^ b) = h1 a ^^^ h1 b := by
  have e1 := U64.xor_div 1 a b
  have e2 := U64.xor_mod_two a b
  simp only [Nat.pow_one] at e1
  unfold h1
  rw [e1, e2]
  have ha := Nat.mod_two_eq_zero_or_one a
  have hb := Nat.mod_two_eq_zero_or_one b
  rcases ha with ha | ha <;> rcases hb with hb | hb
  · rw [ha, hb, show (a + b) % 2 = 0 by omega]; simp
  · rw [ha, hb, show (a + b) % 2 = 1 by omega]; simp [Nat.xor_assoc]
  · rw [ha, hb, show (a + b) % 2 = 1 by omega]; simp only [Nat.mul_one, Nat.mul_zero, Nat.xor_zero]; rw [Nat.xor_assoc, Nat.xor_comm (b / 2), ← Nat.xor_assoc]
  · rw [ha, hb, show (a + b) % 2 = 0 by omega]
    simp only [Nat.mul_one, Nat.mul_zero, Nat.xor_zero]
    rw [Nat.xor_assoc, Nat.xor_comm 2197175160 (b / 2 ^^^ 2197175160), Nat.xor_assoc, Nat.xor_self, Nat.xor_zero]
theorem hn_xor : ∀ (n a b : Nat), hn n (a ^^^ b) = hn n a ^^^ hn n b
  | 0, _, _ => rfl
  | n + 1, a, b => by
    show h1 (hn n (a ^^^ b)) = _
    rw [hn_xor n, h1_xor]
    rfl
theorem hn_add : ∀ (m n s : Nat), hn (m + n) s = hn m (hn n s)
  | 0, n, s => by rw [Nat.zero_add]; rfl
  | m + 1, n, s => by
    rw [show m + 1 + n = (m + n) + 1 by omega]
    show h1 (hn (m + n) s) = h1 (hn m (hn n s))
    rw [hn_add m]
theorem hn_zero : ∀ n : Nat, hn n 0 = 0
  | 0 => rfl
  | n + 1 => by show h1 (hn n 0) = 0; rw [hn_zero n]; rfl
theorem h1_lt {s : Nat} (h : s < 4294967296) : h1 s < 4294967296 := by
  unfold h1
  have h2 : 2197175160 * (s % 2) < 2 ^ 32 := by have := Nat.mod_lt s (show 0 < 2 by decide); omega
  exact Nat.xor_lt_two_pow (n := 32) (by omega) h2
theorem hn_lt : ∀ (n : Nat) {s : Nat}, s < 4294967296 → hn n s < 4294967296
  | 0, _, h => h
  | n + 1, s, h => h1_lt (hn_lt n h)
/-- A word whose low bits are none goes down. -/
theorem hn_up : ∀ (n q : Nat), hn n (2 ^ n * q) = q
  | 0, q => by simp [hn]
  | n + 1, q => by
    rw [show n + 1 = n + 1 from rfl, hn_add n 1]
    have : hn 1 (2 ^ (n + 1) * q) = 2 ^ n * q := by
      show h1 (2 ^ (n + 1) * q) = _
      unfold h1
      rw [show 2 ^ (n + 1) * q = 2 * (2 ^ n * q) by rw [Nat.pow_succ, Nat.mul_comm (2 ^ n) 2, Nat.mul_assoc], Nat.mul_div_cancel_left _ (by decide), Nat.mul_mod_right]
      simp
    rw [this]
    exact hn_up n q
theorem low_xor (n s : Nat) : 2 ^ n * (s / 2 ^ n) ^^^ s % 2 ^ n = s := by
  have h := U64.xor_append n (s / 2 ^ n) 0 0 (s % 2 ^ n) (Nat.pow_pos (by decide)) (Nat.mod_lt _ (Nat.pow_pos (by decide)))
  simp only [Nat.add_zero, Nat.mul_zero, Nat.zero_add, Nat.xor_zero, Nat.zero_xor] at h
  rw [h]
  exact Nat.div_add_mod s (2 ^ n)
theorem hn_low (n s : Nat) : hn n s = s / 2 ^ n ^^^ hn n (s % 2 ^ n) := by
  have h := hn_xor n (2 ^ n * (s / 2 ^ n)) (s % 2 ^ n)
  rw [low_xor, hn_up] at h
  exact h
/-- A linear map by what each bit becomes. -/
def thr (m : Nat → Nat) (x : Nat) : Nat → Nat
  | 0 => 0
  | i + 1 => thr m x i ^^^ m i * (x / 2 ^ i % 2)
theorem bit_xor (x i : Nat) : x % 2 ^ (i + 1) = x % 2 ^ i ^^^ 2 ^ i * (x / 2 ^ i % 2) := by
  have h := U64.xor_append i 0 (x % 2 ^ i) (x / 2 ^ i % 2) 0 (Nat.mod_lt _ (Nat.pow_pos (by decide))) (Nat.pow_pos (by decide))
  simp only [Nat.add_zero, Nat.mul_zero, Nat.zero_add, Nat.xor_zero, Nat.zero_xor] at h
  rw [h, Nat.pow_succ, Nat.mod_mul, Nat.add_comm]
theorem thr_eq (L : Nat → Nat) (h0 : L 0 = 0) (hx : ∀ a b, L (a ^^^ b) = L a ^^^ L b) (m : Nat → Nat) (n : Nat) (hm : ∀ i, i < n → m i = L (2 ^ i)) (x : Nat) : ∀ i, i ≤ n → thr m x i = L (x % 2 ^ i)
  | 0, _ => by rw [Nat.pow_zero, Nat.mod_one, h0]; rfl
  | i + 1, hi => by
    show thr m x i ^^^ m i * (x / 2 ^ i % 2) = _
    rw [thr_eq L h0 hx m n hm x i (by omega), bit_xor, hx, hm i (by omega)]
    rcases Nat.mod_two_eq_zero_or_one (x / 2 ^ i) with h | h
    · rw [h, Nat.mul_zero, Nat.mul_zero, h0]
    · rw [h, Nat.mul_one, Nat.mul_one]
def C32 : Nat := 4294967295
def n32 (s : Nat) : Nat := C32 ^^^ s
theorem xor_twice (a s : Nat) : a ^^^ (a ^^^ s) = s := by rw [← Nat.xor_assoc, Nat.xor_self, Nat.zero_xor]
theorem n32_def (s : Nat) : n32 s = C32 ^^^ s := by unfold n32; rfl
theorem n32_n32 (s : Nat) : n32 (n32 s) = s := (n32_def (n32 s)).trans ((congrArg (fun x => C32 ^^^ x) (n32_def s)).trans (xor_twice C32 s))
theorem n32_lt {s : Nat} (h : s < 4294967296) : n32 s < 4294967296 := Nat.xor_lt_two_pow (n := 32) (show C32 < 2 ^ 32 by unfold C32; omega) h
/-- A register behind bytes. -/
def rn (l : List Nat) (s : Nat) : Nat := l.foldl (fun s c => hn 8 (s ^^^ c)) s
theorem rn_lt : ∀ (l : List Nat) {s : Nat}, s < 4294967296 → (∀ c ∈ l, c < 256) → rn l s < 4294967296
  | [], _, h, _ => h
  | c :: l, s, h, hl => rn_lt l (hn_lt 8 (Nat.xor_lt_two_pow (n := 32) h (by have := hl c (by simp); omega))) (fun c hc => hl c (by simp [hc]))
theorem rn_append (a b : List Nat) (s : Nat) : rn (a ++ b) s = rn b (rn a s) := by simp [rn]
theorem rn_noughts : ∀ (n s : Nat), rn (List.replicate n 0) s = hn (8 * n) s
  | 0, _ => rfl
  | n + 1, s => by
    show rn (List.replicate n 0) (hn 8 (s ^^^ 0)) = _
    rw [rn_noughts n, Nat.xor_zero, ← hn_add]
    congr 1
/-- The register of two texts, the one behind the other. -/
theorem rn_xor : ∀ (l : List Nat) (s t : Nat), rn l (s ^^^ t) = rn l s ^^^ hn (8 * l.length) t
  | [], s, t => by simp [rn, hn]
  | c :: l, s, t => by
    show rn l (hn 8 ((s ^^^ t) ^^^ c)) = rn l (hn 8 (s ^^^ c)) ^^^ _
    rw [Nat.xor_assoc, Nat.xor_comm t c, ← Nat.xor_assoc, hn_xor, rn_xor l, ← hn_add]
    congr 2
theorem xor_i (a b : Nat) (ha : a < 4294967296) (hb : b < 4294967296) : Go.bits .xor .u32 (a : Int) (b : Int) = ((a ^^^ b : Nat) : Int) := u32_xor_nat a b ha hb
theorem hb_nat (s : Nat) (h : s < 4294967296) : hb (s : Int) = (h1 s : Int) := by
  unfold hb h1
  have e1 : Go.bits .and .u32 (s : Int) 1 = ((s % 2 : Nat) : Int) := by
    have := u32_and_nat s 1 h (by omega)
    rw [Nat.and_one_is_mod] at this
    exact this
  rw [e1, show (s : Int) / 2 = ((s / 2 : Nat) : Int) by omega, show 2197175160 * ((s % 2 : Nat) : Int) % 4294967296 = ((2197175160 * (s % 2) : Nat) : Int) by omega]
  exact xor_i _ _ (by omega) (by omega)
theorem hbn_nat : ∀ (n s : Nat), s < 4294967296 → hbn n (s : Int) = (hn n s : Int)
  | 0, _, _ => rfl
  | n + 1, s, h => by
    show hb (hbn n (s : Int)) = _
    rw [hbn_nat n s h, hb_nat _ (hn_lt n h)]
    rfl
theorem half_at (i : Nat) (hi : i < 16) : halfT[i]?.getD 0 = (hn 4 i : Int) := by
  rw [halfT_eq]
  unfold halfS
  rw [List.getElem?_map, List.getElem?_range hi]
  simp only [Option.map_some, Option.getD_some]
  rw [if_pos hi, hbn_nat 4 i (by omega)]
theorem rh_nat (s : Nat) (h : s < 4294967296) : rh (s : Int) = (hn 4 s : Int) := by
  unfold rh
  have e1 : Go.bits .and .u32 (s : Int) 15 = ((s % 16 : Nat) : Int) := by
    have := u32_and_nat s 15 h (by omega)
    rw [show s &&& 15 = s % 16 from Nat.and_two_pow_sub_one_eq_mod s 4] at this
    exact this
  rw [e1, Int.toNat_natCast, half_at _ (by omega), show (s : Int) / 16 = ((s / 16 : Nat) : Int) by omega, xor_i _ _ (by omega) (hn_lt 4 (by omega))]
  have := hn_low 4 s
  rw [show (2 ^ 4 : Nat) = 16 by decide] at this
  rw [this]
/-- Bytes as small numbers. -/
def BytI (l : List Int) : Prop := ∀ x ∈ l, 0 ≤ x ∧ x < 256
def nat (l : List Int) : List Nat := l.map Int.toNat
theorem nat_lt {l : List Int} (h : BytI l) : ∀ c ∈ nat l, c < 256 := fun c hc => by
  obtain ⟨x, hx, rfl⟩ := List.mem_map.1 hc
  have := h x hx
  omega
theorem runN_nat {l : List Int} (h : BytI l) (s : Nat) (hs : s < 4294967296) : ∀ i, i ≤ l.length → HS.runN l (s : Int) i = (rn ((nat l).take i) s : Int)
  | 0, _ => rfl
  | i + 1, hi => by
    show rh (rh (Go.bits .xor .u32 (HS.runN l (s : Int) i) (rd l i % 4294967296))) = _
    have hb := h l[i] (List.getElem_mem (by omega))
    have e1 : rd l (i : Int) = (l[i].toNat : Int) := by
      have : rd l (i : Int) = l[i] := by simp [rd, show i < l.length by omega]
      rw [this]; omega
    have hlt : rn ((nat l).take i) s < 4294967296 := rn_lt _ hs (fun c hc => nat_lt h c (List.mem_of_mem_take hc))
    have hx : rn ((nat l).take i) s ^^^ l[i].toNat < 4294967296 := Nat.xor_lt_two_pow (n := 32) hlt (by omega)
    rw [runN_nat h s hs i (by omega), e1, show ((l[i].toNat : Nat) : Int) % 4294967296 = (l[i].toNat : Int) by omega, xor_i _ _ hlt (by omega), rh_nat _ hx, rh_nat _ (hn_lt 4 hx), ← hn_add]
    have e2 : (nat l).take (i + 1) = (nat l).take i ++ [l[i].toNat] := by
      rw [List.take_add_one]
      simp [nat, show i < l.length by omega]
    rw [e2, rn_append]
    rfl
theorem run_eq {l : List Int} (h : BytI l) (s : Nat) (hs : s < 4294967296) : crc_run.f (s : Int) l = some (rn (nat l) s : Int) := by
  unfold crc_run.f
  rw [runN_nat h s hs l.length (Nat.le_refl _)]
  congr 2
  rw [List.take_of_length_le (by simp [nat])]
theorem not32_nat (s : Nat) (h : s < 4294967296) : not32 (s : Int) = (n32 s : Int) := by
  unfold not32 n32 C32
  have e : (if IntKind.u32.signed = true then (-1 : Int) else IntKind.u32.max) = ((4294967295 : Nat) : Int) := by decide
  rw [e]
  exact xor_i _ _ (by omega) h
theorem more_eq {l : List Int} (h : BytI l) (s : Nat) (hs : s < 4294967296) : crc_More.f (s : Int) l = some (n32 (rn (nat l) (n32 s)) : Int) := by
  unfold crc_More.f
  rw [not32_nat s hs, run_eq h _ (n32_lt hs), Option.bind_some, not32_nat _ (rn_lt _ (n32_lt hs) (nat_lt h))]
/-- The cells of a map. -/
def Row (xs : List Int) (m : Nat → Nat) : Prop := xs.length = 32 ∧ ∀ i, i < 32 → xs[i]?.getD 0 = (m i : Int) ∧ m i < 4294967296
theorem thr_lt (m : Nat → Nat) (hm : ∀ i, i < 32 → m i < 4294967296) (x : Nat) : ∀ i, i ≤ 32 → thr m x i < 4294967296
  | 0, _ => by show 0 < _; omega
  | i + 1, hi => by
    refine Nat.xor_lt_two_pow (n := 32) (thr_lt m hm x i (by omega)) ?_
    have := hm i (by omega)
    have h2 := Nat.mod_lt (x / 2 ^ i) (show 0 < 2 by decide)
    rcases Nat.mod_two_eq_zero_or_one (x / 2 ^ i) with h | h <;> rw [h] <;> omega
theorem ofN_nat {xs : List Int} {m : Nat → Nat} (h : Row xs m) (x : Nat) (hx : x < 4294967296) : ∀ i, i ≤ 32 → ofN xs (x : Int) i = (thr m x i : Int)
  | 0, _ => rfl
  | i + 1, hi => by
    show Go.bits .xor .u32 (ofN xs (x : Int) i) (xs[i]?.getD 0 * Go.bits .and .u32 ((x : Int) / 2 ^ i) 1 % 4294967296) = _
    obtain ⟨e1, e2⟩ := h.2 i (by omega)
    have e3 : (x : Int) / 2 ^ i = ((x / 2 ^ i : Nat) : Int) := by rw [Int.natCast_ediv]; simp
    have hle : x / 2 ^ i ≤ x := Nat.div_le_self _ _
    have e4 : Go.bits .and .u32 ((x / 2 ^ i : Nat) : Int) 1 = ((x / 2 ^ i % 2 : Nat) : Int) := by
      have := u32_and_nat (x / 2 ^ i) 1 (by omega) (by omega)
      rw [Nat.and_one_is_mod] at this
      exact this
    have e5 : ((m i : Nat) : Int) * ((x / 2 ^ i % 2 : Nat) : Int) % 4294967296 = ((m i * (x / 2 ^ i % 2) : Nat) : Int) := by
      rcases Nat.mod_two_eq_zero_or_one (x / 2 ^ i) with h | h <;> rw [h] <;> simp <;> omega
    have e6 : m i * (x / 2 ^ i % 2) < 4294967296 := by
      rcases Nat.mod_two_eq_zero_or_one (x / 2 ^ i) with h | h <;> rw [h] <;> omega
    rw [ofN_nat h x hx i (by omega), e1, e3, e4, e5, xor_i _ _ (thr_lt m (fun i hi => (h.2 i hi).2) x i (by omega)) e6]
    rfl
/-- A row that is c bits' steps. -/
def RowH (xs : List Int) (c : Nat) : Prop := Row xs fun i => hn c (2 ^ i)
theorem pow_lt32 {i : Nat} (h : i < 32) : 2 ^ i < 4294967296 := by
  have : (2 : Nat) ^ i < 2 ^ 32 := Nat.pow_lt_pow_right (by decide) h
  omega
theorem ofV_nat {xs : List Int} {c : Nat} (h : RowH xs c) (x : Nat) (hx : x < 4294967296) : ofV xs (x : Int) = (hn c x : Int) := by
  rw [ofV_eq, ofN_nat h x hx 32 (Nat.le_refl _), thr_eq (hn c) (hn_zero c) (hn_xor c) _ 32 (fun _ _ => rfl) x 32 (Nat.le_refl _), Nat.mod_eq_of_lt (by omega)]
theorem row_of (f : Nat → Int) (m : Nat → Nat) (h : ∀ i, i < 32 → f i = (m i : Int) ∧ m i < 4294967296) : Row ((List.range 32).map f) m := by
  refine ⟨by simp, fun i hi => ?_⟩
  rw [List.getElem?_map, List.getElem?_range hi]
  simp only [Option.map_some, Option.getD_some]
  exact h i hi
theorem twS_row {xs : List Int} {c : Nat} (h : RowH xs c) : RowH (twS xs 32) (c + c) := by
  unfold twS
  refine row_of _ _ fun i hi => ?_
  have e : xs.getD i 0 = (hn c (2 ^ i) : Int) := by
    rw [List.getD_eq_getElem?_getD]
    exact (h.2 i hi).1
  rw [if_pos hi, e, ofV_nat h _ (hn_lt c (pow_lt32 hi)), ← hn_add]
  exact ⟨rfl, hn_lt _ (pow_lt32 hi)⟩
theorem m0S_row : RowH (m0S 32) 8 := by
  unfold m0S
  refine row_of _ _ fun i hi => ?_
  have e : (2 : Int) ^ i % 4294967296 = ((2 ^ i : Nat) : Int) := by
    have hq : ∀ q : Nat, q < 4294967296 → (q : Int) % 4294967296 = (q : Int) := by omega
    rw [show (2 : Int) ^ i = ((2 ^ i : Nat) : Int) by simp]
    exact hq _ (pow_lt32 hi)
  have hb : BytI [0] := fun x hx => by simp at hx; omega
  have := runN_nat hb (2 ^ i) (pow_lt32 hi) 1 (by simp)
  rw [if_pos hi, e, this]
  refine ⟨?_, hn_lt _ (pow_lt32 hi)⟩
  show ((hn 8 (2 ^ i ^^^ 0) : Nat) : Int) = _
  rw [Nat.xor_zero]
theorem farN_nat : ∀ (k : Nat) (m : List Int) (c s n : Nat), RowH m c → s < 4294967296 → n < 2 ^ k → farN k m (s : Int) n = (hn (c * n) s : Int)
  | 0, m, c, s, n, _, _, hn0 => by
    obtain rfl : n = 0 := by simp at hn0; exact hn0
    rfl
  | k + 1, m, c, s, n, hm, hs, hk => by
    rw [farN]
    by_cases h : 0 < n
    · rw [if_pos h]
      have hk2 : n / 2 < 2 ^ k := by rw [Nat.pow_succ] at hk; omega
      by_cases h2 : n % 2 = 1
      · rw [if_pos h2, ofV_nat hm s hs, farN_nat k _ (c + c) _ _ (twS_row hm) (hn_lt c hs) hk2, ← hn_add]
        congr 2
        have : n = 2 * (n / 2) + 1 := by omega
        generalize n / 2 = q at this
        subst this
        rw [Nat.mul_add, Nat.mul_one, ← Nat.mul_assoc, Nat.mul_comm c 2, Nat.two_mul]
      · rw [if_neg h2, farN_nat k _ (c + c) _ _ (twS_row hm) hs hk2]
        congr 2
        have : n = 2 * (n / 2) := by omega
        generalize n / 2 = q at this
        subst this
        rw [← Nat.mul_assoc, Nat.mul_comm c 2, Nat.two_mul]
    · rw [if_neg h]
      obtain rfl : n = 0 := by omega
      rfl
theorem far_eq (s : Nat) (hs : s < 4294967296) (n : Int) (hn1 : n < 9223372036854775808) : crc_far.f (s : Int) n = some (hn (8 * n.toNat) s : Int) := by
  unfold crc_far.f
  rw [if_pos hn1, farN_nat 64 _ 8 s n.toNat m0S_row hs (by omega)]
theorem zeros_eq (s : Nat) (hs : s < 4294967296) (n : Int) (hn1 : n < 9223372036854775808) : crc_Zeros.f (s : Int) n = some (n32 (hn (8 * n.toNat) (n32 s)) : Int) := by
  unfold crc_Zeros.f
  rw [not32_nat s hs, far_eq _ (n32_lt hs) n hn1, Option.bind_some, not32_nat _ (hn_lt _ (n32_lt hs))]
theorem wf32 {a : Int} (h : (Go.Lit.int .u32 a).wf = true) : ∃ s : Nat, a = (s : Int) ∧ s < 4294967296 := by
  have : 0 ≤ a ∧ a < 4294967296 := by
    simp [Go.Lit.wf, IntKind.min, IntKind.max, IntKind.signed, IntKind.bits] at h
    omega
  exact ⟨a.toNat, by omega, by omega⟩
theorem sum_loop {l : List (List Int)} (h : ∀ x ∈ l, BytI x) (hl : l.length ≤ 9223372036854775807) : ∀ (d i k s : Nat), i + d = l.length → s < 4294967296 →
    crc_Sum.l0 (k + d + 1) (s : Int) l (l.length : Int) (i : Int) = some (n32 (((l.drop i).map nat).foldl (fun s x => rn x s) s) : Int)
  | 0, i, k, s, hi, hs => by
    rw [crc_Sum.l0, if_neg (by omega), List.drop_of_length_le (by omega)]
    exact congrArg some (not32_nat s hs)
  | d + 1, i, k, s, hi, hs => by
    have e1 : wrap64 ((i : Int) + 1) = ((i + 1 : Nat) : Int) := by unfold wrap64; omega
    have hlt : i < l.length := by omega
    have e2 : rd_L1 l (i : Int) = l[i] := by simp [rd_L1, List.getD, hlt]
    have hb := h l[i] (List.getElem_mem hlt)
    rw [show k + (d + 1) + 1 = (k + d + 1) + 1 by omega, crc_Sum.l0, if_pos (by omega), if_pos (by omega), if_pos (by omega), e2, run_eq hb s hs, Option.bind_some, e1, sum_loop h hl d (i + 1) k _ (by omega) (rn_lt _ hs (nat_lt hb)), List.drop_eq_getElem_cons hlt]
    rfl
theorem sum_eq {l : List (List Int)} (h : ∀ x ∈ l, BytI x) (hl : l.length ≤ 9223372036854775807) (k : Nat) (hk : l.length + 1 ≤ k) : crc_Sum.f k l = some (n32 ((l.map nat).foldl (fun s x => rn x s) 4294967295) : Int) := by
  have := sum_loop h hl l.length 0 (k - l.length - 1) 4294967295 (by omega) (by omega)
  rw [show k - l.length - 1 + l.length + 1 = k by omega, List.drop_zero] at this
  exact this
theorem byt_dec {l : List Int} (h : l.all (fun x => decide (0 ≤ x ∧ x < 256)) = true) : BytI l := fun x hx => by
  have := List.all_eq_true.mp h x hx
  exact of_decide_eq_true this
theorem known_all (k : Nat) (hk : 5 ≤ k) : garnerlaw02_known.f k = some true := by
  have b0 : BytI [49, 50, 51, 52] := byt_dec (by decide)
  have b1 : BytI [53, 54, 55, 56, 57] := byt_dec (by decide)
  have b2 : BytI [49, 50, 51, 52, 53] := byt_dec (by decide)
  have b3 : BytI [54, 55, 56, 57] := byt_dec (by decide)
  have b4 : BytI [97] := byt_dec (by decide)
  have m1 : n32 (rn [53, 54, 55, 56, 57] (rn [49, 50, 51, 52] 4294967295)) = 3808858755 := by decide +kernel
  have m2 : n32 (rn [54, 55, 56, 57] (n32 (n32 (rn [49, 50, 51, 52, 53] 4294967295)))) = 3808858755 := by decide +kernel
  have m3 : n32 (hn 32 (n32 0)) = 1214729159 := by decide +kernel
  have m4 : n32 (rn [97] 4294967295) = 3251651376 := by decide +kernel
  have m5 : n32 (hn 0 (n32 7)) = 7 := by decide +kernel
  have m6 : n32 4294967295 = 0 := by decide +kernel
  have hp : knownP k := by
    refine ⟨?_, ?_, ?_, ?_, ?_, ?_, ?_⟩
    · rw [sum_eq (l := []) (by simp) (by simp) k (by simp; omega)]
      exact congrArg (fun n : Nat => some (n : Int)) m6
    · rw [sum_eq (l := [[49, 50, 51, 52], [53, 54, 55, 56, 57]]) (by intro x hx; simp at hx; rcases hx with rfl | rfl; exact b0; exact b1) (by simp) k (by simp; omega)]
      have n1 : nat [49, 50, 51, 52] = [49, 50, 51, 52] := by decide
      have n2 : nat [53, 54, 55, 56, 57] = [53, 54, 55, 56, 57] := by decide
      rw [List.map_cons, List.map_cons, List.map_nil, List.foldl_cons, List.foldl_cons, List.foldl_nil, n1, n2, m1]
      rfl
    · refine ⟨_, sum_eq (l := [[49, 50, 51, 52, 53]]) (by intro x hx; simp at hx; subst hx; exact b2) (by simp) k (by simp; omega), ?_⟩
      have hlt : n32 (rn [49, 50, 51, 52, 53] 4294967295) < 4294967296 := n32_lt (rn_lt _ (by omega) (by decide))
      refine (more_eq b3 _ hlt).trans ?_
      exact congrArg (fun n : Nat => some (n : Int)) m2
    · refine (zeros_eq 0 (by omega) 4 (by omega)).trans ?_
      exact congrArg (fun n : Nat => some (n : Int)) m3
    · refine (zeros_eq 7 (by omega) (-3) (by omega)).trans ?_
      exact congrArg (fun n : Nat => some (n : Int)) m5
    · unfold crc_Join.f
      have := far_eq 9 (by omega) 0 (by omega)
      have e : crc_far.f 9 0 = some 9 := this
      rw [e, Option.bind_some]
      exact congrArg some (xor_i 9 0 (by omega) (by omega))
    · unfold crc_Holds.f
      rw [sum_eq (l := [[97]]) (by intro x hx; simp at hx; subst hx; exact b4) (by simp) k (by simp; omega), Option.bind_some]
      have : ((n32 (rn [97] 4294967295) : Nat) : Int) = 3251651376 := congrArg (fun n : Nat => (n : Int)) m4
      show some ((n32 (rn [97] 4294967295) : Int) == 3251651376) = some true
      rw [this]
      rfl
  unfold garnerlaw02_known.f
  rw [if_pos hp]
theorem sum_one {x : List Int} (hx : BytI x) (k : Nat) (hk : 5 ≤ k) : crc_Sum.f k [x] = some (n32 (rn (nat x) 4294967295) : Int) :=
  sum_eq (l := [x]) (by intro z hz; simp at hz; subst hz; exact hx) (by simp) k (by simp; omega)
theorem holds_eq {l : List Int} (h : BytI l) (k : Nat) (hk : 5 ≤ k) (s : Int) : crc_Holds.f k l s = some ((n32 (rn (nat l) 4294967295) : Int) == s) := by
  unfold crc_Holds.f
  rw [sum_one h k hk, Option.bind_some]
theorem byt_wf {l : List Int} (h : ∀ x ∈ l, (Go.Lit.int .u8 x).wf = true) : BytI l := fun x hx => by
  have h2 := h x hx
  simp [Go.Lit.wf, IntKind.min, IntKind.max, IntKind.signed, IntKind.bits] at h2
  omega
theorem nat_append (a b : List Int) : nat (a ++ b) = nat a ++ nat b := by simp [nat]
theorem BytI.take {l : List Int} (h : BytI l) (n : Nat) : BytI (l.take n) := fun x hx => h x (List.mem_of_mem_take hx)
theorem BytI.drop {l : List Int} (h : BytI l) (n : Nat) : BytI (l.drop n) := fun x hx => h x (List.mem_of_mem_drop hx)
theorem sum_three {x y z : List Int} (hx : BytI x) (hy : BytI y) (hz : BytI z) (k : Nat) (hk : 5 ≤ k) : crc_Sum.f k [x, y, z] = some (n32 (rn (nat z) (rn (nat y) (rn (nat x) 4294967295))) : Int) :=
  sum_eq (l := [x, y, z]) (by intro q hq; simp at hq; rcases hq with rfl | rfl | rfl; exact hx; exact hy; exact hz) (by simp) k (by simp; omega)
theorem xor3 (a b c : Nat) : a ^^^ (c ^^^ b) = c ^^^ (b ^^^ a) := by rw [← Nat.xor_assoc, Nat.xor_comm a c, Nat.xor_assoc, Nat.xor_comm a b]
/-- The sum of two pieces out of their sums. -/
theorem join_nat (z : List Nat) (r : Nat) : hn (8 * z.length) (n32 r) ^^^ n32 (rn z C32) = n32 (rn z r) := by
  have h := rn_xor z C32 (n32 r)
  have e : C32 ^^^ n32 r = r := by
    have := n32_n32 r
    rw [n32_def (n32 r)] at this
    exact this
  rw [e] at h
  rw [n32_def (rn z r), h, n32_def (rn z C32)]
  exact xor3 _ _ _
theorem join_eq (a b : Nat) (ha : a < 4294967296) (hb : b < 4294967296) (n : Int) (hn1 : n < 9223372036854775808) : crc_Join.f (a : Int) (b : Int) n = some ((hn (8 * n.toNat) a ^^^ b : Nat) : Int) := by
  unfold crc_Join.f
  rw [far_eq a ha n hn1, Option.bind_some, xor_i _ _ (hn_lt _ ha) hb]
theorem CrcParts (l : List Int) (i j : Int) (h : BytI l) : ∃ k, garnerlaw02_CrcParts.f k l i j = some true := by
  refine ⟨100, ?_⟩
  have hknown : ∀ k, 5 ≤ k → ((garnerlaw02_known.f k).bind fun t => (some t)) = some true := fun k hk => by rw [known_all k hk]; rfl
  by_cases c1 : (l.length : Int) > 100000
  · unfold garnerlaw02_CrcParts.f
    rw [if_pos c1, garnerlaw02_CrcParts.j0, if_pos rfl, hknown _ (by omega)]
  by_cases c2 : i < 0
  · unfold garnerlaw02_CrcParts.f
    rw [if_neg c1, if_pos c2, garnerlaw02_CrcParts.j0, if_pos rfl, hknown _ (by omega)]
  by_cases c3 : j < i
  · unfold garnerlaw02_CrcParts.f
    rw [if_neg c1, if_neg c2, if_pos c3, garnerlaw02_CrcParts.j0, if_pos rfl, hknown _ (by omega)]
  by_cases c4 : j > (l.length : Int)
  · unfold garnerlaw02_CrcParts.f
    rw [if_neg c1, if_neg c2, if_neg c3, decide_eq_true c4, garnerlaw02_CrcParts.j0, if_pos rfl, hknown _ (by omega)]
  obtain ⟨i, rfl⟩ := Int.eq_ofNat_of_zero_le (show 0 ≤ i by omega)
  obtain ⟨j, rfl⟩ := Int.eq_ofNat_of_zero_le (show 0 ≤ j by omega)
  have bx := h.take i
  have bu := h.take j
  have by_ := (h.take j).drop i
  have bz := h.drop j
  have lt0 : ∀ {x : List Int}, BytI x → ∀ {s : Nat}, s < 4294967296 → rn (nat x) s < 4294967296 := fun {_} hx {_} hs => rn_lt _ hs (nat_lt hx)
  have hC : (4294967295 : Nat) < 4294967296 := by omega
  have eu : rn (nat ((l.take j).drop i)) (rn (nat (l.take i)) 4294967295) = rn (nat (l.take j)) 4294967295 := by
    rw [← rn_append, ← nat_append]
    congr 2
    have e := List.take_append_drop i (l.take j)
    rw [List.take_take, Nat.min_eq_left (by omega)] at e
    exact e
  have el : rn (nat (l.drop j)) (rn (nat (l.take j)) 4294967295) = rn (nat l) 4294967295 := by
    rw [← rn_append, ← nat_append, List.take_append_drop]
  have e1 : wrap64 ((l.length : Int) - (j : Int)) = ((l.length - j : Nat) : Int) := by unfold wrap64; omega
  have hj := join_nat (nat (l.drop j)) (rn (nat (l.take j)) 4294967295)
  rw [el] at hj
  have hlen : (nat (l.drop j)).length = l.length - j := by simp [nat]
  rw [hlen] at hj
  have hC2 : C32 = 4294967295 := rfl
  rw [hC2] at hj
  have m1 := more_eq by_ (n32 (rn (nat (l.take i)) 4294967295)) (n32_lt (lt0 bx hC))
  rw [n32_n32, eu] at m1
  have m2 := more_eq bz (n32 (rn (nat (l.take j)) 4294967295)) (n32_lt (lt0 bu hC))
  rw [n32_n32, el] at m2
  have s3 := sum_three bx by_ bz 99 (by omega)
  rw [eu, el] at s3
  have hjn := join_eq (n32 (rn (nat (l.take j)) 4294967295)) (n32 (rn (nat (l.drop j)) 4294967295)) (n32_lt (lt0 bu hC)) (n32_lt (lt0 bz hC)) ((l.length - j : Nat) : Int) (by omega)
  rw [Int.toNat_natCast, hj] at hjn
  unfold garnerlaw02_CrcParts.f
  rw [if_neg c1, if_neg c2, if_neg c3, decide_eq_false c4, garnerlaw02_CrcParts.j0, if_neg (by decide), sum_one h 99 (by omega), Option.bind_some, if_pos (by omega), if_pos (by omega), Option.bind_some, if_pos (by omega), if_pos (by omega), Option.bind_some, if_pos (by omega), Option.bind_some,
    Int.toNat_natCast, Int.toNat_natCast, s3, Option.bind_some, if_pos rfl, sum_one bx 99 (by omega), Option.bind_some, m1, Option.bind_some, m2, Option.bind_some, if_pos rfl, sum_one bu 99 (by omega), Option.bind_some, sum_one bz 99 (by omega), Option.bind_some,
    e1, hjn, Option.bind_some, if_pos rfl, holds_eq h 99 (by omega), Option.bind_some, if_pos (by simp), hknown _ (by omega)]
theorem F_int {w : World} {A : Option Addr} {n : Nat} {xs : List Int} (h : Kd.C (Kd.int .u8) w A n xs) : Kd.F (Kd.int .u8) w (fun _ => True) A n xs := fun W' hW => by
  refine ⟨h.1, h.2.1, fun hn => ?_⟩
  obtain ⟨ad, e, hc⟩ := h.2.2 hn
  refine ⟨ad, e, fun j p hj => ?_⟩
  obtain ⟨c, hl, hK, hcell⟩ := hc j p hj
  refine ⟨c, hl, hK, fun i u hu => ?_⟩
  have h1 := hcell i u hu
  have h2 := hW _ trivial (World.block_lt_of_cell? w _ h1)
  unfold World.cell? at h1 ⊢
  rw [h2]
  exact h1
end Go.Proofs.Ytajkjngngaobpaa.Pure
