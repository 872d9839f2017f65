/- Plain lemmas on the bits of a uint64, told as whole numbers. No program in sight. -/
import Derived.Laws.BitsAllLaws
import GoSem.ClaimData
namespace Go.Proofs.Ytajkjngngaobpaa.U64
theorem and_append (i a b x y : Nat) (hb : b < 2 ^ i) (hy : y < 2 ^ i) : (2 ^ i * a + b) &&& (2 ^ i * x + y) = 2 ^ i * (a &&& x) + (b &&& y) := by
  have hby : b &&& y < 2 ^ i := Nat.and_lt_two_pow _ hy
  apply Nat.eq_of_testBit_eq
  intro j
  rw [Nat.testBit_and, Nat.testBit_two_pow_mul_add _ hb, Nat.testBit_two_pow_mul_add _ hy, Nat.testBit_two_pow_mul_add _ hby]
  split <;> simp [Nat.testBit_and]
theorem or_append (i a b x y : Nat) (hb : b < 2 ^ i) (hy : y < 2 ^ i) : (2 ^ i * a + b) ||| (2 ^ i * x + y) = 2 ^ i * (a ||| x) + (b ||| y) := by
  have hby : b ||| y < 2 ^ i := Nat.or_lt_two_pow hb hy
  apply Nat.eq_of_testBit_eq
  intro j
  rw [Nat.testBit_or, Nat.testBit_two_pow_mul_add _ hb, Nat.testBit_two_pow_mul_add _ hy, Nat.testBit_two_pow_mul_add _ hby]
  split <;> simp [Nat.testBit_or]
theorem xor_append (i a b x y : Nat) (hb : b < 2 ^ i) (hy : y < 2 ^ i) : (2 ^ i * a + b) ^^^ (2 ^ i * x + y) = 2 ^ i * (a ^^^ x) + (b ^^^ y) := by
  have hby : b ^^^ y < 2 ^ i := Nat.xor_lt_two_pow hb hy
  apply Nat.eq_of_testBit_eq
  intro j
  rw [Nat.testBit_xor, Nat.testBit_two_pow_mul_add _ hb, Nat.testBit_two_pow_mul_add _ hy, Nat.testBit_two_pow_mul_add _ hby]
  split <;> simp [Nat.testBit_xor]
theorem and_ones (j a : Nat) (h : a < 2 ^ j) : a &&& (2 ^ j - 1) = a := by
  rw [Nat.and_two_pow_sub_one_eq_mod]; exact Nat.mod_eq_of_lt h
/-- A field of j bits from bit i on, taken away from a number of i + j + k bits. -/
theorem andNot_field (i j k a : Nat) (h : a < 2 ^ (i + j + k)) : a &&& (2 ^ (i + j) * (2 ^ k - 1) + (2 ^ i - 1)) = a - a / 2 ^ i % 2 ^ j * 2 ^ i := by
  have pi : 0 < 2 ^ i := Nat.two_pow_pos i
  have e1 : a = 2 ^ (i + j) * (a / 2 ^ (i + j)) + a % 2 ^ (i + j) := (Nat.div_add_mod a _).symm
  have hlo : a % 2 ^ (i + j) < 2 ^ (i + j) := Nat.mod_lt _ (Nat.two_pow_pos _)
  have hm : 2 ^ i - 1 < 2 ^ (i + j) := Nat.lt_of_lt_of_le (Nat.sub_lt pi (by decide)) (Nat.pow_le_pow_right (by decide) (by omega))
  have hhi : a / 2 ^ (i + j) < 2 ^ k := by
    rw [Nat.div_lt_iff_lt_mul (Nat.two_pow_pos _), ← Nat.pow_add, Nat.add_comm k]; exact h
  have e2 : a % 2 ^ (i + j) = 2 ^ i * (a / 2 ^ i % 2 ^ j) + a % 2 ^ i := by
    rw [Nat.pow_add, Nat.mod_mul]; omega
  have e3 : a &&& (2 ^ (i + j) * (2 ^ k - 1) + (2 ^ i - 1)) = 2 ^ (i + j) * (a / 2 ^ (i + j)) + a % 2 ^ i := by
    have := and_append (i + j) (a / 2 ^ (i + j)) (a % 2 ^ (i + j)) (2 ^ k - 1) (2 ^ i - 1) hlo hm
    rw [← e1] at this
    rw [this, and_ones k _ hhi, Nat.and_two_pow_sub_one_eq_mod, Nat.mod_mod_of_dvd _ (Nat.pow_dvd_pow 2 (by omega))]
  rw [e3]
  have e4 : a / 2 ^ i % 2 ^ j * 2 ^ i = 2 ^ i * (a / 2 ^ i % 2 ^ j) := Nat.mul_comm _ _
  omega
/-- A number laid into a field that is empty. -/
theorem or_field (i j a n : Nat) (ha : a / 2 ^ i % 2 ^ j = 0) (hn : n < 2 ^ j) : a ||| n * 2 ^ i = a + n * 2 ^ i := by
  have pi : 0 < 2 ^ i := Nat.two_pow_pos i
  have e1 : a = 2 ^ i * (a / 2 ^ i) + a % 2 ^ i := (Nat.div_add_mod a _).symm
  have h := or_append i (a / 2 ^ i) (a % 2 ^ i) n 0 (Nat.mod_lt _ pi) pi
  rw [← e1, Nat.add_zero, Nat.or_zero, nat_join j _ _ ha hn, Nat.mul_add] at h
  rw [Nat.mul_comm n, h]
  omega
theorem or_bit (i a : Nat) : a ||| 2 ^ i = a + (1 - a / 2 ^ i % 2) * 2 ^ i := by
  rcases Nat.mod_two_eq_zero_or_one (a / 2 ^ i) with h | h
  · have := or_field i 1 a 1 (by simpa using h) (by decide)
    rw [h]; simpa using this
  · rw [h]
    apply Nat.eq_of_testBit_eq
    intro n
    rw [Nat.testBit_or, Nat.testBit_two_pow]
    by_cases hz : i = n
    · subst hz
      have : a.testBit i = true := by rw [Nat.testBit_eq_decide_div_mod_eq, h]; rfl
      simp [this]
    · simp [hz]
theorem and_field (i j a : Nat) : a &&& ((2 ^ j - 1) * 2 ^ i) = a / 2 ^ i % 2 ^ j * 2 ^ i := by
  have pi : 0 < 2 ^ i := Nat.two_pow_pos i
  have e1 : a = 2 ^ i * (a / 2 ^ i) + a % 2 ^ i := (Nat.div_add_mod a _).symm
  have h := and_append i (a / 2 ^ i) (a % 2 ^ i) (2 ^ j - 1) 0 (Nat.mod_lt _ pi) pi
  rw [← e1, Nat.add_zero, Nat.and_zero, Nat.add_zero, Nat.and_two_pow_sub_one_eq_mod] at h
  rw [Nat.mul_comm (2 ^ j - 1), h, Nat.mul_comm]
theorem xor_div (i a b : Nat) : (a ^^^ b) / 2 ^ i = a / 2 ^ i ^^^ b / 2 ^ i := by
  apply Nat.eq_of_testBit_eq; intro j; simp only [Nat.testBit_xor, Nat.testBit_div_two_pow]
theorem xor_mod_two (a b : Nat) : (a ^^^ b) % 2 = (a + b) % 2 := by
  have h := Nat.testBit_xor a b 0
  simp only [Nat.testBit_zero] at h
  have ha := Nat.mod_two_eq_zero_or_one a; have hb := Nat.mod_two_eq_zero_or_one b; have hx := Nat.mod_two_eq_zero_or_one (a ^^^ b)
  rcases ha with ha | ha <;> rcases hb with hb | hb <;> rcases hx with hx | hx <;> simp [ha, hb, hx] at h <;> omega

/-! ### as Int -/
section
variable (a b : Int) (h0 : 0 ≤ a) (h1 : a < 18446744073709551616)
include h0 h1
theorem and_bit (i : Nat) (hi : i < 64) : bits .and .u64 a (2 ^ i : Nat) = a / (2 ^ i : Nat) % 2 * (2 ^ i : Nat) := by
  obtain ⟨x, rfl⟩ := Int.eq_ofNat_of_zero_le h0
  have := Nat.pow_lt_pow_right (a := 2) (by decide) hi
  rw [u64_and_nat x _ (by omega) (by omega), nat_bit]; rfl
theorem and_mask (i : Nat) (hi : i < 64) : bits .and .u64 a (2 ^ i - 1 : Nat) = a % (2 ^ i : Nat) := by
  obtain ⟨x, rfl⟩ := Int.eq_ofNat_of_zero_le h0
  have := Nat.pow_lt_pow_right (a := 2) (by decide) hi
  rw [u64_and_nat x _ (by omega) (by omega), Nat.and_two_pow_sub_one_eq_mod]; rfl
theorem or_bit' (i : Nat) (hi : i < 64) : bits .or .u64 a (2 ^ i : Nat) = a + (1 - a / (2 ^ i : Nat) % 2) * (2 ^ i : Nat) := by
  obtain ⟨x, rfl⟩ := Int.eq_ofNat_of_zero_le h0
  have := Nat.pow_lt_pow_right (a := 2) (by decide) hi
  rw [u64_or_nat x _ (by omega) (by omega), or_bit]
  have h := Nat.mod_two_eq_zero_or_one (x / 2 ^ i)
  have e : ((x : Int) / (2 ^ i : Nat)) % 2 = ((x / 2 ^ i % 2 : Nat) : Int) := by rfl
  rw [e]
  rcases h with h | h <;> rw [h] <;> simp
theorem andNot_field' (i j k : Nat) (hk : i + j + k = 64) : bits .andNot .u64 a ((2 ^ j - 1) * 2 ^ i : Nat) = a - a / (2 ^ i : Nat) % (2 ^ j : Nat) * (2 ^ i : Nat) := by
  obtain ⟨x, rfl⟩ := Int.eq_ofNat_of_zero_le h0
  have e64 : 2 ^ (i + j) * 2 ^ k = 18446744073709551616 := by rw [← Nat.pow_add, hk]
  have pk : 0 < 2 ^ k := Nat.two_pow_pos k
  have pi : 0 < 2 ^ i := Nat.two_pow_pos i
  have pj : 0 < 2 ^ j := Nat.two_pow_pos j
  have eij : 2 ^ (i + j) = 2 ^ j * 2 ^ i := by rw [Nat.pow_add, Nat.mul_comm]
  have em : (2 ^ j - 1) * 2 ^ i = 2 ^ j * 2 ^ i - 2 ^ i := by rw [Nat.sub_mul, Nat.one_mul]
  have le1 : 2 ^ i ≤ 2 ^ j * 2 ^ i := Nat.le_mul_of_pos_left _ pj
  have le2 : 2 ^ (i + j) ≤ 2 ^ (i + j) * 2 ^ k := Nat.le_mul_of_pos_right _ pk
  have ek : 2 ^ (i + j) * (2 ^ k - 1) = 2 ^ (i + j) * 2 ^ k - 2 ^ (i + j) := by rw [Nat.mul_sub, Nat.mul_one]
  have hm : 18446744073709551615 - (2 ^ j - 1) * 2 ^ i = 2 ^ (i + j) * (2 ^ k - 1) + (2 ^ i - 1) := by omega
  rw [u64_andNot_nat x _ (by omega) (by omega), hm, andNot_field i j k x (by rw [hk]; omega)]
  have hle : x / 2 ^ i % 2 ^ j * 2 ^ i ≤ x := Nat.le_trans (Nat.mul_le_mul_right _ (Nat.mod_le _ _)) (Nat.div_mul_le_self _ _)
  rw [Int.natCast_sub hle]; rfl
theorem or_field' (i j n : Nat) (hij : i + j ≤ 64) (he : a / (2 ^ i : Nat) % (2 ^ j : Nat) = 0) (hn : n < 2 ^ j) : bits .or .u64 a ((n * 2 ^ i : Nat) : Int) = a + (n * 2 ^ i : Nat) := by
  obtain ⟨x, rfl⟩ := Int.eq_ofNat_of_zero_le h0
  have e64 : 2 ^ (i + j) ≤ 2 ^ 64 := Nat.pow_le_pow_right (by decide) hij
  have eij : 2 ^ (i + j) = 2 ^ j * 2 ^ i := by rw [Nat.pow_add, Nat.mul_comm]
  have hlt : n * 2 ^ i < 2 ^ j * 2 ^ i := Nat.mul_lt_mul_of_pos_right hn (Nat.two_pow_pos i)
  have he' : x / 2 ^ i % 2 ^ j = 0 := by exact_mod_cast he
  rw [u64_or_nat x _ (by omega) (by omega), or_field i j x n he' hn]; rfl
theorem and_field' (i j k : Nat) (hk : i + j + k = 64) : bits .and .u64 a ((2 ^ j - 1) * 2 ^ i : Nat) = a / (2 ^ i : Nat) % (2 ^ j : Nat) * (2 ^ i : Nat) := by
  obtain ⟨x, rfl⟩ := Int.eq_ofNat_of_zero_le h0
  have e64 : 2 ^ (i + j) * 2 ^ k = 18446744073709551616 := by rw [← Nat.pow_add, hk]
  have pk : 0 < 2 ^ k := Nat.two_pow_pos k
  have pi : 0 < 2 ^ i := Nat.two_pow_pos i
  have eij : 2 ^ (i + j) = 2 ^ j * 2 ^ i := by rw [Nat.pow_add, Nat.mul_comm]
  have em : (2 ^ j - 1) * 2 ^ i = 2 ^ j * 2 ^ i - 2 ^ i := by rw [Nat.sub_mul, Nat.one_mul]
  have le2 : 2 ^ (i + j) ≤ 2 ^ (i + j) * 2 ^ k := Nat.le_mul_of_pos_right _ pk
  rw [u64_and_nat x _ (by omega) (by omega), and_field]; rfl
theorem and_xor_bit (i : Nat) (hi : i < 64) (b0 : 0 ≤ b) (b1 : b < 18446744073709551616) : bits .and .u64 (bits .xor .u64 a b) (2 ^ i : Nat) = (a / (2 ^ i : Nat) + b / (2 ^ i : Nat)) % 2 * (2 ^ i : Nat) := by
  obtain ⟨x, rfl⟩ := Int.eq_ofNat_of_zero_le h0
  obtain ⟨y, rfl⟩ := Int.eq_ofNat_of_zero_le b0
  have := Nat.pow_lt_pow_right (a := 2) (by decide) hi
  have hx : x ^^^ y < 2 ^ 64 := Nat.xor_lt_two_pow (by omega) (by omega)
  rw [u64_xor_nat x y (by omega) (by omega), u64_and_nat _ _ (by omega) (by omega), nat_bit, xor_div, xor_mod_two]; rfl
end
theorem tdiv_pos {a b : Int} (h : 0 ≤ a) : a.tdiv b = a / b := Int.tdiv_eq_ediv_of_nonneg h
theorem tmod_pos {a b : Int} (h : 0 ≤ a) : a.tmod b = a % b := Int.tmod_eq_emod_of_nonneg h
theorem u64_of_wf {a : Int} (h : (Lit.int .u64 a).wf = true) : 0 ≤ a ∧ a < 18446744073709551616 := by
  simp [Lit.wf, IntKind.min, IntKind.max, IntKind.signed, IntKind.bits] at h
  exact ⟨by omega, by omega⟩
end Go.Proofs.Ytajkjngngaobpaa.U64
