/- The law VersionTells: what any word tells, and which words may be: true at every word, flags and bits. -/
import Derived.Test.YthkdeaeppadbhaaHVersionTellsx
import Derived.Test.YthkdeaeppadbhaaU64
namespace Go.Proofs.Ythkdeaeppadbhaa.Pure
open Go.RowKit Go.Proofs.Ythkdeaeppadbhaa.HVersionTells Go.Proofs.YthkdeaeppadbhaaW.PrintWords Go.Proofs.YthkdeaeppadbhaaW.PrintLast Go.Proofs.YthkdeaeppadbhaaW.PrintMore Go.Proofs.Ythkdeaeppadbhaa.U64
def Ver (a : Int) : Prop := a < 72057594037927936 ∧ a / 64 % 4 = 0
instance (a : Int) : Decidable (Ver a) := by unfold Ver; infer_instance
theorem bit_eq {a w : Int} (h0 : 0 ≤ a) (h1 : a < 18446744073709551616) (hw : 0 < w) : garnerlaw10_bit.f a w = some (decide (a / w % 2 = 1)) := by
  have e0 : 0 ≤ a / w := Int.ediv_nonneg h0 (by omega)
  have e1 : a / w ≤ a := Int.ediv_le_self _ h0
  unfold garnerlaw10_bit.f
  rw [if_neg (by omega), tdiv_pos h0, IntKind.wrap_u64, Int.emod_eq_of_lt e0 (by omega), tmod_pos e0]
  rfl
theorem and3_eq {a : Int} (a0 : 0 ≤ a) (a1 : a < 18446744073709551616) : bits .and .u64 (a / 64) 3 = a / 64 % 4 := by simpa using and_mask (a / 64) (by omega) (by omega) 2 (by decide)
theorem and1_eq {a : Int} (a0 : 0 ≤ a) (a1 : a < 18446744073709551616) : bits .and .u64 a 1 = a % 2 := by simpa using and_mask a a0 a1 1 (by decide)
theorem and2_eq {a : Int} (a0 : 0 ≤ a) (a1 : a < 18446744073709551616) : bits .and .u64 a 2 = a / 2 % 2 * 2 := by simpa using and_bit a a0 a1 1 (by decide)
theorem and4_eq {a : Int} (a0 : 0 ≤ a) (a1 : a < 18446744073709551616) : bits .and .u64 a 4 = a / 4 % 2 * 4 := by simpa using and_bit a a0 a1 2 (by decide)
theorem or1_eq {a : Int} (a0 : 0 ≤ a) (a1 : a < 18446744073709551616) : bits .or .u64 a 1 = a + (1 - a % 2) := by simpa using or_bit' a a0 a1 0 (by decide)
theorem or2_eq {a : Int} (a0 : 0 ≤ a) (a1 : a < 18446744073709551616) : bits .or .u64 a 2 = a + (1 - a / 2 % 2) * 2 := by simpa using or_bit' a a0 a1 1 (by decide)
theorem or4_eq {a : Int} (a0 : 0 ≤ a) (a1 : a < 18446744073709551616) : bits .or .u64 a 4 = a + (1 - a / 4 % 2) * 4 := by simpa using or_bit' a a0 a1 2 (by decide)
theorem andNot7_eq {a : Int} (a0 : 0 ≤ a) (a1 : a < 18446744073709551616) : bits .andNot .u64 a 7 = a - a % 8 := by simpa using andNot_field' a a0 a1 0 3 61 rfl
theorem lock_eq {a : Int} (a0 : 0 ≤ a) (a1 : a < 18446744073709551616) : version_Lock.f a = if Ver a then (if a % 2 = 1 then some (0, 9) else some (a + 1, 0)) else some (0, 2) := by
  unfold version_Lock.f
  rw [and3_eq a0 a1, and1_eq a0 a1, or1_eq a0 a1]
  by_cases h : a / 72057594037927936 = 0
  · rw [if_pos h]
    by_cases g : a / 64 % 4 = 0
    · have hv : Ver a := ⟨by omega, g⟩
      rw [if_pos g, if_pos hv]
      split
      · rfl
      · congr 2; omega
    · have hv : ¬ Ver a := fun q => g q.2
      rw [if_neg g, if_neg hv]
  · have hv : ¬ Ver a := fun q => by have := q.1; omega
    rw [if_neg h, if_neg hv]
theorem insert_eq {a : Int} (a0 : 0 ≤ a) (a1 : a < 18446744073709551616) : version_Insert.f a = if Ver a then (if a % 2 = 1 then some (a + (1 - a / 2 % 2) * 2, 0) else some (0, 9)) else some (0, 2) := by
  unfold version_Insert.f
  rw [and3_eq a0 a1, and1_eq a0 a1, or2_eq a0 a1]
  by_cases h : a / 72057594037927936 = 0
  · rw [if_pos h]
    by_cases g : a / 64 % 4 = 0
    · have hv : Ver a := ⟨by omega, g⟩
      rw [if_pos g, if_pos hv]
    · have hv : ¬ Ver a := fun q => g q.2
      rw [if_neg g, if_neg hv]
  · have hv : ¬ Ver a := fun q => by have := q.1; omega
    rw [if_neg h, if_neg hv]
def cnt24 (x : Int) : Int := x - x / 16777216 % 4294967296 * 16777216 + (x / 16777216 + 1) % 4294967296 * 16777216
def cnt8 (x : Int) : Int := x - x / 256 % 65536 * 256 + (x / 256 + 1) % 65536 * 256
theorem count24_eq {a : Int} (a0 : 0 ≤ a) (a1 : a < 18446744073709551616) : count24 a = cnt24 a := by
  unfold count24 cnt24
  have e1 : bits .andNot .u64 a 72057594021150720 = a - a / 16777216 % 4294967296 * 16777216 := by simpa using andNot_field' a a0 a1 24 32 8 rfl
  have e2 : IntKind.u64.wrap (a / 16777216 + 1) = a / 16777216 + 1 := by rw [IntKind.wrap_u64]; omega
  have e3 : bits .and .u64 (a / 16777216 + 1) 4294967295 = (a / 16777216 + 1) % 4294967296 := by simpa using and_mask (a / 16777216 + 1) (by omega) (by omega) 32 (by decide)
  have e4 : IntKind.u64.wrap ((a / 16777216 + 1) % 4294967296 * 16777216) = (a / 16777216 + 1) % 4294967296 * 16777216 := by rw [IntKind.wrap_u64]; omega
  rw [e1, e2, e3, e4]
  obtain ⟨n, hn⟩ := Int.eq_ofNat_of_zero_le (show 0 ≤ (a / 16777216 + 1) % 4294967296 by omega)
  have e5 := or_field' (a - a / 16777216 % 4294967296 * 16777216) (by omega) (by omega) 24 32 n (by decide) (by simp only [Nat.reducePow, Int.cast_ofNat_Int]; omega) (by omega)
  rw [hn]
  simpa using e5
theorem count8_eq {a : Int} (a0 : 0 ≤ a) (a1 : a < 18446744073709551616) : count8 a = cnt8 a := by
  unfold count8 cnt8
  have e1 : bits .andNot .u64 a 16776960 = a - a / 256 % 65536 * 256 := by simpa using andNot_field' a a0 a1 8 16 40 rfl
  have e2 : IntKind.u64.wrap (a / 256 + 1) = a / 256 + 1 := by rw [IntKind.wrap_u64]; omega
  have e3 : bits .and .u64 (a / 256 + 1) 65535 = (a / 256 + 1) % 65536 := by simpa using and_mask (a / 256 + 1) (by omega) (by omega) 16 (by decide)
  have e4 : IntKind.u64.wrap ((a / 256 + 1) % 65536 * 256) = (a / 256 + 1) % 65536 * 256 := by rw [IntKind.wrap_u64]; omega
  rw [e1, e2, e3, e4]
  obtain ⟨n, hn⟩ := Int.eq_ofNat_of_zero_le (show 0 ≤ (a / 256 + 1) % 65536 by omega)
  have e5 := or_field' (a - a / 256 % 65536 * 256) (by omega) (by omega) 8 16 n (by decide) (by simp only [Nat.reducePow, Int.cast_ofNat_Int]; omega) (by omega)
  rw [hn]
  simpa using e5
/-- What unlocking makes of a locked word. -/
def unl (a : Int) : Int := if a / 4 % 2 = 1 then cnt24 (a - a % 8) else if a / 2 % 2 = 1 then cnt8 (a - a % 8) else a - a % 8
theorem unlock_eq {a : Int} (a0 : 0 ≤ a) (a1 : a < 18446744073709551616) : version_Unlock.f a = if Ver a then (if a % 2 = 1 then some (unl a, 0) else some (0, 9)) else some (0, 2) := by
  unfold version_Unlock.f unl
  rw [and3_eq a0 a1, and1_eq a0 a1, and4_eq a0 a1, and2_eq a0 a1, andNot7_eq a0 a1, count24_eq (by omega) (by omega), count8_eq (by omega) (by omega)]
  by_cases h : a / 72057594037927936 = 0
  · rw [if_pos h]
    by_cases g : a / 64 % 4 = 0
    · have hv : Ver a := ⟨by omega, g⟩
      rw [if_pos g, if_pos hv]
      by_cases f : a % 2 = 1
      · rw [if_pos f, if_pos f]
        by_cases f4 : a / 4 % 2 = 1
        · rw [if_pos (by omega), if_pos f4]
        · rw [if_neg (by omega), if_neg f4]
          by_cases f2 : a / 2 % 2 = 1
          · rw [if_pos (by omega), if_pos f2]
          · rw [if_neg (by omega), if_neg f2]
      · rw [if_neg f, if_neg f]
    · have hv : ¬ Ver a := fun q => g q.2
      rw [if_neg g, if_neg hv]
  · have hv : ¬ Ver a := fun q => by have := q.1; omega
    rw [if_neg h, if_neg hv]
theorem known_eq : garnerlaw10_known.f = some true := rfl
theorem may_eq {a : Int} (a0 : 0 ≤ a) (a1 : a < 18446744073709551616) : garnerlaw10_may.f a = some (decide (Ver a)) := by
  unfold garnerlaw10_may.f
  by_cases h : a < 72057594037927936
  · rw [if_pos h, tdiv_pos a0, IntKind.wrap_u64, Int.emod_eq_of_lt (by omega) (by omega), tmod_pos (by omega)]
    congr 1
    rw [Bool.eq_iff_iff, beq_iff_eq, decide_eq_true_eq]
    unfold Ver
    omega
  · rw [if_neg h]
    simp [Ver, h]
theorem May_eq {a : Int} (a0 : 0 ≤ a) (a1 : a < 18446744073709551616) : version_May.f a = some (decide (Ver a)) := by
  unfold version_May.f
  rw [and3_eq a0 a1]
  by_cases h : a / 72057594037927936 = 0
  · rw [if_pos h]
    congr 1
    rw [Bool.eq_iff_iff, beq_iff_eq, decide_eq_true_eq]
    unfold Ver
    omega
  · rw [if_neg h]
    have hv : ¬ Ver a := fun q => by have := q.1; omega
    simp [hv]
theorem still_eq {a : Int} (a0 : 0 ≤ a) (a1 : a < 18446744073709551616) : version_Still.f a = some (decide (a / 2 % 2 ≠ 1 ∧ a / 4 % 2 ≠ 1)) := by
  have e : bits .and .u64 a 6 = a / 2 % 4 * 2 := by simpa using and_field' a a0 a1 1 2 61 rfl
  unfold version_Still.f
  rw [e]
  congr 1
  rw [Bool.eq_iff_iff, beq_iff_eq, decide_eq_true_eq]
  omega
theorem inserts_eq {a : Int} (a0 : 0 ≤ a) (a1 : a < 18446744073709551616) : version_Inserts.f a = some (a / 256 % 65536) := by
  have e : bits .and .u64 (a / 256) 65535 = a / 256 % 65536 := by simpa using and_mask (a / 256) (by omega) (by omega) 16 (by decide)
  unfold version_Inserts.f
  rw [e]
  congr 1
  unfold wrap64
  omega
theorem splits_eq {a : Int} (a0 : 0 ≤ a) (a1 : a < 18446744073709551616) : version_Splits.f a = some (a / 16777216 % 4294967296) := by
  have e : bits .and .u64 (a / 16777216) 4294967295 = a / 16777216 % 4294967296 := by simpa using and_mask (a / 16777216) (by omega) (by omega) 32 (by decide)
  unfold version_Splits.f
  rw [e]
  congr 1
  unfold wrap64
  omega
theorem root_true {a : Int} (a0 : 0 ≤ a) (a1 : a < 18446744073709551616) : version_Root.f a true = some (a + (1 - a / 16 % 2) * 16) := by
  have e : bits .or .u64 a 16 = a + (1 - a / 16 % 2) * 16 := by simpa using or_bit' a a0 a1 4 (by decide)
  unfold version_Root.f
  rw [if_pos rfl, e]
theorem root_false {a : Int} (a0 : 0 ≤ a) (a1 : a < 18446744073709551616) : version_Root.f a false = some (a - a / 16 % 2 * 16) := by
  have e : bits .andNot .u64 a 16 = a - a / 16 % 2 * 16 := by simpa using andNot_field' a a0 a1 4 1 59 rfl
  unfold version_Root.f
  rw [if_neg (by decide), e]
theorem gone_eq {a : Int} (a0 : 0 ≤ a) (a1 : a < 18446744073709551616) : version_Gone.f a = some (a + (1 - a / 8 % 2) * 8) := by
  have e : bits .or .u64 a 8 = a + (1 - a / 8 % 2) * 8 := by simpa using or_bit' a a0 a1 3 (by decide)
  unfold version_Gone.f
  rw [e]
/-- Bit i of a whole number that is not below 0. -/
def bitI (a : Int) (i : Nat) : Prop := a / (2 ^ i : Nat) % 2 = 1
instance (a : Int) (i : Nat) : Decidable (bitI a i) := by unfold bitI; infer_instance
theorem bitI_nat (x i : Nat) : bitI (x : Int) i ↔ x.testBit i = true := by
  unfold bitI
  rw [Nat.testBit_eq_decide_div_mod_eq, decide_eq_true_eq]
  have : ((x : Int) / (2 ^ i : Nat)) % 2 = ((x / 2 ^ i % 2 : Nat) : Int) := by rfl
  rw [this]
  omega
def subs (a b : Int) (n : Nat) : Prop := ∀ i, i < n → bitI b i → bitI a i
noncomputable instance (a b : Int) (n : Nat) : Decidable (subs a b n) := Classical.propDecidable _
theorem has_eq {a b : Int} (a0 : 0 ≤ a) (a1 : a < 18446744073709551616) (b0 : 0 ≤ b) (b1 : b < 18446744073709551616) :
    version_Has.f a b = some (decide (subs a b 64)) := by
  obtain ⟨x, rfl⟩ := Int.eq_ofNat_of_zero_le a0
  obtain ⟨y, rfl⟩ := Int.eq_ofNat_of_zero_le b0
  unfold version_Has.f
  rw [u64_and_nat x y (by omega) (by omega)]
  congr 1
  rw [Bool.eq_iff_iff, beq_iff_eq, decide_eq_true_eq, Int.ofNat_inj]
  constructor
  · intro h i _ hb
    rw [bitI_nat] at hb ⊢
    rw [← h, Nat.testBit_and] at hb
    simp at hb
    exact hb.1
  · intro h
    apply Nat.eq_of_testBit_eq
    intro i
    rw [Nat.testBit_and]
    by_cases hi : i < 64
    · have := h i hi
      rw [bitI_nat, bitI_nat] at this
      cases hy : y.testBit i
      · simp
      · simp [this hy]
    · have hy : y.testBit i = false := Nat.testBit_lt_two_pow (Nat.lt_of_lt_of_le (show y < 2 ^ 64 by omega) (Nat.pow_le_pow_right (by decide) (by omega)))
      simp [hy]
theorem new_eq (p q : Bool) : version_New.f p q = some ((if p = true then 16 else 0) + (if q = true then 32 else 0)) := by
  cases p <;> cases q <;> decide +kernel

theorem j6_eq {a : Int} (a0 : 0 ≤ a) (a1 : a < 18446744073709551616) (k : Nat) {x y z : Int} (hx : x = a + (1 - a / 16 % 2) * 16) (hy : y = a - a / 16 % 2 * 16) (hz : z = a + (1 - a / 8 % 2) * 8) : garnerlaw10_VersionTells.j6 (k + 1) a x y z = some true := by
  simp only [garnerlaw10_VersionTells.j6]
  rw [root_true a0 a1, root_false a0 a1, gone_eq a0 a1, known_eq]
  simp only [Option.bind_some, hx, hy, hz, if_true]
theorem j5_eq {a : Int} (a0 : 0 ≤ a) (a1 : a < 18446744073709551616) (k : Nat) {x y : Int} (hx : x = a + (1 - a / 16 % 2) * 16) (hy : y = a - a / 16 % 2 * 16) : garnerlaw10_VersionTells.j5 (k + 2) a x y = some true := by
  simp only [garnerlaw10_VersionTells.j5]
  rw [bit_eq a0 a1 (by decide)]
  simp only [Option.bind_some, decide_eq_true_eq]
  by_cases h : a / 8 % 2 = 1
  · rw [if_pos h]
    exact j6_eq a0 a1 k hx hy (by omega)
  · rw [if_neg h]
    exact j6_eq a0 a1 k hx hy (by rw [IntKind.wrap_u64]; omega)
theorem j4_eq {a : Int} (a0 : 0 ≤ a) (a1 : a < 18446744073709551616) (k : Nat) : garnerlaw10_VersionTells.j4 (k + 3) a false = some true := by
  simp only [garnerlaw10_VersionTells.j4]
  rw [if_neg (by decide), bit_eq a0 a1 (by decide)]
  simp only [Option.bind_some, decide_eq_true_eq]
  by_cases h : a / 16 % 2 = 1
  · rw [if_pos h]
    exact j5_eq a0 a1 k (by omega) (by rw [IntKind.wrap_u64]; omega)
  · rw [if_neg h]
    exact j5_eq a0 a1 k (by rw [IntKind.wrap_u64]; omega) (by omega)
theorem l0_eq {a b : Int} (a0 : 0 ≤ a) (a1 : a < 18446744073709551616) (b0 : 0 ≤ b) (b1 : b < 18446744073709551616) (d : Nat) : ∀ (k i : Nat) (h : Bool), i ≤ 64 → 64 - i = d → d + 4 ≤ k →
    h = decide (subs a b i) → garnerlaw10_VersionTells.l0 k a b h i = some true := by
  induction d with
  | zero =>
    intro k i h hi hd hk hh
    obtain ⟨k, rfl⟩ : ∃ m, k = m + 4 := ⟨k - 4, by omega⟩
    obtain rfl : i = 64 := by omega
    simp only [garnerlaw10_VersionTells.l0]
    rw [if_neg (by decide), has_eq a0 a1 b0 b1, inserts_eq a0 a1, splits_eq a0 a1, hh]
    simp only [Option.bind_some, bne_self_eq_false]
    have q1 : IntKind.u64.wrap (a.tdiv 256) = a / 256 := by rw [tdiv_pos a0, IntKind.wrap_u64]; omega
    have q2 : IntKind.u64.wrap (a.tdiv 16777216) = a / 16777216 := by rw [tdiv_pos a0, IntKind.wrap_u64]; omega
    rw [if_neg (by decide), q1, q2, tmod_pos (by omega), tmod_pos (by omega), if_pos (by unfold wrap64; omega)]
    have : (a / 16777216 % 4294967296 != wrap64 (a / 16777216 % 4294967296)) = false := by rw [bne_eq_false_iff_eq]; unfold wrap64; omega
    rw [this]
    exact j4_eq a0 a1 k
  | succ d ih =>
    intro k i h hi hd hk hh
    obtain ⟨k, rfl⟩ : ∃ m, k = m + 1 := ⟨k - 1, by omega⟩
    have e1 : IntKind.u64.wrap (i : Int) = i := by rw [IntKind.wrap_u64]; omega
    have p2 : 0 < 2 ^ i := Nat.two_pow_pos i
    have e2 : shl .u64 1 (i : Int) = ((2 ^ i : Nat) : Int) := by
      unfold shl
      rw [Int.toNat_natCast, Nat.min_eq_left (by simp only [IntKind.bits]; omega), Int.one_mul, IntKind.wrap_u64]
      have : 2 ^ i < 2 ^ 64 := Nat.pow_lt_pow_right (by decide) (by omega)
      have e : (2 : Int) ^ i = ((2 ^ i : Nat) : Int) := by simp
      rw [e]
      omega
    have e3 : wrap64 ((i : Int) + 1) = ((i + 1 : Nat) : Int) := by unfold wrap64; omega
    simp only [garnerlaw10_VersionTells.l0]
    rw [if_pos (by omega), e1, if_pos (by omega), e2, e3, bit_eq b0 b1 (by omega), bit_eq a0 a1 (by omega)]
    simp only [Option.bind_some, decide_eq_true_eq]
    have step : ∀ q : Prop, (q ↔ subs a b i ∧ (bitI b i → bitI a i)) → (q ↔ subs a b (i + 1)) := by
      intro q hq
      rw [hq]
      constructor
      · rintro ⟨g1, g2⟩ j hj
        by_cases hji : j = i
        · subst hji; exact g2
        · exact g1 j (by omega)
      · intro g
        exact ⟨fun j hj => g j (by omega), g i (by omega)⟩
    by_cases hb : b / ((2 ^ i : Nat) : Int) % 2 = 1
    · rw [if_pos hb]
      by_cases ha : a / ((2 ^ i : Nat) : Int) % 2 = 1
      · rw [if_pos ha]
        refine ih k (i + 1) h (by omega) (by omega) (by omega) ?_
        rw [hh, Bool.eq_iff_iff, decide_eq_true_eq, decide_eq_true_eq]
        exact step _ ⟨fun g => ⟨g, fun _ => ha⟩, fun g => g.1⟩
      · rw [if_neg ha]
        refine ih k (i + 1) false (by omega) (by omega) (by omega) ?_
        rw [eq_comm, decide_eq_false_iff_not]
        exact fun g => ha (g i (by omega) hb)
    · rw [if_neg hb]
      refine ih k (i + 1) h (by omega) (by omega) (by omega) ?_
      rw [hh, Bool.eq_iff_iff, decide_eq_true_eq, decide_eq_true_eq]
      exact step _ ⟨fun g => ⟨g, fun h => absurd h hb⟩, fun g => g.1⟩

theorem VersionTells : garnerlaw10_VersionTells.Pure := by
  intro a p q b ha hb
  obtain ⟨a0, a1⟩ := u64_of_wf ha
  obtain ⟨b0, b1⟩ := u64_of_wf hb
  have j2 : garnerlaw10_VersionTells.j2 80 a b false = some true := by
    simp only [garnerlaw10_VersionTells.j2]
    rw [if_neg (by decide)]
    exact l0_eq a0 a1 b0 b1 64 79 0 true (by decide) (by decide) (by decide) (by rw [eq_comm, decide_eq_true_eq]; intro j hj; omega)
  have j1 : ∀ x, x = (if p = true then 16 else 0) + (if q = true then 32 else 0) → garnerlaw10_VersionTells.j1 81 a p q b x = some true := by
    intro x hx
    simp only [garnerlaw10_VersionTells.j1]
    rw [new_eq, May_eq a0 a1, may_eq a0 a1, still_eq a0 a1, bit_eq a0 a1 (by decide), bit_eq a0 a1 (by decide)]
    simp only [Option.bind_some, bne_self_eq_false]
    rw [if_pos hx.symm, if_neg (by decide)]
    by_cases h2 : a / 2 % 2 = 1
    · rw [if_pos (by simpa using h2)]
      have : (decide (a / 2 % 2 ≠ 1 ∧ a / 4 % 2 ≠ 1) != false) = false := by simp [h2]
      rw [this]
      exact j2
    · rw [if_neg (by simpa using h2)]
      have : (decide (a / 2 % 2 ≠ 1 ∧ a / 4 % 2 ≠ 1) != !decide (a / 4 % 2 = 1)) = false := by by_cases h4 : a / 4 % 2 = 1 <;> simp [h2, h4]
      rw [this]
      exact j2
  have j0 : ∀ x, x = (if p = true then 16 else 0) → garnerlaw10_VersionTells.j0 82 a p q b x = some true := by
    intro x hx
    simp only [garnerlaw10_VersionTells.j0]
    cases q
    · rw [if_neg (by decide)]
      exact j1 _ (by rw [hx]; simp)
    · rw [if_pos rfl]
      refine j1 _ ?_
      rw [hx]
      cases p <;> simp <;> decide +kernel
  refine ⟨82, ?_⟩
  unfold garnerlaw10_VersionTells.f
  cases p
  · rw [if_neg (by decide)]
    exact j0 _ (by simp)
  · rw [if_pos rfl]
    exact j0 _ (by simp)
end Go.Proofs.Ythkdeaeppadbhaa.Pure
