/- The law VersionRound: a word that may be and is not locked is what it was behind locking and unlocking, what marks add is taken away again, root and border stay: true at every word. -/
import Derived.Test.YthkdeaeppadbhaaHVersionRoundx
import Derived.Test.YthkdeaeppadbhaaU64
namespace Go.Proofs.Ythkdeaeppadbhaa.Pure
open Go.RowKit Go.Proofs.Ythkdeaeppadbhaa.HVersionRound Go.Proofs.YthkdeaeppadbhaaW.PrintWords Go.Proofs.YthkdeaeppadbhaaW.PrintLast Go.Proofs.YthkdeaeppadbhaaW.PrintMore Go.Proofs.Ythkdeaeppadbhaa.U64
def Ver (a : Int) : Prop := a < 72057594037927936 ∧ a / 64 % 4 = 0
instance (a : Int) : Decidable (Ver a) := by unfold Ver; infer_instance
theorem bit_eq {a w : Int} (h0 : 0 ≤ a) (h1 : a < 18446744073709551616) (hw : 0 < w) : garnerlaw10_bit.f a w = some (decide (a / w % 2 = 1)) := by
  have e0 : 0 ≤ a / w := Int.ediv_nonneg h0 (by omega)
  have e1 : a / w ≤ a := Int.ediv_le_self _ h0
  unfold garnerlaw10_bit.f
  rw [if_neg (by omega), tdiv_pos h0, IntKind.wrap_u64, Int.emod_eq_of_lt e0 (by omega), tmod_pos e0]
  rfl
theorem and3_eq {a : Int} (a0 : 0 ≤ a) (a1 : a < 18446744073709551616) : bits .and .u64 (a / 64) 3 = a / 64 % 4 := by simpa using and_mask (a / 64) (by omega) (by omega) 2 (by decide)
theorem and1_eq {a : Int} (a0 : 0 ≤ a) (a1 : a < 18446744073709551616) : bits .and .u64 a 1 = a % 2 := by simpa using and_mask a a0 a1 1 (by decide)
theorem and2_eq {a : Int} (a0 : 0 ≤ a) (a1 : a < 18446744073709551616) : bits .and .u64 a 2 = a / 2 % 2 * 2 := by simpa using and_bit a a0 a1 1 (by decide)
theorem and4_eq {a : Int} (a0 : 0 ≤ a) (a1 : a < 18446744073709551616) : bits .and .u64 a 4 = a / 4 % 2 * 4 := by simpa using and_bit a a0 a1 2 (by decide)
theorem or1_eq {a : Int} (a0 : 0 ≤ a) (a1 : a < 18446744073709551616) : bits .or .u64 a 1 = a + (1 - a % 2) := by simpa using or_bit' a a0 a1 0 (by decide)
theorem or2_eq {a : Int} (a0 : 0 ≤ a) (a1 : a < 18446744073709551616) : bits .or .u64 a 2 = a + (1 - a / 2 % 2) * 2 := by simpa using or_bit' a a0 a1 1 (by decide)
theorem or4_eq {a : Int} (a0 : 0 ≤ a) (a1 : a < 18446744073709551616) : bits .or .u64 a 4 = a + (1 - a / 4 % 2) * 4 := by simpa using or_bit' a a0 a1 2 (by decide)
theorem andNot7_eq {a : Int} (a0 : 0 ≤ a) (a1 : a < 18446744073709551616) : bits .andNot .u64 a 7 = a - a % 8 := by simpa using andNot_field' a a0 a1 0 3 61 rfl
theorem lock_eq {a : Int} (a0 : 0 ≤ a) (a1 : a < 18446744073709551616) : version_Lock.f a = if Ver a then (if a % 2 = 1 then some (0, 9) else some (a + 1, 0)) else some (0, 2) := by
  unfold version_Lock.f
  rw [and3_eq a0 a1, and1_eq a0 a1, or1_eq a0 a1]
  by_cases h : a / 72057594037927936 = 0
  · rw [if_pos h]
    by_cases g : a / 64 % 4 = 0
    · have hv : Ver a := ⟨by omega, g⟩
      rw [if_pos g, if_pos hv]
      split
      · rfl
      · congr 2; omega
    · have hv : ¬ Ver a := fun q => g q.2
      rw [if_neg g, if_neg hv]
  · have hv : ¬ Ver a := fun q => by have := q.1; omega
    rw [if_neg h, if_neg hv]
theorem insert_eq {a : Int} (a0 : 0 ≤ a) (a1 : a < 18446744073709551616) : version_Insert.f a = if Ver a then (if a % 2 = 1 then some (a + (1 - a / 2 % 2) * 2, 0) else some (0, 9)) else some (0, 2) := by
  unfold version_Insert.f
  rw [and3_eq a0 a1, and1_eq a0 a1, or2_eq a0 a1]
  by_cases h : a / 72057594037927936 = 0
  · rw [if_pos h]
    by_cases g : a / 64 % 4 = 0
    · have hv : Ver a := ⟨by omega, g⟩
      rw [if_pos g, if_pos hv]
    · have hv : ¬ Ver a := fun q => g q.2
      rw [if_neg g, if_neg hv]
  · have hv : ¬ Ver a := fun q => by have := q.1; omega
    rw [if_neg h, if_neg hv]
def cnt24 (x : Int) : Int := x - x / 16777216 % 4294967296 * 16777216 + (x / 16777216 + 1) % 4294967296 * 16777216
def cnt8 (x : Int) : Int := x - x / 256 % 65536 * 256 + (x / 256 + 1) % 65536 * 256
theorem count24_eq {a : Int} (a0 : 0 ≤ a) (a1 : a < 18446744073709551616) : count24 a = cnt24 a := by
  unfold count24 cnt24
  have e1 : bits .andNot .u64 a 72057594021150720 = a - a / 16777216 % 4294967296 * 16777216 := by simpa using andNot_field' a a0 a1 24 32 8 rfl
  have e2 : IntKind.u64.wrap (a / 16777216 + 1) = a / 16777216 + 1 := by rw [IntKind.wrap_u64]; omega
  have e3 : bits .and .u64 (a / 16777216 + 1) 4294967295 = (a / 16777216 + 1) % 4294967296 := by simpa using and_mask (a / 16777216 + 1) (by omega) (by omega) 32 (by decide)
  have e4 : IntKind.u64.wrap ((a / 16777216 + 1) % 4294967296 * 16777216) = (a / 16777216 + 1) % 4294967296 * 16777216 := by rw [IntKind.wrap_u64]; omega
  rw [e1, e2, e3, e4]
  obtain ⟨n, hn⟩ := Int.eq_ofNat_of_zero_le (show 0 ≤ (a / 16777216 + 1) % 4294967296 by omega)
  have e5 := or_field' (a - a / 16777216 % 4294967296 * 16777216) (by omega) (by omega) 24 32 n (by decide) (by simp only [Nat.reducePow, Int.cast_ofNat_Int]; omega) (by omega)
  rw [hn]
  simpa using e5
theorem count8_eq {a : Int} (a0 : 0 ≤ a) (a1 : a < 18446744073709551616) : count8 a = cnt8 a := by
  unfold count8 cnt8
  have e1 : bits .andNot .u64 a 16776960 = a - a / 256 % 65536 * 256 := by simpa using andNot_field' a a0 a1 8 16 40 rfl
  have e2 : IntKind.u64.wrap (a / 256 + 1) = a / 256 + 1 := by rw [IntKind.wrap_u64]; omega
  have e3 : bits .and .u64 (a / 256 + 1) 65535 = (a / 256 + 1) % 65536 := by simpa using and_mask (a / 256 + 1) (by omega) (by omega) 16 (by decide)
  have e4 : IntKind.u64.wrap ((a / 256 + 1) % 65536 * 256) = (a / 256 + 1) % 65536 * 256 := by rw [IntKind.wrap_u64]; omega
  rw [e1, e2, e3, e4]
  obtain ⟨n, hn⟩ := Int.eq_ofNat_of_zero_le (show 0 ≤ (a / 256 + 1) % 65536 by omega)
  have e5 := or_field' (a - a / 256 % 65536 * 256) (by omega) (by omega) 8 16 n (by decide) (by simp only [Nat.reducePow, Int.cast_ofNat_Int]; omega) (by omega)
  rw [hn]
  simpa using e5
/-- What unlocking makes of a locked word. -/
def unl (a : Int) : Int := if a / 4 % 2 = 1 then cnt24 (a - a % 8) else if a / 2 % 2 = 1 then cnt8 (a - a % 8) else a - a % 8
theorem unlock_eq {a : Int} (a0 : 0 ≤ a) (a1 : a < 18446744073709551616) : version_Unlock.f a = if Ver a then (if a % 2 = 1 then some (unl a, 0) else some (0, 9)) else some (0, 2) := by
  unfold version_Unlock.f unl
  rw [and3_eq a0 a1, and1_eq a0 a1, and4_eq a0 a1, and2_eq a0 a1, andNot7_eq a0 a1, count24_eq (by omega) (by omega), count8_eq (by omega) (by omega)]
  by_cases h : a / 72057594037927936 = 0
  · rw [if_pos h]
    by_cases g : a / 64 % 4 = 0
    · have hv : Ver a := ⟨by omega, g⟩
      rw [if_pos g, if_pos hv]
      by_cases f : a % 2 = 1
      · rw [if_pos f, if_pos f]
        by_cases f4 : a / 4 % 2 = 1
        · rw [if_pos (by omega), if_pos f4]
        · rw [if_neg (by omega), if_neg f4]
          by_cases f2 : a / 2 % 2 = 1
          · rw [if_pos (by omega), if_pos f2]
          · rw [if_neg (by omega), if_neg f2]
      · rw [if_neg f, if_neg f]
    · have hv : ¬ Ver a := fun q => g q.2
      rw [if_neg g, if_neg hv]
  · have hv : ¬ Ver a := fun q => by have := q.1; omega
    rw [if_neg h, if_neg hv]
theorem known_eq : garnerlaw10_known.f = some true := rfl
theorem split_eq {a : Int} (a0 : 0 ≤ a) (a1 : a < 18446744073709551616) : version_Split.f a = if Ver a then (if a % 2 = 1 then some (a + (1 - a / 4 % 2) * 4, 0) else some (0, 9)) else some (0, 2) := by
  unfold version_Split.f
  rw [and3_eq a0 a1, and1_eq a0 a1, or4_eq a0 a1]
  by_cases h : a / 72057594037927936 = 0
  · rw [if_pos h]
    by_cases g : a / 64 % 4 = 0
    · have hv : Ver a := ⟨by omega, g⟩
      rw [if_pos g, if_pos hv]
    · have hv : ¬ Ver a := fun q => g q.2
      rw [if_neg g, if_neg hv]
  · have hv : ¬ Ver a := fun q => by have := q.1; omega
    rw [if_neg h, if_neg hv]
theorem still_eq {a : Int} (a0 : 0 ≤ a) (a1 : a < 18446744073709551616) : version_Still.f a = some (decide (a / 2 % 4 = 0)) := by
  have e : bits .and .u64 a 6 = a / 2 % 4 * 2 := by simpa using and_field' a a0 a1 1 2 61 rfl
  unfold version_Still.f
  rw [e]
  congr 1
  rw [Bool.eq_iff_iff, beq_iff_eq, decide_eq_true_eq]
  omega
theorem has1_eq {a : Int} (a0 : 0 ≤ a) (a1 : a < 18446744073709551616) : version_Has.f a 1 = some (decide (a % 2 = 1)) := by
  unfold version_Has.f
  rw [and1_eq a0 a1]
  rfl
theorem inserts_eq {a : Int} (a0 : 0 ≤ a) (a1 : a < 18446744073709551616) : version_Inserts.f a = some (a / 256 % 65536) := by
  have e : bits .and .u64 (a / 256) 65535 = a / 256 % 65536 := by simpa using and_mask (a / 256) (by omega) (by omega) 16 (by decide)
  unfold version_Inserts.f
  rw [e]
  congr 1
  unfold wrap64
  omega
theorem root_true {a : Int} (a0 : 0 ≤ a) (a1 : a < 18446744073709551616) : version_Root.f a true = some (a + (1 - a / 16 % 2) * 16) := by
  have e : bits .or .u64 a 16 = a + (1 - a / 16 % 2) * 16 := by simpa using or_bit' a a0 a1 4 (by decide)
  unfold version_Root.f
  rw [if_pos rfl, e]
theorem root_false {a : Int} (a0 : 0 ≤ a) (a1 : a < 18446744073709551616) : version_Root.f a false = some (a - a / 16 % 2 * 16) := by
  have e : bits .andNot .u64 a 16 = a - a / 16 % 2 * 16 := by simpa using andNot_field' a a0 a1 4 1 59 rfl
  unfold version_Root.f
  rw [if_neg (by decide), e]
theorem gone_eq {a : Int} (a0 : 0 ≤ a) (a1 : a < 18446744073709551616) : version_Gone.f a = some (a + (1 - a / 8 % 2) * 8) := by
  have e : bits .or .u64 a 8 = a + (1 - a / 8 % 2) * 8 := by simpa using or_bit' a a0 a1 3 (by decide)
  unfold version_Gone.f
  rw [e]

theorem j1_eq {a : Int} (a0 : 0 ≤ a) (a1 : a < 18446744073709551616) (k : Nat) : garnerlaw10_VersionRound.j1 (k + 1) a false = some true := by
  simp only [garnerlaw10_VersionRound.j1]
  rw [if_neg (by decide), root_true a0 a1, root_false a0 a1]
  simp only [Option.bind_some]
  rw [root_false (by omega) (by omega), gone_eq a0 a1]
  simp only [Option.bind_some]
  rw [gone_eq (by omega) (by omega), known_eq]
  simp only [Option.bind_some]
  rw [if_pos (by omega), if_pos (by omega)]
theorem j0_eq {a u : Int} (a0 : 0 ≤ a) (a1 : a < 18446744073709551616) (hu : a / 2 % 2 = 0 → a / 4 % 2 = 0 → u = a) (k : Nat) : garnerlaw10_VersionRound.j0 (k + 2) a u false = some true := by
  simp only [garnerlaw10_VersionRound.j0]
  rw [if_neg (by decide), bit_eq a0 a1 (by decide), bit_eq a0 a1 (by decide)]
  simp only [Option.bind_some]
  by_cases h2 : a / 2 % 2 = 1
  · rw [if_pos (by simpa using h2)]
    exact j1_eq a0 a1 k
  · rw [if_neg (by simpa using h2)]
    by_cases h4 : a / 4 % 2 = 1
    · rw [if_pos (by simpa using h4)]
      exact j1_eq a0 a1 k
    · rw [if_neg (by simpa using h4), hu (by omega) (by omega)]
      simp only [bne_self_eq_false]
      exact j1_eq a0 a1 k

theorem VersionRound : garnerlaw10_VersionRound.Pure := by
  intro a ha
  obtain ⟨a0, a1⟩ := u64_of_wf ha
  refine ⟨2, ?_⟩
  unfold garnerlaw10_VersionRound.f
  rw [lock_eq a0 a1]
  by_cases hv : Ver a
  · rw [if_pos hv]
    obtain ⟨v1, v2⟩ := hv
    by_cases h1 : a % 2 = 1
    · rw [if_pos h1, known_eq]
      rfl
    · rw [if_neg h1]
      simp only [Option.bind_some]
      have hv : Ver (a + 1) := ⟨by omega, by omega⟩
      rw [if_pos trivial, unlock_eq (a := a + 1) (by omega) (by omega), if_pos hv, if_pos (by omega), insert_eq (by omega) (by omega), if_pos hv, if_pos (by omega)]
      simp only [Option.bind_some]
      have hw : Ver (a + 1 + (1 - (a + 1) / 2 % 2) * 2) := ⟨by omega, by omega⟩
      rw [split_eq (by omega) (by omega), if_pos hw, if_pos (by omega)]
      simp only [Option.bind_some]
      obtain ⟨s, hs⟩ : ∃ s, a + 1 + (1 - (a + 1) / 2 % 2) * 2 + (1 - (a + 1 + (1 - (a + 1) / 2 % 2) * 2) / 4 % 2) * 4 = s := ⟨_, rfl⟩
      rw [hs]
      have es : s = a / 8 * 8 + 7 := by omega
      have hx : Ver s := ⟨by omega, by omega⟩
      rw [unlock_eq (by omega) (by omega), if_pos hx, if_pos (by omega)]
      simp only [Option.bind_some]
      have eu : unl s = cnt24 (a / 8 * 8) := by
        unfold unl
        rw [if_pos (by omega)]
        congr 1
        omega
      have ew : ∃ w, unl s = w ∧ 0 ≤ w ∧ w < 72057594037927936 ∧ w % 16777216 = a / 8 * 8 % 16777216 := by
        refine ⟨_, rfl, ?_⟩
        rw [eu]
        unfold cnt24
        omega
      obtain ⟨w, hw, w0, w1, w2⟩ := ew
      rw [hw, if_pos trivial, still_eq w0 (by omega), has1_eq w0 (by omega), inserts_eq w0 (by omega), inserts_eq a0 a1]
      simp only [Option.bind_some]
      have e56 : bits .and .u64 w 56 = w / 8 % 8 * 8 := by simpa using and_field' w w0 (by omega) 3 3 58 rfl
      have f56 : bits .and .u64 a 56 = a / 8 % 8 * 8 := by simpa using and_field' a a0 a1 3 3 58 rfl
      have hi : (w / 256 % 65536 != a / 256 % 65536) = false := by rw [bne_eq_false_iff_eq]; omega
      rw [if_pos (by rw [decide_eq_true_eq]; omega), if_neg (by rw [decide_eq_true_eq]; omega), e56, f56, if_pos (by omega), hi]
      refine j0_eq a0 a1 ?_ 0
      intro q2 q4
      unfold unl
      rw [if_neg (by omega), if_neg (by omega)]
      omega
  · rw [if_neg hv, known_eq]
    rfl
end Go.Proofs.Ythkdeaeppadbhaa.Pure
