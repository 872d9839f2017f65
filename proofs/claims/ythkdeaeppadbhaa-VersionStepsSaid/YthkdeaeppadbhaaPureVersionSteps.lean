/- The law VersionSteps: what locking, marking and unlocking make of any word: true at every word. -/
import Derived.Test.YthkdeaeppadbhaaHVersionStepsx
import Derived.Test.YthkdeaeppadbhaaU64
namespace Go.Proofs.Ythkdeaeppadbhaa.Pure
open Go.RowKit Go.Proofs.Ythkdeaeppadbhaa.HVersionSteps Go.Proofs.YthkdeaeppadbhaaW.PrintWords Go.Proofs.YthkdeaeppadbhaaW.PrintLast Go.Proofs.YthkdeaeppadbhaaW.PrintMore Go.Proofs.Ythkdeaeppadbhaa.U64
def Ver (a : Int) : Prop := a < 72057594037927936 ∧ a / 64 % 4 = 0
instance (a : Int) : Decidable (Ver a) := by unfold Ver; infer_instance
theorem bit_eq {a w : Int} (h0 : 0 ≤ a) (h1 : a < 18446744073709551616) (hw : 0 < w) : garnerlaw10_bit.f a w = some (decide (a / w % 2 = 1)) := by
  have e0 : 0 ≤ a / w := Int.ediv_nonneg h0 (by omega)
  have e1 : a / w ≤ a := Int.ediv_le_self _ h0
  unfold garnerlaw10_bit.f
  rw [if_neg (by omega), tdiv_pos h0, IntKind.wrap_u64, Int.emod_eq_of_lt e0 (by omega), tmod_pos e0]
  rfl
theorem and3_eq {a : Int} (a0 : 0 ≤ a) (a1 : a < 18446744073709551616) : bits .and .u64 (a / 64) 3 = a / 64 % 4 := by simpa using and_mask (a / 64) (by omega) (by omega) 2 (by decide)
theorem and1_eq {a : Int} (a0 : 0 ≤ a) (a1 : a < 18446744073709551616) : bits .and .u64 a 1 = a % 2 := by simpa using and_mask a a0 a1 1 (by decide)
theorem and2_eq {a : Int} (a0 : 0 ≤ a) (a1 : a < 18446744073709551616) : bits .and .u64 a 2 = a / 2 % 2 * 2 := by simpa using and_bit a a0 a1 1 (by decide)
theorem and4_eq {a : Int} (a0 : 0 ≤ a) (a1 : a < 18446744073709551616) : bits .and .u64 a 4 = a / 4 % 2 * 4 := by simpa using and_bit a a0 a1 2 (by decide)
theorem or1_eq {a : Int} (a0 : 0 ≤ a) (a1 : a < 18446744073709551616) : bits .or .u64 a 1 = a + (1 - a % 2) := by simpa using or_bit' a a0 a1 0 (by decide)
theorem or2_eq {a : Int} (a0 : 0 ≤ a) (a1 : a < 18446744073709551616) : bits .or .u64 a 2 = a + (1 - a / 2 % 2) * 2 := by simpa using or_bit' a a0 a1 1 (by decide)
theorem or4_eq {a : Int} (a0 : 0 ≤ a) (a1 : a < 18446744073709551616) : bits .or .u64 a 4 = a + (1 - a / 4 % 2) * 4 := by simpa using or_bit' a a0 a1 2 (by decide)
theorem andNot7_eq {a : Int} (a0 : 0 ≤ a) (a1 : a < 18446744073709551616) : bits .andNot .u64 a 7 = a - a % 8 := by simpa using andNot_field' a a0 a1 0 3 61 rfl
theorem lock_eq {a : Int} (a0 : 0 ≤ a) (a1 : a < 18446744073709551616) : version_Lock.f a = if Ver a then (if a % 2 = 1 then some (0, 9) else some (a + 1, 0)) else some (0, 2) := by
  unfold version_Lock.f
  rw [and3_eq a0 a1, and1_eq a0 a1, or1_eq a0 a1]
  by_cases h : a / 72057594037927936 = 0
  · rw [if_pos h]
    by_cases g : a / 64 % 4 = 0
    · have hv : Ver a := ⟨by omega, g⟩
      rw [if_pos g, if_pos hv]
      split
      · rfl
      · congr 2; omega
    · have hv : ¬ Ver a := fun q => g q.2
      rw [if_neg g, if_neg hv]
  · have hv : ¬ Ver a := fun q => by have := q.1; omega
    rw [if_neg h, if_neg hv]
theorem insert_eq {a : Int} (a0 : 0 ≤ a) (a1 : a < 18446744073709551616) : version_Insert.f a = if Ver a then (if a % 2 = 1 then some (a + (1 - a / 2 % 2) * 2, 0) else some (0, 9)) else some (0, 2) := by
  unfold version_Insert.f
  rw [and3_eq a0 a1, and1_eq a0 a1, or2_eq a0 a1]
  by_cases h : a / 72057594037927936 = 0
  · rw [if_pos h]
    by_cases g : a / 64 % 4 = 0
    · have hv : Ver a := ⟨by omega, g⟩
      rw [if_pos g, if_pos hv]
    · have hv : ¬ Ver a := fun q => g q.2
      rw [if_neg g, if_neg hv]
  · have hv : ¬ Ver a := fun q => by have := q.1; omega
    rw [if_neg h, if_neg hv]
def cnt24 (x : Int) : Int := x - x / 16777216 % 4294967296 * 16777216 + (x / 16777216 + 1) % 4294967296 * 16777216
def cnt8 (x : Int) : Int := x - x / 256 % 65536 * 256 + (x / 256 + 1) % 65536 * 256
theorem count24_eq {a : Int} (a0 : 0 ≤ a) (a1 : a < 18446744073709551616) : count24 a = cnt24 a := by
  unfold count24 cnt24
  have e1 : bits .andNot .u64 a 72057594021150720 = a - a / 16777216 % 4294967296 * 16777216 := by simpa using andNot_field' a a0 a1 24 32 8 rfl
  have e2 : IntKind.u64.wrap (a / 16777216 + 1) = a / 16777216 + 1 := by rw [IntKind.wrap_u64]; omega
  have e3 : bits .and .u64 (a / 16777216 + 1) 4294967295 = (a / 16777216 + 1) % 4294967296 := by simpa using and_mask (a / 16777216 + 1) (by omega) (by omega) 32 (by decide)
  have e4 : IntKind.u64.wrap ((a / 16777216 + 1) % 4294967296 * 16777216) = (a / 16777216 + 1) % 4294967296 * 16777216 := by rw [IntKind.wrap_u64]; omega
  rw [e1, e2, e3, e4]
  obtain ⟨n, hn⟩ := Int.eq_ofNat_of_zero_le (show 0 ≤ (a / 16777216 + 1) % 4294967296 by omega)
  have e5 := or_field' (a - a / 16777216 % 4294967296 * 16777216) (by omega) (by omega) 24 32 n (by decide) (by simp only [Nat.reducePow, Int.cast_ofNat_Int]; omega) (by omega)
  rw [hn]
  simpa using e5
theorem count8_eq {a : Int} (a0 : 0 ≤ a) (a1 : a < 18446744073709551616) : count8 a = cnt8 a := by
  unfold count8 cnt8
  have e1 : bits .andNot .u64 a 16776960 = a - a / 256 % 65536 * 256 := by simpa using andNot_field' a a0 a1 8 16 40 rfl
  have e2 : IntKind.u64.wrap (a / 256 + 1) = a / 256 + 1 := by rw [IntKind.wrap_u64]; omega
  have e3 : bits .and .u64 (a / 256 + 1) 65535 = (a / 256 + 1) % 65536 := by simpa using and_mask (a / 256 + 1) (by omega) (by omega) 16 (by decide)
  have e4 : IntKind.u64.wrap ((a / 256 + 1) % 65536 * 256) = (a / 256 + 1) % 65536 * 256 := by rw [IntKind.wrap_u64]; omega
  rw [e1, e2, e3, e4]
  obtain ⟨n, hn⟩ := Int.eq_ofNat_of_zero_le (show 0 ≤ (a / 256 + 1) % 65536 by omega)
  have e5 := or_field' (a - a / 256 % 65536 * 256) (by omega) (by omega) 8 16 n (by decide) (by simp only [Nat.reducePow, Int.cast_ofNat_Int]; omega) (by omega)
  rw [hn]
  simpa using e5
/-- What unlocking makes of a locked word. -/
def unl (a : Int) : Int := if a / 4 % 2 = 1 then cnt24 (a - a % 8) else if a / 2 % 2 = 1 then cnt8 (a - a % 8) else a - a % 8
theorem unlock_eq {a : Int} (a0 : 0 ≤ a) (a1 : a < 18446744073709551616) : version_Unlock.f a = if Ver a then (if a % 2 = 1 then some (unl a, 0) else some (0, 9)) else some (0, 2) := by
  unfold version_Unlock.f unl
  rw [and3_eq a0 a1, and1_eq a0 a1, and4_eq a0 a1, and2_eq a0 a1, andNot7_eq a0 a1, count24_eq (by omega) (by omega), count8_eq (by omega) (by omega)]
  by_cases h : a / 72057594037927936 = 0
  · rw [if_pos h]
    by_cases g : a / 64 % 4 = 0
    · have hv : Ver a := ⟨by omega, g⟩
      rw [if_pos g, if_pos hv]
      by_cases f : a % 2 = 1
      · rw [if_pos f, if_pos f]
        by_cases f4 : a / 4 % 2 = 1
        · rw [if_pos (by omega), if_pos f4]
        · rw [if_neg (by omega), if_neg f4]
          by_cases f2 : a / 2 % 2 = 1
          · rw [if_pos (by omega), if_pos f2]
          · rw [if_neg (by omega), if_neg f2]
      · rw [if_neg f, if_neg f]
    · have hv : ¬ Ver a := fun q => g q.2
      rw [if_neg g, if_neg hv]
  · have hv : ¬ Ver a := fun q => by have := q.1; omega
    rw [if_neg h, if_neg hv]
theorem known_eq : garnerlaw10_known.f = some true := rfl
theorem split_eq {a : Int} (a0 : 0 ≤ a) (a1 : a < 18446744073709551616) : version_Split.f a = if Ver a then (if a % 2 = 1 then some (a + (1 - a / 4 % 2) * 4, 0) else some (0, 9)) else some (0, 2) := by
  unfold version_Split.f
  rw [and3_eq a0 a1, and1_eq a0 a1, or4_eq a0 a1]
  by_cases h : a / 72057594037927936 = 0
  · rw [if_pos h]
    by_cases g : a / 64 % 4 = 0
    · have hv : Ver a := ⟨by omega, g⟩
      rw [if_pos g, if_pos hv]
    · have hv : ¬ Ver a := fun q => g q.2
      rw [if_neg g, if_neg hv]
  · have hv : ¬ Ver a := fun q => by have := q.1; omega
    rw [if_neg h, if_neg hv]
theorem may_eq {a : Int} (a0 : 0 ≤ a) (a1 : a < 18446744073709551616) : garnerlaw10_may.f a = some (decide (Ver a)) := by
  unfold garnerlaw10_may.f
  by_cases h : a < 72057594037927936
  · rw [if_pos h, tdiv_pos a0, IntKind.wrap_u64, Int.emod_eq_of_lt (by omega) (by omega), tmod_pos (by omega)]
    congr 1
    rw [Bool.eq_iff_iff, beq_iff_eq, decide_eq_true_eq]
    unfold Ver
    omega
  · rw [if_neg h]
    simp [Ver, h]
theorem got0_eq (v : Int) : garnerlaw10_got.f v 0 = some v := rfl
theorem got2_eq (v : Int) : garnerlaw10_got.f v 2 = some 9223372036854775810 := by unfold garnerlaw10_got.f; rw [if_neg (by decide)]; decide +kernel
theorem got9_eq (v : Int) : garnerlaw10_got.f v 9 = some 9223372036854775817 := by unfold garnerlaw10_got.f; rw [if_neg (by decide)]; decide +kernel
theorem unlocked_eq {a : Int} (a0 : 0 ≤ a) (a1 : a < 18446744073709551616) (h1 : a % 2 = 1) (k : Nat) : garnerlaw10_unlocked.f (k + 1) a = some (unl a) := by
  have j0 : ∀ x s t, x = a - a % 8 + (if t = true then 4 else 0) → (s = true ↔ a / 2 % 2 = 1) → (t = true ↔ a / 4 % 2 = 1) → garnerlaw10_unlocked.j0 (k + 1) x s t = some (unl a) := by
    intro x s t hx hs ht
    simp only [garnerlaw10_unlocked.j0]
    unfold unl
    by_cases h4 : t = true
    · rw [if_pos h4, if_pos (ht.1 h4)]
      rw [if_pos h4] at hx
      have ex : IntKind.u64.wrap (x - 4) = a - a % 8 := by rw [IntKind.wrap_u64]; omega
      rw [ex, tdiv_pos (by omega)]
      have ey : IntKind.u64.wrap ((a - a % 8) / 16777216) = (a - a % 8) / 16777216 := by rw [IntKind.wrap_u64]; omega
      rw [ey, tmod_pos (by omega)]
      unfold cnt24
      by_cases hf : (a - a % 8) / 16777216 % 4294967296 = 4294967295
      · rw [if_pos hf]
        congr 1
        rw [IntKind.wrap_u64]
        omega
      · rw [if_neg hf]
        congr 1
        rw [IntKind.wrap_u64]
        omega
    · rw [if_neg h4, if_neg (fun h => h4 (ht.2 h))]
      rw [if_neg h4] at hx
      by_cases h2 : s = true
      · rw [if_pos h2, if_pos (hs.1 h2)]
        have ex : x = a - a % 8 := by omega
        rw [ex, tdiv_pos (by omega)]
        have ey : IntKind.u64.wrap ((a - a % 8) / 256) = (a - a % 8) / 256 := by rw [IntKind.wrap_u64]; omega
        rw [ey, tmod_pos (by omega)]
        unfold cnt8
        by_cases hf : (a - a % 8) / 256 % 65536 = 65535
        · rw [if_pos hf]
          congr 1
          rw [IntKind.wrap_u64]
          omega
        · rw [if_neg hf]
          congr 1
          rw [IntKind.wrap_u64]
          omega
      · rw [if_neg h2, if_neg (fun h => h2 (hs.2 h))]
        congr 1
        omega
  unfold garnerlaw10_unlocked.f
  rw [bit_eq a0 a1 (by decide), bit_eq a0 a1 (by decide)]
  simp only [Option.bind_some]
  have ew : IntKind.u64.wrap (a - 1) = a - 1 := by rw [IntKind.wrap_u64]; omega
  rw [ew]
  by_cases h2 : a / 2 % 2 = 1
  · rw [if_pos (by simpa using h2)]
    refine j0 _ _ _ ?_ (by simp) (by simp)
    rw [IntKind.wrap_u64]
    by_cases h4 : a / 4 % 2 = 1
    · rw [if_pos (by simpa using h4)]; omega
    · rw [if_neg (by simpa using h4)]; omega
  · rw [if_neg (by simpa using h2)]
    refine j0 _ _ _ ?_ (by simp) (by simp)
    by_cases h4 : a / 4 % 2 = 1
    · rw [if_pos (by simpa using h4)]; omega
    · rw [if_neg (by simpa using h4)]; omega
theorem unl_ver {a : Int} (a0 : 0 ≤ a) (hv : Ver a) : 0 ≤ unl a ∧ Ver (unl a) := by
  obtain ⟨v1, v2⟩ := hv
  have : 0 ≤ unl a ∧ unl a < 72057594037927936 ∧ unl a / 64 % 4 = 0 := by
    unfold unl cnt24 cnt8
    by_cases h4 : a / 4 % 2 = 1
    · rw [if_pos h4]; omega
    · rw [if_neg h4]
      by_cases h2 : a / 2 % 2 = 1
      · rw [if_pos h2]; omega
      · rw [if_neg h2]; omega
  exact ⟨this.1, this.2⟩

theorem VersionSteps : garnerlaw10_VersionSteps.Pure := by
  intro a ha
  obtain ⟨a0, a1⟩ := u64_of_wf ha
  refine ⟨2, ?_⟩
  unfold garnerlaw10_VersionSteps.f
  rw [lock_eq a0 a1, insert_eq a0 a1, split_eq a0 a1, unlock_eq a0 a1, may_eq a0 a1]
  by_cases hv : Ver a
  · simp only [if_pos hv]
    by_cases h1 : a % 2 = 1
    · simp only [if_pos h1, Option.bind_some, got0_eq, got9_eq, decide_eq_true_eq]
      rw [if_pos hv, bit_eq a0 a1 (by decide)]
      simp only [Option.bind_some, Int.ediv_one, decide_eq_true_eq]
      rw [if_pos h1]
      obtain ⟨u0, hu⟩ := unl_ver a0 hv
      have hu1 := hu.1
      have j0 : ∀ x, x = a + (1 - a / 2 % 2) * 2 → garnerlaw10_VersionSteps.j0 2 a 9223372036854775817 (a + (1 - a / 2 % 2) * 2) (a + (1 - a / 4 % 2) * 4) (unl a) x a = some true := by
        intro x hx
        simp only [garnerlaw10_VersionSteps.j0]
        rw [bit_eq a0 a1 (by decide), unlocked_eq a0 a1 h1, may_eq u0 (by omega), known_eq]
        simp only [Option.bind_some, if_true, decide_eq_true_eq, hx, if_pos hu]
        by_cases h4 : a / 4 % 2 = 1
        · rw [if_pos h4, if_pos (by omega)]
        · rw [if_neg h4, if_pos (by rw [IntKind.wrap_u64]; have := hv.1; omega)]
      rw [bit_eq a0 a1 (by decide)]
      simp only [Option.bind_some, decide_eq_true_eq]
      by_cases h2 : a / 2 % 2 = 1
      · rw [if_pos h2]
        exact j0 _ (by omega)
      · rw [if_neg h2]
        refine j0 _ ?_
        rw [IntKind.wrap_u64]
        have := hv.1
        omega
    · simp only [if_neg h1, Option.bind_some, got0_eq, got9_eq, decide_eq_true_eq]
      rw [if_pos hv, bit_eq a0 a1 (by decide)]
      simp only [Option.bind_some, Int.ediv_one, decide_eq_true_eq]
      have hl : Ver (a + 1) := ⟨by have := hv.1; omega, by have := hv.2; omega⟩
      have v1 := hv.1
      rw [if_neg h1, if_pos (by rw [IntKind.wrap_u64]; omega), unlock_eq (by omega) (by omega), if_pos hl, if_pos (show (a + 1) % 2 = 1 by omega), unlocked_eq (by omega) (by omega) (by omega), known_eq]
      simp only [Option.bind_some, got0_eq, if_true]
  · simp only [if_neg hv, Option.bind_some, got2_eq, decide_eq_true_eq, known_eq, if_true]
end Go.Proofs.Ythkdeaeppadbhaa.Pure
