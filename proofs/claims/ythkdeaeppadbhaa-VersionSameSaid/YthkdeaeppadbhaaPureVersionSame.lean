/- The law VersionSame: which words are the same but for the lock, and between which a node was split, or is gone: it answers true at every two words. -/
import Derived.Test.YthkdeaeppadbhaaHVersionSamex1
import Derived.Test.YthkdeaeppadbhaaU64
namespace Go.Proofs.Ythkdeaeppadbhaa.Pure
open Go.RowKit Go.Proofs.Ythkdeaeppadbhaa.HVersionSame Go.Proofs.YthkdeaeppadbhaaW.PrintWords Go.Proofs.YthkdeaeppadbhaaW.PrintLast Go.Proofs.Ythkdeaeppadbhaa.U64

theorem bit_eq {a w : Int} (h0 : 0 ≤ a) (h1 : a < 18446744073709551616) (hw : 0 < w) : garnerlaw10_bit.f a w = some (decide (a / w % 2 = 1)) := by
  have e0 : 0 ≤ a / w := Int.ediv_nonneg h0 (by omega)
  have e1 : a / w ≤ a := Int.ediv_le_self _ h0
  unfold garnerlaw10_bit.f
  rw [if_neg (by omega), tdiv_pos h0, IntKind.wrap_u64, Int.emod_eq_of_lt e0 (by omega), tmod_pos e0]
  rfl
theorem same_eq {a b : Int} (a0 : 0 ≤ a) (a1 : a < 18446744073709551616) (b0 : 0 ≤ b) (b1 : b < 18446744073709551616) : version_Same.f a b = some (decide (a - a % 2 = b - b % 2)) := by
  have ea : bits .andNot .u64 a 1 = a - a % 2 := by simpa using andNot_field' a a0 a1 0 1 63 rfl
  have eb : bits .andNot .u64 b 1 = b - b % 2 := by simpa using andNot_field' b b0 b1 0 1 63 rfl
  unfold version_Same.f
  rw [ea, eb]
  rfl
theorem splits_eq {a : Int} (a0 : 0 ≤ a) (a1 : a < 18446744073709551616) : version_Splits.f a = some (a / 16777216 % 4294967296) := by
  have e : bits .and .u64 (a / 16777216) 4294967295 = a / 16777216 % 4294967296 := by simpa using and_mask (a / 16777216) (by omega) (by omega) 32 (by decide)
  unfold version_Splits.f
  rw [e]
  congr 1
  unfold wrap64
  omega
theorem moved_eq {a b : Int} (a0 : 0 ≤ a) (a1 : a < 18446744073709551616) (b0 : 0 ≤ b) (b1 : b < 18446744073709551616) :
    version_Moved.f a b = some (decide (a / 16777216 % 4294967296 ≠ b / 16777216 % 4294967296 ∨ a / 8 % 2 ≠ b / 8 % 2)) := by
  have e : bits .and .u64 (bits .xor .u64 a b) 8 = (a / 8 + b / 8) % 2 * 8 := by simpa using and_xor_bit a b a0 a1 3 (by decide) b0 b1
  unfold version_Moved.f
  rw [splits_eq a0 a1, splits_eq b0 b1]
  simp only [Option.bind_some]
  by_cases h : a / 16777216 % 4294967296 = b / 16777216 % 4294967296
  · rw [if_pos h, e]
    congr 1
    rw [Bool.eq_iff_iff]
    simp only [bne_iff_ne, decide_eq_true_eq]
    omega
  · rw [if_neg h]
    simp [h]

theorem VersionSame : garnerlaw10_VersionSame.Pure := by
  intro a b ha hb
  obtain ⟨a0, a1⟩ := u64_of_wf ha
  obtain ⟨b0, b1⟩ := u64_of_wf hb
  refine ⟨3, ?_⟩
  have ka : garnerlaw10_known.f = some true := rfl
  have j1 : ∀ k x y, x = a - a % 2 → y = b - b % 2 → garnerlaw10_VersionSame.j1 (k + 1) a b x y = some true := by
    intro k x y hx hy
    simp only [garnerlaw10_VersionSame.j1]
    rw [bit_eq a0 a1 (by decide), bit_eq b0 b1 (by decide), same_eq a0 a1 b0 b1, moved_eq a0 a1 b0 b1, ka]
    simp only [Option.bind_some]
    have q1 : IntKind.u64.wrap (a.tdiv 16777216) = a / 16777216 := by rw [tdiv_pos a0, IntKind.wrap_u64]; omega
    have q2 : IntKind.u64.wrap (b.tdiv 16777216) = b / 16777216 := by rw [tdiv_pos b0, IntKind.wrap_u64]; omega
    rw [q1, q2, tmod_pos (by omega), tmod_pos (by omega)]
    have hs : (decide (a - a % 2 = b - b % 2) == (x == y)) = true := by
      rw [hx, hy, beq_iff_eq, Bool.eq_iff_iff, decide_eq_true_eq, beq_iff_eq]
    rw [hs]
    by_cases h : a / 16777216 % 4294967296 = b / 16777216 % 4294967296
    · rw [if_pos h, if_pos rfl]
      have : (decide (a / 16777216 % 4294967296 ≠ b / 16777216 % 4294967296 ∨ a / 8 % 2 ≠ b / 8 % 2) == (decide (a / 8 % 2 = 1) != decide (b / 8 % 2 = 1))) = true := by
        rw [beq_iff_eq, Bool.eq_iff_iff, decide_eq_true_eq, bne_iff_ne, ne_eq (decide _), Bool.eq_iff_iff, decide_eq_true_eq, decide_eq_true_eq]
        omega
      rw [if_pos this]
    · rw [if_neg h, if_pos rfl]
      have : (decide (a / 16777216 % 4294967296 ≠ b / 16777216 % 4294967296 ∨ a / 8 % 2 ≠ b / 8 % 2) == true) = true := by simp [h]
      rw [if_pos this]
  have j0 : ∀ k x, x = a - a % 2 → garnerlaw10_VersionSame.j0 (k + 2) a b x b = some true := by
    intro k x hx
    simp only [garnerlaw10_VersionSame.j0]
    rw [bit_eq b0 b1 (by decide)]
    simp only [Option.bind_some, Int.ediv_one]
    by_cases h : b % 2 = 1
    · rw [if_pos (by simpa using h)]
      exact j1 _ _ _ hx (by rw [IntKind.wrap_u64]; omega)
    · rw [if_neg (by simpa using h)]
      exact j1 _ _ _ hx (by omega)
  unfold garnerlaw10_VersionSame.f
  rw [bit_eq a0 a1 (by decide)]
  simp only [Option.bind_some, Int.ediv_one]
  by_cases h : a % 2 = 1
  · rw [if_pos (by simpa using h)]
    exact j0 1 _ (by rw [IntKind.wrap_u64]; omega)
  · rw [if_neg (by simpa using h)]
    exact j0 1 _ (by omega)

end Go.Proofs.Ythkdeaeppadbhaa.Pure
