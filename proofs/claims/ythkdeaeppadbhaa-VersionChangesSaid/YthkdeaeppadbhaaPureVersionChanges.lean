/- The law VersionChanges: a border that was locked and unlocked is the same, one that was marked between is another one; counted by how often: true at every word and marks. -/
import Derived.Test.YthkdeaeppadbhaaHVersionChangesx
import Derived.Test.YthkdeaeppadbhaaU64
namespace Go.Proofs.Ythkdeaeppadbhaa.Pure
open Go.RowKit Go.Proofs.Ythkdeaeppadbhaa.HVersionChanges Go.Proofs.YthkdeaeppadbhaaW.PrintWords Go.Proofs.YthkdeaeppadbhaaW.PrintLast Go.Proofs.YthkdeaeppadbhaaW.PrintMore Go.Proofs.Ythkdeaeppadbhaa.U64
def Ver (a : Int) : Prop := a < 72057594037927936 ∧ a / 64 % 4 = 0
instance (a : Int) : Decidable (Ver a) := by unfold Ver; infer_instance
theorem bit_eq {a w : Int} (h0 : 0 ≤ a) (h1 : a < 18446744073709551616) (hw : 0 < w) : garnerlaw10_bit.f a w = some (decide (a / w % 2 = 1)) := by
  have e0 : 0 ≤ a / w := Int.ediv_nonneg h0 (by omega)
  have e1 : a / w ≤ a := Int.ediv_le_self _ h0
  unfold garnerlaw10_bit.f
  rw [if_neg (by omega), tdiv_pos h0, IntKind.wrap_u64, Int.emod_eq_of_lt e0 (by omega), tmod_pos e0]
  rfl
theorem and3_eq {a : Int} (a0 : 0 ≤ a) (a1 : a < 18446744073709551616) : bits .and .u64 (a / 64) 3 = a / 64 % 4 := by simpa using and_mask (a / 64) (by omega) (by omega) 2 (by decide)
theorem and1_eq {a : Int} (a0 : 0 ≤ a) (a1 : a < 18446744073709551616) : bits .and .u64 a 1 = a % 2 := by simpa using and_mask a a0 a1 1 (by decide)
theorem and2_eq {a : Int} (a0 : 0 ≤ a) (a1 : a < 18446744073709551616) : bits .and .u64 a 2 = a / 2 % 2 * 2 := by simpa using and_bit a a0 a1 1 (by decide)
theorem and4_eq {a : Int} (a0 : 0 ≤ a) (a1 : a < 18446744073709551616) : bits .and .u64 a 4 = a / 4 % 2 * 4 := by simpa using and_bit a a0 a1 2 (by decide)
theorem or1_eq {a : Int} (a0 : 0 ≤ a) (a1 : a < 18446744073709551616) : bits .or .u64 a 1 = a + (1 - a % 2) := by simpa using or_bit' a a0 a1 0 (by decide)
theorem or2_eq {a : Int} (a0 : 0 ≤ a) (a1 : a < 18446744073709551616) : bits .or .u64 a 2 = a + (1 - a / 2 % 2) * 2 := by simpa using or_bit' a a0 a1 1 (by decide)
theorem or4_eq {a : Int} (a0 : 0 ≤ a) (a1 : a < 18446744073709551616) : bits .or .u64 a 4 = a + (1 - a / 4 % 2) * 4 := by simpa using or_bit' a a0 a1 2 (by decide)
theorem andNot7_eq {a : Int} (a0 : 0 ≤ a) (a1 : a < 18446744073709551616) : bits .andNot .u64 a 7 = a - a % 8 := by simpa using andNot_field' a a0 a1 0 3 61 rfl
theorem lock_eq {a : Int} (a0 : 0 ≤ a) (a1 : a < 18446744073709551616) : version_Lock.f a = if Ver a then (if a % 2 = 1 then some (0, 9) else some (a + 1, 0)) else some (0, 2) := by
  unfold version_Lock.f
  rw [and3_eq a0 a1, and1_eq a0 a1, or1_eq a0 a1]
  by_cases h : a / 72057594037927936 = 0
  · rw [if_pos h]
    by_cases g : a / 64 % 4 = 0
    · have hv : Ver a := ⟨by omega, g⟩
      rw [if_pos g, if_pos hv]
      split
      · rfl
      · congr 2; omega
    · have hv : ¬ Ver a := fun q => g q.2
      rw [if_neg g, if_neg hv]
  · have hv : ¬ Ver a := fun q => by have := q.1; omega
    rw [if_neg h, if_neg hv]
theorem insert_eq {a : Int} (a0 : 0 ≤ a) (a1 : a < 18446744073709551616) : version_Insert.f a = if Ver a then (if a % 2 = 1 then some (a + (1 - a / 2 % 2) * 2, 0) else some (0, 9)) else some (0, 2) := by
  unfold version_Insert.f
  rw [and3_eq a0 a1, and1_eq a0 a1, or2_eq a0 a1]
  by_cases h : a / 72057594037927936 = 0
  · rw [if_pos h]
    by_cases g : a / 64 % 4 = 0
    · have hv : Ver a := ⟨by omega, g⟩
      rw [if_pos g, if_pos hv]
    · have hv : ¬ Ver a := fun q => g q.2
      rw [if_neg g, if_neg hv]
  · have hv : ¬ Ver a := fun q => by have := q.1; omega
    rw [if_neg h, if_neg hv]
def cnt24 (x : Int) : Int := x - x / 16777216 % 4294967296 * 16777216 + (x / 16777216 + 1) % 4294967296 * 16777216
def cnt8 (x : Int) : Int := x - x / 256 % 65536 * 256 + (x / 256 + 1) % 65536 * 256
theorem count24_eq {a : Int} (a0 : 0 ≤ a) (a1 : a < 18446744073709551616) : count24 a = cnt24 a := by
  unfold count24 cnt24
  have e1 : bits .andNot .u64 a 72057594021150720 = a - a / 16777216 % 4294967296 * 16777216 := by simpa using andNot_field' a a0 a1 24 32 8 rfl
  have e2 : IntKind.u64.wrap (a / 16777216 + 1) = a / 16777216 + 1 := by rw [IntKind.wrap_u64]; omega
  have e3 : bits .and .u64 (a / 16777216 + 1) 4294967295 = (a / 16777216 + 1) % 4294967296 := by simpa using and_mask (a / 16777216 + 1) (by omega) (by omega) 32 (by decide)
  have e4 : IntKind.u64.wrap ((a / 16777216 + 1) % 4294967296 * 16777216) = (a / 16777216 + 1) % 4294967296 * 16777216 := by rw [IntKind.wrap_u64]; omega
  rw [e1, e2, e3, e4]
  obtain ⟨n, hn⟩ := Int.eq_ofNat_of_zero_le (show 0 ≤ (a / 16777216 + 1) % 4294967296 by omega)
  have e5 := or_field' (a - a / 16777216 % 4294967296 * 16777216) (by omega) (by omega) 24 32 n (by decide) (by simp only [Nat.reducePow, Int.cast_ofNat_Int]; omega) (by omega)
  rw [hn]
  simpa using e5
theorem count8_eq {a : Int} (a0 : 0 ≤ a) (a1 : a < 18446744073709551616) : count8 a = cnt8 a := by
  unfold count8 cnt8
  have e1 : bits .andNot .u64 a 16776960 = a - a / 256 % 65536 * 256 := by simpa using andNot_field' a a0 a1 8 16 40 rfl
  have e2 : IntKind.u64.wrap (a / 256 + 1) = a / 256 + 1 := by rw [IntKind.wrap_u64]; omega
  have e3 : bits .and .u64 (a / 256 + 1) 65535 = (a / 256 + 1) % 65536 := by simpa using and_mask (a / 256 + 1) (by omega) (by omega) 16 (by decide)
  have e4 : IntKind.u64.wrap ((a / 256 + 1) % 65536 * 256) = (a / 256 + 1) % 65536 * 256 := by rw [IntKind.wrap_u64]; omega
  rw [e1, e2, e3, e4]
  obtain ⟨n, hn⟩ := Int.eq_ofNat_of_zero_le (show 0 ≤ (a / 256 + 1) % 65536 by omega)
  have e5 := or_field' (a - a / 256 % 65536 * 256) (by omega) (by omega) 8 16 n (by decide) (by simp only [Nat.reducePow, Int.cast_ofNat_Int]; omega) (by omega)
  rw [hn]
  simpa using e5
/-- What unlocking makes of a locked word. -/
def unl (a : Int) : Int := if a / 4 % 2 = 1 then cnt24 (a - a % 8) else if a / 2 % 2 = 1 then cnt8 (a - a % 8) else a - a % 8
theorem unlock_eq {a : Int} (a0 : 0 ≤ a) (a1 : a < 18446744073709551616) : version_Unlock.f a = if Ver a then (if a % 2 = 1 then some (unl a, 0) else some (0, 9)) else some (0, 2) := by
  unfold version_Unlock.f unl
  rw [and3_eq a0 a1, and1_eq a0 a1, and4_eq a0 a1, and2_eq a0 a1, andNot7_eq a0 a1, count24_eq (by omega) (by omega), count8_eq (by omega) (by omega)]
  by_cases h : a / 72057594037927936 = 0
  · rw [if_pos h]
    by_cases g : a / 64 % 4 = 0
    · have hv : Ver a := ⟨by omega, g⟩
      rw [if_pos g, if_pos hv]
      by_cases f : a % 2 = 1
      · rw [if_pos f, if_pos f]
        by_cases f4 : a / 4 % 2 = 1
        · rw [if_pos (by omega), if_pos f4]
        · rw [if_neg (by omega), if_neg f4]
          by_cases f2 : a / 2 % 2 = 1
          · rw [if_pos (by omega), if_pos f2]
          · rw [if_neg (by omega), if_neg f2]
      · rw [if_neg f, if_neg f]
    · have hv : ¬ Ver a := fun q => g q.2
      rw [if_neg g, if_neg hv]
  · have hv : ¬ Ver a := fun q => by have := q.1; omega
    rw [if_neg h, if_neg hv]
theorem known_eq : garnerlaw10_known.f = some true := rfl
theorem split_eq {a : Int} (a0 : 0 ≤ a) (a1 : a < 18446744073709551616) : version_Split.f a = if Ver a then (if a % 2 = 1 then some (a + (1 - a / 4 % 2) * 4, 0) else some (0, 9)) else some (0, 2) := by
  unfold version_Split.f
  rw [and3_eq a0 a1, and1_eq a0 a1, or4_eq a0 a1]
  by_cases h : a / 72057594037927936 = 0
  · rw [if_pos h]
    by_cases g : a / 64 % 4 = 0
    · have hv : Ver a := ⟨by omega, g⟩
      rw [if_pos g, if_pos hv]
    · have hv : ¬ Ver a := fun q => g q.2
      rw [if_neg g, if_neg hv]
  · have hv : ¬ Ver a := fun q => by have := q.1; omega
    rw [if_neg h, if_neg hv]
theorem may_eq {a : Int} (a0 : 0 ≤ a) (a1 : a < 18446744073709551616) : garnerlaw10_may.f a = some (decide (Ver a)) := by
  unfold garnerlaw10_may.f
  by_cases h : a < 72057594037927936
  · rw [if_pos h, tdiv_pos a0, IntKind.wrap_u64, Int.emod_eq_of_lt (by omega) (by omega), tmod_pos (by omega)]
    congr 1
    rw [Bool.eq_iff_iff, beq_iff_eq, decide_eq_true_eq]
    unfold Ver
    omega
  · rw [if_neg h]
    simp [Ver, h]
theorem same_eq {a b : Int} (a0 : 0 ≤ a) (a1 : a < 18446744073709551616) (b0 : 0 ≤ b) (b1 : b < 18446744073709551616) : version_Same.f a b = some (decide (a - a % 2 = b - b % 2)) := by
  have ea : bits .andNot .u64 a 1 = a - a % 2 := by simpa using andNot_field' a a0 a1 0 1 63 rfl
  have eb : bits .andNot .u64 b 1 = b - b % 2 := by simpa using andNot_field' b b0 b1 0 1 63 rfl
  unfold version_Same.f
  rw [ea, eb]
  rfl
theorem inserts_eq {a : Int} (a0 : 0 ≤ a) (a1 : a < 18446744073709551616) : version_Inserts.f a = some (a / 256 % 65536) := by
  have e : bits .and .u64 (a / 256) 65535 = a / 256 % 65536 := by simpa using and_mask (a / 256) (by omega) (by omega) 16 (by decide)
  unfold version_Inserts.f
  rw [e]
  congr 1
  unfold wrap64
  omega
theorem splits_eq {a : Int} (a0 : 0 ≤ a) (a1 : a < 18446744073709551616) : version_Splits.f a = some (a / 16777216 % 4294967296) := by
  have e : bits .and .u64 (a / 16777216) 4294967295 = a / 16777216 % 4294967296 := by simpa using and_mask (a / 16777216) (by omega) (by omega) 32 (by decide)
  unfold version_Splits.f
  rw [e]
  congr 1
  unfold wrap64
  omega
theorem tmod_zero {x m : Int} (h : x % m = 0) : x.tmod m = 0 := Int.tmod_eq_zero_of_dvd (Int.dvd_of_emod_eq_zero h)
/-- What holds ahead of each round: the word stands still, may be, and has counted as many as were marked. -/
def Inv (a v x y : Int) (i : Nat) : Prop :=
  0 ≤ v ∧ v < 72057594037927936 ∧ v % 256 < 64 ∧ v % 8 = 0 ∧ 0 ≤ x ∧ x ≤ i ∧ 0 ≤ y ∧ y ≤ i ∧ (v / 256 - a / 256 - x) % 65536 = 0 ∧ (v / 16777216 - a / 16777216 - y) % 4294967296 = 0
theorem inv_ver {a v x y : Int} {i : Nat} (h : Inv a v x y i) : Ver v ∧ Ver (v + 1) ∧ Ver (v + 3) ∧ Ver (v + 5) := by
  obtain ⟨h1, h2, h3, h4, _⟩ := h
  exact ⟨⟨by omega, by omega⟩, ⟨by omega, by omega⟩, ⟨by omega, by omega⟩, ⟨by omega, by omega⟩⟩
theorem l0_eq {a : Int} (a0 : 0 ≤ a) (a1 : a < 72057594037927936) (l : List Int) (hl : l.length ≤ 200) (d : Nat) : ∀ (k i : Nat) (v x y : Int), i ≤ l.length → l.length - i = d → 3 * d + 1 ≤ k → Inv a v x y i →
    garnerlaw10_VersionChanges.l0 k v l a x y i = some true := by
  induction d with
  | zero =>
    intro k i v x y hi hd hk hI
    obtain ⟨k, rfl⟩ : ∃ m, k = m + 1 := ⟨k - 1, by omega⟩
    obtain rfl : i = l.length := by omega
    obtain ⟨h1, h2, h3, h4, h5, h6, h7, h8, h9, h10⟩ := hI
    simp only [garnerlaw10_VersionChanges.l0]
    rw [if_neg (by omega), inserts_eq h1 (by omega), inserts_eq a0 (by omega), splits_eq h1 (by omega), splits_eq a0 (by omega), known_eq]
    simp only [Option.bind_some]
    have w1 : wrap64 (wrap64 (v / 256 % 65536 - a / 256 % 65536) - x) = v / 256 % 65536 - a / 256 % 65536 - x := by unfold wrap64; omega
    have w2 : wrap64 (wrap64 (v / 16777216 % 4294967296 - a / 16777216 % 4294967296) - y) = v / 16777216 % 4294967296 - a / 16777216 % 4294967296 - y := by unfold wrap64; omega
    rw [w1, w2, if_pos (tmod_zero (by omega)), if_pos (tmod_zero (by omega))]
  | succ d ih =>
    intro k i v x y hi hd hk hI
    obtain ⟨k, rfl⟩ : ∃ m, k = m + 3 := ⟨k - 3, by omega⟩
    obtain ⟨hv, hv1, hv3, hv5⟩ := inv_ver hI
    have ei : wrap64 ((i : Int) + 1) = ((i + 1 : Nat) : Int) := by unfold wrap64; omega
    have h1 := hI.1
    have h2 := hI.2.1
    have h4 := hI.2.2.2.1
    simp only [garnerlaw10_VersionChanges.l0]
    rw [if_pos (by omega), lock_eq h1 (by omega), if_pos hv, if_neg (by omega)]
    simp only [Option.bind_some]
    rw [if_pos trivial, if_pos (by omega)]
    obtain ⟨m, hm⟩ : ∃ m, rd l i = m := ⟨_, rfl⟩
    have j3 : ∀ z u x' y', unl z = u → 0 ≤ z → Ver z → z % 2 = 1 → (u - u % 2 = v - v % 2 ↔ m ≠ 1 ∧ m ≠ 2) → Inv a u x' y' (i + 1) → garnerlaw10_VersionChanges.j3 (k + 1) v l a x' y' i z 0 = some true := by
      intro z u x' y' hu hz hvz hz1 hs hI'
      have hv1 := hvz.1
      have u0 := hI'.1
      have u1 := hI'.2.1
      simp only [garnerlaw10_VersionChanges.j3]
      rw [if_pos trivial, unlock_eq hz (by omega), if_pos hvz, if_pos hz1, hu]
      simp only [Option.bind_some]
      rw [if_pos trivial, same_eq u0 (by omega) h1 (by omega), hm, ei]
      simp only [Option.bind_some]
      rw [if_pos (by omega), if_pos (by omega)]
      by_cases hm1 : m = 1
      · have hf : decide (u - u % 2 = v - v % 2) = false := by rw [decide_eq_false_iff_not, hs]; exact fun h => h.1 hm1
        rw [if_pos hm1, hf]
        exact ih k (i + 1) u x' y' (by omega) (by omega) (by omega) hI'
      · rw [if_neg hm1]
        have hf : (decide (u - u % 2 = v - v % 2) != (m != 2)) = false := by
          rw [bne_eq_false_iff_eq, Bool.eq_iff_iff, decide_eq_true_eq, bne_iff_ne, hs]
          exact ⟨fun h => h.2, fun h => ⟨hm1, h⟩⟩
        rw [hf]
        exact ih k (i + 1) u x' y' (by omega) (by omega) (by omega) hI'
    obtain ⟨_, _, h3, _, h5, h6, h7, h8, h9, h10⟩ := hI
    have wx : wrap64 (x + 1) = x + 1 := by unfold wrap64; omega
    have wy : wrap64 (y + 1) = y + 1 := by unfold wrap64; omega
    rw [hm]
    by_cases hm1 : m = 1
    · rw [if_pos hm1, insert_eq (by omega) (by omega), if_pos hv1, if_pos (by omega), wx]
      simp only [Option.bind_some, garnerlaw10_VersionChanges.j2]
      rw [if_pos (by omega), if_pos (by omega), hm, if_neg (by omega), show v + 1 + (1 - (v + 1) / 2 % 2) * 2 = v + 3 by omega]
      have eu : unl (v + 3) = cnt8 v := by
        unfold unl
        rw [if_neg (by omega), if_pos (by omega), show v + 3 - (v + 3) % 8 = v by omega]
      refine j3 _ _ _ _ eu (by omega) hv3 (by omega) ?_ ?_
      · unfold cnt8
        omega
      · unfold cnt8 Inv
        refine ⟨by omega, by omega, by omega, by omega, by omega, by omega, by omega, by omega, by omega, by omega⟩
    · rw [if_neg hm1]
      simp only [garnerlaw10_VersionChanges.j2]
      rw [if_pos (by omega), if_pos (by omega), hm]
      by_cases hm2 : m = 2
      · rw [if_pos hm2, split_eq (by omega) (by omega), if_pos hv1, if_pos (by omega), wy]
        simp only [Option.bind_some]
        rw [show v + 1 + (1 - (v + 1) / 4 % 2) * 4 = v + 5 by omega]
        have eu : unl (v + 5) = cnt24 v := by
          unfold unl
          rw [if_pos (by omega), show v + 5 - (v + 5) % 8 = v by omega]
        refine j3 _ _ _ _ eu (by omega) hv5 (by omega) ?_ ?_
        · unfold cnt24
          omega
        · unfold cnt24 Inv
          refine ⟨by omega, by omega, by omega, by omega, by omega, by omega, by omega, by omega, by omega, by omega⟩
      · rw [if_neg hm2]
        have eu : unl (v + 1) = v := by
          unfold unl
          rw [if_neg (by omega), if_neg (by omega)]
          omega
        refine j3 _ _ _ _ eu (by omega) hv1 (by omega) ?_ ?_
        · exact ⟨fun _ => ⟨hm1, hm2⟩, fun _ => rfl⟩
        · exact ⟨h1, h2, h3, h4, h5, by omega, h7, by omega, h9, h10⟩

theorem VersionChanges : garnerlaw10_VersionChanges.Pure := by
  intro a l ha hl1 hl2 hwf
  obtain ⟨a0, a1⟩ := u64_of_wf ha
  refine ⟨602, ?_⟩
  have jt : garnerlaw10_VersionChanges.j0 602 a l true = some true := by
    simp only [garnerlaw10_VersionChanges.j0]
    rw [if_pos trivial, known_eq]
    rfl
  unfold garnerlaw10_VersionChanges.f
  rw [may_eq a0 a1, bit_eq a0 a1 (by decide), bit_eq a0 a1 (by decide), bit_eq a0 a1 (by decide)]
  simp only [Option.bind_some, decide_eq_true_eq, Int.ediv_one, jt]
  by_cases hv : Ver a
  · rw [if_pos hv]
    by_cases h1 : a % 2 = 1
    · rw [if_pos h1]
    · rw [if_neg h1]
      by_cases h2 : a / 2 % 2 = 1
      · rw [if_pos h2]
      · rw [if_neg h2]
        by_cases h4 : a / 4 % 2 = 1
        · rw [if_pos h4]
        · rw [if_neg h4]
          by_cases hl : (l.length : Int) > 200
          · rw [decide_eq_true hl]
            exact jt
          · rw [decide_eq_false hl]
            simp only [garnerlaw10_VersionChanges.j0]
            rw [if_neg (by decide)]
            obtain ⟨v1, v2⟩ := hv
            exact l0_eq a0 v1 l (by omega) l.length 601 0 a 0 0 (by omega) (by omega) (by omega) ⟨a0, v1, by omega, by omega, by omega, by omega, by omega, by omega, by omega, by omega⟩
  · rw [if_neg hv]
end Go.Proofs.Ythkdeaeppadbhaa.Pure
