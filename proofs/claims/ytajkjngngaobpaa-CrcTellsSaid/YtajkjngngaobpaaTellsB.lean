/- The law CrcTells, plainly. -/
import Derived.Test.YtajkjngngaobpaaTellsA
import Derived.Test.YtajkjngngaobpaaHSx6
import Derived.Laws.BitsAllLaws
import Derived.Test.YtajkjngngaobpaaU64
namespace Go.Proofs.Ytajkjngngaobpaa.Pure
open Go.RowKit Go.Proofs.Ytajkjngngaobpaa.HS Go.Proofs.Ytajkjngngaobpaa Go.Proofs.YtajkjngngaobpaaW.PrintWords Go.Proofs.YtajkjngngaobpaaW.PrintLast Go.Proofs.YtajkjngngaobpaaW.PrintMore
set_option linter.unusedVariables false
/-! ### the law's loops, plainly -/
def tI (x : List Int) (p : Nat) : List Int := x.set (p / 8) (((x.getD (p / 8) 0).toNat ^^^ 2 ^ (p % 8) : Nat) : Int)
theorem tI_len (x : List Int) (p : Nat) : (tI x p).length = x.length := by unfold tI; simp
theorem nat_getD (x : List Int) (j : Nat) : (nat x).getD j 0 = (x.getD j 0).toNat := by
  unfold nat
  rw [List.getD_eq_getElem?_getD, List.getD_eq_getElem?_getD, List.getElem?_map]
  cases x[j]? <;> rfl
theorem nat_tI (x : List Int) (p : Nat) : nat (tI x p) = turn (nat x) p := by
  unfold turn
  rw [nat_getD]
  unfold tI nat
  rw [List.map_set]
  rfl
theorem byt_getD {x : List Int} (h : BytI x) (j : Nat) : 0 ≤ x.getD j 0 ∧ x.getD j 0 < 256 := by
  rw [List.getD_eq_getElem?_getD]
  cases hq : x[j]? with
  | none => simp
  | some v => exact h v (List.mem_of_getElem? hq)
theorem pow8 (p : Nat) : 2 ^ (p % 8) < 256 := by
  have h : (2 : Nat) ^ (p % 8) < 2 ^ 8 := Nat.pow_lt_pow_right (by decide) (Nat.mod_lt _ (by decide))
  exact h
theorem byt_tI {x : List Int} (h : BytI x) (p : Nat) : BytI (tI x p) := by
  intro v hv
  unfold tI at hv
  rcases List.mem_or_eq_of_mem_set hv with hv | rfl
  · exact h v hv
  · have := byt_getD h (p / 8)
    have h2 : (x.getD (p / 8) 0).toNat ^^^ 2 ^ (p % 8) < 256 := Nat.xor_lt_two_pow (n := 8) (by omega) (pow8 p)
    omega
theorem at_q (p : Nat) (hp : p < 1000000) : wrap64 (Int.tdiv (p : Int) 8) = ((p / 8 : Nat) : Int) := by
  rw [Int.tdiv_eq_ediv_of_nonneg (by omega)]; unfold wrap64; omega
theorem at_m (p : Nat) : Int.tmod (p : Int) 8 = ((p % 8 : Nat) : Int) := by
  rw [Int.tmod_eq_emod_of_nonneg (by omega)]; omega
theorem at_s (p : Nat) : shl .u8 1 ((p % 8 : Nat) : Int) = ((2 ^ (p % 8) : Nat) : Int) := by
  have : ∀ i : Fin 8, shl .u8 1 ((i.val : Nat) : Int) = ((2 ^ i.val : Nat) : Int) := by decide +kernel
  exact this ⟨p % 8, Nat.mod_lt _ (by decide)⟩
/-- What the law's store makes of a row. -/
theorem at_set {x : List Int} (h : BytI x) (p : Nat) (hp : p < 1000000) : x.set (wrap64 (Int.tdiv (p : Int) 8)).toNat (Go.bits .xor .u8 (rd x (wrap64 (Int.tdiv (p : Int) 8))) (shl .u8 1 (Int.tmod (p : Int) 8))) = tI x p := by
  rw [at_q p hp, at_m, at_s]
  have hb := byt_getD h (p / 8)
  have e : rd x ((p / 8 : Nat) : Int) = (((x.getD (p / 8) 0).toNat : Nat) : Int) := by
    unfold rd
    rw [Int.toNat_natCast]
    omega
  rw [e, u8_xor_nat _ _ (by omega) (pow8 p), Int.toNat_natCast]
  rfl
/-- The place that a number names. -/
def pos (n : Nat) (a : Int) : Nat := (Int.tmod a (8 * (n : Int))).natAbs
theorem pos_lt (n : Nat) (hn : 0 < n) (a : Int) : pos n a < 8 * n := by
  unfold pos
  have h := Int.natAbs_tmod a (8 * (n : Int))
  rw [h]
  have : (8 * (n : Int)).natAbs = 8 * n := by omega
  rw [this]
  exact Nat.mod_lt _ (by omega)
theorem w8 (n : Nat) (h : n ≤ 65536) : wrap64 (8 * (n : Int)) = 8 * (n : Int) := by unfold wrap64; omega
theorem pos_cases (n : Nat) (hn : 0 < n) (h : n ≤ 65536) (a : Int) : (Int.tmod a (8 * (n : Int)) < 0 ∧ wrap64 (-(Int.tmod a (8 * (n : Int)))) = (pos n a : Int)) ∨ (¬ Int.tmod a (8 * (n : Int)) < 0 ∧ Int.tmod a (8 * (n : Int)) = (pos n a : Int)) := by
  have h1 := pos_lt n hn a
  have h2 : (pos n a : Int) = ((Int.tmod a (8 * (n : Int))).natAbs : Int) := rfl
  by_cases h0 : Int.tmod a (8 * (n : Int)) < 0
  · exact Or.inl ⟨h0, by unfold wrap64; omega⟩
  · exact Or.inr ⟨h0, by omega⟩
theorem flip_round {b x : List Int} (c : List Int) (a0 : Int) (av : Int → Int) (u : Int) (k i : Nat) (hi : i < 3) (h0 : 0 < b.length) (hb : b.length ≤ 65536) (hx : x.length = b.length) (h : BytI x) :
    garnerlaw02_CrcTells.l0 (k + 1) b c a0 av u x (i : Int) = garnerlaw02_CrcTells.l0 k b c a0 av u (tI x (pos b.length (av i))) ((i + 1 : Nat) : Int) := by
  have hp := pos_lt b.length h0 (av i)
  have hp2 : pos b.length (av i) < 1000000 := by omega
  have hw : wrap64 ((i : Int) + 1) = ((i + 1 : Nat) : Int) := by unfold wrap64; omega
  have hq := at_q _ hp2
  have hs := at_set h _ hp2
  have hm := at_m (pos b.length (av i))
  rw [garnerlaw02_CrcTells.l0, if_pos (by omega), if_pos (by omega), w8 _ hb, if_neg (by omega), hw]
  rcases pos_cases b.length h0 hb (av i) with ⟨c1, c2⟩ | ⟨c1, c2⟩
  · rw [if_pos c1, c2, hs, if_pos (by rw [hq]; omega), if_pos (by rw [hq, hx]; omega), if_pos (by rw [hm]; omega)]
  · rw [if_neg c1, c2, hs, if_pos (by rw [hq]; omega), if_pos (by rw [hq, hx]; omega), if_pos (by rw [hm]; omega)]
/-! bursts -/
def bI (x : List Int) (k u : Nat) : Nat → List Int
  | 0 => x
  | i + 1 => if u / 2 ^ i % 2 = 1 then tI (bI x k u i) (k + i) else bI x k u i
theorem bI_facts {x : List Int} (h : BytI x) (k u : Nat) : ∀ i, (bI x k u i).length = x.length ∧ BytI (bI x k u i) ∧ nat (bI x k u i) = burst (nat x) k u i
  | 0 => ⟨rfl, h, rfl⟩
  | i + 1 => by
    obtain ⟨h1, h2, h3⟩ := bI_facts h k u i
    rw [bI, burst]
    by_cases g : u / 2 ^ i % 2 = 1
    · rw [if_pos g, if_pos g]
      exact ⟨by rw [tI_len, h1], byt_tI h2 _, by rw [nat_tI, h3]⟩
    · rw [if_neg g, if_neg g]
      exact ⟨h1, h2, h3⟩
theorem shr_nat (u i : Nat) (hi : i < 32) : Int.tmod (shr .u32 (u : Int) (i : Int)) 2 = ((u / 2 ^ i % 2 : Nat) : Int) := by
  unfold shr
  rw [Int.toNat_natCast, show min i IntKind.u32.bits = i from Nat.min_eq_left (by show i ≤ 32; omega)]
  have e : (u : Int) / 2 ^ i = ((u / 2 ^ i : Nat) : Int) := by rw [Int.natCast_ediv]; simp
  rw [e]
  generalize u / 2 ^ i = q
  rw [Int.tmod_eq_emod_of_nonneg (by omega)]
  omega
theorem burst_round {b : List Int} (c x9 x0 : List Int) (p u : Nat) (k i : Nat) (hi : i < 32) (hpi : p + i < 8 * b.length) (hb : b.length ≤ 65536) (hx : x0.length = b.length) (h : BytI x0) :
    garnerlaw02_CrcTells.l1 (k + 2) b c (u : Int) x9 (bI x0 p u i) (p : Int) (i : Int) = garnerlaw02_CrcTells.l1 k b c (u : Int) x9 (bI x0 p u (i + 1)) (p : Int) ((i + 1 : Nat) : Int) := by
  obtain ⟨f1, f2, _⟩ := bI_facts h p u i
  have hw : wrap64 ((i : Int) + 1) = ((i + 1 : Nat) : Int) := by unfold wrap64; omega
  have hs : wrap64 ((p : Int) + (i : Int)) = ((p + i : Nat) : Int) := by unfold wrap64; omega
  have hq := at_q (p + i) (by omega)
  have hm := at_m (p + i)
  have ht := at_set f2 (p + i) (by omega)
  rw [garnerlaw02_CrcTells.l1, if_pos (by omega), hs, w8 _ hb, decide_eq_true (by omega), garnerlaw02_CrcTells.j5, if_pos rfl, if_pos (by omega), shr_nat u i hi, hs, hw, bI]
  by_cases g : u / 2 ^ i % 2 = 1
  · rw [if_pos (by omega), ht, if_pos (by rw [hq]; omega), if_pos (by rw [hq, f1, hx]; omega), if_pos (by rw [hm]; omega), if_pos g]
  · rw [if_neg (by omega), if_neg g]
theorem burst_loop {b : List Int} (c x9 x0 : List Int) (p u n : Nat) (hn : n ≤ 32) (hpn : p + n ≤ 8 * b.length) (hb : b.length ≤ 65536) (hx : x0.length = b.length) (h : BytI x0) (K : Nat) : ∀ d i : Nat, i + d = n → garnerlaw02_CrcTells.l1 (K + 2 * d) b c (u : Int) x9 (bI x0 p u i) (p : Int) (i : Int) = garnerlaw02_CrcTells.l1 K b c (u : Int) x9 (bI x0 p u n) (p : Int) (n : Int) := by
  intro d
  induction d with
  | zero => intro i hi; rw [show i = n by omega]; rfl
  | succ d ih =>
    intro i hi
    rw [show K + 2 * (d + 1) = (K + 2 * d) + 2 by omega, burst_round c x9 x0 p u (K + 2 * d) i (by omega) (by omega) hb hx h]
    exact ih (i + 1) (by omega)
/-! the third text, and the fourth -/
theorem third_loop {b c : List Int} (x9 : List Int) (hb : b.length ≤ 65536) (hc : BytI c) (K : Nat) : ∀ (d i : Nat) (x : List Int), i + d = b.length → x.length = b.length → BytI x → ∃ z : List Int, z.length = b.length ∧ BytI z ∧ garnerlaw02_CrcTells.l2 (K + d) b c x9 x (i : Int) = garnerlaw02_CrcTells.l2 K b c x9 z (b.length : Int) := by
  intro d
  induction d with
  | zero => intro i x hi hx h; exact ⟨x, hx, h, by rw [show i = b.length by omega]; rfl⟩
  | succ d ih =>
    intro i x hi hx h
    have hw : wrap64 ((i : Int) + 1) = ((i + 1 : Nat) : Int) := by unfold wrap64; omega
    rw [show K + (d + 1) = (K + d) + 1 by omega, garnerlaw02_CrcTells.l2, if_pos (by omega), hw]
    by_cases g : (i : Int) < (c.length : Int)
    · rw [if_pos g, if_pos (by omega), if_pos (by omega)]
      refine ih (i + 1) _ (by omega) (by simpa using hx) ?_
      intro v hv
      rcases List.mem_or_eq_of_mem_set hv with hv | rfl
      · exact h v hv
      · unfold rd; exact byt_getD hc _
    · rw [if_neg g]
      exact ih (i + 1) x (by omega) hx h
def x3 (b x z : List Int) (j : Nat) : Int := (((b.getD j 0).toNat ^^^ (x.getD j 0).toNat ^^^ (z.getD j 0).toNat : Nat) : Int)
theorem fourth_loop {b x z : List Int} (hb : b.length ≤ 65536) (hx : x.length = b.length) (hz : z.length = b.length) (bb : BytI b) (bx : BytI x) (bz : BytI z) (K : Nat) : ∀ (d i : Nat) (w : List Int), i + d = b.length → w.length = b.length → (∀ j, j < i → w.getD j 0 = x3 b x z j) → ∃ w' : List Int, w'.length = b.length ∧ (∀ j, j < b.length → w'.getD j 0 = x3 b x z j) ∧ garnerlaw02_CrcTells.l3 (K + d) b x z w (i : Int) = garnerlaw02_CrcTells.l3 K b x z w' (b.length : Int) := by
  intro d
  induction d with
  | zero => intro i w hi hw h; exact ⟨w, hw, fun j hj => h j (by omega), by rw [show i = b.length by omega]; rfl⟩
  | succ d ih =>
    intro i w hi hw h
    have hw1 : wrap64 ((i : Int) + 1) = ((i + 1 : Nat) : Int) := by unfold wrap64; omega
    have b1 := byt_getD bb i
    have b2 := byt_getD bx i
    have b3 := byt_getD bz i
    have e : ∀ l : List Int, BytI l → rd l (i : Int) = (((l.getD i 0).toNat : Nat) : Int) := fun l hl => by
      have := byt_getD hl i
      unfold rd
      rw [Int.toNat_natCast]
      omega
    have ev : Go.bits .xor .u8 (Go.bits .xor .u8 (rd b (i : Int)) (rd x (i : Int))) (rd z (i : Int)) = x3 b x z i := by
      rw [e b bb, e x bx, e z bz, u8_xor_nat _ _ (by omega) (by omega), u8_xor_nat _ _ (Nat.xor_lt_two_pow (n := 8) (by omega) (by omega)) (by omega)]
      rfl
    rw [show K + (d + 1) = (K + d) + 1 by omega, garnerlaw02_CrcTells.l3, if_pos (by omega), if_pos (by omega), if_pos (by omega), if_pos (by omega), if_pos (by omega), hw1, ev, Int.toNat_natCast]
    refine ih (i + 1) _ (by omega) (by simpa using hw) fun j hj => ?_
    rw [List.getD_eq_getElem?_getD, List.getElem?_set]
    by_cases g : i = j
    · subst g
      rw [if_pos rfl, if_pos (by omega)]
      rfl
    · rw [if_neg g, ← List.getD_eq_getElem?_getD]
      exact h j (by omega)
theorem zx_len : ∀ (x y z : List Nat), x.length = y.length → x.length = z.length → (zx x y z).length = x.length
  | [], [], [], _, _ => rfl
  | a :: x, b :: y, c :: z, h1, h2 => by show (zx x y z).length + 1 = x.length + 1; rw [zx_len x y z (by simpa using h1) (by simpa using h2)]
  | [], [], c :: z, _, h => by simp at h
  | [], b :: y, _, h, _ => by simp at h
  | a :: x, [], _, h, _ => by simp at h
  | a :: x, b :: y, [], _, h => by simp at h
theorem zx_at : ∀ (x y z : List Nat) (j : Nat), x.length = y.length → x.length = z.length → j < x.length → (zx x y z).getD j 0 = x.getD j 0 ^^^ y.getD j 0 ^^^ z.getD j 0
  | a :: x, b :: y, c :: z, 0, _, _, _ => rfl
  | a :: x, b :: y, c :: z, j + 1, h1, h2, h3 => by
    have := zx_at x y z j (by simpa using h1) (by simpa using h2) (by simpa using h3)
    simpa [zx] using this
  | [], _, _, j, _, _, h => by simp at h
  | a :: x, [], _, _, h, _, _ => by simp at h
  | a :: x, b :: y, [], _, _, h, _ => by simp at h
theorem zx_is {b x z w : List Int} (hx : x.length = b.length) (hz : z.length = b.length) (hw : w.length = b.length) (h : ∀ j, j < b.length → w.getD j 0 = x3 b x z j) : nat w = zx (nat b) (nat x) (nat z) := by
  have l1 : (nat b).length = (nat x).length := by simp [nat, hx]
  have l2 : (nat b).length = (nat z).length := by simp [nat, hz]
  apply List.ext_getElem?
  intro j
  by_cases hj : j < b.length
  · have e1 : j < (nat w).length := by simp [nat, hw, hj]
    have e2 : j < (zx (nat b) (nat x) (nat z)).length := by rw [zx_len _ _ _ l1 l2]; simp [nat, hj]
    have g1 := nat_getD w j
    rw [h j hj] at g1
    have g2 := zx_at (nat b) (nat x) (nat z) j l1 l2 (by simp [nat, hj])
    rw [nat_getD, nat_getD, nat_getD] at g2
    rw [List.getD_eq_getElem?_getD, List.getElem?_eq_getElem e1] at g1
    rw [List.getD_eq_getElem?_getD, List.getElem?_eq_getElem e2] at g2
    rw [List.getElem?_eq_getElem e1, List.getElem?_eq_getElem e2]
    simp only [Option.getD_some] at g1 g2
    rw [g1, g2]
    unfold x3
    rw [Int.toNat_natCast]
  · rw [List.getElem?_eq_none (by simp [nat, hw]; omega), List.getElem?_eq_none (by rw [zx_len _ _ _ l1 l2]; simp [nat]; omega)]
theorem n32_inj {a b : Nat} (h : n32 a = n32 b) : a = b := by rw [← n32_n32 a, h, n32_n32]
theorem byt_w {b x z w : List Int} (bb : BytI b) (bx : BytI x) (bz : BytI z) (hw : w.length = b.length) (h : ∀ j, j < b.length → w.getD j 0 = x3 b x z j) : BytI w := by
  intro v hv
  obtain ⟨j, hj, rfl⟩ := List.getElem_of_mem hv
  have h1 := h j (by omega)
  rw [List.getD_eq_getElem?_getD, List.getElem?_eq_getElem hj] at h1
  have h2 : w[j] = x3 b x z j := h1
  rw [h2]
  unfold x3
  have b1 := byt_getD bb j
  have b2 := byt_getD bx j
  have b3 := byt_getD bz j
  have := Nat.xor_lt_two_pow (n := 8) (Nat.xor_lt_two_pow (n := 8) (show (b.getD j 0).toNat < 2 ^ 8 by omega) (show (x.getD j 0).toNat < 2 ^ 8 by omega)) (show (z.getD j 0).toNat < 2 ^ 8 by omega)
  omega
theorem rep_byt (n : Nat) : BytI (List.replicate n 0) := fun v hv => by rw [List.eq_of_mem_replicate hv]; decide
/-- The last quarter. -/
theorem tells_last {b x : List Int} (c : List Int) (h0 : 0 < b.length) (hb : b.length ≤ 65536) (hx : x.length = b.length) (bb : BytI b) (bx : BytI x) (bc : BytI c) (K : Nat) : garnerlaw02_CrcTells.j6 (K + 10 + b.length + b.length) b c x false = some true := by
  obtain ⟨z, z1, z2, z3⟩ : ∃ z : List Int, z.length = b.length ∧ BytI z ∧ garnerlaw02_CrcTells.l2 (K + 9 + b.length + b.length) b c x (List.replicate b.length 0) 0 = garnerlaw02_CrcTells.l2 (K + 9 + b.length) b c x z (b.length : Int) := third_loop x hb bc (K + 9 + b.length) b.length 0 (List.replicate b.length 0) (by omega) (by simp) (rep_byt _)
  obtain ⟨w, w1, w2, w3⟩ : ∃ w : List Int, w.length = b.length ∧ (∀ j, j < b.length → w.getD j 0 = x3 b x z j) ∧ garnerlaw02_CrcTells.l3 (K + 8 + b.length) b x z (List.replicate b.length 0) 0 = garnerlaw02_CrcTells.l3 (K + 8) b x z w (b.length : Int) := fourth_loop hb hx z1 bb bx z2 (K + 8) b.length 0 (List.replicate b.length 0) (by omega) (by simp) (fun j hj => by omega)
  have bw := byt_w bb bx z2 w1 w2
  have hC : (4294967295 : Nat) = C32 := rfl
  have hCl : C32 < 4294967296 := by unfold C32; omega
  rw [show K + 10 + b.length + b.length = (K + 9 + b.length + b.length) + 1 by omega, garnerlaw02_CrcTells.j6, if_neg (by decide), if_pos (by omega), if_pos (by rw [Int.toNat_natCast]; omega), Int.toNat_natCast]
  rw [z3, show K + 9 + b.length = (K + 8 + b.length) + 1 by omega, garnerlaw02_CrcTells.l2, if_neg (by omega), if_pos (by omega), if_pos (by rw [Int.toNat_natCast]; omega), Int.toNat_natCast]
  rw [w3, show K + 8 = (K + 7) + 1 by omega, garnerlaw02_CrcTells.l3, if_neg (by omega), sum_one bb 5 (by omega), Option.bind_some, sum_one bx 5 (by omega), Option.bind_some, sum_one z2 5 (by omega), Option.bind_some, sum_one bw 5 (by omega), Option.bind_some]
  have lt : ∀ {l : List Int}, BytI l → n32 (rn (nat l) C32) < 4294967296 := fun hl => n32_lt (rn_lt _ hCl (nat_lt hl))
  rw [hC, xor_i _ _ (lt bb) (lt bx), xor_i _ _ (Nat.xor_lt_two_pow (n := 32) (lt bb) (lt bx)) (lt z2), sums_linear _ _ _ (by simp [nat, hx]) (by simp [nat, z1]), zx_is hx z1 w1 w2, if_pos rfl, known_all (K + 7) (by omega)]
  rfl
theorem tells_burst {b x : List Int} (c : List Int) (a0 : Int) (u : Nat) (h0 : 0 < b.length) (hb : b.length ≤ 65536) (hx : x.length = b.length) (bb : BytI b) (bx : BytI x) (bc : BytI c) (K : Nat) : garnerlaw02_CrcTells.j2 (K + 100 + b.length + b.length) b c a0 (u : Int) x false = some true := by
  have hp := pos_lt b.length h0 a0
  obtain ⟨n, hn⟩ : ∃ n, n = min 32 (8 * b.length - pos b.length a0) := ⟨_, rfl⟩
  have hn32 : n ≤ 32 := by omega
  have hpn : pos b.length a0 + n ≤ 8 * b.length := by omega
  obtain ⟨f1, f2, f3⟩ := bI_facts bb (pos b.length a0) u n
  have last := tells_last c h0 hb hx bb bx bc
  have hj6 : ∀ K', garnerlaw02_CrcTells.j5 (K' + 11 + b.length + b.length) b c (u : Int) x (bI b (pos b.length a0) u n) (pos b.length a0 : Int) (n : Int) false = some true := by
    intro K'
    rw [show K' + 11 + b.length + b.length = (K' + 10 + b.length + b.length) + 1 by omega, garnerlaw02_CrcTells.j5, if_neg (by decide)]
    by_cases g : (strOfNums (bI b (pos b.length a0) u n)).toList = (strOfNums b).toList
    · rw [if_pos g]; exact last K'
    · rw [if_neg g, sum_one f2 5 (by omega), Option.bind_some, sum_one bb 5 (by omega), Option.bind_some]
      have hne : ((n32 (rn (nat (bI b (pos b.length a0) u n)) 4294967295) : Nat) : Int) ≠ ((n32 (rn (nat b) 4294967295) : Nat) : Int) := by
        intro he
        have he2 := n32_inj (Int.ofNat_inj.1 he)
        rw [f3] at he2
        rcases burst_tell (nat b) (nat_lt bb) (pos b.length a0) u n (by simpa [nat] using hpn) hn32 with h1 | h1
        · apply g
          have hq : bI b (pos b.length a0) u n = b := by
            rw [← f3] at h1
            apply List.ext_getElem?
            intro j
            have h2 := congrArg (fun l => l[j]?) h1
            simp only [nat, List.getElem?_map] at h2
            cases hc1 : (bI b (pos b.length a0) u n)[j]? with
            | none => rw [hc1] at h2; cases hc2 : b[j]? with
              | none => rfl
              | some v => rw [hc2] at h2; cases h2
            | some v => rw [hc1] at h2; cases hc2 : b[j]? with
              | none => rw [hc2] at h2; cases h2
              | some v' =>
                rw [hc2] at h2
                have e1 := f2 v (List.mem_of_getElem? hc1)
                have e2 := bb v' (List.mem_of_getElem? hc2)
                have e3 : v.toNat = v'.toNat := Option.some.inj h2
                rw [show v = v' by omega]
          rw [hq]
        · exact h1 he2
      rw [beq_eq_false_iff_ne.mpr hne]
      exact last K'
  have hl1 : ∀ K', garnerlaw02_CrcTells.l1 (K' + 12 + b.length + b.length) b c (u : Int) x (bI b (pos b.length a0) u n) (pos b.length a0 : Int) (n : Int) = some true := by
    intro K'
    rw [show K' + 12 + b.length + b.length = (K' + 11 + b.length + b.length) + 1 by omega, garnerlaw02_CrcTells.l1]
    by_cases g : (n : Int) < 32
    · rw [if_pos g, w8 _ hb, show wrap64 ((pos b.length a0 : Int) + (n : Int)) = ((pos b.length a0 + n : Nat) : Int) by unfold wrap64; omega, decide_eq_false (by omega)]
      exact hj6 K'
    · rw [if_neg g]
      exact hj6 K'
  have hl := burst_loop c x b (pos b.length a0) u n hn32 hpn hb rfl bb (K + 98 - 2 * n + b.length + b.length) n 0 (by omega)
  rw [show (K + 98 - 2 * n + b.length + b.length) + 2 * n = K + 98 + b.length + b.length by omega, show K + 98 - 2 * n + b.length + b.length = (K + 86 - 2 * n) + 12 + b.length + b.length by omega, hl1] at hl
  have hl2 : garnerlaw02_CrcTells.l1 (K + 98 + b.length + b.length) b c (u : Int) x b (pos b.length a0 : Int) 0 = some true := hl
  rw [show K + 100 + b.length + b.length = (K + 98 + b.length + b.length) + 1 + 1 by omega, garnerlaw02_CrcTells.j2, if_neg (by decide), Option.bind_some, if_pos (by simp; omega), Option.bind_some, w8 _ hb, if_neg (by omega), List.nil_append]
  rcases pos_cases b.length h0 hb a0 with ⟨c1, c2⟩ | ⟨c1, c2⟩
  · rw [if_pos c1, c2, garnerlaw02_CrcTells.j3]; exact hl2
  · rw [if_neg c1, c2, garnerlaw02_CrcTells.j3]; exact hl2
theorem CrcTells (b c : List Int) (a0 : Int) (av : Int → Int) (u : Int) (bb : BytI b) (bc : BytI c) (u0 : 0 ≤ u) : ∃ k, garnerlaw02_CrcTells.f k b c a0 av u = some true := by
  obtain ⟨u, rfl⟩ := Int.eq_ofNat_of_zero_le u0
  refine ⟨200 + b.length + b.length, ?_⟩
  have hknown : ∀ k, 5 ≤ k → ((garnerlaw02_known.f k).bind fun t => (some t)) = some true := fun k hk => by rw [known_all k hk]; rfl
  by_cases c1 : (b.length : Int) = 0
  · unfold garnerlaw02_CrcTells.f
    rw [if_pos c1, show 200 + b.length + b.length = (199 + b.length + b.length) + 1 by omega, garnerlaw02_CrcTells.j0, if_pos rfl, hknown _ (by omega)]
  by_cases c2 : (b.length : Int) > 65536
  · unfold garnerlaw02_CrcTells.f
    rw [if_neg c1, decide_eq_true c2, show 200 + b.length + b.length = (199 + b.length + b.length) + 1 by omega, garnerlaw02_CrcTells.j0, if_pos rfl, hknown _ (by omega)]
  have h0 : 0 < b.length := by omega
  have hb : b.length ≤ 65536 := by omega
  have p0 := pos_lt b.length h0 (av 0)
  have p1 := pos_lt b.length h0 (av 1)
  have p2 := pos_lt b.length h0 (av 2)
  have r0 := flip_round c a0 av u (198 + b.length + b.length) 0 (by omega) h0 hb rfl bb
  have t1 := byt_tI bb (pos b.length (av (0 : Nat)))
  have r1 := flip_round c a0 av u (197 + b.length + b.length) 1 (by omega) h0 hb (by rw [tI_len]) t1
  have t2 := byt_tI t1 (pos b.length (av (1 : Nat)))
  have r2 := flip_round c a0 av u (196 + b.length + b.length) 2 (by omega) h0 hb (by rw [tI_len, tI_len]) t2
  have t3 := byt_tI t2 (pos b.length (av (2 : Nat)))
  have e3 : nat (tI (tI (tI b (pos b.length (av (0 : Nat)))) (pos b.length (av (1 : Nat)))) (pos b.length (av (2 : Nat)))) = turn (turn (turn (nat b) (pos b.length (av 0))) (pos b.length (av 1))) (pos b.length (av 2)) := by rw [nat_tI, nat_tI, nat_tI]; rfl
  have nb : (nat b).length = b.length := by simp [nat]
  have tell := three_tell (nat b) (nat_lt bb) (pos b.length (av 0)) (pos b.length (av 1)) (pos b.length (av 2)) (by rw [nb]; exact p0) (by rw [nb]; exact p1) (by rw [nb]; exact p2)
  rw [← e3] at tell
  have lx : (tI (tI (tI b (pos b.length (av (0 : Nat)))) (pos b.length (av (1 : Nat)))) (pos b.length (av (2 : Nat)))).length = b.length := by rw [tI_len, tI_len, tI_len]
  have hj2 := tells_burst c a0 u h0 hb lx bb t3 bc 95
  have hend : garnerlaw02_CrcTells.l0 (196 + b.length + b.length) b c a0 av u (tI (tI (tI b (pos b.length (av (0 : Nat)))) (pos b.length (av (1 : Nat)))) (pos b.length (av (2 : Nat)))) ((2 + 1 : Nat) : Int) = some true := by
    rw [show 196 + b.length + b.length = (95 + 100 + b.length + b.length) + 1 by omega, garnerlaw02_CrcTells.l0, if_neg (by decide)]
    by_cases g : (strOfNums (tI (tI (tI b (pos b.length (av (0 : Nat)))) (pos b.length (av (1 : Nat)))) (pos b.length (av (2 : Nat))))).toList = (strOfNums b).toList
    · rw [if_pos g]; exact hj2
    · rw [if_neg g, sum_one t3 5 (by omega), Option.bind_some, sum_one bb 5 (by omega), Option.bind_some]
      have hne : ((n32 (rn (nat (tI (tI (tI b (pos b.length (av (0 : Nat)))) (pos b.length (av (1 : Nat)))) (pos b.length (av (2 : Nat))))) 4294967295) : Nat) : Int) ≠ ((n32 (rn (nat b) 4294967295) : Nat) : Int) := fun he => tell (n32_inj (Int.ofNat_inj.1 he))
      rw [beq_eq_false_iff_ne.mpr hne]
      exact hj2
  have r0' : garnerlaw02_CrcTells.l0 (199 + b.length + b.length) b c a0 av u b 0 = some true := by
    have e1 : garnerlaw02_CrcTells.l0 (199 + b.length + b.length) b c a0 av u b 0 = garnerlaw02_CrcTells.l0 (198 + b.length + b.length + 1) b c a0 av u b ((0 : Nat) : Int) := by rw [show 199 + b.length + b.length = 198 + b.length + b.length + 1 by omega]; rfl
    rw [e1, r0, show 198 + b.length + b.length = 197 + b.length + b.length + 1 by omega]
    rw [r1, show 197 + b.length + b.length = 196 + b.length + b.length + 1 by omega, r2]
    exact hend
  unfold garnerlaw02_CrcTells.f
  rw [if_neg c1, decide_eq_false c2, show 200 + b.length + b.length = (199 + b.length + b.length) + 1 by omega, garnerlaw02_CrcTells.j0, if_neg (by decide), Option.bind_some, if_pos (by simp; omega), List.nil_append]
  exact r0'
end Go.Proofs.Ytajkjngngaobpaa.Pure
