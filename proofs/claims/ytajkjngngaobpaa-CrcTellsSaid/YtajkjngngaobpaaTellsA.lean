/- Bits turned, and sums: plainly. -/
import Derived.Test.YtajkjngngaobpaaPureCrcParts
import Derived.Test.YtajkjngngaobpaaU64
namespace Go.Proofs.Ytajkjngngaobpaa.Pure
open Go.RowKit Go.Proofs.Ytajkjngngaobpaa.HS Go.Proofs.Ytajkjngngaobpaa Go.Proofs.YtajkjngngaobpaaW.PrintWords Go.Proofs.YtajkjngngaobpaaW.PrintLast Go.Proofs.YtajkjngngaobpaaW.PrintMore
set_option linter.unusedVariables false
/-! ### the bits' sum of a word: steps keep it -/
theorem xor4 (p q r s : Nat) : (p ^^^ q) ^^^ (r ^^^ s) = (p ^^^ r) ^^^ (q ^^^ s) := by
  rw [Nat.xor_assoc, ← Nat.xor_assoc q r s, Nat.xor_comm q r, Nat.xor_assoc r q s, ← Nat.xor_assoc p r]
theorem bit_x (a b : Nat) : (a ^^^ b) % 2 = a % 2 ^^^ b % 2 := by
  rw [U64.xor_mod_two]
  rcases Nat.mod_two_eq_zero_or_one a with ha | ha <;> rcases Nat.mod_two_eq_zero_or_one b with hb | hb <;> rw [ha, hb]
  · rw [show (a + b) % 2 = 0 by omega]; rfl
  · rw [show (a + b) % 2 = 1 by omega]; rfl
  · rw [show (a + b) % 2 = 1 by omega]; rfl
  · rw [show (a + b) % 2 = 0 by omega]; rfl
theorem thr1_xor (a b : Nat) : ∀ i, thr (fun _ => 1) (a ^^^ b) i = thr (fun _ => 1) a i ^^^ thr (fun _ => 1) b i
  | 0 => by simp [thr]
  | i + 1 => by
    show thr _ (a ^^^ b) i ^^^ 1 * ((a ^^^ b) / 2 ^ i % 2) = (thr _ a i ^^^ 1 * (a / 2 ^ i % 2)) ^^^ (thr _ b i ^^^ 1 * (b / 2 ^ i % 2))
    rw [thr1_xor a b i, U64.xor_div, bit_x, Nat.one_mul, Nat.one_mul, Nat.one_mul, xor4]
def par (s : Nat) : Nat := thr (fun _ => 1) s 32
theorem par_xor (a b : Nat) : par (a ^^^ b) = par a ^^^ par b := thr1_xor a b 32
theorem par_h1 (s : Nat) (hs : s < 4294967296) : par (h1 s) = par s := by
  have h := thr_eq (fun x => par (h1 x)) (by decide +kernel) (fun a b => by rw [h1_xor, par_xor]) (fun _ => 1) 32 (fun i hi => by
    have : ∀ i : Fin 32, (1 : Nat) = par (h1 (2 ^ i.val)) := by decide +kernel
    exact this ⟨i, hi⟩) s 32 (Nat.le_refl _)
  rw [show s % 2 ^ 32 = s from Nat.mod_eq_of_lt (by omega)] at h
  exact h.symm
theorem par_hn : ∀ (n s : Nat), s < 4294967296 → par (hn n s) = par s
  | 0, _, _ => rfl
  | n + 1, s, h => by
    show par (h1 (hn n s)) = _
    rw [par_h1 _ (hn_lt n h), par_hn n s h]
def parL : List Nat → Nat
  | [] => 0
  | c :: l => par c ^^^ parL l
theorem par_rn : ∀ (l : List Nat) (s : Nat), s < 4294967296 → (∀ c ∈ l, c < 256) → par (rn l s) = par s ^^^ parL l
  | [], s, _, _ => by show par s = par s ^^^ 0; rw [Nat.xor_zero]
  | c :: l, s, hs, hl => by
    have hc := hl c (by simp)
    have hx : s ^^^ c < 4294967296 := Nat.xor_lt_two_pow (n := 32) hs (by omega)
    show par (rn l (hn 8 (s ^^^ c))) = _
    rw [par_rn l _ (hn_lt 8 hx) (fun c hc => hl c (by simp [hc])), par_hn 8 _ hx, par_xor, Nat.xor_assoc]
    rfl
theorem parL_set : ∀ (l : List Nat) (j : Nat) (hj : j < l.length) (t : Nat), parL (l.set j (l[j] ^^^ t)) = parL l ^^^ par t
  | [], j, hj, _ => by simp at hj
  | c :: l, 0, _, t => by
    show par (c ^^^ t) ^^^ parL l = (par c ^^^ parL l) ^^^ par t
    rw [par_xor, Nat.xor_assoc, Nat.xor_comm (par t), ← Nat.xor_assoc]
  | c :: l, j + 1, hj, t => by
    have hj2 : j < l.length := by simpa using hj
    show par c ^^^ parL (l.set j (l[j] ^^^ t)) = (par c ^^^ parL l) ^^^ par t
    rw [parL_set l j (by simpa using hj) t, Nat.xor_assoc]
theorem par_pow (m : Nat) (hm : m < 8) : par (2 ^ m) = 1 := by
  have : ∀ i : Fin 8, par (2 ^ i.val) = 1 := by decide +kernel
  exact this ⟨m, hm⟩
theorem par_bit (s : Nat) : par s = 0 ∨ par s = 1 := by
  have : ∀ i, thr (fun _ => 1) s i = 0 ∨ thr (fun _ => 1) s i = 1 := by
    intro i
    induction i with
    | zero => exact Or.inl rfl
    | succ i ih =>
      show thr _ s i ^^^ 1 * (s / 2 ^ i % 2) = 0 ∨ thr _ s i ^^^ 1 * (s / 2 ^ i % 2) = 1
      rcases ih with h | h <;> rcases Nat.mod_two_eq_zero_or_one (s / 2 ^ i) with g | g <;> rw [h, g]
      · exact Or.inl rfl
      · exact Or.inr rfl
      · exact Or.inr rfl
      · exact Or.inl rfl
  exact this 32
/-! ### a text as one number, its lowest bit first -/
def V : List Nat → Nat
  | [] => 0
  | c :: l => c + 256 * V l
theorem cat8 (c q : Nat) (hc : c < 256) : c + 256 * q = c ^^^ 256 * q := by
  have h := low_xor 8 (c + 256 * q)
  rw [show (2 : Nat) ^ 8 = 256 by decide, show (c + 256 * q) / 256 = q by omega, show (c + 256 * q) % 256 = c by omega] at h
  rw [← h, Nat.xor_comm]
theorem mul_xor (i a b : Nat) : 2 ^ i * (a ^^^ b) = 2 ^ i * a ^^^ 2 ^ i * b := by
  have h := Nat.shiftLeft_xor_distrib (a := a) (b := b) (i := i)
  simp only [Nat.shiftLeft_eq] at h
  rw [Nat.mul_comm, h, Nat.mul_comm a, Nat.mul_comm b]
theorem rn_V : ∀ (l : List Nat) (s : Nat), (∀ c ∈ l, c < 256) → rn l s = hn (8 * l.length) (V l ^^^ s)
  | [], s, _ => by show s = 0 ^^^ s; rw [Nat.zero_xor]
  | c :: l, s, hl => by
    have hc := hl c (by simp)
    show rn l (hn 8 (s ^^^ c)) = hn (8 * (l.length + 1)) ((c + 256 * V l) ^^^ s)
    rw [rn_V l _ (fun c hc => hl c (by simp [hc])), show 8 * (l.length + 1) = 8 * l.length + 8 by omega, hn_add, cat8 c _ hc, Nat.xor_assoc, Nat.xor_comm (256 * V l) s, ← Nat.xor_assoc, hn_xor 8 (c ^^^ s), show 256 * V l = 2 ^ 8 * V l from rfl, hn_up, Nat.xor_comm c s, Nat.xor_comm (V l)]
theorem V_set : ∀ (l : List Nat) (j : Nat) (hj : j < l.length) (m : Nat), m < 8 → (∀ c ∈ l, c < 256) → V (l.set j (l[j] ^^^ 2 ^ m)) = V l ^^^ 2 ^ (8 * j + m)
  | [], j, hj, _, _, _ => by simp at hj
  | c :: l, 0, _, m, hm, hl => by
    have hc := hl c (by simp)
    have hp : (2 : Nat) ^ m < 2 ^ 8 := Nat.pow_lt_pow_right (by decide) hm
    have hx : c ^^^ 2 ^ m < 256 := Nat.xor_lt_two_pow (n := 8) (by omega) hp
    show (c ^^^ 2 ^ m) + 256 * V l = (c + 256 * V l) ^^^ 2 ^ (8 * 0 + m)
    rw [cat8 _ _ hx, cat8 _ _ hc, Nat.mul_zero, Nat.zero_add, Nat.xor_assoc, Nat.xor_assoc, Nat.xor_comm (2 ^ m)]
  | c :: l, j + 1, hj, m, hm, hl => by
    have hc := hl c (by simp)
    have hj2 : j < l.length := by simpa using hj
    show c + 256 * V (l.set j (l[j] ^^^ 2 ^ m)) = (c + 256 * V l) ^^^ 2 ^ (8 * (j + 1) + m)
    rw [V_set l j (by simpa using hj) m hm (fun c hc => hl c (by simp [hc])), cat8 _ _ hc, cat8 _ _ hc, show (256 : Nat) = 2 ^ 8 from rfl, mul_xor, ← Nat.pow_add, show 8 + (8 * j + m) = 8 * (j + 1) + m by omega, Nat.xor_assoc]
theorem h1_zero {s : Nat} (hs : s < 4294967296) (h : h1 s = 0) : s = 0 := by
  unfold h1 at h
  rcases Nat.mod_two_eq_zero_or_one s with g | g
  · rw [g, Nat.mul_zero, Nat.xor_zero] at h; omega
  · rw [g, Nat.mul_one] at h
    have : s / 2 = 2197175160 := by
      have h2 : s / 2 ^^^ 2197175160 ^^^ 2197175160 = 0 ^^^ 2197175160 := by rw [h]
      rwa [Nat.xor_assoc, Nat.xor_self, Nat.xor_zero, Nat.zero_xor] at h2
    omega
theorem hn_zero' : ∀ (n s : Nat), s < 4294967296 → hn n s = 0 → s = 0
  | 0, _, _, h => h
  | n + 1, s, hs, h => hn_zero' n s hs (h1_zero (hn_lt n hs) h)
/-! ### bits turned -/
def turn (l : List Nat) (p : Nat) : List Nat := l.set (p / 8) (l.getD (p / 8) 0 ^^^ 2 ^ (p % 8))
theorem turn_len (l : List Nat) (p : Nat) : (turn l p).length = l.length := by unfold turn; simp
theorem turn_byt {l : List Nat} (h : ∀ c ∈ l, c < 256) (p : Nat) : ∀ c ∈ turn l p, c < 256 := by
  intro c hc
  unfold turn at hc
  rcases List.mem_or_eq_of_mem_set hc with hc | rfl
  · exact h c hc
  · have hp : (2 : Nat) ^ (p % 8) < 2 ^ 8 := Nat.pow_lt_pow_right (by decide) (Nat.mod_lt _ (by decide))
    refine Nat.xor_lt_two_pow (n := 8) ?_ hp
    rw [List.getD_eq_getElem?_getD]
    cases hq : l[p / 8]? with
    | none => simp
    | some x => exact h x (List.mem_of_getElem? hq)
theorem turn_at {l : List Nat} {p : Nat} (hp : p < 8 * l.length) : ∃ hj : p / 8 < l.length, turn l p = l.set (p / 8) (l[p / 8] ^^^ 2 ^ (p % 8)) := by
  have hj : p / 8 < l.length := by omega
  refine ⟨hj, ?_⟩
  unfold turn
  rw [List.getD_eq_getElem?_getD, List.getElem?_eq_getElem hj]
  rfl
theorem parL_turn {l : List Nat} {p : Nat} (hp : p < 8 * l.length) : parL (turn l p) = parL l ^^^ 1 := by
  obtain ⟨hj, e⟩ := turn_at hp
  rw [e, parL_set l _ hj, par_pow _ (Nat.mod_lt _ (by decide))]
theorem V_turn {l : List Nat} {p : Nat} (hp : p < 8 * l.length) (h : ∀ c ∈ l, c < 256) : V (turn l p) = V l ^^^ 2 ^ p := by
  obtain ⟨hj, e⟩ := turn_at hp
  rw [e, V_set l _ hj _ (Nat.mod_lt _ (by decide)) h, Nat.div_add_mod]
/-- Three bits turned: another sum. -/
theorem three_tell (l : List Nat) (h : ∀ c ∈ l, c < 256) (p q r : Nat) (hp : p < 8 * l.length) (hq : q < 8 * l.length) (hr : r < 8 * l.length) : rn (turn (turn (turn l p) q) r) C32 ≠ rn l C32 := by
  have hC : C32 < 4294967296 := by unfold C32; omega
  intro he
  have e := congrArg par he
  have b1 := turn_byt h p
  have b2 := turn_byt b1 q
  have b3 := turn_byt b2 r
  rw [par_rn _ _ hC b3, par_rn _ _ hC h, parL_turn (by rw [turn_len, turn_len]; exact hr), parL_turn (by rw [turn_len]; exact hq), parL_turn hp] at e
  have e2 : parL l ^^^ 1 ^^^ 1 ^^^ 1 = parL l := by
    have := congrArg (fun x => par C32 ^^^ x) e
    simpa only [xor_twice] using this
  have e3 := congrArg (fun x => parL l ^^^ x) e2
  have e4 : (parL l ^^^ 1 ^^^ 1 ^^^ 1) = parL l ^^^ 1 := by rw [Nat.xor_assoc, Nat.xor_assoc]; rfl
  rw [e4] at e3
  simp only [xor_twice, Nat.xor_self] at e3
  exact absurd e3 (by decide)
def burst (l : List Nat) (k u : Nat) : Nat → List Nat
  | 0 => l
  | i + 1 => if u / 2 ^ i % 2 = 1 then turn (burst l k u i) (k + i) else burst l k u i
theorem burst_facts (l : List Nat) (h : ∀ c ∈ l, c < 256) (k u : Nat) : ∀ i, k + i ≤ 8 * l.length → (burst l k u i).length = l.length ∧ (∀ c ∈ burst l k u i, c < 256) ∧ V (burst l k u i) = V l ^^^ 2 ^ k * (u % 2 ^ i)
  | 0, _ => ⟨rfl, h, by rw [Nat.pow_zero, Nat.mod_one, Nat.mul_zero, Nat.xor_zero]; rfl⟩
  | i + 1, hi => by
    obtain ⟨h1, h2, h3⟩ := burst_facts l h k u i (by omega)
    rw [burst, bit_xor, mul_xor]
    rcases Nat.mod_two_eq_zero_or_one (u / 2 ^ i) with g | g
    · rw [g, if_neg (by decide), Nat.mul_zero, Nat.mul_zero, Nat.xor_zero]
      exact ⟨h1, h2, h3⟩
    · rw [g, if_pos rfl, Nat.mul_one]
      refine ⟨by rw [turn_len, h1], turn_byt h2 _, ?_⟩
      rw [V_turn (by omega) h2, h3, Nat.xor_assoc, Nat.pow_add]
theorem V_inj : ∀ (l m : List Nat), l.length = m.length → (∀ c ∈ l, c < 256) → (∀ c ∈ m, c < 256) → V l = V m → l = m
  | [], [], _, _, _, _ => rfl
  | [], c :: m, hl, _, _, _ => by simp at hl
  | c :: l, [], hl, _, _, _ => by simp at hl
  | c :: l, d :: m, hl, h1, h2, h => by
    have hc := h1 c (by simp)
    have hd := h2 d (by simp)
    have h' : c + 256 * V l = d + 256 * V m := h
    have e1 : c = d := by omega
    have e2 : V l = V m := by omega
    rw [e1, V_inj l m (by simpa using hl) (fun c hc => h1 c (by simp [hc])) (fun c hc => h2 c (by simp [hc])) e2]
/-- Bits turned within 32: the same text, or another sum. -/
theorem burst_tell (l : List Nat) (h : ∀ c ∈ l, c < 256) (k u i : Nat) (hi : k + i ≤ 8 * l.length) (hi32 : i ≤ 32) : burst l k u i = l ∨ rn (burst l k u i) C32 ≠ rn l C32 := by
  obtain ⟨f1, f2, f3⟩ := burst_facts l h k u i hi
  by_cases h0 : u % 2 ^ i = 0
  · refine Or.inl (V_inj _ _ f1 f2 h ?_)
    rw [f3, h0, Nat.mul_zero, Nat.xor_zero]
  · refine Or.inr fun he => h0 ?_
    rw [rn_V _ _ f2, rn_V _ _ h, f1, f3] at he
    have e : hn (8 * l.length) (2 ^ k * (u % 2 ^ i)) = 0 := by
      rw [Nat.xor_assoc, hn_xor, hn_xor, hn_xor] at he
      have e2 := congrArg (fun x => hn (8 * l.length) (V l) ^^^ x) he
      simp only [xor_twice] at e2
      have e3 : hn (8 * l.length) (2 ^ k * (u % 2 ^ i)) ^^^ hn (8 * l.length) C32 ^^^ hn (8 * l.length) C32 = hn (8 * l.length) C32 ^^^ hn (8 * l.length) C32 := by rw [e2]
      rwa [Nat.xor_assoc, Nat.xor_self, Nat.xor_zero] at e3
    rw [show 8 * l.length = (8 * l.length - k) + k by omega, hn_add, hn_up] at e
    refine hn_zero' _ _ ?_ e
    have : u % 2 ^ i < 2 ^ i := Nat.mod_lt _ (Nat.pow_pos (by decide))
    have h2 : (2 : Nat) ^ i ≤ 2 ^ 32 := Nat.pow_le_pow_right (by decide) hi32
    omega
/-! ### sums are linear -/
def zx : List Nat → List Nat → List Nat → List Nat
  | a :: x, b :: y, c :: z => (a ^^^ b ^^^ c) :: zx x y z
  | _, _, _ => []
theorem rn_zx : ∀ (x y z : List Nat) (s t r : Nat), x.length = y.length → x.length = z.length → rn (zx x y z) (s ^^^ t ^^^ r) = rn x s ^^^ rn y t ^^^ rn z r
  | [], [], [], s, t, r, _, _ => rfl
  | a :: x, b :: y, c :: z, s, t, r, h1, h2 => by
    show rn (zx x y z) (hn 8 ((s ^^^ t ^^^ r) ^^^ (a ^^^ b ^^^ c))) = rn x (hn 8 (s ^^^ a)) ^^^ rn y (hn 8 (t ^^^ b)) ^^^ rn z (hn 8 (r ^^^ c))
    rw [← rn_zx x y z _ _ _ (by simpa using h1) (by simpa using h2), ← hn_xor, ← hn_xor, xor4 (s ^^^ t) r (a ^^^ b) c, xor4 s t a b]
  | [], [], c :: z, _, _, _, _, h => by simp at h
  | [], b :: y, _, _, _, _, h, _ => by simp at h
  | a :: x, [], _, _, _, _, h, _ => by simp at h
  | a :: x, b :: y, [], _, _, _, _, h => by simp at h
theorem sums_linear (x y z : List Nat) (h1 : x.length = y.length) (h2 : x.length = z.length) : n32 (rn x C32) ^^^ n32 (rn y C32) ^^^ n32 (rn z C32) = n32 (rn (zx x y z) C32) := by
  have e : C32 ^^^ C32 ^^^ C32 = C32 := by rw [Nat.xor_self, Nat.zero_xor]
  have h := rn_zx x y z C32 C32 C32 h1 h2
  rw [e] at h
  rw [h, n32_def (rn x C32), n32_def (rn y C32), n32_def (rn z C32), n32_def (rn x C32 ^^^ rn y C32 ^^^ rn z C32), xor4 C32 (rn x C32) C32 (rn y C32), Nat.xor_self, Nat.zero_xor, ← Nat.xor_assoc (rn x C32 ^^^ rn y C32) C32, Nat.xor_comm (rn x C32 ^^^ rn y C32) C32, Nat.xor_assoc C32]
end Go.Proofs.Ytajkjngngaobpaa.Pure
