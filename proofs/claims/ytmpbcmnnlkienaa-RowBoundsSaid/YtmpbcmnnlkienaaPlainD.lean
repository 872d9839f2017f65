/- Entries, there and back, and their order, as lists: no program in sight but its plain functions. -/
import Derived.Test.YtmpbcmnnlkienaaPlainC
import Derived.Test.YtmpbcmnnlkienaaLess
namespace Go.Proofs.Ytmpbcmnnlkienaa.Pure
open Go.RowKit Go.Proofs.Ytmpbcmnnlkienaa.HS Go.Proofs.YtmpbcmnnlkienaaW.PrintWords Go.Proofs.YtmpbcmnnlkienaaW.PrintLast Go.Proofs.YtmpbcmnnlkienaaW.PrintMore
set_option linter.unusedVariables false
theorem front_eq (l : List Int) : row_Front.f l = some (if l.length ≤ 24 then (frontB l, 0) else ([], 2)) := rfl
theorem frontB_cons (x : Int) (l : List Int) : frontB (x :: l) = (if x = 0 then [x, 255] else [x]) ++ frontB l := by simp [frontB]
theorem frontB_app (a b : List Int) : frontB (a ++ b) = frontB a ++ frontB b := by simp [frontB]
theorem frontB_byt : ∀ {l : List Int}, Rd.Byt l → Rd.Byt (frontB l)
  | [], _ => by intro x hx; simp [frontB] at hx
  | y :: l, h => by
    rw [frontB_cons]
    intro x hx
    rcases List.mem_append.1 hx with hx | hx
    · split at hx
      · rcases List.mem_cons.1 hx with rfl | hx
        · exact h x (by simp)
        · have := List.mem_singleton.1 hx; omega
      · have := List.mem_singleton.1 hx
        rw [this]
        exact h y (by simp)
    · exact frontB_byt (fun z hz => h z (by simp [hz])) x hx
def entryB (f k : List Int) : List Int := frontB f ++ [0, 1] ++ k
def entryOk (f k : List Int) : Bool := decide (f.length ≤ 24 ∧ 1 ≤ k.length ∧ k.length ≤ 32)
theorem mayKeyF (k : List Int) : row_MayKey.f k = some (decide (1 ≤ k.length ∧ k.length ≤ 32)) := by
  unfold row_MayKey.f
  by_cases h1 : 1 ≤ k.length
  · rw [if_pos (by omega)]
    by_cases h2 : k.length ≤ 32
    · rw [decide_eq_true (by omega), decide_eq_true ⟨h1, h2⟩]
    · rw [decide_eq_false (by omega), decide_eq_false (fun h => h2 h.2)]
  · rw [if_neg (by omega), decide_eq_false (fun h => h1 h.1)]
theorem entry_eq (a k : List Int) : row_Entry.f a k = some (if entryOk a k = true then entryB a k else [], if entryOk a k = true then 0 else 2) := by
  unfold row_Entry.f entryOk entryB
  rw [front_eq, mayKeyF]
  by_cases ha : a.length ≤ 24
  · have hf := frontB_len a
    by_cases hm : 1 ≤ k.length ∧ k.length ≤ 32
    · have h1 : (frontB a).length + [(0 : Int), 1].length < 140737488355328 := by simp only [List.length_cons, List.length_nil]; omega
      have h2 : (frontB a ++ [0, 1]).length + k.length < 140737488355328 := by rw [List.length_append]; simp only [List.length_cons, List.length_nil]; omega
      simp only [if_pos ha, Option.bind_some, if_true, decide_eq_true hm, if_pos h1, if_pos h2, decide_eq_true (show a.length ≤ 24 ∧ 1 ≤ k.length ∧ k.length ≤ 32 from ⟨ha, hm⟩)]
    · simp only [if_pos ha, Option.bind_some, if_true, decide_eq_false hm, Bool.false_eq_true, if_false, decide_eq_false (show ¬ (a.length ≤ 24 ∧ 1 ≤ k.length ∧ k.length ≤ 32) from fun h => hm h.2)]
  · simp only [if_neg ha, Option.bind_some]
    rw [if_neg (by decide)]
    simp only [decide_eq_false (show ¬ (a.length ≤ 24 ∧ 1 ≤ k.length ∧ k.length ≤ 32) from fun h => ha h.1), Bool.false_eq_true, if_false]
theorem splitGo_ne {c : Int} (r f : List Int) (h : c ≠ 0) : splitGo (c :: r) f = splitGo r (f ++ [c]) := by
  cases r with
  | nil => rfl
  | cons d r => rw [splitGo, if_neg h]
theorem splitGo_entry (k : List Int) (h1 : 1 ≤ k.length) (h2 : k.length ≤ 32) : ∀ (f acc : List Int), (acc ++ f).length ≤ 24 → splitGo (entryB f k) acc = some (acc ++ f, k)
  | [], acc, h => by
    rw [List.append_nil] at h ⊢
    unfold entryB
    show splitGo (0 :: 1 :: k) acc = _
    rw [splitGo, if_pos rfl, if_neg (by decide), if_pos ⟨rfl, h, h1, h2⟩]
  | x :: f, acc, h => by
    have ih := splitGo_entry k h1 h2 f (acc ++ [x]) (by simpa using h)
    have e : entryB (x :: f) k = (if x = 0 then [x, 255] else [x]) ++ entryB f k := by
      unfold entryB
      rw [frontB_cons]
      simp
    rw [e]
    by_cases hx : x = 0
    · subst hx
      rw [if_pos rfl]
      show splitGo (0 :: 255 :: entryB f k) acc = _
      rw [splitGo, if_pos rfl, if_pos rfl, ih]
      simp
    · rw [if_neg hx]
      show splitGo (x :: entryB f k) acc = _
      rw [splitGo_ne _ _ hx, ih]
      simp
theorem splitGo_spec : ∀ (n : Nat) (b acc p q : List Int), b.length ≤ n → splitGo b acc = some (p, q) → ∃ p', p = acc ++ p' ∧ b = entryB p' q ∧ p.length ≤ 24 ∧ 1 ≤ q.length ∧ q.length ≤ 32
  | 0, b, acc, p, q, hn, h => by
    obtain rfl : b = [] := List.length_eq_zero_iff.1 (by omega)
    simp [splitGo] at h
  | n + 1, b, acc, p, q, hn, h => by
    match b, hn, h with
    | [], _, h => simp [splitGo] at h
    | [c], _, h => simp [splitGo] at h
    | c :: d :: r, hn, h =>
      rw [splitGo] at h
      by_cases hc : c = 0
      · rw [if_pos hc] at h
        by_cases hd : d = 255
        · rw [if_pos hd] at h
          obtain ⟨p', h1, h2, h3⟩ := splitGo_spec n r (acc ++ [0]) p q (by simp at hn; omega) h
          refine ⟨0 :: p', by rw [h1]; simp, ?_, h3⟩
          rw [hc, hd, h2]
          unfold entryB
          rw [frontB_cons, if_pos rfl]
          simp
        · rw [if_neg hd] at h
          by_cases h1 : d = 1 ∧ acc.length ≤ 24 ∧ 1 ≤ r.length ∧ r.length ≤ 32
          · rw [if_pos h1] at h
            simp only [Option.some.injEq, Prod.mk.injEq] at h
            obtain ⟨rfl, rfl⟩ := h
            exact ⟨[], by simp, by rw [hc, h1.1]; rfl, h1.2⟩
          · rw [if_neg h1] at h; cases h
      · rw [if_neg hc] at h
        obtain ⟨p', h1, h2, h3⟩ := splitGo_spec n (d :: r) (acc ++ [c]) p q (by simp at hn ⊢; omega) h
        refine ⟨c :: p', by rw [h1]; simp, ?_, h3⟩
        rw [h2]
        unfold entryB
        rw [frontB_cons, if_neg hc]
        simp
/-! ### order -/
def lexC : List Int → List Int → Int
  | [], [] => 0
  | [], _ :: _ => -1
  | _ :: _, [] => 1
  | x :: a, y :: b => if x < y then -1 else if y < x then 1 else lexC a b
theorem less_txt : ∀ {a b : List Int}, Rd.Byt a → Rd.Byt b → Op.bytesLess (txt a) (txt b) = decide (lexC a b = -1)
  | [], [], _, _ => by simp only [txt_list]; rfl
  | [], y :: b, _, _ => by simp only [txt_list]; rfl
  | x :: a, [], _, _ => by simp only [txt_list]; rfl
  | x :: a, y :: b, ha, hb => by
    have ih := less_txt (a := a) (b := b) (fun z hz => ha z (by simp [hz])) (fun z hz => hb z (by simp [hz]))
    rw [txt_list, txt_list] at ih ⊢
    have h1 := ha x (by simp)
    have h2 := hb y (by simp)
    have e1 : (UInt8.ofNat x.toNat < UInt8.ofNat y.toNat) ↔ x < y := by
      rw [UInt8.lt_iff_toNat_lt, UInt8.toNat_ofNat', UInt8.toNat_ofNat']
      omega
    have e2 : (UInt8.ofNat x.toNat = UInt8.ofNat y.toNat) ↔ x = y := by
      rw [← UInt8.toNat_inj, UInt8.toNat_ofNat', UInt8.toNat_ofNat']
      omega
    simp only [List.map_cons, Op.bytesLess, lexC]
    by_cases h3 : x < y
    · simp [e1.2 h3, h3]
    · by_cases h4 : y < x
      · have h5 : ¬ x = y := by omega
        simp [h3, h4, e1, e2, h5]
      · have h5 : x = y := by omega
        subst h5
        simp only [Int.lt_irrefl, if_false]
        rw [← ih]
        simp
theorem lexC_swap : ∀ (a b : List Int), lexC b a = - lexC a b
  | [], [] => rfl
  | [], y :: b => rfl
  | x :: a, [] => rfl
  | x :: a, y :: b => by
    simp only [lexC]
    by_cases h3 : x < y
    · simp [h3, show ¬ y < x by omega]
    · by_cases h4 : y < x
      · simp [h3, h4]
      · simp only [h3, h4, if_false]
        exact lexC_swap a b
theorem lexC_vals : ∀ (a b : List Int), lexC a b = -1 ∨ lexC a b = 0 ∨ lexC a b = 1
  | [], [] => by simp [lexC]
  | [], y :: b => by simp [lexC]
  | x :: a, [] => by simp [lexC]
  | x :: a, y :: b => by
    simp only [lexC]
    split
    · simp
    · split
      · simp
      · exact lexC_vals a b
theorem less_eq {a b : List Int} (ha : Rd.Byt a) (hb : Rd.Byt b) : garnerlaw13_less.f a b = some (lexC a b) := by
  unfold garnerlaw13_less.f
  have h1 := less_txt ha hb
  have h2 := less_txt hb ha
  unfold txt at h1 h2
  rw [h1, h2, lexC_swap a b]
  rcases lexC_vals a b with h | h | h <;> rw [h] <;> rfl
theorem lexC_same (p : List Int) : ∀ (a b : List Int), lexC (p ++ a) (p ++ b) = lexC a b := by
  induction p with
  | nil => intro a b; rfl
  | cons x p ih =>
    intro a b
    simp only [List.cons_append, lexC, Int.lt_irrefl, if_false]
    exact ih a b
theorem lexC_long (p : List Int) (a : List Int) : ¬ lexC (p ++ a) p = -1 := by
  have h := lexC_same p a []
  rw [List.append_nil] at h
  rw [h]
  cases a <;> simp [lexC]
/-- How entries compare: by their fields, then by what stands behind. -/
theorem lexC_entry : ∀ (f g k m : List Int), Rd.Byt f → Rd.Byt g → lexC (entryB f k) (entryB g m) = if lexC f g = 0 then lexC k m else lexC f g
  | [], [], k, m, _, _ => by
    show lexC ([0, 1] ++ k) ([0, 1] ++ m) = _
    rw [lexC_same]
    rfl
  | [], y :: g, k, m, _, hg => by
    have hy := hg y (by simp)
    rw [show lexC [] (y :: g) = -1 from rfl, if_neg (by decide)]
    unfold entryB
    rw [frontB_cons]
    by_cases h : y = 0
    · rw [if_pos h, h]
      simp [frontB, lexC]
    · rw [if_neg h]
      simp only [frontB, List.map_nil, List.flatten_nil, List.nil_append, List.cons_append, lexC]
      rw [if_pos (by omega)]
  | x :: f, [], k, m, hf, _ => by
    have hx := hf x (by simp)
    rw [show lexC (x :: f) [] = 1 from rfl, if_neg (by decide)]
    unfold entryB
    rw [frontB_cons]
    by_cases h : x = 0
    · rw [if_pos h, h]
      simp [frontB, lexC]
    · rw [if_neg h]
      simp only [frontB, List.map_nil, List.flatten_nil, List.nil_append, List.cons_append, lexC]
      rw [if_neg (by omega), if_pos (by omega)]
  | x :: f, y :: g, k, m, hf, hg => by
    have hx := hf x (by simp)
    have hy := hg y (by simp)
    have ih := lexC_entry f g k m (fun z hz => hf z (by simp [hz])) (fun z hz => hg z (by simp [hz]))
    have e1 : entryB (x :: f) k = (if x = 0 then [x, 255] else [x]) ++ entryB f k := by unfold entryB; rw [frontB_cons]; simp
    have e2 : entryB (y :: g) m = (if y = 0 then [y, 255] else [y]) ++ entryB g m := by unfold entryB; rw [frontB_cons]; simp
    rw [e1, e2]
    by_cases hxy : x = y
    · subst hxy
      rw [lexC_same, ih]
      simp only [lexC, Int.lt_irrefl, if_false]
    · have h3 : ∀ p q : List Int, lexC ((if x = 0 then [x, 255] else [x]) ++ p) ((if y = 0 then [y, 255] else [y]) ++ q) = if x < y then -1 else 1 := by
        intro p q
        have h4 : ∃ p', (if x = 0 then [x, 255] else [x]) ++ p = x :: p' := by split <;> exact ⟨_, rfl⟩
        have h5 : ∃ q', (if y = 0 then [y, 255] else [y]) ++ q = y :: q' := by split <;> exact ⟨_, rfl⟩
        obtain ⟨p', h4⟩ := h4
        obtain ⟨q', h5⟩ := h5
        rw [h4, h5]
        simp only [lexC]
        by_cases h : x < y
        · rw [if_pos h, if_pos h]
        · rw [if_neg h, if_neg h, if_pos (by omega)]
      rw [h3]
      simp only [lexC]
      by_cases h : x < y
      · simp [h]
      · simp [h, show y < x by omega]
/-- An entry of a lesser field is below the other's front. -/
theorem lexC_front : ∀ (f g k : List Int), Rd.Byt f → Rd.Byt g → lexC f g = -1 → lexC (entryB f k) (frontB g) = -1
  | [], [], k, _, _, h => by simp [lexC] at h
  | [], y :: g, k, _, hg, _ => by
    have hy := hg y (by simp)
    unfold entryB
    rw [frontB_cons]
    by_cases h : y = 0
    · rw [if_pos h, h]
      simp [frontB, lexC]
    · rw [if_neg h]
      simp only [frontB, List.map_nil, List.flatten_nil, List.nil_append, List.cons_append, lexC]
      rw [if_pos (by omega)]
  | x :: f, [], k, _, _, h => by simp [lexC] at h
  | x :: f, y :: g, k, hf, hg, h => by
    have e1 : entryB (x :: f) k = (if x = 0 then [x, 255] else [x]) ++ entryB f k := by unfold entryB; rw [frontB_cons]; simp
    rw [e1, frontB_cons]
    simp only [lexC] at h
    by_cases hxy : x = y
    · subst hxy
      simp only [Int.lt_irrefl, if_false] at h
      rw [lexC_same]
      exact lexC_front f g k (fun z hz => hf z (by simp [hz])) (fun z hz => hg z (by simp [hz])) h
    · have h3 : x < y := by
        rcases Int.lt_or_le x y with h3 | h3
        · exact h3
        · rw [if_neg (by omega), if_pos (by omega)] at h
          exact absurd h (by decide)
      have h4 : ∃ p', (if x = 0 then [x, 255] else [x]) ++ entryB f k = x :: p' := by split <;> exact ⟨_, rfl⟩
      have h5 : ∃ q', (if y = 0 then [y, 255] else [y]) ++ frontB g = y :: q' := by split <;> exact ⟨_, rfl⟩
      obtain ⟨p', h4⟩ := h4
      obtain ⟨q', h5⟩ := h5
      rw [h4, h5]
      simp only [lexC]
      rw [if_pos h3]
/-- An entry of a field that begins so is not below its front. -/
theorem lexC_begins (g t k : List Int) : ¬ lexC (entryB (g ++ t) k) (frontB g) = -1 := by
  unfold entryB
  rw [frontB_app, List.append_assoc, List.append_assoc]
  exact lexC_long _ _
end Go.Proofs.Ytmpbcmnnlkienaa.Pure
