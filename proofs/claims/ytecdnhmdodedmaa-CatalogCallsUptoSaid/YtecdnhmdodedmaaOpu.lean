/- What a reading of an argument gives, more kinds: strings, structs, small arrays, each with its bulk. No program in sight but its types. -/
import Derived.Test.YtecdnhmdodedmaaOpen
namespace Go.Proofs.Ytecdnhmdodedmaa.Opn
open Go.ChangeShapes Go.WideShapes Go.ChangeAt Go.RowKit Go.Proofs.YtecdnhmdodedmaaW.PrintWords
set_option linter.unusedVariables false
def wfS : ByteArray → Prop := fun s => s.size ≤ maxLen
def bkS : ByteArray → Nat := fun s => s.size + 1
theorem opens_string {P : Program} {t : TypeId} (ht : P.underlying t = some .string) : Opens P Kd.string t wfS bkS := by
  intro H enc w base sp held fuel cs x h
  obtain ⟨s, e, rfl, hs⟩ := DataW.trod_string ht h
  exact ⟨s, e, hs, by simp only [Rows.uptoBulk, bkS, Array.length_toList]; exact Nat.le_refl _⟩
def wfB : Bool → Prop := fun _ => True
theorem opens_bool' {P : Program} {t : TypeId} (ht : P.underlying t = some .bool) : Opens P Kd.bool t wfB bk1 := opens_bool ht
/-- Fields in line from a place on. -/
def OpensF {α : Type} (P : Program) (fs : List Field) (off : Nat) (d : Kd α) (wf : α → Prop) (b : α → Nat) : Prop :=
  ∀ (H : Type) (enc : TypeId × Value → H) (w : World) (base : Nat) (sp : Nat → Bool) (held : Bool) (fuel : Nat) (cs : List Value) (xs : List (DataW H × List MemPlace)),
    cs.length = off + d.sz → (fs.mapM fun f => DataW.trod enc P w base sp held fuel f.type ((cs.drop f.offset).take (P.cellsOf f.type))) = some xs → ∃ v, d.K w v (cs.drop off) ∧ wf v ∧ b v ≤ Rows.uptoBulkAll (xs.map (·.1))
theorem opensF_one {α : Type} {P : Program} {f : Field} {off : Nat} {d : Kd α} {wf : α → Prop} {b : α → Nat} (hc : P.cellsOf f.type = d.sz) (ho : f.offset = off) (h : Opens P d f.type wf b) : OpensF P [f] off d wf b := by
  intro H enc w base sp held fuel cs xs hl hm
  simp only [List.mapM_cons, List.mapM_nil, bind, Option.bind_eq_some_iff, pure] at hm
  obtain ⟨y, hy, ys, hys, e⟩ := hm
  simp only [Option.some.injEq] at hys e
  subst hys e
  rw [ho, hc, List.take_of_length_le (by simp; omega)] at hy
  obtain ⟨v, h1, h2, h3⟩ := h H enc w base sp held fuel _ _ hy
  exact ⟨v, h1, h2, by simp only [List.map_cons, List.map_nil, Rows.uptoBulkAll]; omega⟩
theorem opensF_cons {α β : Type} {P : Program} {f : Field} {fs : List Field} {off : Nat} {d : Kd α} {d' : Kd β} {wf : α → Prop} {b : α → Nat} {wf' : β → Prop} {b' : β → Nat} (hc : P.cellsOf f.type = d.sz) (ho : f.offset = off) (h : Opens P d f.type wf b)
    (h' : OpensF P fs (off + d.sz) d' wf' b') : OpensF P (f :: fs) off (Kd.pair d d') (fun v => wf v.1 ∧ wf' v.2) (fun v => b v.1 + b' v.2) := by
  intro H enc w base sp held fuel cs xs hl hm
  have hs : (Kd.pair d d').sz = d.sz + d'.sz := rfl
  rw [List.mapM_cons] at hm
  simp only [bind, Option.bind_eq_some_iff, pure] at hm
  obtain ⟨y, hy, ys, hys, e⟩ := hm
  simp only [Option.some.injEq] at e
  subst e
  rw [ho, hc] at hy
  obtain ⟨v, h1, h2, h3⟩ := h H enc w base sp held fuel _ _ hy
  obtain ⟨v', h1', h2', h3'⟩ := h' H enc w base sp held fuel cs ys (by rw [hl, hs]; omega) hys
  refine ⟨(v, v'), ⟨_, _, ?_, h1, h1'⟩, ⟨h2, h2'⟩, by simp only [List.map_cons, Rows.uptoBulkAll]; omega⟩
  rw [← List.drop_drop]
  exact (List.take_append_drop _ _).symm
theorem opens_struct {α : Type} {P : Program} {t : TypeId} {fs : Array Field} {d : Kd α} {wf : α → Prop} {b : α → Nat} (ht : P.underlying t = some (.struct fs)) (hc : P.cellsOf t = d.sz) (h : OpensF P fs.toList 0 d wf b) : Opens P d t wf (fun v => b v + 1) := by
  intro H enc w base sp held fuel cs x hf
  cases fuel with
  | zero => simp [DataW.trod] at hf
  | succ n =>
    rw [DataW.trod_step] at hf
    unfold DataW.trodStep at hf
    rw [ht] at hf
    dsimp only at hf
    split at hf
    · rename_i hl
      simp only [Option.map_eq_some_iff] at hf
      obtain ⟨xs, hm, e⟩ := hf
      subst e
      obtain ⟨v, h1, h2, h3⟩ := h H enc w base sp held n cs xs (by omega) hm
      exact ⟨v, by simpa using h1, h2, by simp only [Rows.uptoBulk]; omega⟩
    · exact absurd hf (by simp)
/-- Of a kind that another one is put together of. -/
theorem Opens.iso {α β : Type} {P : Program} {t : TypeId} {d : Kd α} {wf : α → Prop} {b : α → Nat} (h : Opens P d t wf b) (f : β → α) (g : α → β) (hg : ∀ x, f (g x) = x) : Opens P (Kd.iso d f) t (fun v => wf (f v)) (fun v => b (f v)) := by
  intro H enc w base sp held fuel cs x hf
  obtain ⟨v, h1, h2, h3⟩ := h H enc w base sp held fuel cs x hf
  exact ⟨g v, by show d.K w (f (g v)) cs; rw [hg]; exact h1, by show wf (f (g v)); rw [hg]; exact h2, by show b (f (g v)) ≤ _; rw [hg]; exact h3⟩
theorem opens_array2 {α : Type} {P : Program} {t e : TypeId} {d : Kd α} {wf : α → Prop} {b : α → Nat} (ht : P.underlying t = some (.array 2 e)) (hc : P.cellsOf t = d.sz + d.sz) (he : P.cellsOf e = d.sz) (h : Opens P d e wf b) :
    Opens P (Kd.pair d d) t (fun v => wf v.1 ∧ wf v.2) (fun v => b v.1 + b v.2 + 1) := by
  intro H enc w base sp held fuel cs x hf
  cases fuel with
  | zero => simp [DataW.trod] at hf
  | succ n =>
    rw [DataW.trod_step] at hf
    unfold DataW.trodStep at hf
    rw [ht] at hf
    dsimp only at hf
    split at hf
    · rename_i hl
      simp only [Option.map_eq_some_iff, show List.range 2 = [0, 1] from rfl, List.mapM_cons, List.mapM_nil, bind, Option.bind_eq_some_iff, pure] at hf
      obtain ⟨xs, ⟨y0, h0, ys, ⟨y1, h1, zs, hz, e1⟩, e0⟩, e⟩ := hf
      simp only [Option.some.injEq] at hz e0 e1
      subst hz e1 e0 e
      rw [he] at h0 h1
      obtain ⟨v0, p0, q0, r0⟩ := h H enc w base sp held n _ _ h0
      obtain ⟨v1, p1, q1, r1⟩ := h H enc w base sp held n _ _ h1
      refine ⟨(v0, v1), ⟨_, _, ?_, p0, p1⟩, ⟨q0, q1⟩, by simp only [List.map_cons, List.map_nil, Rows.uptoBulk, Rows.uptoBulkAll]; omega⟩
      rw [Nat.zero_mul, List.drop_zero, Nat.one_mul, List.take_of_length_le (l := cs.drop d.sz) (by simp; omega)]
      exact (List.take_append_drop _ _).symm
    · exact absurd hf (by simp)
theorem opens_array3 {α : Type} {P : Program} {t e : TypeId} {d : Kd α} {wf : α → Prop} {b : α → Nat} (ht : P.underlying t = some (.array 3 e)) (hc : P.cellsOf t = d.sz + (d.sz + d.sz)) (he : P.cellsOf e = d.sz) (h : Opens P d e wf b) :
    Opens P (Kd.pair d (Kd.pair d d)) t (fun v => wf v.1 ∧ wf v.2.1 ∧ wf v.2.2) (fun v => b v.1 + (b v.2.1 + b v.2.2) + 1) := by
  intro H enc w base sp held fuel cs x hf
  cases fuel with
  | zero => simp [DataW.trod] at hf
  | succ n =>
    rw [DataW.trod_step] at hf
    unfold DataW.trodStep at hf
    rw [ht] at hf
    dsimp only at hf
    split at hf
    · rename_i hl
      simp only [Option.map_eq_some_iff, show List.range 3 = [0, 1, 2] from rfl, List.mapM_cons, List.mapM_nil, bind, Option.bind_eq_some_iff, pure] at hf
      obtain ⟨xs, ⟨y0, h0, ys, ⟨y1, h1, zs, ⟨y2, h2, us, hu, e2⟩, e1⟩, e0⟩, e⟩ := hf
      simp only [Option.some.injEq] at hu e0 e1 e2
      subst hu e2 e1 e0 e
      rw [he] at h0 h1 h2
      obtain ⟨v0, p0, q0, r0⟩ := h H enc w base sp held n _ _ h0
      obtain ⟨v1, p1, q1, r1⟩ := h H enc w base sp held n _ _ h1
      obtain ⟨v2, p2, q2, r2⟩ := h H enc w base sp held n _ _ h2
      refine ⟨(v0, v1, v2), ⟨_, _, ?_, p0, _, _, rfl, p1, p2⟩, ⟨q0, q1, q2⟩, by simp only [List.map_cons, List.map_nil, Rows.uptoBulk, Rows.uptoBulkAll]; omega⟩
      rw [Nat.zero_mul, List.drop_zero, Nat.one_mul, List.take_of_length_le (l := cs.drop (2 * d.sz)) (by simp; omega), show 2 * d.sz = d.sz + d.sz by omega, ← List.drop_drop, List.take_append_drop, List.take_append_drop]
    · exact absurd hf (by simp)
/-- An argument that is a struct or an array: its cells. -/
theorem okWide_agg {P : Program} {w : World} {r : Reach} {b0 : Nat} {t : TypeId} {v : Value} (h : Value.okWide P w r b0 t v) {D : TypeDesc} (ht : P.underlying t = some D) (hD : (∃ fs, D = .struct fs) ∨ ∃ n e, D = .array n e) : ∃ cs, v = .agg cs := by
  rcases hD with ⟨fs, rfl⟩ | ⟨n, e, rfl⟩ <;>
    (simp only [Value.okWide, ht] at h; obtain ⟨cs, rfl, _⟩ := h; exact ⟨cs, rfl⟩)
theorem le_bulkAll {H : Type} {l : List (DataW H)} {j : Nat} {d : DataW H} (h : l[j]? = some d) : Rows.uptoBulk d ≤ Rows.uptoBulkAll l := by
  induction l generalizing j with
  | nil => simp at h
  | cons x l ih =>
    simp only [Rows.uptoBulkAll]
    cases j with
    | zero => simp at h; subst h; omega
    | succ j => have := ih (j := j) (by simpa using h); omega
theorem length_le_sumOf {α : Type} {b : α → Nat} (hb : ∀ x, 1 ≤ b x) (l : List α) : l.length ≤ sumOf b l := by
  induction l with
  | nil => exact Nat.zero_le _
  | cons x l ih => rw [sumOf_cons, List.length_cons]; have := hb x; omega
end Go.Proofs.Ytecdnhmdodedmaa.Opn
