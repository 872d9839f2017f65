/- What a reading of an argument gives: cells that are something of a kind, with its bulk. No program in sight but its types. -/
import Derived.Test.YtecdnhmdodedmaaRows
import Derived.Test.YtecdnhmdodedmaaWWords
import Derived.Deep.Slices
import Derived.Deep.Strs
import Derived.ChangeSame
import Derived.ChangeSlices
import Derived.ProofKit
import Derived.OpenShut
namespace Go.Proofs.Ytecdnhmdodedmaa.Opn
open Go.ChangeShapes Go.WideShapes Go.ChangeAt Go.RowKit Go.Proofs.YtecdnhmdodedmaaW.PrintWords
set_option linter.unusedVariables false
theorem bulk_one_le {H : Type} (d : DataW H) : 1 ≤ Rows.uptoBulk d := by
  cases d with
  | lit l => cases l <;> simp [Rows.uptoBulk]
  | nil => simp [Rows.uptoBulk]
  | ptr d => simp [Rows.uptoBulk]
  | slice elems spare => simp [Rows.uptoBulk]
  | agg parts => simp [Rows.uptoBulk]
  | iface t d => simp [Rows.uptoBulk]
  | map entries => simp [Rows.uptoBulk]
  | held h => simp [Rows.uptoBulk]
theorem bulk_append {H : Type} (l r : List (DataW H)) : Rows.uptoBulkAll (l ++ r) = Rows.uptoBulkAll l + Rows.uptoBulkAll r := by
  induction l with
  | nil => simp [Rows.uptoBulkAll]
  | cons x l ih => simp only [List.cons_append, Rows.uptoBulkAll, ih]; omega
theorem bulk_bound {H : Type} {l : List (DataW H)} (hk : Rows.uptoSmall H l = true) : Rows.uptoBulkAll l ≤ 1048576 := of_decide_eq_true hk
/-- Cells of type t, read, are something of kind d; its bulk is paid by the datum's. -/
def Opens {α : Type} (P : Program) (d : Kd α) (t : TypeId) (wf : α → Prop) (b : α → Nat) : Prop :=
  ∀ (H : Type) (enc : TypeId × Value → H) (w : World) (base : Nat) (sp : Nat → Bool) (held : Bool) (fuel : Nat) (cs : List Value) (x : DataW H × List MemPlace),
    DataW.trod enc P w base sp held fuel t cs = some x → ∃ v, d.K w v cs ∧ wf v ∧ b v ≤ Rows.uptoBulk x.1
theorem opens_int {P : Program} {t : TypeId} {k : IntKind} (ht : P.underlying t = some (.int k)) : Opens P (Kd.int k) t (fun n => (Lit.int k n).wf = true) (fun _ => 1) := by
  intro H enc w base sp held fuel cs x h
  obtain ⟨n, e, _, f⟩ := DataW.trod_int ht h
  exact ⟨n, e, f, bulk_one_le _⟩
theorem opens_bool {P : Program} {t : TypeId} (ht : P.underlying t = some .bool) : Opens P Kd.bool t (fun _ => True) (fun _ => 1) := by
  intro H enc w base sp held fuel cs x h
  obtain ⟨n, e, _⟩ := DataW.trod_bool ht h
  exact ⟨n, e, trivial, bulk_one_le _⟩
def sumOf {α : Type} (b : α → Nat) (l : List α) : Nat := (l.map b).sum
theorem sumOf_nil {α : Type} (b : α → Nat) : sumOf b [] = 0 := rfl
theorem sumOf_cons {α : Type} (b : α → Nat) (x : α) (l : List α) : sumOf b (x :: l) = b x + sumOf b l := by simp [sumOf]
theorem sumOf_le {α : Type} {H : Type} (b : α → Nat) : ∀ (l : List α) (D : List (DataW H)), l.length = D.length → (∀ (i : Nat) x d, l[i]? = some x → D[i]? = some d → b x ≤ Rows.uptoBulk d) → sumOf b l ≤ Rows.uptoBulkAll D
  | [], D, _, _ => by simp [sumOf]
  | x :: l, [], h, _ => by simp at h
  | x :: l, d :: D, h, hx => by
    rw [sumOf_cons]
    simp only [Rows.uptoBulkAll]
    have h1 := hx 0 x d rfl rfl
    have h2 := sumOf_le b l D (by simpa using h) (fun i y e hy he => hx (i + 1) y e (by simpa using hy) (by simpa using he))
    omega
theorem opens_slice {α : Type} [Inhabited α] {P : Program} {d : Kd α} {t e : TypeId} {wf : α → Prop} {b : α → Nat} (ht : P.underlying t = some (.slice e)) (hc : P.cellsOf e = d.sz) (ho : Opens P d e wf b) :
    Opens P (Kd.slice e d) t (fun l => l.length ≤ maxLen ∧ ∀ x ∈ l, wf x) (fun l => sumOf b l + 1) := by
  intro H enc w base sp held fuel cs x h
  rcases Go.Deep.open_slice ht h with ⟨rfl, rfl⟩ | ⟨a, len, cap, m, n, D, Pl, rfl, _, hl, hm, hmm, rfl, hx⟩
  · exact ⟨[], ⟨none, 0, rfl, Nat.le_refl _, ⟨rfl, by simp, fun h0 => absurd h0 (by simp)⟩⟩, ⟨Nat.zero_le _, by simp⟩, by show sumOf b [] + 1 ≤ _; rw [sumOf_nil]; exact bulk_one_le _⟩
  have hlm : len ≤ m := by rw [hmm]; split <;> omega
  have each : ∀ i, i < len → ∃ v : α, (∃ cs', w.cells? base (a.add (i * P.cellsOf e)) (P.cellsOf e) = some cs' ∧ d.K w v cs') ∧ wf v ∧ b v ≤ Rows.uptoBulk (D i) := by
    intro i hi
    obtain ⟨cs', h1, h2⟩ := hx i (by omega)
    obtain ⟨v, h3, h4, h5⟩ := ho H enc w base sp held n cs' _ h2
    exact ⟨v, ⟨cs', h1, h3⟩, h4, h5⟩
  obtain ⟨f, hf⟩ := Go.Deep.choose_lt each
  have hlen : ((List.range len).map f).length = len := by simp
  refine ⟨(List.range len).map f, ⟨some a, cap, by rw [hlen], by rw [hlen]; exact hl, ⟨rfl, by rw [hlen]; exact Nat.le_trans hl (Nat.le_trans hm (by decide)), fun h0 => ⟨a, rfl, fun j p hj => ?_⟩⟩⟩, ⟨by rw [hlen]; exact Nat.le_trans hl hm, ?_⟩, ?_⟩
  · obtain ⟨hj1, hj2⟩ := List.getElem?_eq_some_iff.1 hj
    simp only [List.length_map, List.length_range] at hj1
    simp only [List.getElem_map, List.getElem_range] at hj2
    subst hj2
    obtain ⟨⟨cs', h1, h2⟩, _, _⟩ := hf j hj1
    have hlen' := d.K_len h2
    refine ⟨cs', hlen', h2, fun i u hu => ?_⟩
    obtain ⟨_, h4, h5⟩ := World.cells?_some h1
    have hi : i < cs'.length := (List.getElem?_eq_some_iff.1 hu).1
    have h6 := h5 i (by omega)
    rw [hu, hc] at h6
    have e : (a.add (j * d.sz)).add i = a.add (j * d.sz + i) := Addr.add_add _ _ _
    rw [← e]
    exact h6
  · intro s hs
    obtain ⟨i, hi, rfl⟩ := List.mem_map.1 hs
    exact (hf i (List.mem_range.1 hi)).2.1
  · simp only [Rows.uptoBulk]
    have := sumOf_le b ((List.range len).map f) ((List.range len).map D) (by simp) (fun i y d' hy hd => by
      obtain ⟨hj1, hj2⟩ := List.getElem?_eq_some_iff.1 hy
      obtain ⟨_, hd2⟩ := List.getElem?_eq_some_iff.1 hd
      simp only [List.length_map, List.length_range] at hj1
      simp only [List.getElem_map, List.getElem_range] at hj2 hd2
      subst hj2 hd2
      exact (hf i hj1).2.2)
    omega
/-- What is asked of a list's elements, and its bulk. -/
def wfL {α : Type} (wf : α → Prop) : List α → Prop := fun l => l.length ≤ maxLen ∧ ∀ x ∈ l, wf x
def bkL {α : Type} (b : α → Nat) : List α → Nat := fun l => sumOf b l + 1
def wfI (k : IntKind) : Int → Prop := fun n => (Lit.int k n).wf = true
def bk1 {α : Type} : α → Nat := fun _ => 1
theorem opens_int' {P : Program} {t : TypeId} {k : IntKind} (ht : P.underlying t = some (.int k)) : Opens P (Kd.int k) t (wfI k) bk1 := opens_int ht
theorem opens_slice' {α : Type} [Inhabited α] {P : Program} {d : Kd α} {t e : TypeId} {wf : α → Prop} {b : α → Nat} (ht : P.underlying t = some (.slice e)) (hc : P.cellsOf e = d.sz) (ho : Opens P d e wf b) :
    Opens P (Kd.slice e d) t (wfL wf) (bkL b) := opens_slice ht hc ho
theorem sumOf_length {α : Type} (l : List α) : sumOf (fun _ => 1) l = l.length := by
  induction l with
  | nil => rfl
  | cons x l ih => rw [sumOf_cons, ih, List.length_cons]; omega
theorem le_sumOf {α : Type} {b : α → Nat} {l : List α} {x : α} (h : x ∈ l) : b x ≤ sumOf b l := by
  induction l with
  | nil => cases h
  | cons y l ih =>
    rw [sumOf_cons]
    rcases List.mem_cons.1 h with rfl | h
    · omega
    · have := ih h; omega
theorem flatten_le {α : Type} (l : List (List α)) : l.flatten.length ≤ sumOf (bkL bk1) l := by
  induction l with
  | nil => simp [sumOf]
  | cons x l ih =>
    have h : bkL bk1 x = x.length + 1 := congrArg (· + 1) (sumOf_length x)
    rw [sumOf_cons, h, List.flatten_cons, List.length_append]
    omega
end Go.Proofs.Ytecdnhmdodedmaa.Opn
