/- Rows of a constant's bytes: a literal and the conversion behind it, as one step of a walk; what is known of such a row. -/
import Derived.Test.YtecdnhmdodedmaaWWords
import Derived.Test.YtecdnhmdodedmaaWLast
import Derived.Test.YtecdnhmdodedmaaWMore
import Derived.Test.YtecdnhmdodedmaaWGuard
import Derived.Lib.SlBytesConst
namespace Go.Proofs.Ytecdnhmdodedmaa.Lits
open Go.RowKit Go.Proofs.YtecdnhmdodedmaaW.PrintWords Go.Proofs.YtecdnhmdodedmaaW.PrintLast Go.Proofs.YtecdnhmdodedmaaW.PrintMore
open Go

/-- v is a row of y's bytes, laid for a constant: its block bears the run-time's mark. -/
def Lit (e : Nat) (w : World) (v : Value) (y : List Int) : Prop :=
  ∃ g, v = .slice (some ⟨g, 0, none⟩) y.length y.length ∧ w.heap[g]? = some (.cells (y.map (Value.int .u8)).toArray e (y.length, y.length + 1)) ∧ y.length ≤ 9223372036854775807

variable {e : Nat} {w w1 : World} {v : Value} {y : List Int}

theorem lit_slice (h : Lit e w v y) : ∃ A c, v = .slice A y.length c := by
  obtain ⟨g, rfl, _⟩ := h
  exact ⟨_, _, rfl⟩
theorem lit_below (h : Lit e w v y) (hb : Below w.heap.size w w1) : Lit e w1 v y := by
  obtain ⟨g, hv, hg, hm⟩ := h
  exact ⟨g, hv, blk_below hg hb, hm⟩
theorem lit_alloc (h : Lit e w v y) (o : Obj) : Lit e (w.alloc o) v y := lit_below h (below_alloc (Below.refl _ _) o)
theorem lit_drew (h : Lit e w v y) : Lit e w.drew v y := lit_below h (below_drew (Below.refl _ _))
theorem lit_drewN (h : Lit e w v y) (m : Nat) : Lit e (w.drewN m) v y := lit_below h (pw_below_drewN (Below.refl _ _) m)
theorem lit_ne {g t : Nat} {cs : Array Value} (h : Lit e w v y) (hb : w.heap[g]? = some (.cells cs t (0, 0))) (ht : e ≠ t) : ∀ k, v.ownBlock = some k → k ≠ g := by
  obtain ⟨b, rfl, hg, hm⟩ := h
  intro k hk hkg
  have h1 : b = k := by simpa [Value.ownBlock] using hk
  subst h1
  subst hkg
  rw [hg] at hb
  injection hb with hb
  injection hb with _ hb _
  exact ht hb
theorem lit_far (h : Lit e w v y) {p : Addr} (hne : ∀ k, v.ownBlock = some k → k ≠ p.block) (u : Value) : Lit e (w.setCell p u) v y := by
  obtain ⟨g, rfl, hg, hm⟩ := h
  exact ⟨g, rfl, (Below.heap_setCell w p u g (hne g (by simp [Value.ownBlock]))).trans hg, hm⟩
theorem lit_reads {A : Option Addr} {n c : Nat} (h : Lit e w (.slice A n c) y) : y.length = n ∧ y.length ≤ c ∧ Kd.C (Kd.int .u8) w A y.length y := by
  obtain ⟨g, hv, hg, hm⟩ := h
  injection hv with h1 h2 h3
  subst h1 h2 h3
  refine ⟨rfl, Nat.le_refl _, rfl, hm, fun h0 => ⟨⟨g, 0, none⟩, rfl, fun j p hj => ⟨[.int .u8 p], rfl, rfl, fun i u hi => ?_⟩⟩⟩
  have hi0 : i = 0 := by
    cases i with
    | zero => rfl
    | succ i => simp at hi
  subst hi0
  simp at hi
  subst hi
  have hsz : (Kd.int .u8).sz = 1 := rfl
  have ha : (⟨g, 0, none⟩ : Addr).add (j * (Kd.int .u8).sz + 0) = ⟨g, j, none⟩ := by simp [Addr.add, hsz] <;> omega
  rw [ha]
  simp [World.cell?, hg, hj]

section
variable {P : Program} {ops : Array Oper} {rest : List Oper} {o o2 : Oper} {a : Act} {Q : Exit → Act → World → Prop}
theorem lit_step (e t : Nat) (hg : o.guard = none) {N : Tmp} (hd : o.dst = some N) (ho2 : o2.op = .convert t t (.tmp N)) (hN : N < a.tmps.size) (hg2 : ∀ v, Region.wanted o2 (yielded ops (a.put o.dst v).tmps) = true)
    (ht : P.underlying t = some (.slice e)) (he : P.underlying e = some (.int .u8)) {W : World} {y : List Int} {inner : List Value} (hinner : inner = y.map (Value.int .u8))
    (hrun : (execOp a.eval o).run P W = .ok (.value (.slice (some ⟨W.heap.size, 0, none⟩) y.length y.length)) (W.alloc (.cells inner.toArray e))) (hm : y.length ≤ 9223372036854775807)
    (h : ∀ v1 w1, Lit e w1 v1 y → Below W.heap.size W w1 → wpList P ops Q rest ((a.put o.dst v1).put o2.dst v1) w1) : wpList P ops Q (o :: o2 :: rest) a W := by
  subst hinner
  refine Kd.event_run hg hrun ?_
  have hev : (a.put o.dst (.slice (some ⟨W.heap.size, 0, none⟩) y.length y.length)).eval (.tmp N) = .slice (some ⟨W.heap.size, 0, none⟩) y.length y.length := by
    rw [hd]
    simp [Act.put, Act.eval, hN]
  have hc := Lib.run_convert_bytes_const (P := P) W t e (y.map (Value.int .u8)).toArray y.length y.length ht he
  refine gate_guard (hg2 _) ?_
  refine Kd.event_run (w1 := W.alloc (.cells (y.map (Value.int .u8)).toArray e (y.length, y.length + 1))) (v := .slice (some ⟨W.heap.size, 0, none⟩) y.length y.length) rfl ?_ (h _ _ ⟨W.heap.size, rfl, blk_new W _, hm⟩ (below_alloc (Below.refl _ _) _))
  have hx : execOp (a.put o.dst (.slice (some ⟨W.heap.size, 0, none⟩) y.length y.length)).eval { o2 with guard := none } = (do let r ← convert t t ((a.put o.dst (.slice (some ⟨W.heap.size, 0, none⟩) y.length y.length)).eval (.tmp N)); pure (Next.value r)) := by
    unfold execOp
    dsimp only
    rw [ho2]
  rw [hx, hev]
  have hsz : (y.map (Value.int .u8)).toArray.size = y.length := by simp
  rw [hsz] at hc
  simp [hc]
end
end Go.Proofs.Ytecdnhmdodedmaa.Lits
