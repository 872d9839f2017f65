/- A row of a constant's bytes within a row of rows. -/
import Derived.Test.YtecdnhmdodedmaaLit
import Derived.Test.YtecdnhmdodedmaaWShare
namespace Go.Proofs.Ytecdnhmdodedmaa.Lits
open Go.RowKit Go.Proofs.YtecdnhmdodedmaaW.PrintWords Go.Proofs.YtecdnhmdodedmaaW.PrintLast Go.Proofs.YtecdnhmdodedmaaW.PrintMore
open Go
theorem lit_F {e : Nat} {W : World} {A : Option Addr} {n c : Nat} {y : List Int} (h : Lit e W (.slice A n c) y) : Kd.F (Kd.int .u8) W (fun _ => True) A n y := fun W' hW => by
  have h1 : Lit e W' (.slice A n c) y := by
    obtain ⟨g, hv, hg, hm⟩ := h
    exact ⟨g, hv, (hW g trivial (blk_lt hg)).trans hg, hm⟩
  obtain ⟨h2, _, h3⟩ := lit_reads h1
  rw [← h2]
  exact h3
theorem lit_lt {e : Nat} {W : World} {v : Value} {y : List Int} (h : Lit e W v y) : ∀ k, v.ownBlock = some k → k < W.heap.size := by
  obtain ⟨g, rfl, hg, hm⟩ := h
  intro k hk
  have h1 : g = k := by simpa [Value.ownBlock] using hk
  subst h1
  exact blk_lt hg
section
variable {P : Program} {ops : Array Oper} {rest : List Oper} {o o2 : Oper} {a : Act} {Q : Exit → Act → World → Prop}
theorem lit_stepF (e t : Nat) (hg : o.guard = none) {N : Tmp} (hd : o.dst = some N) (ho2 : o2.op = .convert t t (.tmp N)) (hN : N < a.tmps.size) (hg2 : ∀ v, Region.wanted o2 (yielded ops (a.put o.dst v).tmps) = true)
    (ht : P.underlying t = some (.slice e)) (he : P.underlying e = some (.int .u8)) {W : World} {y : List Int} {inner : List Value} (hinner : inner = y.map (Value.int .u8))
    (hrun : (execOp a.eval o).run P W = .ok (.value (.slice (some ⟨W.heap.size, 0, none⟩) y.length y.length)) (W.alloc (.cells inner.toArray e))) (hm : y.length ≤ 9223372036854775807)
    (h : ∀ v1 w1, Lit e w1 v1 y → Below W.heap.size W w1 → (∀ k, v1.ownBlock = some k → W.heap.size ≤ k) → wpList P ops Q rest ((a.put o.dst v1).put o2.dst v1) w1) : wpList P ops Q (o :: o2 :: rest) a W := by
  subst hinner
  refine Kd.event_run hg hrun ?_
  have hev : (a.put o.dst (.slice (some ⟨W.heap.size, 0, none⟩) y.length y.length)).eval (.tmp N) = .slice (some ⟨W.heap.size, 0, none⟩) y.length y.length := by
    rw [hd]
    simp [Act.put, Act.eval, hN]
  have hc := Lib.run_convert_bytes_const (P := P) W t e (y.map (Value.int .u8)).toArray y.length y.length ht he
  refine gate_guard (hg2 _) ?_
  refine Kd.event_run (w1 := W.alloc (.cells (y.map (Value.int .u8)).toArray e (y.length, y.length + 1))) (v := .slice (some ⟨W.heap.size, 0, none⟩) y.length y.length) rfl ?_ (h _ _ ⟨W.heap.size, rfl, blk_new W _, hm⟩ (below_alloc (Below.refl _ _) _) (fun k hk => by
    have h1 : W.heap.size = k := by simpa [Value.ownBlock] using hk
    omega))
  have hx : execOp (a.put o.dst (.slice (some ⟨W.heap.size, 0, none⟩) y.length y.length)).eval { o2 with guard := none } = (do let r ← convert t t ((a.put o.dst (.slice (some ⟨W.heap.size, 0, none⟩) y.length y.length)).eval (.tmp N)); pure (Next.value r)) := by
    unfold execOp
    dsimp only
    rw [ho2]
  rw [hx, hev]
  have hsz : (y.map (Value.int .u8)).toArray.size = y.length := by simp
  rw [hsz] at hc
  simp [hc]
end
end Go.Proofs.Ytecdnhmdodedmaa.Lits
