/- Rows of a constant's bytes, told as the kit's rows are: what block it is, and that it is new. -/
import Derived.Test.YtecdnhmdodedmaaLitF
import Derived.Test.YtecdnhmdodedmaaWMore
namespace Go.Proofs.Ytecdnhmdodedmaa.Lits
open Go.RowKit Go.Proofs.YtecdnhmdodedmaaW.PrintWords Go.Proofs.YtecdnhmdodedmaaW.PrintLast Go.Proofs.YtecdnhmdodedmaaW.PrintMore
open Go
def LR (e : Nat) (w : World) (base : Nat) (ok : Nat → Prop) (v : Value) (y : List Int) : Prop := (∀ k, v.ownBlock = some k → ok k ∧ base ≤ k) ∧ Lit e w v y
section
variable {e base base' N n c : Nat} {w w1 W : World} {ok ok' : Nat → Prop} {u v : Value} {A : Option Addr} {y xs : List Int}
theorem LR_slice (h : LR e w base ok v y) : ∃ A c, v = .slice A y.length c := lit_slice h.2
theorem LR_mono (h : LR e w base ok v y) (hok : ∀ k, ok k → ok' k) : LR e w base ok' v y := ⟨fun k hk => ⟨hok k (h.1 k hk).1, (h.1 k hk).2⟩, h.2⟩
theorem LR_below (h : LR e w base ok v y) (hb : Below w.heap.size w w1) : LR e w1 base ok v y := ⟨h.1, lit_below h.2 hb⟩
theorem LR_alloc (h : LR e w base ok v y) (o : Obj) : LR e (w.alloc o) base ok v y := ⟨h.1, lit_alloc h.2 o⟩
theorem LR_drew (h : LR e w base ok v y) : LR e w.drew base ok v y := ⟨h.1, lit_drew h.2⟩
theorem LR_drewN (h : LR e w base ok v y) (m : Nat) : LR e (w.drewN m) base ok v y := ⟨h.1, lit_drewN h.2 m⟩
theorem LR_lower (h : LR e w base ok v y) (hb : base' ≤ base) : LR e w base' ok v y := ⟨fun k hk => ⟨(h.1 k hk).1, Nat.le_trans hb (h.1 k hk).2⟩, h.2⟩
theorem LR_lt (h : LR e w base ok v y) : ∀ k, v.ownBlock = some k → k < w.heap.size := lit_lt h.2
theorem LR_base (h : LR e w base ok v y) : ∀ k, v.ownBlock = some k → base ≤ k := fun k hk => (h.1 k hk).2
theorem LR_new' (h : LR e w1 W.heap.size ok v y) (hlt : ∀ k, u.ownBlock = some k → k < W.heap.size) : LR e w1 W.heap.size (fun k => ok k ∧ some k ≠ u.ownBlock) v y :=
  ⟨fun k hk => ⟨⟨(h.1 k hk).1, fun he => by have h1 := hlt k he.symm; have h2 := (h.1 k hk).2; omega⟩, (h.1 k hk).2⟩, h.2⟩
theorem LR_elder' (hu : LR e W base ok u y) (hbase : ∀ k, v.ownBlock = some k → W.heap.size ≤ k) (hb : Below W.heap.size W w1) : LR e w1 base (fun k => ok k ∧ some k ≠ v.ownBlock) u y :=
  ⟨fun k hk => ⟨⟨(hu.1 k hk).1, fun he => by have h1 := hbase k he.symm; have h2 := lit_lt hu.2 k hk; omega⟩, (hu.1 k hk).2⟩, lit_below hu.2 hb⟩
theorem LR_old (hu : LR e W base ok u y) (hb : Below W.heap.size W w1) : LR e w1 base (fun k => ok k ∧ k < W.heap.size) u y :=
  ⟨fun k hk => ⟨⟨(hu.1 k hk).1, lit_lt hu.2 k hk⟩, (hu.1 k hk).2⟩, lit_below hu.2 hb⟩
theorem LR_told (h : LR e w1 base (fun k => ok k ∧ k < N) u y) (hbase : ∀ k, v.ownBlock = some k → N ≤ k) : LR e w1 base (fun k => (ok k ∧ some k ≠ v.ownBlock) ∧ k < N) u y :=
  LR_mono h (fun k hk => ⟨⟨hk.1, fun e => Nat.lt_irrefl _ (Nat.lt_of_lt_of_le hk.2 (hbase k e.symm))⟩, hk.2⟩)
theorem lit_no {g t : Nat} {cells : Array Value} (h : Lit e w v y) (hb : w.heap[g]? = some (.cells cells t (0, 0))) (ht : e ≠ t) : ∀ k, v.ownBlock = some k → k ≠ g := lit_ne h hb ht
theorem LR_types (h : LR e w base ok v y) {g t : Nat} {cells : Array Value} (hb : w.heap[g]? = some (.cells cells t (0, 0))) (ht : ∀ q, q ∈ e :: (Kd.int .u8).E → q ≠ t) : LR e w base (fun k => ok k ∧ k ≠ g) v y :=
  ⟨fun k hk => ⟨⟨(h.1 k hk).1, lit_ne h.2 hb (ht e List.mem_cons_self) k hk⟩, (h.1 k hk).2⟩, h.2⟩
theorem LR_apart' {e' : Nat} (h : LR e W base ok u y) (hty : ∀ k, v.ownBlock = some k → ∃ cells, W.heap[k]? = some (.cells cells e' (0, 0))) (ht : ∀ q, q ∈ e :: (Kd.int .u8).E → q ≠ e') : LR e W base (fun k => ok k ∧ some k ≠ v.ownBlock) u y :=
  ⟨fun k hk => ⟨⟨(h.1 k hk).1, fun he => by
    obtain ⟨cells, hc⟩ := hty k he.symm
    exact lit_ne h.2 hc (ht e List.mem_cons_self) k hk rfl⟩, (h.1 k hk).2⟩, h.2⟩
theorem LR_far (h : LR e w base ok v y) {p : Addr} (hok : ∀ k, ok k → k ≠ p.block) (u : Value) : LR e (w.setCell p u) base ok v y := ⟨h.1, lit_far h.2 (fun k hk => hok k (h.1 k hk).1) u⟩
theorem LR_reads' (h : LR e w base ok (.slice A n c) y) : n = y.length ∧ n ≤ c ∧ Kd.C (Kd.int .u8) w A n y := by
  obtain ⟨h1, h2, h3⟩ := lit_reads h.2
  rw [← h1]
  exact ⟨rfl, h2, h3⟩
theorem LR_F (h : LR e W base ok (.slice A n c) y) : Kd.F (Kd.int .u8) W ok A n y := fun W' hW => by
  have h1 : Lit e W' (.slice A n c) y := by
    obtain ⟨g, hv, hg, hm⟩ := h.2
    exact ⟨g, hv, (hW g (h.1 g (by rw [hv]; rfl)).1 (blk_lt hg)).trans hg, hm⟩
  obtain ⟨h2, _, h3⟩ := lit_reads h1
  rw [← h2]
  exact h3
end
section
variable {P : Program} {ops : Array Oper} {rest : List Oper} {o o2 : Oper} {a : Act} {Q : Exit → Act → World → Prop}
theorem lit_stepR (e t : Nat) (hg : o.guard = none) {N : Tmp} (hd : o.dst = some N) (ho2 : o2.op = .convert t t (.tmp N)) (hN : N < a.tmps.size) (hg2 : ∀ v, Region.wanted o2 (yielded ops (a.put o.dst v).tmps) = true)
    (ht : P.underlying t = some (.slice e)) (he : P.underlying e = some (.int .u8)) {W : World} {y : List Int} {inner : List Value} (hinner : inner = y.map (Value.int .u8))
    (hrun : (execOp a.eval o).run P W = .ok (.value (.slice (some ⟨W.heap.size, 0, none⟩) y.length y.length)) (W.alloc (.cells inner.toArray e))) (hm : y.length ≤ 9223372036854775807)
    (h : ∀ v1 w1, LR e w1 W.heap.size (fun _ => True) v1 y → Below W.heap.size W w1 → wpList P ops Q rest ((a.put o.dst v1).put o2.dst v1) w1) : wpList P ops Q (o :: o2 :: rest) a W := by
  subst hinner
  refine Kd.event_run hg hrun ?_
  have hev : (a.put o.dst (.slice (some ⟨W.heap.size, 0, none⟩) y.length y.length)).eval (.tmp N) = .slice (some ⟨W.heap.size, 0, none⟩) y.length y.length := by
    rw [hd]
    simp [Act.put, Act.eval, hN]
  have hc := Lib.run_convert_bytes_const (P := P) W t e (y.map (Value.int .u8)).toArray y.length y.length ht he
  refine gate_guard (hg2 _) ?_
  refine Kd.event_run (w1 := W.alloc (.cells (y.map (Value.int .u8)).toArray e (y.length, y.length + 1))) (v := .slice (some ⟨W.heap.size, 0, none⟩) y.length y.length) rfl ?_ (h _ _ ⟨fun k hk => ⟨trivial, by
    have h1 : W.heap.size = k := by simpa [Value.ownBlock] using hk
    omega⟩, ⟨W.heap.size, rfl, blk_new W _, hm⟩⟩ (below_alloc (Below.refl _ _) _))
  have hx : execOp (a.put o.dst (.slice (some ⟨W.heap.size, 0, none⟩) y.length y.length)).eval { o2 with guard := none } = (do let r ← convert t t ((a.put o.dst (.slice (some ⟨W.heap.size, 0, none⟩) y.length y.length)).eval (.tmp N)); pure (Next.value r)) := by
    unfold execOp
    dsimp only
    rw [ho2]
  rw [hx, hev]
  have hsz : (y.map (Value.int .u8)).toArray.size = y.length := by simp
  rw [hsz] at hc
  simp [hc]
end
end Go.Proofs.Ytecdnhmdodedmaa.Lits
