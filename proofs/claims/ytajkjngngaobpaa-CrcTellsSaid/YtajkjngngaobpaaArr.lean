/- Arrays of whole numbers of 32 bits in memory: an element read and set, the whole read and written. -/
import Derived.Test.YtajkjngngaobpaaProg
import Derived.Test.YtajkjngngaobpaaWWords
import Derived.Test.YtajkjngngaobpaaWLast
import Derived.Test.YtajkjngngaobpaaWMore
import Derived.Below
import Derived.WalkKit
import Derived.ProofKit
import Derived.KernelRfl
import Derived.Lib.ReflectliteSwap
import Derived.Laws.Rows
namespace Go.Proofs.Ytajkjngngaobpaa.Arr
open Go.RowKit Go.Proofs.YtajkjngngaobpaaW.PrintWords Go.Proofs.YtajkjngngaobpaaW.PrintLast
set_option linter.unusedSimpArgs false
theorem run_load_arr {P : Program} {o : Oper} {a : Act} {x : Operand} {t : TypeId} {ie : TypeInfo} (ho : o.op = .load t x) (hie : P.info? t = some ie) (hagg : ∀ w, (isAgg t).run P w = .ok true w) {gb : Nat} {vs : List Value} (hs : vs.length = ie.size) {w : World}
   (hx : a.eval x = .pointer (some ⟨gb, 0, none⟩)) (hc : ∀ k v, vs[k]? = some v → w.cell? ⟨gb, 0 + k, none⟩ = some v) : (execOp a.eval o).run P w = .ok (.value (.agg vs.toArray)) w := by
  have l := Go.Lib.rl_loadVar_cells (P := P) t ie hie hagg gb 0 vs hs w hc
  have s : (Instr.sureAddr (.pointer (some ⟨gb, 0, none⟩))).run P w = .ok ⟨gb, 0, none⟩ w := rfl
  simp only [ho, execOp, hx]
  unfold Instr.loadAt
  simp [l, s, Result.andThen]
theorem run_store_arr {P : Program} {o : Oper} {a : Act} {x y : Operand} {t : TypeId} {ie : TypeInfo} (ho : o.op = .store t x y) (hie : P.info? t = some ie) {gb : Nat} {vs : List Value} (hs : vs.length = ie.size) {w : World}
   (hx : a.eval x = .pointer (some ⟨gb, 0, none⟩)) (hy : a.eval y = .agg vs.toArray) (h1 : ∀ v ∈ vs, v.oneCell' = true) (hc : ∀ k, k < vs.length → (w.cell? ⟨gb, 0 + k, none⟩).isSome = true) (hf : ∀ k, k < vs.length → w.frozen? ⟨gb, 0 + k, none⟩ = false) : (execOp a.eval o).run P w = .ok .skip (w.setCells gb 0 vs) := by
  have l := Go.Lib.rl_storeVar_cells (P := P) t ie hie gb 0 vs hs h1 w hc hf
  have s : (Instr.sureAddr (.pointer (some ⟨gb, 0, none⟩))).run P w = .ok ⟨gb, 0, none⟩ w := rfl
  simp only [ho, execOp, hx, hy]
  unfold Instr.storeAt
  simp [l, s, Result.andThen]
theorem event_skip {P : Program} {ops : Array Oper} {rest : List Oper} {o : Oper} {a : Act} {Q : Exit → Act → World → Prop} {W w1 : World} (hgd : o.guard = none) (hrun : (execOp a.eval o).run P W = .ok .skip w1) (h : wpList P ops Q rest (a.put o.dst undef) w1) : wpList P ops Q (o :: rest) a W := by
  refine wpList_plain hgd fun K hK => ?_
  unfold Oper.wp
  rw [hrun]
  exact hK _ _ h
theorem info45 : ∃ ie, Try.prog.info? 45 = some ie ∧ ie.size = 32 := by
  have h : (Try.prog.info? 45).map (fun i => i.size) = some 32 := by kernel_rfl
  obtain ⟨ie, h1, h2⟩ := Option.map_eq_some_iff.mp h
  exact ⟨ie, h1, h2⟩
theorem info42 : ∃ ie, Try.prog.info? 42 = some ie ∧ ie.size = 16 := by
  have h : (Try.prog.info? 42).map (fun i => i.size) = some 16 := by kernel_rfl
  obtain ⟨ie, h1, h2⟩ := Option.map_eq_some_iff.mp h
  exact ⟨ie, h1, h2⟩
theorem info40 : ∃ ie, Try.prog.info? 40 = some ie ∧ ie.size = 32 := by
  have h : (Try.prog.info? 40).map (fun i => i.size) = some 32 := by kernel_rfl
  obtain ⟨ie, h1, h2⟩ := Option.map_eq_some_iff.mp h
  exact ⟨ie, h1, h2⟩
theorem agg45 : ∀ w, (isAgg 45).run Try.prog w = .ok true w := by
  intro w
  simp [isAgg, go_sem]
theorem agg42 : ∀ w, (isAgg 42).run Try.prog w = .ok true w := by
  intro w
  simp [isAgg, go_sem]
theorem agg40 : ∀ w, (isAgg 40).run Try.prog w = .ok true w := by
  intro w
  simp [isAgg, go_sem]
/-- The cells of an array. -/
def vs (xs : List Int) : Array Value := (xs.map (Value.int .u32)).toArray
def Box (w : World) (g : Nat) (t : TypeId) (xs : List Int) : Prop := w.heap[g]? = some (.cells (vs xs) t (0, 0))
theorem Box.new (w : World) (t : TypeId) (xs : List Int) : Box (w.alloc (.cells (vs xs) t)) w.heap.size t xs := blk_new w _
theorem Box.cell {w : World} {g : Nat} {t : TypeId} {xs : List Int} (h : Box w g t xs) (i : Nat) (hi : i < xs.length) : w.cell? ⟨g, i, none⟩ = some (.int .u32 (xs.getD i 0)) := by
  rw [blk_cell h i]
  simp [vs, List.getD, hi]
theorem Box.frozen {w : World} {g : Nat} {t : TypeId} {xs : List Int} (h : Box w g t xs) (i : Nat) : w.frozen? ⟨g, i, none⟩ = false := blk_frozen h i
theorem Box.set {w : World} {g : Nat} {t : TypeId} {xs : List Int} (h : Box w g t xs) (i : Nat) (v : Int) : Box (w.setCell ⟨g, i, none⟩ (.int .u32 v)) g t (xs.set i v) := by
  refine blk_put h i _ ?_
  simp [vs, List.map_set]
theorem Box.far {w : World} {g : Nat} {t : TypeId} {xs : List Int} (h : Box w g t xs) {p : Addr} (hp : g ≠ p.block) (u : Value) : Box (w.setCell p u) g t xs := blk_far h hp u
theorem Box.below {w w1 : World} {g : Nat} {t : TypeId} {xs : List Int} (h : Box w g t xs) (hb : Below w.heap.size w w1) : Box w1 g t xs := blk_below h hb
theorem Box.alloc {w : World} {g : Nat} {t : TypeId} {xs : List Int} (h : Box w g t xs) (o : Obj) : Box (w.alloc o) g t xs := blk_alloc h o
theorem Box.drew {w : World} {g : Nat} {t : TypeId} {xs : List Int} (h : Box w g t xs) : Box w.drew g t xs := blk_drew h
theorem Box.drewN {w : World} {g : Nat} {t : TypeId} {xs : List Int} (h : Box w g t xs) (n : Nat) : Box (w.drewN n) g t xs := blk_drewN h n
theorem Box.lt {w : World} {g : Nat} {t : TypeId} {xs : List Int} (h : Box w g t xs) : g < w.heap.size := blk_lt h
theorem Box.load {w : World} {g : Nat} {t : TypeId} {xs : List Int} (h : Box w g t xs) {o : Oper} {a : Act} {x : Operand} (ho : o.op = .load t x) (hie : ∃ ie, Try.prog.info? t = some ie ∧ ie.size = xs.length) (hagg : ∀ w, (isAgg t).run Try.prog w = .ok true w)
    (hx : a.eval x = .pointer (some ⟨g, 0, none⟩)) : (execOp a.eval o).run Try.prog w = .ok (.value (.agg (vs xs))) w := by
  obtain ⟨ie, h1, h2⟩ := hie
  refine run_load_arr ho h1 hagg (vs := xs.map (Value.int .u32)) (by rw [List.length_map, h2]) hx fun k v hk => ?_
  rw [Nat.zero_add, blk_cell h k]
  simpa [vs] using hk
theorem Box.store {w : World} {g : Nat} {t : TypeId} {xs ys : List Int} (h : Box w g t xs) (hl : ys.length = xs.length) {o : Oper} {a : Act} {x y : Operand} (ho : o.op = .store t x y) (hie : ∃ ie, Try.prog.info? t = some ie ∧ ie.size = xs.length)
    (hx : a.eval x = .pointer (some ⟨g, 0, none⟩)) (hy : a.eval y = .agg (vs ys)) : (execOp a.eval o).run Try.prog w = .ok .skip (w.setCells g 0 (ys.map (Value.int .u32))) := by
  obtain ⟨ie, h1, h2⟩ := hie
  refine run_store_arr ho h1 (vs := ys.map (Value.int .u32)) (by rw [List.length_map, h2, hl]) hx hy ?_ ?_ ?_
  · intro v hv
    obtain ⟨n, _, rfl⟩ := List.mem_map.1 hv
    rfl
  · intro k hk
    rw [List.length_map] at hk
    rw [Nat.zero_add, h.cell k (by omega)]
    rfl
  · intro k hk
    rw [Nat.zero_add]
    exact h.frozen k
theorem Box.stored {w : World} {g : Nat} {t : TypeId} {xs ys : List Int} (h : Box w g t xs) (hl : ys.length = xs.length) : Box (w.setCells g 0 (ys.map (Value.int .u32))) g t ys := by
  obtain ⟨cur', h3, _, h5⟩ := setCells_row (ys.map (Value.int .u32)) 0 w _ h (by simp [vs, hl])
  have e : cur' = vs ys := by
    apply Array.ext'
    rw [h5]
    simp [vs, hl]
  rw [e] at h3
  exact h3
theorem Box.stored_far {w : World} {g g2 : Nat} {t : TypeId} {xs : List Int} (h : Box w g t xs) (hne : g ≠ g2) (vs : List Value) : Box (w.setCells g2 0 vs) g t xs := (setCells_far vs 0 g hne).trans h
theorem below_stored {B : Nat} {w W : World} (h : Below B w W) {g : Nat} (hg : B ≤ g) (vs : List Value) : Below B w (W.setCells g 0 vs) := by
  obtain ⟨h1, h2, h3, h4⟩ := setCells_same g vs 0 W
  exact ⟨h1.trans h.os, h2.trans h.tape, h3.trans h.output, by rw [h4]; exact h.size, fun k hk => (setCells_far vs 0 k (by omega)).trans (h.block k hk)⟩
end Go.Proofs.Ytajkjngngaobpaa.Arr
