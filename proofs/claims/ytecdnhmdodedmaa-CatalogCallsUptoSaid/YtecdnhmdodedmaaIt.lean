/- Ranges over a function: words of ours beside the kit's. -/
import Derived.Test.YtecdnhmdodedmaaRdg
import Derived.RangeFuncNested
import Derived.RangeFuncBound
import Derived.RangeFuncCalls
import Derived.RangeFuncLeaves
import Derived.RangeFuncBox
import Derived.Shelf.Abstract
import Derived.Shelf.RegionOpen
namespace Go.Proofs.Ytecdnhmdodedmaa.It
open Go.RowKit Go.Shelf Go.Proofs.YtecdnhmdodedmaaW.PrintWords Go.Proofs.YtecdnhmdodedmaaW.PrintLast Go.Proofs.YtecdnhmdodedmaaW.PrintMore
set_option linter.unusedVariables false
theorem grown_of_below {w w' : World} (h : Below w.heap.size w w') : w.grownBy w' none := ⟨h.os, h.tape, h.output, h.size, fun k hk _ => h.block k hk⟩
/-- What a round keeps: all below n₀, and the block B. -/
def KpB (n₀ B : Nat) (W W' : World) : Prop := Below n₀ W W' ∧ W'.heap[B]? = W.heap[B]?
theorem KpB.t {n₀ B : Nat} {X Y Z : World} (h : KpB n₀ B X Y) (k : KpB n₀ B Y Z) : KpB n₀ B X Z := ⟨h.1.trans k.1, k.2.trans h.2⟩
theorem KpB.b {n₀ B : Nat} {w : World} (hn : n₀ ≤ w.heap.size) (hB : B < w.heap.size) (W : World) (l : Nat) (o o' : Obj) (hl : w.heap.size ≤ l) (h : W.heap[l]? = some o) (h1 : o.isCells = false) (h2 : o.isWalk = false) : KpB n₀ B W (W.putObj l o') :=
  ⟨belowK_b hn W l o o' hl h h1 h2, by
    have := (grownBy_putObj' W l o').block B
    by_cases hb : B < W.heap.size
    · exact this hb (fun e => by cases e; omega)
    · have e1 : W.heap[B]? = none := by simp; omega
      have e2 : (W.putObj l o').heap[B]? = none := by simp [World.putObj]; omega
      rw [e1, e2]⟩
theorem wpIn_scope_wide {n : Nat} {P : Program} {c : Code} {Q : Exit → Act → World → Prop} {a : Act} {w : World} (h : c.wpIn Fence.wide n P (Exit.noGoto Q) a w) : (Code.scope c).wpIn Fence.wide n P Q a w := wpIn_wide.2 (wp_scope_straight (wpIn_wide.1 h))
theorem boxed_kept2 {W : World} {B : Nat} {t : TypeId} {v : Value} (h : Boxed W B t v) (b : Nat) (u : Value) (o : Obj) (hne : B ≠ b) : Boxed ((W.setCell ⟨b, 0, none⟩ u).alloc o) B t v :=
  (h.kept (grownBy_setCell' W b u) (fun e => hne (by cases e; rfl))).alloc _
theorem blk_own {β : Type} (B : Nat) (t : TypeId) (cs : β → Array Value) : Own (fun s W => W.heap[B]? = some (.cells (cs s) t (0, 0))) := fun s X Y row hs hg hrow =>
  (hg.block B (Array.getElem?_eq_some_iff.1 hs).1 (fun e => by
    obtain ⟨o, ho, hc⟩ := hrow B e.symm
    rw [hs] at ho; cases ho; cases hc)).trans hs
/-- Blocks made one behind the other. -/
theorem allocs_at : ∀ (os : List Obj) (w : World) (i : Nat) (o : Obj), os[i]? = some o → (os.foldl World.alloc w).heap[w.heap.size + i]? = some o
  | [], w, i, o, h => by simp at h
  | a :: os, w, 0, o, h => by
    simp only [List.getElem?_cons_zero, Option.some.injEq] at h
    subst h
    have key : ∀ (os : List Obj) (W : World) (k : Nat) (x : Obj), W.heap[k]? = some x → (os.foldl World.alloc W).heap[k]? = some x := by
      intro os
      induction os with
      | nil => intro W k x hx; exact hx
      | cons b os ih => intro W k x hx; exact ih _ k x ((Below.heap_alloc W b k (Array.getElem?_eq_some_iff.1 hx).1).trans hx)
    exact key os _ _ _ (World.alloc_heap_new w a)
  | a :: os, w, i + 1, o, h => by
    have := allocs_at os (w.alloc a) i o (by simpa using h)
    rw [World.size_alloc] at this
    rw [List.foldl_cons, show w.heap.size + (i + 1) = w.heap.size + 1 + i by omega]
    exact this
theorem allocs_below : ∀ (os : List Obj) (w : World) (B : Nat), B ≤ w.heap.size → Below B w (os.foldl World.alloc w)
  | [], w, B, h => Below.refl _ _
  | a :: os, w, B, h => ((Below.refl B w).alloc h a).trans (allocs_below os (w.alloc a) B (by simp; omega))
theorem allocs_size : ∀ (os : List Obj) (w : World), (os.foldl World.alloc w).heap.size = w.heap.size + os.length
  | [], w => rfl
  | a :: os, w => by rw [List.foldl_cons, allocs_size os, World.size_alloc, List.length_cons]; omega
end Go.Proofs.Ytecdnhmdodedmaa.It
