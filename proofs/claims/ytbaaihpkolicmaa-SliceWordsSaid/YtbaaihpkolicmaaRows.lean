/-
  No cell of these rows narrows 'for every input' (looked for: loops, veiled, ifaces, maps, wideKeys, modest, calm, conditions, laid).
  DERIVED. THE GIVEN ROWS OF THIS SEAT. 5 by the template 'for every input the law returns true; each argument reads behind the call as it read before'; 0 by the template 'total and deterministic' (their statements: YtbaaihpkolicmaaTotals.lean).
  GIVEN WITH THE SEED: the statements are not yours to turn. If you find one false, say at which input.
  Laid BY PROGRAM, IN A SANDBOX (cutbox-rows.mjs): the forced cells as the released guide's own fill.sh prints them over the translation 813e9122bf62c535… (all of the seat's roots in one cut). By AI agents, Wed Nov 11 2026. No macro, syntax, notation, axiom, sorry.
-/
import Derived.Test.YtbaaihpkolicmaaChecked
import GoSem.Claim
import GoSem.ClaimJoined
import GoSem.ClaimMapViews
import Derived.JoinedTies
import Derived.KernelRfl
namespace Go.Proofs.Ytbaaihpkolicmaa
/- THE CELL 'sum', in the pinned program and in every row, IS THE sha256 OF THE DUMP (.gsa) THAT YtbaaihpkolicmaaProg.lean LOADS. Nothing in Lean hashes anything: it is a label: what it is worth is what the hold of that sum in a sandbox is worth. -/
noncomputable def Try.pinned : Pinned := { name := "ytbaaihpkolicmaa", sum := "813e9122bf62c53514bceef081cfb17a5cb3ec871353d76b65e467253eadc4ee", checked := Try.checked }
namespace Rows
def none {H : Type} : Left H := { results := [], args := [] }

/-- 'garnerlaw08.SliceOf': WHATEVER THE INPUT: true; the input reads as it did. -/
def sliceOfSpec : ChangeSpec := { name := "sliceOf", fn := fun _ => fun
  | [d1, d2, d3] => { results := [.lit (.bool true)], args := [d1, d2, d3] }
  | _ => none }
def sliceOfRow : OpenClaim := { program := "ytbaaihpkolicmaa", sum := "813e9122bf62c53514bceef081cfb17a5cb3ec871353d76b65e467253eadc4ee", func := "garner/garnerlaw08.SliceOf", spec := "sliceOf", inPlace := ["internal/bytealg.Compare"], unfollowed := true, recurses := true, apart := false }
def SliceOfSaid : Prop := sliceOfRow.holds Try.pinned (OpenSpec.ofChange sliceOfSpec)

/-- ITS FALSE NEIGHBOUR: 'it returns false'. Refute it at one input. -/
def sliceOfWrong : ChangeSpec := { name := "sliceOf", fn := fun _ => fun
  | [d1, d2, d3] => { results := [.lit (.bool false)], args := [d1, d2, d3] }
  | _ => none }
def SliceOfWrongFalsely : Prop := sliceOfRow.holds Try.pinned (OpenSpec.ofChange sliceOfWrong)

/-- 'garnerlaw08.SliceWords': WHATEVER THE INPUT: true; the input reads as it did. -/
def sliceWordsSpec : ChangeSpec := { name := "sliceWords", fn := fun _ => fun
  | [d] => { results := [.lit (.bool true)], args := [d] }
  | _ => none }
def sliceWordsRow : OpenClaim := { program := "ytbaaihpkolicmaa", sum := "813e9122bf62c53514bceef081cfb17a5cb3ec871353d76b65e467253eadc4ee", func := "garner/garnerlaw08.SliceWords", spec := "sliceWords", inPlace := ["internal/bytealg.Compare"], unfollowed := true, recurses := true, apart := false }
def SliceWordsSaid : Prop := sliceWordsRow.holds Try.pinned (OpenSpec.ofChange sliceWordsSpec)

/-- ITS FALSE NEIGHBOUR: 'it returns false'. Refute it at one input. -/
def sliceWordsWrong : ChangeSpec := { name := "sliceWords", fn := fun _ => fun
  | [d] => { results := [.lit (.bool false)], args := [d] }
  | _ => none }
def SliceWordsWrongFalsely : Prop := sliceWordsRow.holds Try.pinned (OpenSpec.ofChange sliceWordsWrong)

/-- 'garnerlaw08.SliceSorts': WHATEVER THE INPUT: true; the input reads as it did. -/
def sliceSortsSpec : ChangeSpec := { name := "sliceSorts", fn := fun _ => fun
  | [d] => { results := [.lit (.bool true)], args := [d] }
  | _ => none }
def sliceSortsRow : OpenClaim := { program := "ytbaaihpkolicmaa", sum := "813e9122bf62c53514bceef081cfb17a5cb3ec871353d76b65e467253eadc4ee", func := "garner/garnerlaw08.SliceSorts", spec := "sliceSorts", inPlace := ["internal/bytealg.Compare"], unfollowed := true, recurses := true, apart := false }
def SliceSortsSaid : Prop := sliceSortsRow.holds Try.pinned (OpenSpec.ofChange sliceSortsSpec)

/-- ITS FALSE NEIGHBOUR: 'it returns false'. Refute it at one input. -/
def sliceSortsWrong : ChangeSpec := { name := "sliceSorts", fn := fun _ => fun
  | [d] => { results := [.lit (.bool false)], args := [d] }
  | _ => none }
def SliceSortsWrongFalsely : Prop := sliceSortsRow.holds Try.pinned (OpenSpec.ofChange sliceSortsWrong)

/-- 'garnerlaw08.SliceSingle': WHATEVER THE INPUT: true; the input reads as it did. -/
def sliceSingleSpec : ChangeSpec := { name := "sliceSingle", fn := fun _ => fun
  | [d1, d2] => { results := [.lit (.bool true)], args := [d1, d2] }
  | _ => none }
def sliceSingleRow : OpenClaim := { program := "ytbaaihpkolicmaa", sum := "813e9122bf62c53514bceef081cfb17a5cb3ec871353d76b65e467253eadc4ee", func := "garner/garnerlaw08.SliceSingle", spec := "sliceSingle", inPlace := ["internal/bytealg.Compare"], unfollowed := true, recurses := true, apart := false }
def SliceSingleSaid : Prop := sliceSingleRow.holds Try.pinned (OpenSpec.ofChange sliceSingleSpec)

/-- ITS FALSE NEIGHBOUR: 'it returns false'. Refute it at one input. -/
def sliceSingleWrong : ChangeSpec := { name := "sliceSingle", fn := fun _ => fun
  | [d1, d2] => { results := [.lit (.bool false)], args := [d1, d2] }
  | _ => none }
def SliceSingleWrongFalsely : Prop := sliceSingleRow.holds Try.pinned (OpenSpec.ofChange sliceSingleWrong)

/-- 'garnerlaw08.SliceOrder': WHATEVER THE INPUT: true; the input reads as it did. -/
def sliceOrderSpec : ChangeSpec := { name := "sliceOrder", fn := fun _ => fun
  | [d1, d2] => { results := [.lit (.bool true)], args := [d1, d2] }
  | _ => none }
def sliceOrderRow : OpenClaim := { program := "ytbaaihpkolicmaa", sum := "813e9122bf62c53514bceef081cfb17a5cb3ec871353d76b65e467253eadc4ee", func := "garner/garnerlaw08.SliceOrder", spec := "sliceOrder", inPlace := ["internal/bytealg.Compare"], unfollowed := true, recurses := true, apart := false }
def SliceOrderSaid : Prop := sliceOrderRow.holds Try.pinned (OpenSpec.ofChange sliceOrderSpec)

/-- ITS FALSE NEIGHBOUR: 'it returns false'. Refute it at one input. -/
def sliceOrderWrong : ChangeSpec := { name := "sliceOrder", fn := fun _ => fun
  | [d1, d2] => { results := [.lit (.bool false)], args := [d1, d2] }
  | _ => none }
def SliceOrderWrongFalsely : Prop := sliceOrderRow.holds Try.pinned (OpenSpec.ofChange sliceOrderWrong)

/- THE SECOND FORM. 'bulk': how many values and letters a reading holds, each counted each time it is reached (what is shared counts as often as it is met; a slice's spare places count too). A statement '..UptoSaid' is the law's where the arguments, and the package variables that the reading takes, are together of bulk at most 1048576: NARROWER than '..Said'. Prove '..Said' where nothing that the law and all that it calls make is longer than what came in: it says more and counts as full. Else prove '..UptoSaid'. A law counts once. -/
mutual
def uptoBulk {H : Type} : DataW H → Nat
  | .lit (.string bytes) => bytes.length + 1
  | .lit _ => 1
  | .nil => 1
  | .ptr d => uptoBulk d + 1
  | .slice elems spare => uptoBulkAll elems + uptoBulkAll spare + 1
  | .agg parts => uptoBulkAll parts + 1
  | .iface _ d => uptoBulk d + 1
  | .map entries => uptoBulkEntries entries + 1
  | .held _ => 1
def uptoBulkAll {H : Type} : List (DataW H) → Nat
  | [] => 0
  | d :: r => uptoBulk d + uptoBulkAll r
def uptoBulkEntries {H : Type} : List (Lit × DataW H) → Nat
  | [] => 0
  | x :: r => uptoBulkEntry x + uptoBulkEntries r
def uptoBulkEntry {H : Type} : Lit × DataW H → Nat
  | (.string bytes, d) => bytes.length + uptoBulk d + 1
  | (_, d) => uptoBulk d + 1
 end
def uptoSmall : (H : Type) → List (DataW H) → Bool := fun _ ds => decide (uptoBulkAll ds ≤ 1048576)
def OpenSpec.upto (s : _root_.Go.ChangeSpec) : _root_.Go.OpenSpec := { _root_.Go.OpenSpec.ofChange s with cond := some uptoSmall }

/-- 'garnerlaw08.SliceOf', WHERE WHAT IT READS IS OF BULK AT MOST 1048576: true; the input reads as it did. -/
def sliceOfUptoRow : OpenClaim := { program := "ytbaaihpkolicmaa", sum := "813e9122bf62c53514bceef081cfb17a5cb3ec871353d76b65e467253eadc4ee", func := "garner/garnerlaw08.SliceOf", spec := "sliceOf", inPlace := ["internal/bytealg.Compare"], unfollowed := true, recurses := true, apart := false, narrowed := true }
def SliceOfUptoSaid : Prop := sliceOfUptoRow.holds Try.pinned (OpenSpec.upto sliceOfSpec)

/-- 'garnerlaw08.SliceWords', WHERE WHAT IT READS IS OF BULK AT MOST 1048576: true; the input reads as it did. -/
def sliceWordsUptoRow : OpenClaim := { program := "ytbaaihpkolicmaa", sum := "813e9122bf62c53514bceef081cfb17a5cb3ec871353d76b65e467253eadc4ee", func := "garner/garnerlaw08.SliceWords", spec := "sliceWords", inPlace := ["internal/bytealg.Compare"], unfollowed := true, recurses := true, apart := false, narrowed := true }
def SliceWordsUptoSaid : Prop := sliceWordsUptoRow.holds Try.pinned (OpenSpec.upto sliceWordsSpec)

/-- 'garnerlaw08.SliceSorts', WHERE WHAT IT READS IS OF BULK AT MOST 1048576: true; the input reads as it did. -/
def sliceSortsUptoRow : OpenClaim := { program := "ytbaaihpkolicmaa", sum := "813e9122bf62c53514bceef081cfb17a5cb3ec871353d76b65e467253eadc4ee", func := "garner/garnerlaw08.SliceSorts", spec := "sliceSorts", inPlace := ["internal/bytealg.Compare"], unfollowed := true, recurses := true, apart := false, narrowed := true }
def SliceSortsUptoSaid : Prop := sliceSortsUptoRow.holds Try.pinned (OpenSpec.upto sliceSortsSpec)

/-- 'garnerlaw08.SliceSingle', WHERE WHAT IT READS IS OF BULK AT MOST 1048576: true; the input reads as it did. -/
def sliceSingleUptoRow : OpenClaim := { program := "ytbaaihpkolicmaa", sum := "813e9122bf62c53514bceef081cfb17a5cb3ec871353d76b65e467253eadc4ee", func := "garner/garnerlaw08.SliceSingle", spec := "sliceSingle", inPlace := ["internal/bytealg.Compare"], unfollowed := true, recurses := true, apart := false, narrowed := true }
def SliceSingleUptoSaid : Prop := sliceSingleUptoRow.holds Try.pinned (OpenSpec.upto sliceSingleSpec)

/-- 'garnerlaw08.SliceOrder', WHERE WHAT IT READS IS OF BULK AT MOST 1048576: true; the input reads as it did. -/
def sliceOrderUptoRow : OpenClaim := { program := "ytbaaihpkolicmaa", sum := "813e9122bf62c53514bceef081cfb17a5cb3ec871353d76b65e467253eadc4ee", func := "garner/garnerlaw08.SliceOrder", spec := "sliceOrder", inPlace := ["internal/bytealg.Compare"], unfollowed := true, recurses := true, apart := false, narrowed := true }
def SliceOrderUptoSaid : Prop := sliceOrderUptoRow.holds Try.pinned (OpenSpec.upto sliceOrderSpec)

end Rows
end Go.Proofs.Ytbaaihpkolicmaa
