/-
  No cell of these rows narrows 'for every input' (looked for: loops, veiled, ifaces, maps, wideKeys, modest, calm, conditions, laid).
  DERIVED. THE GIVEN ROWS OF THIS SEAT. 5 by the template 'for every input the law returns true; each argument reads behind the call as it read before'; 0 by the template 'total and deterministic' (their statements: YtecdnhmdodedmaaTotals.lean).
  GIVEN WITH THE SEED: the statements are not yours to turn. If you find one false, say at which input.
  Laid BY PROGRAM, IN A SANDBOX (cutbox-rows.mjs): the forced cells as the released guide's own fill.sh prints them over the translation 467f28fe663f4173… (all of the seat's roots in one cut). By AI agents, Wed Nov 11 2026. No macro, syntax, notation, axiom, sorry.
-/
import Derived.Test.YtecdnhmdodedmaaChecked
import GoSem.Claim
import GoSem.ClaimJoined
import GoSem.ClaimMapViews
import Derived.JoinedTies
import Derived.KernelRfl
namespace Go.Proofs.Ytecdnhmdodedmaa
/- THE CELL 'sum', in the pinned program and in every row, IS THE sha256 OF THE DUMP (.gsa) THAT YtecdnhmdodedmaaProg.lean LOADS. Nothing in Lean hashes anything: it is a label: what it is worth is what the hold of that sum in a sandbox is worth. -/
noncomputable def Try.pinned : Pinned := { name := "ytecdnhmdodedmaa", sum := "467f28fe663f4173fe9c5105681426ef3b60502548a60ce3df08a2f42320d565", checked := Try.checked }
namespace Rows
def none {H : Type} : Left H := { results := [], args := [] }

/-- 'garnerlaw16.CatalogJobs': WHATEVER THE INPUT: true; the input reads as it did. -/
def catalogJobsSpec : ChangeSpec := { name := "catalogJobs", fn := fun _ => fun
  | [d1, d2, d3, d4] => { results := [.lit (.bool true)], args := [d1, d2, d3, d4] }
  | _ => none }
def catalogJobsRow : OpenClaim := { program := "ytecdnhmdodedmaa", sum := "467f28fe663f4173fe9c5105681426ef3b60502548a60ce3df08a2f42320d565", func := "garner/garnerlaw16.CatalogJobs", spec := "catalogJobs", unfollowed := true, recurses := true, apart := false }
def CatalogJobsSaid : Prop := catalogJobsRow.holds Try.pinned (OpenSpec.ofChange catalogJobsSpec)

/-- ITS FALSE NEIGHBOUR: 'it returns false'. Refute it at one input. -/
def catalogJobsWrong : ChangeSpec := { name := "catalogJobs", fn := fun _ => fun
  | [d1, d2, d3, d4] => { results := [.lit (.bool false)], args := [d1, d2, d3, d4] }
  | _ => none }
def CatalogJobsWrongFalsely : Prop := catalogJobsRow.holds Try.pinned (OpenSpec.ofChange catalogJobsWrong)

/-- 'garnerlaw16.CatalogEntries': WHATEVER THE INPUT: true; the input reads as it did. -/
def catalogEntriesSpec : ChangeSpec := { name := "catalogEntries", fn := fun _ => fun
  | [d1, d2, d3, d4, d5] => { results := [.lit (.bool true)], args := [d1, d2, d3, d4, d5] }
  | _ => none }
def catalogEntriesRow : OpenClaim := { program := "ytecdnhmdodedmaa", sum := "467f28fe663f4173fe9c5105681426ef3b60502548a60ce3df08a2f42320d565", func := "garner/garnerlaw16.CatalogEntries", spec := "catalogEntries", unfollowed := true, recurses := true, apart := false }
def CatalogEntriesSaid : Prop := catalogEntriesRow.holds Try.pinned (OpenSpec.ofChange catalogEntriesSpec)

/-- ITS FALSE NEIGHBOUR: 'it returns false'. Refute it at one input. -/
def catalogEntriesWrong : ChangeSpec := { name := "catalogEntries", fn := fun _ => fun
  | [d1, d2, d3, d4, d5] => { results := [.lit (.bool false)], args := [d1, d2, d3, d4, d5] }
  | _ => none }
def CatalogEntriesWrongFalsely : Prop := catalogEntriesRow.holds Try.pinned (OpenSpec.ofChange catalogEntriesWrong)

/-- 'garnerlaw16.CatalogTells': WHATEVER THE INPUT: true; the input reads as it did. -/
def catalogTellsSpec : ChangeSpec := { name := "catalogTells", fn := fun _ => fun
  | [d1, d2, d3, d4] => { results := [.lit (.bool true)], args := [d1, d2, d3, d4] }
  | _ => none }
def catalogTellsRow : OpenClaim := { program := "ytecdnhmdodedmaa", sum := "467f28fe663f4173fe9c5105681426ef3b60502548a60ce3df08a2f42320d565", func := "garner/garnerlaw16.CatalogTells", spec := "catalogTells", unfollowed := true, recurses := true, apart := false }
def CatalogTellsSaid : Prop := catalogTellsRow.holds Try.pinned (OpenSpec.ofChange catalogTellsSpec)

/-- ITS FALSE NEIGHBOUR: 'it returns false'. Refute it at one input. -/
def catalogTellsWrong : ChangeSpec := { name := "catalogTells", fn := fun _ => fun
  | [d1, d2, d3, d4] => { results := [.lit (.bool false)], args := [d1, d2, d3, d4] }
  | _ => none }
def CatalogTellsWrongFalsely : Prop := catalogTellsRow.holds Try.pinned (OpenSpec.ofChange catalogTellsWrong)

/-- 'garnerlaw16.CatalogCalls': WHATEVER THE INPUT: true; the input reads as it did. -/
def catalogCallsSpec : ChangeSpec := { name := "catalogCalls", fn := fun _ => fun
  | [d1, d2] => { results := [.lit (.bool true)], args := [d1, d2] }
  | _ => none }
def catalogCallsRow : OpenClaim := { program := "ytecdnhmdodedmaa", sum := "467f28fe663f4173fe9c5105681426ef3b60502548a60ce3df08a2f42320d565", func := "garner/garnerlaw16.CatalogCalls", spec := "catalogCalls", unfollowed := true, recurses := true, apart := false }
def CatalogCallsSaid : Prop := catalogCallsRow.holds Try.pinned (OpenSpec.ofChange catalogCallsSpec)

/-- ITS FALSE NEIGHBOUR: 'it returns false'. Refute it at one input. -/
def catalogCallsWrong : ChangeSpec := { name := "catalogCalls", fn := fun _ => fun
  | [d1, d2] => { results := [.lit (.bool false)], args := [d1, d2] }
  | _ => none }
def CatalogCallsWrongFalsely : Prop := catalogCallsRow.holds Try.pinned (OpenSpec.ofChange catalogCallsWrong)

/-- 'garnerlaw16.CatalogBounds': WHATEVER THE INPUT: true; the input reads as it did. -/
def catalogBoundsSpec : ChangeSpec := { name := "catalogBounds", fn := fun _ => fun
  | [] => { results := [.lit (.bool true)], args := [] }
  | _ => none }
def catalogBoundsRow : OpenClaim := { program := "ytecdnhmdodedmaa", sum := "467f28fe663f4173fe9c5105681426ef3b60502548a60ce3df08a2f42320d565", func := "garner/garnerlaw16.CatalogBounds", spec := "catalogBounds", unfollowed := true, recurses := true, apart := false }
def CatalogBoundsSaid : Prop := catalogBoundsRow.holds Try.pinned (OpenSpec.ofChange catalogBoundsSpec)

/-- ITS FALSE NEIGHBOUR: 'it returns false'. Refute it at one input. -/
def catalogBoundsWrong : ChangeSpec := { name := "catalogBounds", fn := fun _ => fun
  | [] => { results := [.lit (.bool false)], args := [] }
  | _ => none }
def CatalogBoundsWrongFalsely : Prop := catalogBoundsRow.holds Try.pinned (OpenSpec.ofChange catalogBoundsWrong)

/- THE SECOND FORM. 'bulk': how many values and letters a reading holds, each counted each time it is reached (what is shared counts as often as it is met; a slice's spare places count too). A statement '..UptoSaid' is the law's where the arguments, and the package variables that the reading takes, are together of bulk at most 1048576: NARROWER than '..Said'. Prove '..Said' where nothing that the law and all that it calls make is longer than what came in: it says more and counts as full. Else prove '..UptoSaid'. A law counts once. -/
mutual
def uptoBulk {H : Type} : DataW H → Nat
  | .lit (.string bytes) => bytes.length + 1
  | .lit _ => 1
  | .nil => 1
  | .ptr d => uptoBulk d + 1
  | .slice elems spare => uptoBulkAll elems + uptoBulkAll spare + 1
  | .agg parts => uptoBulkAll parts + 1
  | .iface _ d => uptoBulk d + 1
  | .map entries => uptoBulkEntries entries + 1
  | .held _ => 1
def uptoBulkAll {H : Type} : List (DataW H) → Nat
  | [] => 0
  | d :: r => uptoBulk d + uptoBulkAll r
def uptoBulkEntries {H : Type} : List (Lit × DataW H) → Nat
  | [] => 0
  | x :: r => uptoBulkEntry x + uptoBulkEntries r
def uptoBulkEntry {H : Type} : Lit × DataW H → Nat
  | (.string bytes, d) => bytes.length + uptoBulk d + 1
  | (_, d) => uptoBulk d + 1
 end
def uptoSmall : (H : Type) → List (DataW H) → Bool := fun _ ds => decide (uptoBulkAll ds ≤ 1048576)
def OpenSpec.upto (s : _root_.Go.ChangeSpec) : _root_.Go.OpenSpec := { _root_.Go.OpenSpec.ofChange s with cond := some uptoSmall }

/-- 'garnerlaw16.CatalogJobs', WHERE WHAT IT READS IS OF BULK AT MOST 1048576: true; the input reads as it did. -/
def catalogJobsUptoRow : OpenClaim := { program := "ytecdnhmdodedmaa", sum := "467f28fe663f4173fe9c5105681426ef3b60502548a60ce3df08a2f42320d565", func := "garner/garnerlaw16.CatalogJobs", spec := "catalogJobs", unfollowed := true, recurses := true, apart := false, narrowed := true }
def CatalogJobsUptoSaid : Prop := catalogJobsUptoRow.holds Try.pinned (OpenSpec.upto catalogJobsSpec)

/-- 'garnerlaw16.CatalogEntries', WHERE WHAT IT READS IS OF BULK AT MOST 1048576: true; the input reads as it did. -/
def catalogEntriesUptoRow : OpenClaim := { program := "ytecdnhmdodedmaa", sum := "467f28fe663f4173fe9c5105681426ef3b60502548a60ce3df08a2f42320d565", func := "garner/garnerlaw16.CatalogEntries", spec := "catalogEntries", unfollowed := true, recurses := true, apart := false, narrowed := true }
def CatalogEntriesUptoSaid : Prop := catalogEntriesUptoRow.holds Try.pinned (OpenSpec.upto catalogEntriesSpec)

/-- 'garnerlaw16.CatalogTells', WHERE WHAT IT READS IS OF BULK AT MOST 1048576: true; the input reads as it did. -/
def catalogTellsUptoRow : OpenClaim := { program := "ytecdnhmdodedmaa", sum := "467f28fe663f4173fe9c5105681426ef3b60502548a60ce3df08a2f42320d565", func := "garner/garnerlaw16.CatalogTells", spec := "catalogTells", unfollowed := true, recurses := true, apart := false, narrowed := true }
def CatalogTellsUptoSaid : Prop := catalogTellsUptoRow.holds Try.pinned (OpenSpec.upto catalogTellsSpec)

/-- 'garnerlaw16.CatalogCalls', WHERE WHAT IT READS IS OF BULK AT MOST 1048576: true; the input reads as it did. -/
def catalogCallsUptoRow : OpenClaim := { program := "ytecdnhmdodedmaa", sum := "467f28fe663f4173fe9c5105681426ef3b60502548a60ce3df08a2f42320d565", func := "garner/garnerlaw16.CatalogCalls", spec := "catalogCalls", unfollowed := true, recurses := true, apart := false, narrowed := true }
def CatalogCallsUptoSaid : Prop := catalogCallsUptoRow.holds Try.pinned (OpenSpec.upto catalogCallsSpec)

/-- 'garnerlaw16.CatalogBounds', WHERE WHAT IT READS IS OF BULK AT MOST 1048576: true; the input reads as it did. -/
def catalogBoundsUptoRow : OpenClaim := { program := "ytecdnhmdodedmaa", sum := "467f28fe663f4173fe9c5105681426ef3b60502548a60ce3df08a2f42320d565", func := "garner/garnerlaw16.CatalogBounds", spec := "catalogBounds", unfollowed := true, recurses := true, apart := false, narrowed := true }
def CatalogBoundsUptoSaid : Prop := catalogBoundsUptoRow.holds Try.pinned (OpenSpec.upto catalogBoundsSpec)

end Rows
end Go.Proofs.Ytecdnhmdodedmaa
