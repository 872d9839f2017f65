/-
  No cell of these rows narrows 'for every input' (looked for: loops, veiled, ifaces, maps, wideKeys, modest, calm, conditions, laid).
  DERIVED. THE GIVEN ROWS OF THIS SEAT. 7 by the template 'for every input the law returns true; each argument reads behind the call as it read before'; 0 by the template 'total and deterministic' (their statements: YtmpbcmnnlkienaaTotals.lean).
  GIVEN WITH THE SEED: the statements are not yours to turn. If you find one false, say at which input.
  Laid BY PROGRAM, IN A SANDBOX (cutbox-rows.mjs): the forced cells as the released guide's own fill.sh prints them over the translation 85edd03ce05960a6… (all of the seat's roots in one cut). By AI agents, Wed Nov 11 2026. No macro, syntax, notation, axiom, sorry.
-/
import Derived.Test.YtmpbcmnnlkienaaChecked
import GoSem.Claim
import GoSem.ClaimJoined
import GoSem.ClaimMapViews
import Derived.JoinedTies
import Derived.KernelRfl
namespace Go.Proofs.Ytmpbcmnnlkienaa
/- THE CELL 'sum', in the pinned program and in every row, IS THE sha256 OF THE DUMP (.gsa) THAT YtmpbcmnnlkienaaProg.lean LOADS. Nothing in Lean hashes anything: it is a label: what it is worth is what the hold of that sum in a sandbox is worth. -/
noncomputable def Try.pinned : Pinned := { name := "ytmpbcmnnlkienaa", sum := "85edd03ce05960a6520fa328d295ed4c493d81b5cbb376f54752fa318cb948cf", checked := Try.checked }
namespace Rows
def none {H : Type} : Left H := { results := [], args := [] }

/-- 'garnerlaw13.RowEntries': WHATEVER THE INPUT: true; the input reads as it did. -/
def rowEntriesSpec : ChangeSpec := { name := "rowEntries", fn := fun _ => fun
  | [d1, d2, d3] => { results := [.lit (.bool true)], args := [d1, d2, d3] }
  | _ => none }
def rowEntriesRow : OpenClaim := { program := "ytmpbcmnnlkienaa", sum := "85edd03ce05960a6520fa328d295ed4c493d81b5cbb376f54752fa318cb948cf", func := "garner/garnerlaw13.RowEntries", spec := "rowEntries", inPlace := ["internal/bytealg.IndexByte", "internal/bytealg.Index"], unfollowed := true, recurses := true, named := ["internal/bytealg.MaxLen"], apart := false }
def RowEntriesSaid : Prop := rowEntriesRow.holds Try.pinned (OpenSpec.ofChange rowEntriesSpec)

/-- ITS FALSE NEIGHBOUR: 'it returns false'. Refute it at one input. -/
def rowEntriesWrong : ChangeSpec := { name := "rowEntries", fn := fun _ => fun
  | [d1, d2, d3] => { results := [.lit (.bool false)], args := [d1, d2, d3] }
  | _ => none }
def RowEntriesWrongFalsely : Prop := rowEntriesRow.holds Try.pinned (OpenSpec.ofChange rowEntriesWrong)

/-- 'garnerlaw13.RowFronts': WHATEVER THE INPUT: true; the input reads as it did. -/
def rowFrontsSpec : ChangeSpec := { name := "rowFronts", fn := fun _ => fun
  | [d1, d2, d3] => { results := [.lit (.bool true)], args := [d1, d2, d3] }
  | _ => none }
def rowFrontsRow : OpenClaim := { program := "ytmpbcmnnlkienaa", sum := "85edd03ce05960a6520fa328d295ed4c493d81b5cbb376f54752fa318cb948cf", func := "garner/garnerlaw13.RowFronts", spec := "rowFronts", inPlace := ["internal/bytealg.IndexByte", "internal/bytealg.Index"], unfollowed := true, recurses := true, named := ["internal/bytealg.MaxLen"], apart := false }
def RowFrontsSaid : Prop := rowFrontsRow.holds Try.pinned (OpenSpec.ofChange rowFrontsSpec)

/-- ITS FALSE NEIGHBOUR: 'it returns false'. Refute it at one input. -/
def rowFrontsWrong : ChangeSpec := { name := "rowFronts", fn := fun _ => fun
  | [d1, d2, d3] => { results := [.lit (.bool false)], args := [d1, d2, d3] }
  | _ => none }
def RowFrontsWrongFalsely : Prop := rowFrontsRow.holds Try.pinned (OpenSpec.ofChange rowFrontsWrong)

/-- 'garnerlaw13.RowTells': WHATEVER THE INPUT: true; the input reads as it did. -/
def rowTellsSpec : ChangeSpec := { name := "rowTells", fn := fun _ => fun
  | [d1, d2] => { results := [.lit (.bool true)], args := [d1, d2] }
  | _ => none }
def rowTellsRow : OpenClaim := { program := "ytmpbcmnnlkienaa", sum := "85edd03ce05960a6520fa328d295ed4c493d81b5cbb376f54752fa318cb948cf", func := "garner/garnerlaw13.RowTells", spec := "rowTells", inPlace := ["internal/bytealg.IndexByte", "internal/bytealg.Index"], unfollowed := true, recurses := true, named := ["internal/bytealg.MaxLen"], apart := false }
def RowTellsSaid : Prop := rowTellsRow.holds Try.pinned (OpenSpec.ofChange rowTellsSpec)

/-- ITS FALSE NEIGHBOUR: 'it returns false'. Refute it at one input. -/
def rowTellsWrong : ChangeSpec := { name := "rowTells", fn := fun _ => fun
  | [d1, d2] => { results := [.lit (.bool false)], args := [d1, d2] }
  | _ => none }
def RowTellsWrongFalsely : Prop := rowTellsRow.holds Try.pinned (OpenSpec.ofChange rowTellsWrong)

/-- 'garnerlaw13.RowWrites': WHATEVER THE INPUT: true; the input reads as it did. -/
def rowWritesSpec : ChangeSpec := { name := "rowWrites", fn := fun _ => fun
  | [d1, d2] => { results := [.lit (.bool true)], args := [d1, d2] }
  | _ => none }
def rowWritesRow : OpenClaim := { program := "ytmpbcmnnlkienaa", sum := "85edd03ce05960a6520fa328d295ed4c493d81b5cbb376f54752fa318cb948cf", func := "garner/garnerlaw13.RowWrites", spec := "rowWrites", inPlace := ["internal/bytealg.IndexByte", "internal/bytealg.Index"], unfollowed := true, recurses := true, named := ["internal/bytealg.MaxLen"], apart := false }
def RowWritesSaid : Prop := rowWritesRow.holds Try.pinned (OpenSpec.ofChange rowWritesSpec)

/-- ITS FALSE NEIGHBOUR: 'it returns false'. Refute it at one input. -/
def rowWritesWrong : ChangeSpec := { name := "rowWrites", fn := fun _ => fun
  | [d1, d2] => { results := [.lit (.bool false)], args := [d1, d2] }
  | _ => none }
def RowWritesWrongFalsely : Prop := rowWritesRow.holds Try.pinned (OpenSpec.ofChange rowWritesWrong)

/-- 'garnerlaw13.RowReads': WHATEVER THE INPUT: true; the input reads as it did. -/
def rowReadsSpec : ChangeSpec := { name := "rowReads", fn := fun _ => fun
  | [d1, d2] => { results := [.lit (.bool true)], args := [d1, d2] }
  | _ => none }
def rowReadsRow : OpenClaim := { program := "ytmpbcmnnlkienaa", sum := "85edd03ce05960a6520fa328d295ed4c493d81b5cbb376f54752fa318cb948cf", func := "garner/garnerlaw13.RowReads", spec := "rowReads", inPlace := ["internal/bytealg.IndexByte", "internal/bytealg.Index"], unfollowed := true, recurses := true, named := ["internal/bytealg.MaxLen"], apart := false }
def RowReadsSaid : Prop := rowReadsRow.holds Try.pinned (OpenSpec.ofChange rowReadsSpec)

/-- ITS FALSE NEIGHBOUR: 'it returns false'. Refute it at one input. -/
def rowReadsWrong : ChangeSpec := { name := "rowReads", fn := fun _ => fun
  | [d1, d2] => { results := [.lit (.bool false)], args := [d1, d2] }
  | _ => none }
def RowReadsWrongFalsely : Prop := rowReadsRow.holds Try.pinned (OpenSpec.ofChange rowReadsWrong)

/-- 'garnerlaw13.RowBack': WHATEVER THE INPUT: true; the input reads as it did. -/
def rowBackSpec : ChangeSpec := { name := "rowBack", fn := fun _ => fun
  | [d1, d2, d3, d4] => { results := [.lit (.bool true)], args := [d1, d2, d3, d4] }
  | _ => none }
def rowBackRow : OpenClaim := { program := "ytmpbcmnnlkienaa", sum := "85edd03ce05960a6520fa328d295ed4c493d81b5cbb376f54752fa318cb948cf", func := "garner/garnerlaw13.RowBack", spec := "rowBack", inPlace := ["internal/bytealg.IndexByte", "internal/bytealg.Index"], unfollowed := true, recurses := true, named := ["internal/bytealg.MaxLen"], apart := false }
def RowBackSaid : Prop := rowBackRow.holds Try.pinned (OpenSpec.ofChange rowBackSpec)

/-- ITS FALSE NEIGHBOUR: 'it returns false'. Refute it at one input. -/
def rowBackWrong : ChangeSpec := { name := "rowBack", fn := fun _ => fun
  | [d1, d2, d3, d4] => { results := [.lit (.bool false)], args := [d1, d2, d3, d4] }
  | _ => none }
def RowBackWrongFalsely : Prop := rowBackRow.holds Try.pinned (OpenSpec.ofChange rowBackWrong)

/-- 'garnerlaw13.RowBounds': WHATEVER THE INPUT: true; the input reads as it did. -/
def rowBoundsSpec : ChangeSpec := { name := "rowBounds", fn := fun _ => fun
  | [] => { results := [.lit (.bool true)], args := [] }
  | _ => none }
def rowBoundsRow : OpenClaim := { program := "ytmpbcmnnlkienaa", sum := "85edd03ce05960a6520fa328d295ed4c493d81b5cbb376f54752fa318cb948cf", func := "garner/garnerlaw13.RowBounds", spec := "rowBounds", inPlace := ["internal/bytealg.IndexByte", "internal/bytealg.Index"], unfollowed := true, recurses := true, named := ["internal/bytealg.MaxLen"], apart := false }
def RowBoundsSaid : Prop := rowBoundsRow.holds Try.pinned (OpenSpec.ofChange rowBoundsSpec)

/-- ITS FALSE NEIGHBOUR: 'it returns false'. Refute it at one input. -/
def rowBoundsWrong : ChangeSpec := { name := "rowBounds", fn := fun _ => fun
  | [] => { results := [.lit (.bool false)], args := [] }
  | _ => none }
def RowBoundsWrongFalsely : Prop := rowBoundsRow.holds Try.pinned (OpenSpec.ofChange rowBoundsWrong)

/- THE SECOND FORM. 'bulk': how many values and letters a reading holds, each counted each time it is reached (what is shared counts as often as it is met; a slice's spare places count too). A statement '..UptoSaid' is the law's where the arguments, and the package variables that the reading takes, are together of bulk at most 1048576: NARROWER than '..Said'. Prove '..Said' where nothing that the law and all that it calls make is longer than what came in: it says more and counts as full. Else prove '..UptoSaid'. A law counts once. -/
mutual
def uptoBulk {H : Type} : DataW H → Nat
  | .lit (.string bytes) => bytes.length + 1
  | .lit _ => 1
  | .nil => 1
  | .ptr d => uptoBulk d + 1
  | .slice elems spare => uptoBulkAll elems + uptoBulkAll spare + 1
  | .agg parts => uptoBulkAll parts + 1
  | .iface _ d => uptoBulk d + 1
  | .map entries => uptoBulkEntries entries + 1
  | .held _ => 1
def uptoBulkAll {H : Type} : List (DataW H) → Nat
  | [] => 0
  | d :: r => uptoBulk d + uptoBulkAll r
def uptoBulkEntries {H : Type} : List (Lit × DataW H) → Nat
  | [] => 0
  | x :: r => uptoBulkEntry x + uptoBulkEntries r
def uptoBulkEntry {H : Type} : Lit × DataW H → Nat
  | (.string bytes, d) => bytes.length + uptoBulk d + 1
  | (_, d) => uptoBulk d + 1
 end
def uptoSmall : (H : Type) → List (DataW H) → Bool := fun _ ds => decide (uptoBulkAll ds ≤ 1048576)
def OpenSpec.upto (s : _root_.Go.ChangeSpec) : _root_.Go.OpenSpec := { _root_.Go.OpenSpec.ofChange s with cond := some uptoSmall }

/-- 'garnerlaw13.RowEntries', WHERE WHAT IT READS IS OF BULK AT MOST 1048576: true; the input reads as it did. -/
def rowEntriesUptoRow : OpenClaim := { program := "ytmpbcmnnlkienaa", sum := "85edd03ce05960a6520fa328d295ed4c493d81b5cbb376f54752fa318cb948cf", func := "garner/garnerlaw13.RowEntries", spec := "rowEntries", inPlace := ["internal/bytealg.IndexByte", "internal/bytealg.Index"], unfollowed := true, recurses := true, named := ["internal/bytealg.MaxLen"], apart := false, narrowed := true }
def RowEntriesUptoSaid : Prop := rowEntriesUptoRow.holds Try.pinned (OpenSpec.upto rowEntriesSpec)

/-- 'garnerlaw13.RowFronts', WHERE WHAT IT READS IS OF BULK AT MOST 1048576: true; the input reads as it did. -/
def rowFrontsUptoRow : OpenClaim := { program := "ytmpbcmnnlkienaa", sum := "85edd03ce05960a6520fa328d295ed4c493d81b5cbb376f54752fa318cb948cf", func := "garner/garnerlaw13.RowFronts", spec := "rowFronts", inPlace := ["internal/bytealg.IndexByte", "internal/bytealg.Index"], unfollowed := true, recurses := true, named := ["internal/bytealg.MaxLen"], apart := false, narrowed := true }
def RowFrontsUptoSaid : Prop := rowFrontsUptoRow.holds Try.pinned (OpenSpec.upto rowFrontsSpec)

/-- 'garnerlaw13.RowTells', WHERE WHAT IT READS IS OF BULK AT MOST 1048576: true; the input reads as it did. -/
def rowTellsUptoRow : OpenClaim := { program := "ytmpbcmnnlkienaa", sum := "85edd03ce05960a6520fa328d295ed4c493d81b5cbb376f54752fa318cb948cf", func := "garner/garnerlaw13.RowTells", spec := "rowTells", inPlace := ["internal/bytealg.IndexByte", "internal/bytealg.Index"], unfollowed := true, recurses := true, named := ["internal/bytealg.MaxLen"], apart := false, narrowed := true }
def RowTellsUptoSaid : Prop := rowTellsUptoRow.holds Try.pinned (OpenSpec.upto rowTellsSpec)

/-- 'garnerlaw13.RowWrites', WHERE WHAT IT READS IS OF BULK AT MOST 1048576: true; the input reads as it did. -/
def rowWritesUptoRow : OpenClaim := { program := "ytmpbcmnnlkienaa", sum := "85edd03ce05960a6520fa328d295ed4c493d81b5cbb376f54752fa318cb948cf", func := "garner/garnerlaw13.RowWrites", spec := "rowWrites", inPlace := ["internal/bytealg.IndexByte", "internal/bytealg.Index"], unfollowed := true, recurses := true, named := ["internal/bytealg.MaxLen"], apart := false, narrowed := true }
def RowWritesUptoSaid : Prop := rowWritesUptoRow.holds Try.pinned (OpenSpec.upto rowWritesSpec)

/-- 'garnerlaw13.RowReads', WHERE WHAT IT READS IS OF BULK AT MOST 1048576: true; the input reads as it did. -/
def rowReadsUptoRow : OpenClaim := { program := "ytmpbcmnnlkienaa", sum := "85edd03ce05960a6520fa328d295ed4c493d81b5cbb376f54752fa318cb948cf", func := "garner/garnerlaw13.RowReads", spec := "rowReads", inPlace := ["internal/bytealg.IndexByte", "internal/bytealg.Index"], unfollowed := true, recurses := true, named := ["internal/bytealg.MaxLen"], apart := false, narrowed := true }
def RowReadsUptoSaid : Prop := rowReadsUptoRow.holds Try.pinned (OpenSpec.upto rowReadsSpec)

/-- 'garnerlaw13.RowBack', WHERE WHAT IT READS IS OF BULK AT MOST 1048576: true; the input reads as it did. -/
def rowBackUptoRow : OpenClaim := { program := "ytmpbcmnnlkienaa", sum := "85edd03ce05960a6520fa328d295ed4c493d81b5cbb376f54752fa318cb948cf", func := "garner/garnerlaw13.RowBack", spec := "rowBack", inPlace := ["internal/bytealg.IndexByte", "internal/bytealg.Index"], unfollowed := true, recurses := true, named := ["internal/bytealg.MaxLen"], apart := false, narrowed := true }
def RowBackUptoSaid : Prop := rowBackUptoRow.holds Try.pinned (OpenSpec.upto rowBackSpec)

/-- 'garnerlaw13.RowBounds', WHERE WHAT IT READS IS OF BULK AT MOST 1048576: true; the input reads as it did. -/
def rowBoundsUptoRow : OpenClaim := { program := "ytmpbcmnnlkienaa", sum := "85edd03ce05960a6520fa328d295ed4c493d81b5cbb376f54752fa318cb948cf", func := "garner/garnerlaw13.RowBounds", spec := "rowBounds", inPlace := ["internal/bytealg.IndexByte", "internal/bytealg.Index"], unfollowed := true, recurses := true, named := ["internal/bytealg.MaxLen"], apart := false, narrowed := true }
def RowBoundsUptoSaid : Prop := rowBoundsUptoRow.holds Try.pinned (OpenSpec.upto rowBoundsSpec)

end Rows
end Go.Proofs.Ytmpbcmnnlkienaa
