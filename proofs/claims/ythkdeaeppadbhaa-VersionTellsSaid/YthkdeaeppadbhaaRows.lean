/-
  No cell of these rows narrows 'for every input' (looked for: loops, veiled, ifaces, maps, wideKeys, modest, calm, conditions, laid).
  DERIVED. THE GIVEN ROWS OF THIS SEAT. 5 by the template 'for every input the law returns true; each argument reads behind the call as it read before'; 0 by the template 'total and deterministic' (their statements: YthkdeaeppadbhaaTotals.lean).
  GIVEN WITH THE SEED: the statements are not yours to turn. If you find one false, say at which input.
  Laid BY PROGRAM, IN A SANDBOX (cutbox-rows.mjs): the forced cells as the released guide's own fill.sh prints them over the translation 7c7555dcd0c88976… (all of the seat's roots in one cut). By AI agents, Wed Nov 11 2026. No macro, syntax, notation, axiom, sorry.
-/
import Derived.Test.YthkdeaeppadbhaaChecked
import GoSem.Claim
import GoSem.ClaimJoined
import GoSem.ClaimMapViews
import Derived.JoinedTies
import Derived.KernelRfl
namespace Go.Proofs.Ythkdeaeppadbhaa
/- THE CELL 'sum', in the pinned program and in every row, IS THE sha256 OF THE DUMP (.gsa) THAT YthkdeaeppadbhaaProg.lean LOADS. Nothing in Lean hashes anything: it is a label: what it is worth is what the hold of that sum in a sandbox is worth. -/
noncomputable def Try.pinned : Pinned := { name := "ythkdeaeppadbhaa", sum := "7c7555dcd0c88976b134a2e77a9a541524cc3ac3764e5e00e47395212e948533", checked := Try.checked }
namespace Rows
def none {H : Type} : Left H := { results := [], args := [] }

/-- 'garnerlaw10.VersionSame': WHATEVER THE INPUT: true; the input reads as it did. -/
def versionSameSpec : ChangeSpec := { name := "versionSame", fn := fun _ => fun
  | [d1, d2] => { results := [.lit (.bool true)], args := [d1, d2] }
  | _ => none }
def versionSameRow : OpenClaim := { program := "ythkdeaeppadbhaa", sum := "7c7555dcd0c88976b134a2e77a9a541524cc3ac3764e5e00e47395212e948533", func := "garner/garnerlaw10.VersionSame", spec := "versionSame", unfollowed := true, recurses := true, apart := false }
def VersionSameSaid : Prop := versionSameRow.holds Try.pinned (OpenSpec.ofChange versionSameSpec)

/-- ITS FALSE NEIGHBOUR: 'it returns false'. Refute it at one input. -/
def versionSameWrong : ChangeSpec := { name := "versionSame", fn := fun _ => fun
  | [d1, d2] => { results := [.lit (.bool false)], args := [d1, d2] }
  | _ => none }
def VersionSameWrongFalsely : Prop := versionSameRow.holds Try.pinned (OpenSpec.ofChange versionSameWrong)

/-- 'garnerlaw10.VersionSteps': WHATEVER THE INPUT: true; the input reads as it did. -/
def versionStepsSpec : ChangeSpec := { name := "versionSteps", fn := fun _ => fun
  | [d] => { results := [.lit (.bool true)], args := [d] }
  | _ => none }
def versionStepsRow : OpenClaim := { program := "ythkdeaeppadbhaa", sum := "7c7555dcd0c88976b134a2e77a9a541524cc3ac3764e5e00e47395212e948533", func := "garner/garnerlaw10.VersionSteps", spec := "versionSteps", unfollowed := true, recurses := true, apart := false }
def VersionStepsSaid : Prop := versionStepsRow.holds Try.pinned (OpenSpec.ofChange versionStepsSpec)

/-- ITS FALSE NEIGHBOUR: 'it returns false'. Refute it at one input. -/
def versionStepsWrong : ChangeSpec := { name := "versionSteps", fn := fun _ => fun
  | [d] => { results := [.lit (.bool false)], args := [d] }
  | _ => none }
def VersionStepsWrongFalsely : Prop := versionStepsRow.holds Try.pinned (OpenSpec.ofChange versionStepsWrong)

/-- 'garnerlaw10.VersionChanges': WHATEVER THE INPUT: true; the input reads as it did. -/
def versionChangesSpec : ChangeSpec := { name := "versionChanges", fn := fun _ => fun
  | [d1, d2] => { results := [.lit (.bool true)], args := [d1, d2] }
  | _ => none }
def versionChangesRow : OpenClaim := { program := "ythkdeaeppadbhaa", sum := "7c7555dcd0c88976b134a2e77a9a541524cc3ac3764e5e00e47395212e948533", func := "garner/garnerlaw10.VersionChanges", spec := "versionChanges", unfollowed := true, recurses := true, apart := false }
def VersionChangesSaid : Prop := versionChangesRow.holds Try.pinned (OpenSpec.ofChange versionChangesSpec)

/-- ITS FALSE NEIGHBOUR: 'it returns false'. Refute it at one input. -/
def versionChangesWrong : ChangeSpec := { name := "versionChanges", fn := fun _ => fun
  | [d1, d2] => { results := [.lit (.bool false)], args := [d1, d2] }
  | _ => none }
def VersionChangesWrongFalsely : Prop := versionChangesRow.holds Try.pinned (OpenSpec.ofChange versionChangesWrong)

/-- 'garnerlaw10.VersionTells': WHATEVER THE INPUT: true; the input reads as it did. -/
def versionTellsSpec : ChangeSpec := { name := "versionTells", fn := fun _ => fun
  | [d1, d2, d3, d4] => { results := [.lit (.bool true)], args := [d1, d2, d3, d4] }
  | _ => none }
def versionTellsRow : OpenClaim := { program := "ythkdeaeppadbhaa", sum := "7c7555dcd0c88976b134a2e77a9a541524cc3ac3764e5e00e47395212e948533", func := "garner/garnerlaw10.VersionTells", spec := "versionTells", unfollowed := true, recurses := true, apart := false }
def VersionTellsSaid : Prop := versionTellsRow.holds Try.pinned (OpenSpec.ofChange versionTellsSpec)

/-- ITS FALSE NEIGHBOUR: 'it returns false'. Refute it at one input. -/
def versionTellsWrong : ChangeSpec := { name := "versionTells", fn := fun _ => fun
  | [d1, d2, d3, d4] => { results := [.lit (.bool false)], args := [d1, d2, d3, d4] }
  | _ => none }
def VersionTellsWrongFalsely : Prop := versionTellsRow.holds Try.pinned (OpenSpec.ofChange versionTellsWrong)

/-- 'garnerlaw10.VersionRound': WHATEVER THE INPUT: true; the input reads as it did. -/
def versionRoundSpec : ChangeSpec := { name := "versionRound", fn := fun _ => fun
  | [d] => { results := [.lit (.bool true)], args := [d] }
  | _ => none }
def versionRoundRow : OpenClaim := { program := "ythkdeaeppadbhaa", sum := "7c7555dcd0c88976b134a2e77a9a541524cc3ac3764e5e00e47395212e948533", func := "garner/garnerlaw10.VersionRound", spec := "versionRound", unfollowed := true, recurses := true, apart := false }
def VersionRoundSaid : Prop := versionRoundRow.holds Try.pinned (OpenSpec.ofChange versionRoundSpec)

/-- ITS FALSE NEIGHBOUR: 'it returns false'. Refute it at one input. -/
def versionRoundWrong : ChangeSpec := { name := "versionRound", fn := fun _ => fun
  | [d] => { results := [.lit (.bool false)], args := [d] }
  | _ => none }
def VersionRoundWrongFalsely : Prop := versionRoundRow.holds Try.pinned (OpenSpec.ofChange versionRoundWrong)

/- THE SECOND FORM. 'bulk': how many values and letters a reading holds, each counted each time it is reached (what is shared counts as often as it is met; a slice's spare places count too). A statement '..UptoSaid' is the law's where the arguments, and the package variables that the reading takes, are together of bulk at most 1048576: NARROWER than '..Said'. Prove '..Said' where nothing that the law and all that it calls make is longer than what came in: it says more and counts as full. Else prove '..UptoSaid'. A law counts once. -/
mutual
def uptoBulk {H : Type} : DataW H → Nat
  | .lit (.string bytes) => bytes.length + 1
  | .lit _ => 1
  | .nil => 1
  | .ptr d => uptoBulk d + 1
  | .slice elems spare => uptoBulkAll elems + uptoBulkAll spare + 1
  | .agg parts => uptoBulkAll parts + 1
  | .iface _ d => uptoBulk d + 1
  | .map entries => uptoBulkEntries entries + 1
  | .held _ => 1
def uptoBulkAll {H : Type} : List (DataW H) → Nat
  | [] => 0
  | d :: r => uptoBulk d + uptoBulkAll r
def uptoBulkEntries {H : Type} : List (Lit × DataW H) → Nat
  | [] => 0
  | x :: r => uptoBulkEntry x + uptoBulkEntries r
def uptoBulkEntry {H : Type} : Lit × DataW H → Nat
  | (.string bytes, d) => bytes.length + uptoBulk d + 1
  | (_, d) => uptoBulk d + 1
 end
def uptoSmall : (H : Type) → List (DataW H) → Bool := fun _ ds => decide (uptoBulkAll ds ≤ 1048576)
def OpenSpec.upto (s : _root_.Go.ChangeSpec) : _root_.Go.OpenSpec := { _root_.Go.OpenSpec.ofChange s with cond := some uptoSmall }

/-- 'garnerlaw10.VersionSame', WHERE WHAT IT READS IS OF BULK AT MOST 1048576: true; the input reads as it did. -/
def versionSameUptoRow : OpenClaim := { program := "ythkdeaeppadbhaa", sum := "7c7555dcd0c88976b134a2e77a9a541524cc3ac3764e5e00e47395212e948533", func := "garner/garnerlaw10.VersionSame", spec := "versionSame", unfollowed := true, recurses := true, apart := false, narrowed := true }
def VersionSameUptoSaid : Prop := versionSameUptoRow.holds Try.pinned (OpenSpec.upto versionSameSpec)

/-- 'garnerlaw10.VersionSteps', WHERE WHAT IT READS IS OF BULK AT MOST 1048576: true; the input reads as it did. -/
def versionStepsUptoRow : OpenClaim := { program := "ythkdeaeppadbhaa", sum := "7c7555dcd0c88976b134a2e77a9a541524cc3ac3764e5e00e47395212e948533", func := "garner/garnerlaw10.VersionSteps", spec := "versionSteps", unfollowed := true, recurses := true, apart := false, narrowed := true }
def VersionStepsUptoSaid : Prop := versionStepsUptoRow.holds Try.pinned (OpenSpec.upto versionStepsSpec)

/-- 'garnerlaw10.VersionChanges', WHERE WHAT IT READS IS OF BULK AT MOST 1048576: true; the input reads as it did. -/
def versionChangesUptoRow : OpenClaim := { program := "ythkdeaeppadbhaa", sum := "7c7555dcd0c88976b134a2e77a9a541524cc3ac3764e5e00e47395212e948533", func := "garner/garnerlaw10.VersionChanges", spec := "versionChanges", unfollowed := true, recurses := true, apart := false, narrowed := true }
def VersionChangesUptoSaid : Prop := versionChangesUptoRow.holds Try.pinned (OpenSpec.upto versionChangesSpec)

/-- 'garnerlaw10.VersionTells', WHERE WHAT IT READS IS OF BULK AT MOST 1048576: true; the input reads as it did. -/
def versionTellsUptoRow : OpenClaim := { program := "ythkdeaeppadbhaa", sum := "7c7555dcd0c88976b134a2e77a9a541524cc3ac3764e5e00e47395212e948533", func := "garner/garnerlaw10.VersionTells", spec := "versionTells", unfollowed := true, recurses := true, apart := false, narrowed := true }
def VersionTellsUptoSaid : Prop := versionTellsUptoRow.holds Try.pinned (OpenSpec.upto versionTellsSpec)

/-- 'garnerlaw10.VersionRound', WHERE WHAT IT READS IS OF BULK AT MOST 1048576: true; the input reads as it did. -/
def versionRoundUptoRow : OpenClaim := { program := "ythkdeaeppadbhaa", sum := "7c7555dcd0c88976b134a2e77a9a541524cc3ac3764e5e00e47395212e948533", func := "garner/garnerlaw10.VersionRound", spec := "versionRound", unfollowed := true, recurses := true, apart := false, narrowed := true }
def VersionRoundUptoSaid : Prop := versionRoundUptoRow.holds Try.pinned (OpenSpec.upto versionRoundSpec)

end Rows
end Go.Proofs.Ythkdeaeppadbhaa
