-- Written for this claim by a program of this session, hp.py.
import Derived.Test.YthkdeaeppadbhaaProg
import Derived.Below
import Derived.Deep.Draws
import Derived.Deep.AppendLies
import Derived.Maps.AppendAt
import Derived.OwnWalk
import Derived.Laws.BytesArg
import Derived.Laws.MakeOwn
import Derived.Laws.OwnMore
import Derived.Deep.OwnRows
import Derived.Tactics
import Derived.Lib.ConvBytes
import Derived.Laws.Slices
import Derived.WalkKit
import Derived.KernelRfl
import Derived.RowKit3
import Derived.Deep.LoopGhost
import Derived.Deep.QuietTactic
import Derived.BigQuiet
import Derived.WideLaws
import Derived.Deep.DeepCutAuto
import Derived.Deep.CutBlock
import Derived.Deep.RegionHeld3
import Derived.Laws.Rows
import Derived.Lib.AppendStr
import Derived.ArgAppend
import Derived.Laws.IdiomCopy
import Derived.OrdersHeld
import Derived.Laws.BitsLemmas
import Derived.RowKit
import Derived.Test.YthkdeaeppadbhaaWWords
import Derived.Test.YthkdeaeppadbhaaWLast
import Derived.Test.YthkdeaeppadbhaaWTab
import Derived.Test.YthkdeaeppadbhaaWFour
import Derived.Test.YthkdeaeppadbhaaWQPut
import Derived.Test.YthkdeaeppadbhaaWApart
import Derived.Test.YthkdeaeppadbhaaWArr
import Derived.Test.YthkdeaeppadbhaaWZeros
import Derived.Test.YthkdeaeppadbhaaWFoot
import Derived.Test.YthkdeaeppadbhaaWKept
import Derived.Test.YthkdeaeppadbhaaWShare
import Derived.Test.YthkdeaeppadbhaaWN
import Derived.Test.YthkdeaeppadbhaaWFootNe
import Derived.Test.YthkdeaeppadbhaaWAt
import Derived.Test.YthkdeaeppadbhaaWEqStruct
import Derived.Test.YthkdeaeppadbhaaWRepsOne
import Derived.Test.YthkdeaeppadbhaaWInv
import Derived.Test.YthkdeaeppadbhaaWInvWords
import Derived.Test.YthkdeaeppadbhaaWGuard
import Derived.Test.YthkdeaeppadbhaaWNEv
import Derived.Test.YthkdeaeppadbhaaWMore
namespace Go.Proofs.Ythkdeaeppadbhaa.HVersionChanges
open Go.RowKit Go.Proofs.YthkdeaeppadbhaaW.PrintWords Go.Proofs.YthkdeaeppadbhaaW.PrintLast Go.Proofs.YthkdeaeppadbhaaW.PrintMore
attribute [local go_sem] max2_int min2_int max_two min_two max_three min_three max_four min_four   -- for this text's walks alone
set_option linter.unusedVariables false
set_option linter.unusedSimpArgs false



def errW : Option Int → Value
  | none => .nilIface
  | some c => .iface 0 (.int .i64 c)
theorem errW_none : errW none = .nilIface := rfl
theorem errW_some (c : Int) : errW (some c) = .iface 0 (.int .i64 c) := rfl

-- the values' own types

end Go.Proofs.Ythkdeaeppadbhaa.HVersionChanges
