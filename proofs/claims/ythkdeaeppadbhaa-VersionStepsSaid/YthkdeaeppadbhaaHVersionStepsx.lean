-- Written for this claim by a program of this session, hp.py.
import Derived.Test.YthkdeaeppadbhaaHVersionStepsx0
import Derived.Test.YthkdeaeppadbhaaHVersionStepsx1
import Derived.Test.YthkdeaeppadbhaaHVersionStepsx2
namespace Go.Proofs.Ythkdeaeppadbhaa.HVersionSteps
open Go.RowKit Go.Proofs.YthkdeaeppadbhaaW.PrintWords Go.Proofs.YthkdeaeppadbhaaW.PrintLast Go.Proofs.YthkdeaeppadbhaaW.PrintMore
attribute [local go_sem] max2_int min2_int max_two min_two max_three min_three max_four min_four   -- for this text's walks alone
set_option linter.unusedVariables false
set_option linter.unusedSimpArgs false

end Go.Proofs.Ythkdeaeppadbhaa.HVersionSteps
