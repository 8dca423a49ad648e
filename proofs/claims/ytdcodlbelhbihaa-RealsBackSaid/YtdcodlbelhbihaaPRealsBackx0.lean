-- By a program of this session (a print over functions that are proved by hand), for this claim.
import Derived.Test.YtdcodlbelhbihaaProg
import Derived.Below
import Derived.Deep.Draws
import Derived.Deep.AppendLies
import Derived.Maps.AppendAt
import Derived.OwnWalk
import Derived.Laws.BytesArg
import Derived.Laws.MakeOwn
import Derived.Laws.OwnMore
import Derived.Deep.OwnRows
import Derived.Tactics
import Derived.Lib.ConvBytes
import Derived.Laws.Slices
import Derived.WalkKit
import Derived.KernelRfl
import Derived.RowKit3
import Derived.Deep.LoopGhost
import Derived.Deep.QuietTactic
import Derived.BigQuiet
import Derived.WideLaws
import Derived.Deep.DeepCutAuto
import Derived.Deep.CutBlock
import Derived.Deep.RegionHeld3
import Derived.Laws.Rows
import Derived.Lib.AppendStr
import Derived.ArgAppend
import Derived.Laws.IdiomCopy
import Derived.OrdersHeld
import Derived.Laws.BitsLemmas
import Derived.RowKit
import Derived.Laws.Externs
import Derived.Laws.BitsAllLaws
import Derived.LoopN
import Derived.ScopeJumps
import Derived.WalkLawsBesides
import Derived.Test.YtdcodlbelhbihaaFloatInt
import Derived.Test.YtdcodlbelhbihaaWWords
import Derived.Test.YtdcodlbelhbihaaWLast
import Derived.Test.YtdcodlbelhbihaaWTab
import Derived.Test.YtdcodlbelhbihaaWFour
import Derived.Test.YtdcodlbelhbihaaWQPut
import Derived.Test.YtdcodlbelhbihaaWApart
import Derived.Test.YtdcodlbelhbihaaWArr
import Derived.Test.YtdcodlbelhbihaaWZeros
import Derived.Test.YtdcodlbelhbihaaWFoot
import Derived.Test.YtdcodlbelhbihaaWKept
import Derived.Test.YtdcodlbelhbihaaWShare
import Derived.Test.YtdcodlbelhbihaaWN
import Derived.Test.YtdcodlbelhbihaaWFootNe
import Derived.Test.YtdcodlbelhbihaaWAt
import Derived.Test.YtdcodlbelhbihaaWEqStruct
import Derived.Test.YtdcodlbelhbihaaWRepsOne
import Derived.Test.YtdcodlbelhbihaaWInv
import Derived.Test.YtdcodlbelhbihaaWInvWords
import Derived.Test.YtdcodlbelhbihaaWGuard
import Derived.Test.YtdcodlbelhbihaaWNEv
import Derived.Test.YtdcodlbelhbihaaWMore
namespace Go.Proofs.Ytdcodlbelhbihaa.PRealsBack
open Go.RowKit Go.Proofs.YtdcodlbelhbihaaW.PrintWords Go.Proofs.YtdcodlbelhbihaaW.PrintLast Go.Proofs.YtdcodlbelhbihaaW.PrintMore
attribute [local go_sem] max2_int min2_int max_two min_two max_three min_three max_four min_four   -- for this text's walks alone
set_option linter.unusedVariables false
set_option linter.unusedSimpArgs false



def errW : Option Int → Value
  | none => .nilIface
  | some c => .iface 0 (.int .i64 c)
theorem errW_none : errW none = .nilIface := rfl
theorem errW_some (c : Int) : errW (some c) = .iface 0 (.int .i64 c) := rfl

-- the values' own types

end Go.Proofs.Ytdcodlbelhbihaa.PRealsBack
