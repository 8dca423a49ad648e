-- By a program of this session (a print over functions that are proved by hand), for this claim.
import Derived.Test.YtoojmoefkdobpaaProg
import Derived.Below
import Derived.Deep.Draws
import Derived.Deep.AppendLies
import Derived.Maps.AppendAt
import Derived.OwnWalk
import Derived.Laws.BytesArg
import Derived.Laws.MakeOwn
import Derived.Laws.OwnMore
import Derived.Deep.OwnRows
import Derived.Tactics
import Derived.Lib.ConvBytes
import Derived.Laws.Slices
import Derived.WalkKit
import Derived.KernelRfl
import Derived.RowKit3
import Derived.Deep.LoopGhost
import Derived.Deep.QuietTactic
import Derived.BigQuiet
import Derived.WideLaws
import Derived.Deep.DeepCutAuto
import Derived.Deep.CutBlock
import Derived.Deep.RegionHeld3
import Derived.Laws.Rows
import Derived.Lib.AppendStr
import Derived.ArgAppend
import Derived.Laws.IdiomCopy
import Derived.OrdersHeld
import Derived.Laws.BitsLemmas
import Derived.RowKit
import Derived.Test.YtoojmoefkdobpaaWWords
import Derived.Test.YtoojmoefkdobpaaWLast
import Derived.Test.YtoojmoefkdobpaaWTab
import Derived.Test.YtoojmoefkdobpaaWFour
import Derived.Test.YtoojmoefkdobpaaWQPut
import Derived.Test.YtoojmoefkdobpaaWApart
import Derived.Test.YtoojmoefkdobpaaWArr
import Derived.Test.YtoojmoefkdobpaaWZeros
import Derived.Test.YtoojmoefkdobpaaWFoot
import Derived.Test.YtoojmoefkdobpaaWKept
import Derived.Test.YtoojmoefkdobpaaWShare
import Derived.Test.YtoojmoefkdobpaaWN
import Derived.Test.YtoojmoefkdobpaaWFootNe
import Derived.Test.YtoojmoefkdobpaaWAt
import Derived.Test.YtoojmoefkdobpaaWEqStruct
import Derived.Test.YtoojmoefkdobpaaWRepsOne
import Derived.Test.YtoojmoefkdobpaaWInv
import Derived.Test.YtoojmoefkdobpaaWInvWords
import Derived.Test.YtoojmoefkdobpaaWGuard
import Derived.Test.YtoojmoefkdobpaaWNEv
import Derived.Test.YtoojmoefkdobpaaWMore
namespace Go.Proofs.Ytoojmoefkdobpaa.PPackBack
open Go.RowKit Go.Proofs.YtoojmoefkdobpaaW.PrintWords Go.Proofs.YtoojmoefkdobpaaW.PrintLast Go.Proofs.YtoojmoefkdobpaaW.PrintMore
attribute [local go_sem] max2_int min2_int max_two min_two max_three min_three max_four min_four   -- for this text's walks alone
set_option linter.unusedVariables false
set_option linter.unusedSimpArgs false



def errW : Option Int → Value
  | none => .nilIface
  | some c => .iface 0 (.int .i64 c)
theorem errW_none : errW none = .nilIface := rfl
theorem errW_some (c : Int) : errW (some c) = .iface 0 (.int .i64 c) := rfl

theorem info5 : (Try.prog.info? 5).map (fun i => (i.zero, i.size, i.bytes)) = some (some (.int .u8 0), 1, 1) := by kernel_rfl
-- the values' own types

end Go.Proofs.Ytoojmoefkdobpaa.PPackBack
