-- By a program of this session (a print over functions that are proved by hand), for this claim.
import Derived.Test.YtldhmbaddiandaaProg
import Derived.Below
import Derived.Deep.Draws
import Derived.Deep.AppendLies
import Derived.Maps.AppendAt
import Derived.OwnWalk
import Derived.Laws.BytesArg
import Derived.Laws.MakeOwn
import Derived.Laws.OwnMore
import Derived.Deep.OwnRows
import Derived.Tactics
import Derived.Lib.ConvBytes
import Derived.Laws.Slices
import Derived.WalkKit
import Derived.KernelRfl
import Derived.RowKit3
import Derived.Deep.LoopGhost
import Derived.Deep.QuietTactic
import Derived.BigQuiet
import Derived.WideLaws
import Derived.Deep.DeepCutAuto
import Derived.Deep.CutBlock
import Derived.Deep.RegionHeld3
import Derived.Laws.Rows
import Derived.Lib.AppendStr
import Derived.ArgAppend
import Derived.Laws.IdiomCopy
import Derived.OrdersHeld
import Derived.Laws.BitsLemmas
import Derived.RowKit
import Derived.Lib.Bytealg
import Derived.Laws.Externs
import Derived.Laws.BitsAllLaws
import Derived.LoopN
import Derived.ScopeJumps
import Derived.WalkLawsBesides
import Derived.Test.YtldhmbaddiandaaFloatInt
import Derived.Test.YtldhmbaddiandaaWWords
import Derived.Test.YtldhmbaddiandaaWLast
import Derived.Test.YtldhmbaddiandaaWTab
import Derived.Test.YtldhmbaddiandaaWFour
import Derived.Test.YtldhmbaddiandaaWQPut
import Derived.Test.YtldhmbaddiandaaWApart
import Derived.Test.YtldhmbaddiandaaWArr
import Derived.Test.YtldhmbaddiandaaWZeros
import Derived.Test.YtldhmbaddiandaaWFoot
import Derived.Test.YtldhmbaddiandaaWKept
import Derived.Test.YtldhmbaddiandaaWShare
import Derived.Test.YtldhmbaddiandaaWN
import Derived.Test.YtldhmbaddiandaaWFootNe
import Derived.Test.YtldhmbaddiandaaWAt
import Derived.Test.YtldhmbaddiandaaWEqStruct
import Derived.Test.YtldhmbaddiandaaWRepsOne
import Derived.Test.YtldhmbaddiandaaWInv
import Derived.Test.YtldhmbaddiandaaWInvWords
import Derived.Test.YtldhmbaddiandaaWGuard
import Derived.Test.YtldhmbaddiandaaWNEv
import Derived.Test.YtldhmbaddiandaaWMore
namespace Go.Proofs.Ytldhmbaddiandaa.PValuesThree
open Go.RowKit Go.Proofs.YtldhmbaddiandaaW.PrintWords Go.Proofs.YtldhmbaddiandaaW.PrintLast Go.Proofs.YtldhmbaddiandaaW.PrintMore
attribute [local go_sem] max2_int min2_int max_two min_two max_three min_three max_four min_four   -- for this text's walks alone
set_option linter.unusedVariables false
set_option linter.unusedSimpArgs false



def errW : Option Int → Value
  | none => .nilIface
  | some c => .iface 0 (.int .i64 c)
theorem errW_none : errW none = .nilIface := rfl
theorem errW_some (c : Int) : errW (some c) = .iface 0 (.int .i64 c) := rfl

theorem info3 : (Try.prog.info? 3).map (fun i => (i.zero, i.size, i.bytes)) = some (some (.int .i64 0), 1, 8) := by kernel_rfl
-- the values' own types

end Go.Proofs.Ytldhmbaddiandaa.PValuesThree
