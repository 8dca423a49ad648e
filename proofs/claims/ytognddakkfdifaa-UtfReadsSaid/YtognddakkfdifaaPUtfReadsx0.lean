-- By a program of this session (a print over functions that are proved by hand), for this claim.
import Derived.Test.YtognddakkfdifaaProg
import Derived.Below
import Derived.Deep.Draws
import Derived.Deep.AppendLies
import Derived.Maps.AppendAt
import Derived.OwnWalk
import Derived.Laws.BytesArg
import Derived.Laws.MakeOwn
import Derived.Laws.OwnMore
import Derived.Deep.OwnRows
import Derived.Tactics
import Derived.Lib.ConvBytes
import Derived.Laws.Slices
import Derived.WalkKit
import Derived.KernelRfl
import Derived.RowKit3
import Derived.Deep.LoopGhost
import Derived.Deep.QuietTactic
import Derived.BigQuiet
import Derived.WideLaws
import Derived.Deep.DeepCutAuto
import Derived.Deep.CutBlock
import Derived.Deep.RegionHeld3
import Derived.Laws.Rows
import Derived.Lib.AppendStr
import Derived.ArgAppend
import Derived.Laws.IdiomCopy
import Derived.OrdersHeld
import Derived.Laws.BitsLemmas
import Derived.RowKit
import Derived.Laws.Externs
import Derived.Laws.BitsAllLaws
import Derived.LoopN
import Derived.ScopeJumps
import Derived.WalkLawsBesides
import Derived.Test.YtognddakkfdifaaWWords
import Derived.Test.YtognddakkfdifaaWLast
import Derived.Test.YtognddakkfdifaaWTab
import Derived.Test.YtognddakkfdifaaWFour
import Derived.Test.YtognddakkfdifaaWQPut
import Derived.Test.YtognddakkfdifaaWApart
import Derived.Test.YtognddakkfdifaaWArr
import Derived.Test.YtognddakkfdifaaWZeros
import Derived.Test.YtognddakkfdifaaWFoot
import Derived.Test.YtognddakkfdifaaWKept
import Derived.Test.YtognddakkfdifaaWShare
import Derived.Test.YtognddakkfdifaaWN
import Derived.Test.YtognddakkfdifaaWFootNe
import Derived.Test.YtognddakkfdifaaWAt
import Derived.Test.YtognddakkfdifaaWEqStruct
import Derived.Test.YtognddakkfdifaaWRepsOne
import Derived.Test.YtognddakkfdifaaWInv
import Derived.Test.YtognddakkfdifaaWInvWords
import Derived.Test.YtognddakkfdifaaWGuard
import Derived.Test.YtognddakkfdifaaWNEv
import Derived.Test.YtognddakkfdifaaWMore
namespace Go.Proofs.Ytognddakkfdifaa.PUtfReads
open Go.RowKit Go.Proofs.YtognddakkfdifaaW.PrintWords Go.Proofs.YtognddakkfdifaaW.PrintLast Go.Proofs.YtognddakkfdifaaW.PrintMore
attribute [local go_sem] max2_int min2_int max_two min_two max_three min_three max_four min_four   -- for this text's walks alone
set_option linter.unusedVariables false
set_option linter.unusedSimpArgs false



def errW : Option Int → Value
  | none => .nilIface
  | some c => .iface 0 (.int .i64 c)
theorem errW_none : errW none = .nilIface := rfl
theorem errW_some (c : Int) : errW (some c) = .iface 0 (.int .i64 c) := rfl

theorem info3 : (Try.prog.info? 3).map (fun i => (i.zero, i.size, i.bytes)) = some (some (.int .i64 0), 1, 8) := by kernel_rfl
theorem info5 : (Try.prog.info? 5).map (fun i => (i.zero, i.size, i.bytes)) = some (some (.int .u8 0), 1, 1) := by kernel_rfl
-- the values' own types

end Go.Proofs.Ytognddakkfdifaa.PUtfReads
