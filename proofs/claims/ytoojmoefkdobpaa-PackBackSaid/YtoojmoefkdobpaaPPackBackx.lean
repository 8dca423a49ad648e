-- By a program of this session (a print over functions that are proved by hand), for this claim.
import Derived.Test.YtoojmoefkdobpaaPPackBackx0
import Derived.Test.YtoojmoefkdobpaaPPackBackx1
import Derived.Test.YtoojmoefkdobpaaPPackBackx2
namespace Go.Proofs.Ytoojmoefkdobpaa.PPackBack
open Go.RowKit Go.Proofs.YtoojmoefkdobpaaW.PrintWords Go.Proofs.YtoojmoefkdobpaaW.PrintLast Go.Proofs.YtoojmoefkdobpaaW.PrintMore
attribute [local go_sem] max2_int min2_int max_two min_two max_three min_three max_four min_four   -- for this text's walks alone
set_option linter.unusedVariables false
set_option linter.unusedSimpArgs false

end Go.Proofs.Ytoojmoefkdobpaa.PPackBack
