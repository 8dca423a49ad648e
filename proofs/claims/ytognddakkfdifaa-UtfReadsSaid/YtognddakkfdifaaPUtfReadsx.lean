-- By a program of this session (a print over functions that are proved by hand), for this claim.
import Derived.Test.YtognddakkfdifaaPUtfReadsx0
import Derived.Test.YtognddakkfdifaaPUtfReadsx1
import Derived.Test.YtognddakkfdifaaPUtfReadsx2
import Derived.Test.YtognddakkfdifaaPUtfReadsx3
import Derived.Test.YtognddakkfdifaaPUtfReadsx4
namespace Go.Proofs.Ytognddakkfdifaa.PUtfReads
open Go.RowKit Go.Proofs.YtognddakkfdifaaW.PrintWords Go.Proofs.YtognddakkfdifaaW.PrintLast Go.Proofs.YtognddakkfdifaaW.PrintMore
attribute [local go_sem] max2_int min2_int max_two min_two max_three min_three max_four min_four   -- for this text's walks alone
set_option linter.unusedVariables false
set_option linter.unusedSimpArgs false

end Go.Proofs.Ytognddakkfdifaa.PUtfReads
