-- By a program of this session (a print over functions that are proved by hand), for this claim.
import Derived.Test.YtdcodlbelhbihaaPRealsBackx0
import Derived.Test.YtdcodlbelhbihaaPRealsBackx1
import Derived.Test.YtdcodlbelhbihaaPRealsBackx2
namespace Go.Proofs.Ytdcodlbelhbihaa.PRealsBack
open Go.RowKit Go.Proofs.YtdcodlbelhbihaaW.PrintWords Go.Proofs.YtdcodlbelhbihaaW.PrintLast Go.Proofs.YtdcodlbelhbihaaW.PrintMore
attribute [local go_sem] max2_int min2_int max_two min_two max_three min_three max_four min_four   -- for this text's walks alone
set_option linter.unusedVariables false
set_option linter.unusedSimpArgs false

end Go.Proofs.Ytdcodlbelhbihaa.PRealsBack
