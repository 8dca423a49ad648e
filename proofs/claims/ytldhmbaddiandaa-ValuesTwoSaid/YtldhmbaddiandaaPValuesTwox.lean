-- By a program of this session (a print over functions that are proved by hand), for this claim.
import Derived.Test.YtldhmbaddiandaaPValuesTwox0
import Derived.Test.YtldhmbaddiandaaPValuesTwox1
import Derived.Test.YtldhmbaddiandaaPValuesTwox2
import Derived.Test.YtldhmbaddiandaaPValuesTwox3
import Derived.Test.YtldhmbaddiandaaPValuesTwox4
import Derived.Test.YtldhmbaddiandaaPValuesTwox5
import Derived.Test.YtldhmbaddiandaaPValuesTwox6
import Derived.Test.YtldhmbaddiandaaPValuesTwox7
namespace Go.Proofs.Ytldhmbaddiandaa.PValuesTwo
open Go.RowKit Go.Proofs.YtldhmbaddiandaaW.PrintWords Go.Proofs.YtldhmbaddiandaaW.PrintLast Go.Proofs.YtldhmbaddiandaaW.PrintMore
attribute [local go_sem] max2_int min2_int max_two min_two max_three min_three max_four min_four   -- for this text's walks alone
set_option linter.unusedVariables false
set_option linter.unusedSimpArgs false

end Go.Proofs.Ytldhmbaddiandaa.PValuesTwo
