-- By a program of this session (a print over functions that are proved by hand), for this claim.
import Derived.Test.YtldhmbaddiandaaPValuesThreex0
import Derived.Test.YtldhmbaddiandaaPValuesThreex1
import Derived.Test.YtldhmbaddiandaaPValuesThreex2
import Derived.Test.YtldhmbaddiandaaPValuesThreex3
import Derived.Test.YtldhmbaddiandaaPValuesThreex4
import Derived.Test.YtldhmbaddiandaaPValuesThreex5
import Derived.Test.YtldhmbaddiandaaPValuesThreex6
import Derived.Test.YtldhmbaddiandaaPValuesThreex7
namespace Go.Proofs.Ytldhmbaddiandaa.PValuesThree
open Go.RowKit Go.Proofs.YtldhmbaddiandaaW.PrintWords Go.Proofs.YtldhmbaddiandaaW.PrintLast Go.Proofs.YtldhmbaddiandaaW.PrintMore
attribute [local go_sem] max2_int min2_int max_two min_two max_three min_three max_four min_four   -- for this text's walks alone
set_option linter.unusedVariables false
set_option linter.unusedSimpArgs false

end Go.Proofs.Ytldhmbaddiandaa.PValuesThree
