-- By a program of this session (a print over functions that are proved by hand), for this claim.
import Derived.Test.YtldhmbaddiandaaPValuesOnex0
import Derived.Test.YtldhmbaddiandaaPValuesOnex1
import Derived.Test.YtldhmbaddiandaaPValuesOnex2
import Derived.Test.YtldhmbaddiandaaPValuesOnex3
import Derived.Test.YtldhmbaddiandaaPValuesOnex4
import Derived.Test.YtldhmbaddiandaaPValuesOnex5
import Derived.Test.YtldhmbaddiandaaPValuesOnex6
import Derived.Test.YtldhmbaddiandaaPValuesOnex7
import Derived.Test.YtldhmbaddiandaaPValuesOnex8
import Derived.Test.YtldhmbaddiandaaPValuesOnex9
namespace Go.Proofs.Ytldhmbaddiandaa.PValuesOne
open Go.RowKit Go.Proofs.YtldhmbaddiandaaW.PrintWords Go.Proofs.YtldhmbaddiandaaW.PrintLast Go.Proofs.YtldhmbaddiandaaW.PrintMore
attribute [local go_sem] max2_int min2_int max_two min_two max_three min_three max_four min_four   -- for this text's walks alone
set_option linter.unusedVariables false
set_option linter.unusedSimpArgs false

end Go.Proofs.Ytldhmbaddiandaa.PValuesOne
