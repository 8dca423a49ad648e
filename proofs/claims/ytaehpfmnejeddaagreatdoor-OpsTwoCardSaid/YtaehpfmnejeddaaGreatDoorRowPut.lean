
/- Rows written: the program's and the document's ways. -/
import Derived.Test.YtaehpfmnejeddaaGreatDoorF5
import Derived.Test.YtaehpfmnejeddaaGreatDoorF13
import Derived.Test.YtaehpfmnejeddaaGreatDoorVals
import Derived.Test.YtaehpfmnejeddaaGreatDoorFew
import Derived.Test.YtaehpfmnejeddaaGreatDoorPack
import Derived.Test.YtaehpfmnejeddaaGreatDoorEight
import Derived.Test.YtaehpfmnejeddaaGreatDoorKeyRow
namespace Go.Proofs.YtaehpfmnejeddaaGreatDoor.Aev
open Go
set_option linter.unusedVariables false
set_option linter.unusedSimpArgs false
set_option maxRecDepth 100000
def FewW (l : List V) : Prop := FewV l ∧ ∀ v ∈ l, -9223372036854775808 ≤ v.2.1 ∧ v.2.1 ≤ 9223372036854775807
theorem fit_w {l : List V} (h : Fit (.sl VT) l) (hf : l.length ≤ 30 ∧ ∀ v ∈ l, v.2.2.2.1.size ≤ 2000) : FewW l := by
  refine ⟨fit_v h hf, fun v hv => ?_⟩
  obtain ⟨_, h2⟩ := h
  obtain ⟨_, h3, _, _⟩ := h2 v hv
  exact fit_i64 h3
noncomputable def after (x : List UInt8) (q : List UInt8 × Int) : ByteArray × Int := if q.2 = 0 then (ByteArray.mk (List.toArray (x ++ q.1)), 0) else (ByteArray.mk (List.toArray []), q.2)
end Go.Proofs.YtaehpfmnejeddaaGreatDoor.Aev
