
/- Plain lemmas: strings in the form of their lists of bytes. No program here. -/
import Derived.Test.YtaehpfmnejeddaaGreatDoorBits
namespace Go.Proofs.YtaehpfmnejeddaaGreatDoor.Aev
open Go
set_option linter.unusedVariables false
set_option linter.unusedSimpArgs false
theorem ba_of (s : ByteArray) : s = ByteArray.mk (List.toArray s.data.toList) := ba_ext rfl
theorem ba_size (l : List UInt8) : (ByteArray.mk (List.toArray l)).size = l.length := rfl
theorem ba_append (l m : List UInt8) : ByteArray.mk (List.toArray l) ++ ByteArray.mk (List.toArray m) = ByteArray.mk (List.toArray (l ++ m)) := ba_ext (by rw [append_data])
theorem ba_inj {l m : List UInt8} : ByteArray.mk (List.toArray l) = ByteArray.mk (List.toArray m) ↔ l = m := ⟨fun h => congrArg (fun s => s.data.toList) h, fun h => by rw [h]⟩
theorem b8_map_nat (l : List UInt8) : (l.map fun c => (c.toNat : Int)).map b8 = l := by
  rw [List.map_map]
  conv => rhs; rw [← List.map_id l]
  apply List.map_congr_left
  intro c _; exact b8_eta c
end Go.Proofs.YtaehpfmnejeddaaGreatDoor.Aev
