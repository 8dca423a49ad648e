import Derived.Test.YtimadphjdkjgaaaDoorBits

/- Plain lemmas: strings in the form of their lists of bytes. No program here. -/
namespace Go.Proofs.YtimadphjdkjgaaaDoor.Aev
open Go
set_option linter.unusedVariables false
set_option linter.unusedSimpArgs false
theorem ba_of (s : ByteArray) : s = ByteArray.mk (List.toArray s.data.toList) := ba_ext rfl
theorem ba_size (l : List UInt8) : (ByteArray.mk (List.toArray l)).size = l.length := rfl
theorem ba_data (l : List UInt8) : (ByteArray.mk (List.toArray l)).data.toList = l := rfl
theorem ba_toList (l : List UInt8) : (ByteArray.mk (List.toArray l)).toList = l := by rw [ByteArray.toList_eq]
theorem ba_append (l m : List UInt8) : ByteArray.mk (List.toArray l) ++ ByteArray.mk (List.toArray m) = ByteArray.mk (List.toArray (l ++ m)) := ba_ext (by rw [append_data])
theorem ba_extract (l : List UInt8) (a b : Nat) : (ByteArray.mk (List.toArray l)).extract a b = ByteArray.mk (List.toArray ((l.drop a).take (b - a))) := ba_ext (by rw [extract_data])
theorem ba_drop (l : List UInt8) (a : Nat) : (ByteArray.mk (List.toArray l)).extract a (Int.toNat ((ByteArray.mk (List.toArray l)).size : Int)) = ByteArray.mk (List.toArray (l.drop a)) := ba_ext (by rw [drop_data'])
theorem ba_dropl (l : List UInt8) (a : Nat) : (ByteArray.mk (List.toArray l)).extract a (Int.toNat (l.length : Int)) = ByteArray.mk (List.toArray (l.drop a)) := ba_drop l a
theorem ba_inj {l m : List UInt8} : ByteArray.mk (List.toArray l) = ByteArray.mk (List.toArray m) ↔ l = m := ⟨fun h => congrArg (fun s => s.data.toList) h, fun h => by rw [h]⟩
theorem ba_bt (l : List UInt8) (i : Nat) (h : i < l.length) : bt (ByteArray.mk (List.toArray l)) (i : Int) = ((l[i]).toNat : Int) := bt_nat _ i h
theorem ba_bt0 (c : UInt8) (t : List UInt8) : bt (ByteArray.mk (List.toArray (c :: t))) 0 = (c.toNat : Int) := rfl
end Go.Proofs.YtimadphjdkjgaaaDoor.Aev
