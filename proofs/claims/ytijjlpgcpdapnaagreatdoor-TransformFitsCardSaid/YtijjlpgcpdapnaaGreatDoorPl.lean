import Derived.Test.YtijjlpgcpdapnaaGreatDoorAevX

/- Plain lemmas: strings as lists of bytes, numbers within bounds. No program here. -/
namespace Go.Proofs.YtijjlpgcpdapnaaGreatDoor.Aev
open Go
set_option linter.unusedVariables false
set_option linter.unusedSimpArgs false
theorem i64w {n : Int} (h0 : -9223372036854775808 ≤ n) (h1 : n ≤ 9223372036854775807) : IntKind.wrap .i64 n = n := by
 rw [IntKind.wrap_i64]; omega
theorem u64w {n : Int} (h0 : 0 ≤ n) (h1 : n < 18446744073709551616) : IntKind.wrap .u64 n = n := by
 simp [IntKind.wrap, IntKind.bits, IntKind.signed]; omega
theorem u8w {n : Int} (h0 : 0 ≤ n) (h1 : n < 256) : IntKind.wrap .u8 n = n := by
 simp [IntKind.wrap, IntKind.bits, IntKind.signed]; omega
theorem u8m (n : Int) : IntKind.wrap .u8 n = n % 256 := by
 simp [IntKind.wrap, IntKind.bits, IntKind.signed]
theorem u64m (n : Int) : IntKind.wrap .u64 n = n % 18446744073709551616 := by
 simp [IntKind.wrap, IntKind.bits, IntKind.signed]
theorem if_b {α : Type} {c : Bool} {x y : α} : (bif c then x else y) = if c = true then x else y := by cases c <;> rfl
theorem toList_inj {a b : ByteArray} (h : a.toList = b.toList) : a = b := by
 rw [ByteArray.toList_eq, ByteArray.toList_eq] at h
 exact ba_ext h
theorem toList_iff {a b : ByteArray} : a.toList = b.toList ↔ a = b := ⟨toList_inj, fun h => by rw [h]⟩
theorem size_eq (s : ByteArray) : s.size = s.data.toList.length := rfl
theorem extract_data (s : ByteArray) (a b : Nat) : (s.extract a b).data.toList = (s.data.toList.drop a).take (b - a) := by
 simp [ByteArray.data_extract, List.extract_eq_take_drop]
theorem drop_data (s : ByteArray) (a : Nat) : (s.extract a s.size).data.toList = s.data.toList.drop a := by
 rw [extract_data, List.take_of_length_le]; rw [List.length_drop, ← size_eq]; exact Nat.le_refl _
theorem drop_data' (s : ByteArray) (a : Nat) : (s.extract a (Int.toNat (s.size : Int))).data.toList = s.data.toList.drop a := drop_data s a
theorem bt_nat (s : ByteArray) (i : Nat) (h : i < s.data.toList.length) : bt s (i : Int) = ((s.data.toList[i]).toNat : Int) := by
 have h' : i < s.data.size := h
 simp [bt, Array.getElem?_eq_getElem h']
abbrev b8 (n : Int) : UInt8 := UInt8.ofNat n.toNat
theorem data_nil {s : ByteArray} : s.data.toList = [] ↔ s = ByteArray.mk (List.toArray []) := ⟨fun h => ba_ext (by rw [h]), fun h => by rw [h]⟩
theorem fit_i64 {x : Int} (h : Fit (.int .i64) x) : -9223372036854775808 ≤ x ∧ x ≤ 9223372036854775807 := by
 simpa [Fit, IntKind.min, IntKind.max, IntKind.signed, IntKind.bits] using h
theorem fit_u64 {x : Int} (h : Fit (.int .u64) x) : 0 ≤ x ∧ x ≤ 18446744073709551615 := by
 simpa [Fit, IntKind.min, IntKind.max, IntKind.signed, IntKind.bits] using h
end Go.Proofs.YtijjlpgcpdapnaaGreatDoor.Aev
