
/- Plain lemmas: strings as lists of bytes, numbers within bounds. No program here. -/
import Derived.Test.YtimadphjdkjgaaaGreatDoorAevX
namespace Go.Proofs.YtimadphjdkjgaaaGreatDoor.Aev
open Go
set_option linter.unusedVariables false
set_option linter.unusedSimpArgs false
theorem i64w {n : Int} (h0 : -9223372036854775808 ≤ n) (h1 : n ≤ 9223372036854775807) : IntKind.wrap .i64 n = n := by
  rw [IntKind.wrap_i64]; omega
theorem u64w {n : Int} (h0 : 0 ≤ n) (h1 : n < 18446744073709551616) : IntKind.wrap .u64 n = n := by
  simp [IntKind.wrap, IntKind.bits, IntKind.signed]; omega
theorem u8w {n : Int} (h0 : 0 ≤ n) (h1 : n < 256) : IntKind.wrap .u8 n = n := by
  simp [IntKind.wrap, IntKind.bits, IntKind.signed]; omega
theorem u8m (n : Int) : IntKind.wrap .u8 n = n % 256 := by
  simp [IntKind.wrap, IntKind.bits, IntKind.signed]
theorem u64m (n : Int) : IntKind.wrap .u64 n = n % 18446744073709551616 := by
  simp [IntKind.wrap, IntKind.bits, IntKind.signed]
theorem bif_tt {α : Type} {c : Bool} {x y : α} (h : c = true) : (bif c then x else y) = x := by rw [h]; rfl
theorem bif_ff {α : Type} {c : Bool} {x y : α} (h : c = false) : (bif c then x else y) = y := by rw [h]; rfl
theorem bif_p {α : Type} {p : Prop} [Decidable p] {x y : α} : (bif decide p then x else y) = if p then x else y := by
  by_cases h : p <;> simp [h]
theorem if_b {α : Type} {c : Bool} {x y : α} : (bif c then x else y) = if c = true then x else y := by cases c <;> rfl
theorem toList_inj {a b : ByteArray} (h : a.toList = b.toList) : a = b := by
  rw [ByteArray.toList_eq, ByteArray.toList_eq] at h
  exact ba_ext h
theorem toList_iff {a b : ByteArray} : a.toList = b.toList ↔ a = b := ⟨toList_inj, fun h => by rw [h]⟩
theorem size_toList (s : ByteArray) : s.toList.length = s.size := by simp [ByteArray.toList_eq]
theorem size_eq (s : ByteArray) : s.size = s.data.toList.length := rfl
theorem toList_data (s : ByteArray) : s.toList = s.data.toList := ByteArray.toList_eq s
theorem extract_toList (s : ByteArray) (i : Nat) : (s.extract 0 i).toList = s.toList.take i := by simp [ByteArray.toList_eq, ByteArray.data_extract]
theorem append_data (a b : ByteArray) : (a ++ b).data.toList = a.data.toList ++ b.data.toList := by simp
theorem extract_data (s : ByteArray) (a b : Nat) : (s.extract a b).data.toList = (s.data.toList.drop a).take (b - a) := by
  simp [ByteArray.data_extract, List.extract_eq_take_drop]
theorem drop_data (s : ByteArray) (a : Nat) : (s.extract a s.size).data.toList = s.data.toList.drop a := by
  rw [extract_data, List.take_of_length_le]; rw [List.length_drop, ← size_eq]; exact Nat.le_refl _
theorem drop_data' (s : ByteArray) (a : Nat) : (s.extract a (Int.toNat (s.size : Int))).data.toList = s.data.toList.drop a := drop_data s a
theorem take_data (s : ByteArray) (a : Nat) : (s.extract 0 a).data.toList = s.data.toList.take a := by rw [extract_data]; simp
theorem bt_nat (s : ByteArray) (i : Nat) (h : i < s.data.toList.length) : bt s (i : Int) = ((s.data.toList[i]).toNat : Int) := by
  have h' : i < s.data.size := h
  simp [bt, Array.getElem?_eq_getElem h']
theorem bt_range (s : ByteArray) (i : Int) : 0 ≤ bt s i ∧ bt s i < 256 := by
  unfold bt
  have := UInt8.toNat_lt ((s.data[i.toNat]?).getD 0)
  omega
/-- the byte of a number -/
abbrev b8 (n : Int) : UInt8 := UInt8.ofNat n.toNat
theorem b8_nat (n : Nat) (h : n < 256) : (b8 (n : Int)).toNat = n := by simp [b8]; omega
theorem b8_eta (c : UInt8) : b8 (c.toNat : Int) = c := by simp [b8]
theorem mk_data (l : List Int) : (ByteArray.mk (List.toArray (List.map (fun n => UInt8.ofNat (Int.toNat n)) l))).data.toList = l.map b8 := rfl
theorem nil_toList : (ByteArray.mk (List.toArray [])).toList = [] := by rw [ByteArray.toList_eq]
theorem mk_nil_data : (ByteArray.mk (List.toArray [])).data.toList = [] := rfl
theorem mk_lit_data (l : List UInt8) : (ByteArray.mk (List.toArray l)).data.toList = l := rfl
theorem data_nil {s : ByteArray} : s.data.toList = [] ↔ s = ByteArray.mk (List.toArray []) := ⟨fun h => ba_ext (by rw [h]), fun h => by rw [h]⟩
theorem fit_i64 {x : Int} (h : Fit (.int .i64) x) : -9223372036854775808 ≤ x ∧ x ≤ 9223372036854775807 := by
  simpa [Fit, IntKind.min, IntKind.max, IntKind.signed, IntKind.bits] using h
theorem fit_u64 {x : Int} (h : Fit (.int .u64) x) : 0 ≤ x ∧ x ≤ 18446744073709551615 := by
  simpa [Fit, IntKind.min, IntKind.max, IntKind.signed, IntKind.bits] using h
end Go.Proofs.YtimadphjdkjgaaaGreatDoor.Aev
