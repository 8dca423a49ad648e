/- Plain lemmas: strings as lists of bytes, 64-bit arithmetic. No program here. -/
import Derived.Test.YtldhmbaddiandaaWWords
import Derived.Laws.BitsAllLaws
namespace Go.Proofs.Ytldhmbaddiandaa.Plain
set_option linter.unusedVariables false
set_option linter.unusedSimpArgs false
open Go.RowKit Go.Proofs.YtldhmbaddiandaaW.PrintWords

theorem u64w (n : Int) : IntKind.u64.wrap n = n % 18446744073709551616 := by simp [IntKind.wrap, IntKind.bits, IntKind.signed]
theorem u8w (n : Int) : IntKind.u8.wrap n = n % 256 := by simp [IntKind.wrap, IntKind.bits, IntKind.signed]
theorem u64id {n : Int} (h0 : 0 ≤ n) (h1 : n < 18446744073709551616) : IntKind.u64.wrap n = n := by rw [u64w]; omega
theorem w64id {n : Int} (h0 : -9223372036854775808 ≤ n) (h1 : n ≤ 9223372036854775807) : wrap64 n = n := by unfold wrap64; omega
theorem wf_i64 {n : Int} (h : (Lit.int .i64 n).wf = true) : -9223372036854775808 ≤ n ∧ n ≤ 9223372036854775807 := by
  simp [Lit.wf, IntKind.min, IntKind.max, IntKind.signed, IntKind.bits] at h; omega
theorem wf_u64 {n : Int} (h : (Lit.int .u64 n).wf = true) : 0 ≤ n ∧ n ≤ 18446744073709551615 := by
  simp [Lit.wf, IntKind.min, IntKind.max, IntKind.signed, IntKind.bits] at h; omega

theorem ba_ext {a b : ByteArray} (h : a.data.toList = b.data.toList) : a = b := by
  cases a with | mk a => cases b with | mk b => congr 1; exact Array.toList_inj.mp h
theorem toList_data (s : ByteArray) : s.toList = s.data.toList := ByteArray.toList_eq s
theorem toList_inj {a b : ByteArray} : a.toList = b.toList ↔ a = b := by
  rw [toList_data, toList_data]; exact ⟨ba_ext, fun h => by rw [h]⟩
theorem sz (s : ByteArray) : s.size = s.data.toList.length := rfl
theorem append_data (a b : ByteArray) : (a ++ b).data.toList = a.data.toList ++ b.data.toList := by simp
theorem extract_data (s : ByteArray) (a b : Nat) : (s.extract a b).data.toList = (s.data.toList.drop a).take (b - a) := by
  simp [ByteArray.data_extract, List.extract_eq_take_drop]
theorem drop_data (s : ByteArray) (a : Nat) : (s.extract a s.size).data.toList = s.data.toList.drop a := by
  rw [extract_data, List.take_of_length_le]; rw [List.length_drop, ← sz]; exact Nat.le_refl _
theorem bt_get {s : ByteArray} {i : Nat} (h : i < s.data.toList.length) : bt s (i : Int) = ((s.data.toList[i]).toNat : Int) := by
  have h' : (i : Int).toNat < s.size := by rw [sz]; exact h
  unfold bt; rw [dif_pos h']; simp [ByteArray.getElem_eq_getElem_data]
theorem bt_mid {s : ByteArray} {pre post : List UInt8} {c : UInt8} (h : s.data.toList = pre ++ c :: post) : bt s (pre.length : Int) = (c.toNat : Int) := by
  have hl : pre.length < s.data.toList.length := by rw [h]; simp
  rw [bt_get hl]; simp [h]
/-- Numbers as bytes. -/
def b8 (n : Nat) : UInt8 := UInt8.ofNat n
theorem b8_toNat {n : Nat} (h : n < 256) : (b8 n).toNat = n := by simp [b8]; omega
theorem b8_eta (c : UInt8) : b8 c.toNat = c := by simp [b8]
theorem strOf_data (xs : List Int) : (strOfNums xs).data.toList = xs.map fun n => b8 n.toNat := by simp [strOfNums, b8]
theorem strOf_nat (xs : List Nat) : (strOfNums (xs.map fun n : Nat => (n : Int))).data.toList = xs.map b8 := by
  rw [strOf_data]; simp [Function.comp_def]
end Go.Proofs.Ytldhmbaddiandaa.Plain
