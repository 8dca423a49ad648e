import Derived.Test.YtimadphjdkjgaaaDoorPl
import Derived.Laws.BitsAllLaws

/- Bits of 64-bit numbers as arithmetic. No program here. -/
namespace Go.Proofs.YtimadphjdkjgaaaDoor.Aev
open Go
set_option linter.unusedVariables false
set_option linter.unusedSimpArgs false

theorem and_mask {n m j : Nat} (hm : m = 2 ^ j - 1) (h : n < 18446744073709551616) (hj : m < 18446744073709551616) : Go.bits .and .u64 (n : Int) (m : Int) = ((n % 2 ^ j : Nat) : Int) := by
 have h1 := Go.u64_and_nat n m h hj
 rw [h1, hm, Nat.and_two_pow_sub_one_eq_mod]
theorem or_sum {a b j : Nat} (hb : b < 2 ^ j) (h : a * 2 ^ j + b < 18446744073709551616) : Go.bits .or .u64 ((a * 2 ^ j : Nat) : Int) (b : Int) = ((a * 2 ^ j + b : Nat) : Int) := by
 rw [Go.u64_or_nat (a * 2 ^ j) b (by omega) (by omega)]
 have := Nat.two_pow_add_eq_or_of_lt hb a
 rw [Nat.mul_comm a, ← this]
/- the same, as the evaluator prints it -/
theorem nat_of_u64 {n : Int} (h : Fit (.int .u64) n) : ∃ m : Nat, n = (m : Int) ∧ m < 18446744073709551616 := by
 obtain ⟨h0, h1⟩ := fit_u64 h
 exact ⟨n.toNat, by omega, by omega⟩
end Go.Proofs.YtimadphjdkjgaaaDoor.Aev

/- Plain lemmas: strings in the form of their lists of bytes. No program here. -/
namespace Go.Proofs.YtimadphjdkjgaaaDoor.Aev
open Go
set_option linter.unusedVariables false
set_option linter.unusedSimpArgs false
theorem ba_of (s : ByteArray) : s = ByteArray.mk (List.toArray s.data.toList) := ba_ext rfl
theorem ba_size (l : List UInt8) : (ByteArray.mk (List.toArray l)).size = l.length := rfl
theorem ba_data (l : List UInt8) : (ByteArray.mk (List.toArray l)).data.toList = l := rfl
theorem ba_toList (l : List UInt8) : (ByteArray.mk (List.toArray l)).toList = l := by rw [ByteArray.toList_eq]
theorem ba_append (l m : List UInt8) : ByteArray.mk (List.toArray l) ++ ByteArray.mk (List.toArray m) = ByteArray.mk (List.toArray (l ++ m)) := ba_ext (by rw [append_data])
theorem ba_extract (l : List UInt8) (a b : Nat) : (ByteArray.mk (List.toArray l)).extract a b = ByteArray.mk (List.toArray ((l.drop a).take (b - a))) := ba_ext (by rw [extract_data])
theorem ba_drop (l : List UInt8) (a : Nat) : (ByteArray.mk (List.toArray l)).extract a (Int.toNat ((ByteArray.mk (List.toArray l)).size : Int)) = ByteArray.mk (List.toArray (l.drop a)) := ba_ext (by rw [drop_data'])
theorem ba_dropl (l : List UInt8) (a : Nat) : (ByteArray.mk (List.toArray l)).extract a (Int.toNat (l.length : Int)) = ByteArray.mk (List.toArray (l.drop a)) := ba_drop l a
theorem ba_inj {l m : List UInt8} : ByteArray.mk (List.toArray l) = ByteArray.mk (List.toArray m) ↔ l = m := ⟨fun h => congrArg (fun s => s.data.toList) h, fun h => by rw [h]⟩
theorem ba_bt (l : List UInt8) (i : Nat) (h : i < l.length) : bt (ByteArray.mk (List.toArray l)) (i : Int) = ((l[i]).toNat : Int) := bt_nat _ i h
theorem ba_bt0 (c : UInt8) (t : List UInt8) : bt (ByteArray.mk (List.toArray (c :: t))) 0 = (c.toNat : Int) := rfl
end Go.Proofs.YtimadphjdkjgaaaDoor.Aev
