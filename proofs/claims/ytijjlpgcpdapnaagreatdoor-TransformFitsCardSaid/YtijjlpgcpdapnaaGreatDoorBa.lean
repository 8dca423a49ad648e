import Derived.Test.YtijjlpgcpdapnaaGreatDoorBits

/- Plain lemmas: strings in the form of their lists of bytes. No program here. -/
namespace Go.Proofs.YtijjlpgcpdapnaaGreatDoor.Aev
open Go
set_option linter.unusedVariables false
set_option linter.unusedSimpArgs false
theorem ba_of (s : ByteArray) : s = ByteArray.mk (List.toArray s.data.toList) := ba_ext rfl
theorem ba_size (l : List UInt8) : (ByteArray.mk (List.toArray l)).size = l.length := rfl
theorem ba_data (l : List UInt8) : (ByteArray.mk (List.toArray l)).data.toList = l := rfl
theorem ba_toList (l : List UInt8) : (ByteArray.mk (List.toArray l)).toList = l := by rw [ByteArray.toList_eq]
theorem ba_drop (l : List UInt8) (a : Nat) : (ByteArray.mk (List.toArray l)).extract a (Int.toNat ((ByteArray.mk (List.toArray l)).size : Int)) = ByteArray.mk (List.toArray (l.drop a)) := ba_ext (by rw [drop_data'])
theorem ba_dropl (l : List UInt8) (a : Nat) : (ByteArray.mk (List.toArray l)).extract a (Int.toNat (l.length : Int)) = ByteArray.mk (List.toArray (l.drop a)) := ba_drop l a
theorem ba_inj {l m : List UInt8} : ByteArray.mk (List.toArray l) = ByteArray.mk (List.toArray m) ↔ l = m := ⟨fun h => congrArg (fun s => s.data.toList) h, fun h => by rw [h]⟩
theorem ba_bt0 (c : UInt8) (t : List UInt8) : bt (ByteArray.mk (List.toArray (c :: t))) 0 = (c.toNat : Int) := rfl
def numB (l : List UInt8) : Nat := l.foldl (fun n c => n * 256 + c.toNat) 0
theorem numB_lt (l : List UInt8) : numB l < 256 ^ l.length := by
 unfold numB
 have h : ∀ (l : List UInt8) (n m : Nat), n < 256 ^ m → l.foldl (fun n c => n * 256 + c.toNat) n < 256 ^ (m + l.length) := by
  intro l
  induction l with
  | nil => intro n m h; exact h
  | cons c l ih =>
   intro n m h
   have hc := c.toNat_lt
   have := ih (n * 256 + c.toNat) (m + 1) (by
    have : (n + 1) * 256 ≤ 256 ^ m * 256 := Nat.mul_le_mul_right _ h
    rw [Nat.pow_succ]; omega)
   rw [List.length_cons, show m + (l.length + 1) = m + 1 + l.length by omega]
   exact this
 have := h l 0 0 (by simp)
 rwa [Nat.zero_add] at this
theorem or_step {x : Nat} {c : UInt8} (hx : x < 72057594037927936) : IntKind.wrap IntKind.u64 ((BitVec.toNat ((BitVec.ofInt (64 : Nat) (IntKind.wrap IntKind.u64 ((x : Int) * (256 : Int)))) ||| (BitVec.ofInt (64 : Nat) (IntKind.wrap IntKind.u64 (c.toNat : Int))))) : Int) = ((x * 256 + c.toNat : Nat) : Int) := by
 have hc := c.toNat_lt
 rw [u64w (n := (x : Int) * 256) (by omega) (by omega), u64w (n := (c.toNat : Int)) (by omega) (by omega)]
 have := or_sum (a := x) (b := c.toNat) (j := 8) (by omega) (by omega)
 refine Eq.trans ?_ this
 have e : ((x * 2 ^ 8 : Nat) : Int) = (x : Int) * 256 := by omega
 rw [e]; rfl
def sgn (m : Nat) : Int := if m < 9223372036854775808 then (m : Int) else (m : Int) - 18446744073709551616
theorem sgn_eq {m : Nat} (h : m < 18446744073709551616) : IntKind.wrap IntKind.i64 (m : Int) = sgn m := by
 rw [IntKind.wrap_i64]; unfold sgn; split <;> omega
end Go.Proofs.YtijjlpgcpdapnaaGreatDoor.Aev
