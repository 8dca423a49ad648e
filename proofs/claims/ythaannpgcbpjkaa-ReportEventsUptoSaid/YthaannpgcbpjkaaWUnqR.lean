
/- Quoted texts read again: the document's way. -/
import Derived.Test.YthaannpgcbpjkaaF5
import Derived.Test.YthaannpgcbpjkaaWUnq
namespace Go.Proofs.Ythaannpgcbpjkaa.Aev
open Go
set_option linter.unusedVariables false
set_option linter.unusedSimpArgs false
set_option maxRecDepth 100000
theorem rtail_eq (s : List UInt8) (xs : List Int) (hs : s.length ≤ 2000000) (hx : xs.length ≤ 1000000) (k : Nat) (hk : 4000100 ≤ k) :
    ((transomref36_Quote.f k (mkW (xs.map b8))).bind fun r0 => (bif (!((ByteArray.toList r0) == (ByteArray.toList (mkW s)))) then (some (mkW [], (7 : Int))) else (some (mkW (xs.map b8), (0 : Int))))) = some (encQ (if quoteL (xs.map b8) = s then (xs.map b8, 0) else ([], 7))) := by
  rw [refquote_eq (xs.map b8) (by simp; omega) k (by simp; omega), Option.bind_some, ba_toList, ba_toList]
  by_cases h : quoteL (xs.map b8) = s
  · rw [if_pos h, h, beq_self_eq_true]; rfl
  · rw [if_neg h, beq_eq_false_iff_ne.2 h]; rfl
/-- what stands between the quotes, from a place on -/
def inner (s : List UInt8) (i : Nat) : List UInt8 := (s.drop i).take (s.length - 1 - i)
theorem inner_len (s : List UInt8) (i : Nat) : (inner s i).length = s.length - 1 - i := by simp [inner]; omega
theorem inner_cons {s : List UInt8} {i : Nat} (h : i < s.length - 1) : inner s i = s[i] :: inner s (i + 1) := by
  unfold inner
  rw [List.drop_eq_getElem_cons (show i < s.length by omega), show s.length - 1 - i = (s.length - 1 - (i + 1)) + 1 by omega, List.take_succ_cons]
theorem inner_nil {s : List UInt8} {i : Nat} (h : s.length - 1 ≤ i) : inner s i = [] := List.length_eq_zero_iff.1 (by rw [inner_len]; omega)
end Go.Proofs.Ythaannpgcbpjkaa.Aev
