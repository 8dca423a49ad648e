
/- Quoted texts read again: the program's and the document's ways. -/
import Derived.Test.YthaannpgcbpjkaaF2
import Derived.Test.YthaannpgcbpjkaaF5
import Derived.Test.YthaannpgcbpjkaaWQuote
namespace Go.Proofs.Ythaannpgcbpjkaa.Aev
open Go
set_option linter.unusedVariables false
set_option linter.unusedSimpArgs false
set_option maxRecDepth 100000
def hex2 (a b : UInt8) : UInt8 := UInt8.ofNat (hv a * 16 + hv b)
/-- what stands between quotes, as it was -/
def unq : List UInt8 → List UInt8
  | [] => []
  | [c] => [c]
  | c :: d :: t =>
    if c = 92 then
      (if d = 120 ∧ 2 ≤ t.length then hex2 (t.getD 0 0) (t.getD 1 0) :: unq (t.drop 2) else d :: unq t)
    else c :: unq (d :: t)
termination_by l => l.length
decreasing_by all_goals (simp; try omega)
theorem unq_1 (c : UInt8) : unq [c] = [c] := by rw [unq]
theorem unq_o (c d : UInt8) (t : List UInt8) (h : ¬ c = 92) : unq (c :: d :: t) = c :: unq (d :: t) := by rw [unq, if_neg h]
theorem unq_q (d : UInt8) (t : List UInt8) (h : ¬ d = 120) : unq (92 :: d :: t) = d :: unq t := by rw [unq, if_pos rfl, if_neg (fun q => h q.1)]
theorem unq_x (a b : UInt8) (u : List UInt8) : unq (92 :: 120 :: a :: b :: u) = hex2 a b :: unq u := by rw [unq, if_pos rfl, if_pos ⟨rfl, by simp⟩]; rfl
theorem unq_x0 : unq [92, 120] = [120] := by rw [unq, if_pos rfl, if_neg (by simp), unq]
theorem unq_x1 (a : UInt8) : unq [92, 120, a] = [120, a] := by rw [unq, if_pos rfl, if_neg (by simp), unq]
theorem unq_o' (c : UInt8) (t : List UInt8) (h : ¬ c = 92) : unq (c :: t) = c :: unq t := by
  cases t with
  | nil => rw [unq_1, unq]
  | cons d t => exact unq_o c d t h
theorem hx_cc (c : UInt8) : hex2 (hx (c.toNat / 16)) (hx (c.toNat % 16)) = c := by
  have hc := c.toNat_lt
  have h1 := hv_hx ⟨c.toNat / 16, by omega⟩
  have h2 := hv_hx ⟨c.toNat % 16, by omega⟩
  simp only at h1 h2
  unfold hex2
  rw [h1, h2, show c.toNat / 16 * 16 + c.toNat % 16 = c.toNat by omega, UInt8.ofNat_toNat]
theorem unq_qB (l : List UInt8) : unq (l.flatMap qB) = l := by
  induction l with
  | nil => rw [List.flatMap_nil, unq]
  | cons c l ih =>
    rw [List.flatMap_cons]
    unfold qB
    split
    · rename_i h
      rw [List.cons_append, List.cons_append, List.nil_append, unq_q _ _ (by rintro rfl; simp at h)]
      congr 1
    · rename_i h
      split
      · rw [List.cons_append, List.cons_append, List.cons_append, List.cons_append, List.nil_append, unq_x, hx_cc]
        congr 1
      · rw [List.cons_append, List.nil_append, unq_o' _ _ (fun q => h (Or.inr q))]
        congr 1
def unquoteL (l : List UInt8) : List UInt8 × Int :=
  if l.length < 2 then ([], 7) else if quoteL (unq ((l.drop 1).take (l.length - 2))) = l then (unq ((l.drop 1).take (l.length - 2)), 0) else ([], 7)
def encQ (q : List UInt8 × Int) : ByteArray × Int := (mkW q.1, q.2)
theorem unquote_quote (l : List UInt8) : unquoteL (quoteL l) = (l, 0) := by
  have h1 : (quoteL l).length = (l.flatMap qB).length + 2 := by simp [quoteL]
  have h2 : ((quoteL l).drop 1).take ((quoteL l).length - 2) = l.flatMap qB := by
    rw [h1]
    show ((l.flatMap qB) ++ [34]).take _ = _
    simp
  unfold unquoteL
  rw [if_neg (by omega), h2, unq_qB, if_pos rfl]
theorem unq_len : ∀ (n : Nat) (l : List UInt8), l.length ≤ n → (unq l).length ≤ l.length := by
  intro n
  induction n with
  | zero => intro l h; obtain rfl : l = [] := List.length_eq_zero_iff.1 (by omega); rw [unq]; simp
  | succ n ih =>
    intro l h
    match l, h with
    | [], _ => rw [unq]; simp
    | [c], _ => rw [unq]; simp
    | c :: d :: t, h =>
      simp only [List.length_cons] at h
      by_cases c1 : c = 92
      · subst c1
        by_cases c2 : d = 120
        · subst c2
          match t, h with
          | [], _ => rw [unq_x0]; simp
          | [a], _ => rw [unq_x1]; simp
          | a :: b :: u, h =>
            simp only [List.length_cons] at h
            rw [unq_x]; have := ih u (by omega); simp; omega
        · rw [unq_q d t c2]; have := ih t (by omega); simp; omega
      · rw [unq_o c d t c1]; have := ih (d :: t) (by simp; omega); simp at this ⊢; omega
theorem b120 (c : UInt8) : ((c.toNat : Int) == 120) = decide (c = 120) := byte_is c 120 (by omega)
theorem drop_two {l : List UInt8} {i : Nat} (h : i + 1 < l.length) : l.drop i = l[i] :: l[i + 1] :: l.drop (i + 2) := by
  rw [List.drop_eq_getElem_cons (show i < l.length by omega), List.drop_eq_getElem_cons (show i + 1 < l.length by omega)]
theorem tail_eq (s : List UInt8) (xs : List Int) (l : List UInt8) (hs : s.length ≤ 2000000) (hx : xs.length ≤ 1000000) (k : Nat) (hk : 4000100 ≤ k) :
    ((words_Quote.f k (mkW (xs.map b8))).bind fun r0 => (bif (!((ByteArray.toList r0) == (ByteArray.toList (mkW s)))) then (some (mkW [], (7 : Int))) else (some (mkW (xs.map b8), (0 : Int))))) = some (encQ (if quoteL (xs.map b8) = s then (xs.map b8, 0) else ([], 7))) := by
  rw [quote_eq (xs.map b8) (by simp; omega) k (by simp; omega), Option.bind_some, ba_toList, ba_toList]
  by_cases h : quoteL (xs.map b8) = s
  · rw [if_pos h, h, beq_self_eq_true]; rfl
  · rw [if_neg h, beq_eq_false_iff_ne.2 h]; rfl
end Go.Proofs.Ythaannpgcbpjkaa.Aev
