import Derived.Test.YtimadphjdkjgaaaDoorF0
import Derived.Test.YtimadphjdkjgaaaDoorF1
import Derived.Test.YtimadphjdkjgaaaDoorF2
import Derived.Test.YtimadphjdkjgaaaDoorF3
import Derived.Test.YtimadphjdkjgaaaDoorWShow
import Derived.Test.YtimadphjdkjgaaaDoorNames
import Derived.Test.YtimadphjdkjgaaaDoorSchema
import Derived.Test.YtimadphjdkjgaaaDoorFew

/- Steps as lines: the program's writer and the document's words. -/
namespace Go.Proofs.YtimadphjdkjgaaaDoor.Aev
open Go
set_option linter.unusedVariables false
set_option linter.unusedSimpArgs false
set_option maxRecDepth 100000
abbrev P2 : Type := Int × List ByteArray
def sq (a b : P2) : P2 := (if a.1 = 0 then b.1 else a.1, a.2 ++ b.2)
theorem sq_assoc (a b c : P2) : sq (sq a b) c = sq a (sq b c) := by
 unfold sq
 by_cases h : a.1 = 0
 ·simp [h]
 ·simp [h]
theorem sq_0 {a b : P2} : (sq a b).1 = 0 ↔ a.1 = 0 ∧ b.1 = 0 := by
 unfold sq
 by_cases h : a.1 = 0
 ·simp [h]
 ·simp [h]
theorem sq_word (e : Int) (l ws : List ByteArray) : sq (e, l) (0, ws) = (e, l ++ ws) := by
 unfold sq
 by_cases h : e = 0
 ·simp [h]
 ·simp [h]
def jb (ws : List ByteArray) : List UInt8 := (ws.map fun s => 32 :: s.data.toList).flatten
def jn : List ByteArray → List UInt8
 | [] => []
 | s :: l => s.data.toList ++ jb l
theorem joinL_jn (l : List ByteArray) : joinL l (mkW [32]) = jn l := by
 cases l with
 | nil => rfl
 | cons x r =>
  unfold joinL
  rw [List.map_cons, Lib.join_cons, jn]
  congr 1
  unfold Lib.joinTail jb
  rw [List.map_map]
  rfl
/-! ### the parts -/
noncomputable def nmP : List ByteArray → P2
 | [] => (0, [])
 | s :: l => sq (nameS s.data.toList, [s]) (nmP l)
def OkV (v : V) : Prop := v.2.2.2.1.size ≤ 2000 ∧ (∃ n : Nat, v.2.2.1 = (n : Int) ∧ n < 18446744073709551616) ∧ -9223372036854775808 ≤ v.2.1 ∧ v.2.1 ≤ 9223372036854775807
noncomputable def shw (v : V) : List UInt8 × Int := showL v.1 v.2.1 v.2.2.1.toNat v.2.2.2.1.data.toList
noncomputable def vP (v : V) : P2 := ((shw v).2, [mkW (shw v).1])
noncomputable def vsL : List V → P2
 | [] => (0, [])
 | v :: l => sq (vP v) (vsL l)
noncomputable def vsP (l : List V) : P2 := if 8 < l.length then (2, []) else vsL l
def numP (n : Int) : P2 := (if n < 0 ∨ 1000 < n then 1 else 0, [mkW (digL n)])
def nameV (k : Int) : List UInt8 := if k = 0 then [110, 117, 108, 108] else if k = 1 then [98, 111, 111, 108] else if k = 2 then [105, 110, 116] else if k = 3 then [114, 101, 97, 108] else if k = 4 then [98, 121, 116, 101, 115] else if k = 5 then [116, 101, 120, 116] else []
def kdP (k : Int) : P2 := (if k < 1 ∨ 5 < k then 5 else 0, [mkW (nameV k)])
def nullW (b : Bool) : ByteArray := if b then mkW [110, 117, 108, 108] else mkW [115, 101, 116]
noncomputable def colP (c : C) : P2 := sq (nmP [c.1]) (sq (kdP c.2.1) (sq (0, [nullW c.2.2.1]) (vP c.2.2.2.1)))
noncomputable def colsL : List C → P2
 | [] => (0, [])
 | c :: l => sq (colP c) (colsL l)
/-! ### the program's writer -/
theorem word0_eq (ws : List ByteArray) (st : P2) (h : st.2.length + ws.length ≤ 1000) (k : Nat) : sw_word.f0 k ws st.1 st.2 = some (sq st (0, ws)) := by
 have z : (st.2.length + ws.length) * 16 ≤ 2 ^ 45 := by omega
 simp only [sw_word.f0, sw_word.c0, z, decide_true, cond_true]
 rw [sq_word]
theorem word1_eq (ws : List ByteArray) (e : Int) (h : ws.length ≤ 1000) (k : Nat) : sw_word.f1 k ws e = some (sq (e, []) (0, ws)) := by
 have z : (0 + ws.length) * 16 ≤ 2 ^ 45 := by omega
 simp only [sw_word.f1, sw_word.c1, z, decide_true, cond_true]
 rw [sq_word]
theorem fail0_eq (e0 : Int) (st : P2) (k : Nat) : sw_fail.f0 k e0 st.1 st.2 = some (.inl (sq st (e0, []))) := by
 simp only [sw_fail.f0, sw_fail.c0, sq]
 by_cases h : st.1 = 0
 ·simp [h]
 ·simp [beq_eq_false_iff_ne.2 h, h]
theorem fail1_eq (e0 e : Int) (k : Nat) : sw_fail.f1 k e0 e = some (.inr (if e = 0 then e0 else e)) := by
 simp only [sw_fail.f1, sw_fail.c1]
 by_cases h : e = 0
 ·simp [h]
 ·simp [beq_eq_false_iff_ne.2 h, h]
theorem number_w (n : Int) (h0 : -9223372036854775808 ≤ n) (h1 : n ≤ 9223372036854775807) (st : P2) (h : st.2.length ≤ 900) (k : Nat) (hk : 100 ≤ k) : sw_number.f k n st.1 st.2 = some (sq st (numP n)) := by
 have d := digits_eq n h0 h1 k hk
 have f := fail0_eq 1 st k
 have w : ∀ st : P2, st.2.length ≤ 900 → sw_word.f0 k [mkW (digL n)] st.1 st.2 = some (sq st (0, [mkW (digL n)])) := fun st h => word0_eq _ st (by simp; omega) k
 have w1 := w (sq st (1, [])) (by simp [sq]; omega)
 simp only [sw_number.f, sw_number.c, d, f, os, Sum.elim_inl]
 have e1 : sq (sq st (1, [])) (0, [mkW (digL n)]) = sq st (1, [mkW (digL n)]) := by rw [sq_assoc]; rfl
 unfold numP
 by_cases c0 : n < 0
 ·rw [decide_eq_true c0, cond_true, if_pos (.inl c0)]
  rw [w1, e1]; rfl
 ·by_cases c1 : n > 1000
  ·rw [decide_eq_false c0, cond_false, decide_eq_true c1, cond_true, if_pos (.inr c1), w1, e1]; rfl
  ·rw [decide_eq_false c0, cond_false, decide_eq_false c1, cond_false, if_neg (by omega), w st h]; rfl
theorem name_s0 (l : List ByteArray) (hl : l.length ≤ 100) : ∀ (m i : Nat) (st : P2), i + m = l.length → st.2.length + m ≤ 900 → ∀ k, m + 100 < k →
  sw_name.s0 k l (l.length : Int) (i : Int) st.1 st.2 = some (sq st (nmP (l.drop i))) := by
 intro m
 induction m with
 | zero =>
  intro i st hi hs k hk
  obtain ⟨k, rfl⟩ : ∃ q, k = q + 1 := ⟨k - 1, by omega⟩
  have e : ¬ (i : Int) < (l.length : Int) := by omega
  rw [List.drop_eq_nil_of_le (by omega)]
  simp only [sw_name.s0, sw_name.s0c, e, decide_false, cond_false, nmP]
  rw [sq_word, List.append_nil]
 | succ m ih =>
  intro i st hi hs k hk
  obtain ⟨k, rfl⟩ : ∃ q, k = q + 1 := ⟨k - 1, by omega⟩
  have hlt : i < l.length := by omega
  have e0 : (i : Int) < (l.length : Int) := by omega
  have e1 : (0 : Int) ≤ (i : Int) := by omega
  have e2 : IntKind.wrap IntKind.i64 ((i : Int) + 1) = ((i + 1 : Nat) : Int) := by rw [i64w (by omega) (by omega)]; omega
  have c := ncheck_eq l[i] k (by omega)
  have f := fail0_eq (nameS l[i].data.toList) st k
  have w := word0_eq [l[i]] (sq st (nameS l[i].data.toList, [])) (by simp [sq]; omega) k
  have r := ih (i + 1) (sq (sq st (nameS l[i].data.toList, [])) (0, [l[i]])) (by omega) (by simp [sq]; omega) k (by omega)
  rw [List.drop_eq_getElem_cons hlt]
  simp only [sw_name.s0, sw_name.s0c, e0, e1, e2, elem_str hlt, c, f, w, decide_true, Bool.and_self, cond_true, os, ofs, Sum.elim_inl]
  rw [r, nmP]
  congr 1
  rw [← sq_assoc]
  congr 1
  rw [sq_assoc]
  congr 1
  exact sq_word _ _ _
theorem name_w (l : List ByteArray) (hl : l.length ≤ 100) (st : P2) (h : st.2.length ≤ 700) (k : Nat) (hk : 300 ≤ k) : sw_name.f k l st.1 st.2 = some (sq st (nmP l)) := by
 have := name_s0 l hl l.length 0 st (by omega) (by omega) k (by omega)
 simp only [sw_name.f, sw_name.c, ofs]
 exact this
theorem name_f (a : Int) (k : Nat) : values_Name.f k a = some (mkW (nameV a)) := by
 simp only [values_Name.f, values_Name.c, values_word.f, values_word.c]
 by_cases c0 : a = 0
 ·subst c0; rfl
 ·by_cases c1 : a = 1
  ·subst c1; rfl
  ·by_cases c2 : a = 2
   ·subst c2; rfl
   ·by_cases c3 : a = 3
    ·subst c3; rfl
    ·by_cases c4 : a = 4
     ·subst c4; rfl
     ·by_cases c5 : a = 5
      ·subst c5; rfl
      ·have hn : nameV a = [] := by unfold nameV; simp [c0, c1, c2, c3, c4, c5]
       rw [hn]
       by_cases q : a < 0
       ·rw [decide_eq_true q]; rfl
       ·rw [decide_eq_false q, decide_eq_true (show a ≥ 6 by omega)]; rfl
theorem kind_w (a : Int) (st : P2) (h : st.2.length ≤ 900) (k : Nat) : sw_kind.f k a st.1 st.2 = some (sq st (kdP a)) := by
 have d := name_f a k
 have f := fail0_eq 5 st k
 have w : ∀ st : P2, st.2.length ≤ 900 → sw_word.f0 k [mkW (nameV a)] st.1 st.2 = some (sq st (0, [mkW (nameV a)])) := fun st h => word0_eq _ st (by simp; omega) k
 have w1 := w (sq st (5, [])) (by simp [sq]; omega)
 simp only [sw_kind.f, sw_kind.c, d, f, os, Sum.elim_inl]
 have e1 : sq (sq st (5, [])) (0, [mkW (nameV a)]) = sq st (5, [mkW (nameV a)]) := by rw [sq_assoc]; rfl
 unfold kdP
 by_cases c0 : a < 1
 ·rw [decide_eq_true c0, cond_true, if_pos (.inl c0)]
  rw [w1, e1]; rfl
 ·by_cases c1 : a > 5
  ·rw [decide_eq_false c0, cond_false, decide_eq_true c1, cond_true, if_pos (.inr c1), w1, e1]; rfl
  ·rw [decide_eq_false c0, cond_false, decide_eq_false c1, cond_false, if_neg (by omega), w st h]; rfl
theorem shw_f {v : V} (h : OkV v) (k : Nat) (hk : 500000 ≤ k) : words_Show.f k v.1 v.2.1 v.2.2.1 v.2.2.2.1 = some (mkW (shw v).1, (shw v).2) := by
 obtain ⟨h1, ⟨n, h2, h3⟩, h4, h5⟩ := h
 have hs : v.2.2.2.1.data.toList.length ≤ 2000 := by rw [Array.length_toList]; exact h1
 have a := show_eq v.1 v.2.1 h4 h5 n h3 v.2.2.2.1.data.toList (by omega) k (by omega)
 unfold shw
 rw [h2, Int.toNat_natCast]
 exact a
theorem value_w {v : V} (hv : OkV v) (st : P2) (h : st.2.length ≤ 900) (k : Nat) (hk : 500000 ≤ k) : sw_value.f k v.1 v.2.1 v.2.2.1 v.2.2.2.1 st.1 st.2 = some (sq st (vP v)) := by
 have s := shw_f hv k hk
 have f := fail0_eq (shw v).2 st k
 have w := word0_eq [mkW (shw v).1] (sq st ((shw v).2, [])) (by simp [sq]; omega) k
 simp only [sw_value.f, sw_value.c, s, f, w, os, Sum.elim_inl]
 congr 1
 show sq (sq st ((shw v).2, [])) (0, [mkW (shw v).1]) = _
 rw [sq_assoc, sq_word]
 rfl
theorem values_s0 (l : List V) (hl : l.length ≤ 100) (hv : ∀ v ∈ l, OkV v) : ∀ (m i : Nat) (st : P2), i + m = l.length → st.2.length + m ≤ 900 → ∀ k, m + 600000 < k →
  sw_values.s0 k l (l.length : Int) (i : Int) st.1 st.2 = some (.inl (sq st (vsL (l.drop i)))) := by
 intro m
 induction m with
 | zero =>
  intro i st hi hs k hk
  obtain ⟨k, rfl⟩ : ∃ q, k = q + 1 := ⟨k - 1, by omega⟩
  have e : ¬ (i : Int) < (l.length : Int) := by omega
  rw [List.drop_eq_nil_of_le (by omega)]
  simp only [sw_values.s0, sw_values.s0c, e, decide_false, cond_false, vsL]
  rw [sq_word, List.append_nil]
 | succ m ih =>
  intro i st hi hs k hk
  obtain ⟨k, rfl⟩ : ∃ q, k = q + 1 := ⟨k - 1, by omega⟩
  have hlt : i < l.length := by omega
  have e0 : (i : Int) < (l.length : Int) := by omega
  have e1 : (0 : Int) ≤ (i : Int) := by omega
  have e2 : IntKind.wrap IntKind.i64 ((i : Int) + 1) = ((i + 1 : Nat) : Int) := by rw [i64w (by omega) (by omega)]; omega
  have he : elem T_api_Value l (i : Int) = l[i] := elem_at hlt
  have w := value_w (hv (l[i]) (List.getElem_mem _)) st (by omega) k (by omega)
  have r := ih (i + 1) (sq st (vP l[i])) (by omega) (by simp [sq, vP]; omega) k (by omega)
  rw [List.drop_eq_getElem_cons hlt]
  simp only [sw_values.s0, sw_values.s0c, e0, e1, e2, he, w, decide_true, Bool.and_self, cond_true, os, ofs]
  rw [r, vsL, sq_assoc]
theorem values_w (l : List V) (hv : ∀ v ∈ l, OkV v) (st : P2) (h : st.2.length ≤ 700) (k : Nat) (hk : 700000 ≤ k) : sw_values.f k l st.1 st.2 = some (.inl (sq st (vsP l))) := by
 have f := fail0_eq 2 st k
 simp only [sw_values.f, sw_values.c, f, os, Sum.elim_inl]
 unfold vsP
 by_cases c : 8 < l.length
 ·have c' : (l.length : Int) > 8 := by omega
  rw [decide_eq_true c', cond_true, if_pos c]
 ·have c' : ¬ (l.length : Int) > 8 := by omega
  rw [decide_eq_false c', cond_false, if_neg c]
  have := values_s0 l (by omega) hv l.length 0 st (by omega) (by omega) k (by omega)
  simp only [ofs]
  exact this
theorem nmP_len (l : List ByteArray) : (nmP l).2.length = l.length := by
 induction l with
 | nil => rfl
 | cons s l ih => simp only [nmP, sq, List.length_append, ih, List.length_cons, List.length_nil]; omega
theorem vsP_len (l : List V) : (vsP l).2.length ≤ 8 := by
 unfold vsP
 have h : ∀ l : List V, (vsL l).2.length = l.length := by
  intro l
  induction l with
  | nil => rfl
  | cons s l ih => simp only [vsL, sq, vP, List.length_append, ih, List.length_cons, List.length_nil]; omega
 split
 ·simp
 ·rw [h]; omega
theorem colP_len (c : C) : (colP c).2.length = 4 := by simp [colP, sq, nmP, kdP, vP]
theorem col_w {c : C} (hv : OkV c.2.2.2.1) (st : P2) (h : st.2.length ≤ 600) (k : Nat) (hk : 700000 ≤ k) : sw_col.f k c.1 c.2.1 c.2.2.1 c.2.2.2.1.1 c.2.2.2.1.2.1 c.2.2.2.1.2.2.1 c.2.2.2.1.2.2.2.1 st.1 st.2 = some (sq st (colP c)) := by
 have w1 := name_w [c.1] (by simp) st (by omega) k (by omega)
 have l1 : (sq st (nmP [c.1])).2.length ≤ 601 := by simp [sq, nmP_len]; omega
 have w2 := kind_w c.2.1 (sq st (nmP [c.1])) (by omega) k
 have l2 : (sq (sq st (nmP [c.1])) (kdP c.2.1)).2.length ≤ 602 := by simp [sq, kdP, nmP_len]; omega
 have w3 := word0_eq [nullW c.2.2.1] (sq (sq st (nmP [c.1])) (kdP c.2.1)) (by simp; omega) k
 have l3 : (sq (sq (sq st (nmP [c.1])) (kdP c.2.1)) (0, [nullW c.2.2.1])).2.length ≤ 603 := by simp [sq, kdP, nmP_len]; omega
 have w4 := value_w hv (sq (sq (sq st (nmP [c.1])) (kdP c.2.1)) (0, [nullW c.2.2.1])) (by omega) k (by omega)
 have fin : sq (sq (sq (sq st (nmP [c.1])) (kdP c.2.1)) (0, [nullW c.2.2.1])) (vP c.2.2.2.1) = sq st (colP c) := by
  unfold colP; rw [sq_assoc, sq_assoc, sq_assoc]
 rw [fin] at w4
 simp only [sw_col.f, sw_col.c, w1, w2, os]
 cases hb : c.2.2.1 with
 | true =>
  rw [hb] at w3 w4
  have e : nullW true = mkW [110, 117, 108, 108] := rfl
  rw [e] at w3 w4
  simp only [cond_true, w3, w4, os]
 | false =>
  rw [hb] at w3 w4
  have e : nullW false = mkW [115, 101, 116] := rfl
  rw [e] at w3 w4
  simp only [cond_false, w3, w4, os]
theorem cols_s0 (l : List C) (hl : l.length ≤ 100) (hv : ∀ c ∈ l, OkV c.2.2.2.1) : ∀ (m i : Nat) (st : P2), i + m = l.length → st.2.length + 4 * m ≤ 600 → ∀ k, m + 700000 < k →
  sw_change.s0 k l (l.length : Int) (i : Int) st.1 st.2 = some (.inl (sq st (colsL (l.drop i)))) := by
 intro m
 induction m with
 | zero =>
  intro i st hi hs k hk
  obtain ⟨k, rfl⟩ : ∃ q, k = q + 1 := ⟨k - 1, by omega⟩
  have e : ¬ (i : Int) < (l.length : Int) := by omega
  rw [List.drop_eq_nil_of_le (by omega)]
  simp only [sw_change.s0, sw_change.s0c, e, decide_false, cond_false, colsL]
  rw [sq_word, List.append_nil]
 | succ m ih =>
  intro i st hi hs k hk
  obtain ⟨k, rfl⟩ : ∃ q, k = q + 1 := ⟨k - 1, by omega⟩
  have hlt : i < l.length := by omega
  have e0 : (i : Int) < (l.length : Int) := by omega
  have e1 : (0 : Int) ≤ (i : Int) := by omega
  have e2 : IntKind.wrap IntKind.i64 ((i : Int) + 1) = ((i + 1 : Nat) : Int) := by rw [i64w (by omega) (by omega)]; omega
  have w := col_w (hv (l[i]) (List.getElem_mem _)) st (by omega) k (by omega)
  have lc := colP_len l[i]
  have r := ih (i + 1) (sq st (colP l[i])) (by omega) (by simp only [sq, List.length_append, lc]; omega) k (by omega)
  rw [List.drop_eq_getElem_cons hlt]
  simp only [sw_change.s0, sw_change.s0c, e0, e1, e2, elem_c hlt, w, decide_true, Bool.and_self, cond_true, os, ofs]
  rw [r, colsL, sq_assoc]
theorem cols_w (l : List C) (hl : l.length ≤ 8) (hv : ∀ c ∈ l, OkV c.2.2.2.1) (st : P2) (h : st.2.length ≤ 500) (k : Nat) (hk : 800000 ≤ k) : sw_change.s0 k l (l.length : Int) 0 st.1 st.2 = some (.inl (sq st (colsL l))) :=
 cols_s0 l (by omega) hv l.length 0 st (by omega) (by omega) k (by omega)
end Go.Proofs.YtimadphjdkjgaaaDoor.Aev
