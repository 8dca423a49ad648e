/- Which value comes first: the program's and the document's ways; rows. -/
import Derived.Test.YtlclhjdfbkenfaaF0
import Derived.Test.YtlclhjdfbkenfaaF5
import Derived.Test.YtlclhjdfbkenfaaF6
import Derived.Test.YtlclhjdfbkenfaaF20
import Derived.Test.YtlclhjdfbkenfaaKeyU
import Derived.Test.YtlclhjdfbkenfaaFew
namespace Go.Proofs.Ytlclhjdfbkenfaa.Aev
open Go
set_option linter.unusedVariables false
set_option linter.unusedSimpArgs false
set_option maxRecDepth 100000
def cmpI (a b : Int) : Int := if a < b then -1 else if b < a then 1 else 0
def cmpU (a b : Nat) : Int := if keyU a < keyU b then -1 else if keyU b < keyU a then 1 else 0
def cmpB (a b : List UInt8) : Int := if a = b then 0 else if Op.bytesLess a b = true then -1 else 1
/-- the first that is not 0 -/
def or0 (a b : Int) : Int := if a = 0 then b else a
def cmpV (a0 a1 : Int) (n : Nat) (s : List UInt8) (b0 b1 : Int) (m : Nat) (t : List UInt8) : Int := or0 (cmpI a0 b0) (or0 (cmpI a1 b1) (or0 (cmpU n m) (cmpB s t)))
theorem compare_eq' (a b : Int) (k : Nat) : cmp_Compare_int.f k a b = some (cmpI a b) := by
  simp only [cmp_Compare_int.f, cmp_Compare_int.c, cmp_isNaN_int.f, cmp_isNaN_int.c, Option.bind_some, bne_self_eq_false, cond_false]
  unfold cmpI
  by_cases h : a < b
  · rw [if_pos h, decide_eq_true h]; rfl
  · rw [if_neg h, decide_eq_false h]
    by_cases h2 : b < a
    · rw [if_pos h2, decide_eq_true (show a > b from h2)]; rfl
    · rw [if_neg h2, decide_eq_false (show ¬ a > b from h2)]; rfl
theorem rcmp_eq {a b : Nat} (ha : a < 18446744073709551616) (hb : b < 18446744073709551616) (k : Nat) : reals_Cmp.f k (a : Int) (b : Int) = some (cmpU a b) := by
  simp only [reals_Cmp.f, reals_Cmp.c, key_eq ha, key_eq hb, cond_true, cond_false, if_b, decide_eq_true_eq, Bool.and_eq_true, Bool.or_eq_true, beq_iff_eq, bne_iff_ne, ne_eq, Bool.not_eq_true', Bool.not_eq_false', Bool.true_and, Bool.and_true, Bool.false_eq_true, if_false, if_true, true_and, and_true, Option.bind_some, Option.bind_none, Option.bind_fun_some, beq_eq_false_iff_ne, decide_eq_false_iff_not, toList_iff]
  unfold cmpU
  by_cases c : keyU a < keyU b
  · rw [if_pos (by omega), if_pos c]
  · rw [if_neg (by omega), if_neg c]
    by_cases d : keyU b < keyU a
    · rw [if_pos (by omega), if_pos d]
    · rw [if_neg (by omega), if_neg d]
theorem refrcmp_eq {a b : Nat} (ha : a < 18446744073709551616) (hb : b < 18446744073709551616) (k : Nat) : transomref02_Cmp.f (k + 1) (a : Int) (b : Int) = some (cmpU a b) := by
  simp only [transomref02_Cmp.f, transomref02_Cmp.c, refkey_eq ha, refkey_eq hb, cond_true, cond_false, if_b, decide_eq_true_eq, Bool.and_eq_true, Bool.or_eq_true, beq_iff_eq, bne_iff_ne, ne_eq, Bool.not_eq_true', Bool.not_eq_false', Bool.true_and, Bool.and_true, Bool.false_eq_true, if_false, if_true, true_and, and_true, Option.bind_some, Option.bind_none, Option.bind_fun_some, beq_eq_false_iff_ne, decide_eq_false_iff_not, toList_iff]
  unfold cmpU
  by_cases c : keyU a < keyU b
  · rw [if_pos (by omega), if_pos c]
  · rw [if_neg (by omega), if_neg c]
    by_cases d : keyU b < keyU a
    · rw [if_pos (by omega), if_pos d]
    · rw [if_neg (by omega), if_neg d]
theorem compareBytes_eq : ∀ a b : List UInt8, Lib.compareBytes a b = cmpB a b
  | [], [] => rfl
  | [], _ :: _ => rfl
  | _ :: _, [] => rfl
  | c :: a, d :: b => by
    have ih := compareBytes_eq a b
    unfold cmpB at ih ⊢
    unfold Lib.compareBytes
    rcases Nat.lt_trichotomy c.toNat d.toNat with h | h | h
    · have h1 : c < d := UInt8.lt_iff_toNat_lt.2 h
      have h2 : ¬ c = d := fun e => by subst e; omega
      rw [if_pos h1, if_neg (by simp [h2]), if_pos (by simp [Op.bytesLess, h1])]
    · obtain rfl : c = d := UInt8.toNat_inj.1 h
      have h1 : ¬ c < c := by rw [UInt8.lt_iff_toNat_lt]; omega
      rw [if_neg h1, if_neg h1, ih]
      simp [Op.bytesLess]
    · have h1 : ¬ c < d := by rw [UInt8.lt_iff_toNat_lt]; omega
      have h2 : d < c := UInt8.lt_iff_toNat_lt.2 h
      have h3 : ¬ c = d := fun e => by subst e; omega
      rw [if_neg h1, if_pos h2, if_neg (by simp [h3]), if_neg (by simp [Op.bytesLess, h1, h3])]
theorem strcmp_eq (a b : ByteArray) (k : Nat) : strings_Compare.f k a b = some (cmpB a.data.toList b.data.toList) := by
  simp only [strings_Compare.f, strings_Compare.c, bytealg_CompareString.f, bytealg_CompareString.c, bytealg_abigen_runtime_cmpstring.f, compareBytes_eq, Option.bind_some]
theorem or_eq (a b c d : Int) (k : Nat) : cmp_Or_int.f (k + 5) [a, b, c, d] = some (or0 a (or0 b (or0 c d))) := by
  have w0 : IntKind.wrap IntKind.i64 ((0 : Int) + 1) = 1 := by decide
  have w1 : IntKind.wrap IntKind.i64 ((1 : Int) + 1) = 2 := by decide
  have w2 : IntKind.wrap IntKind.i64 ((2 : Int) + 1) = 3 := by decide
  have w3 : IntKind.wrap IntKind.i64 ((3 : Int) + 1) = 4 := by decide
  have e0 : elem (Ty.int IntKind.i64) [a, b, c, d] 0 = a := rfl
  have e1 : elem (Ty.int IntKind.i64) [a, b, c, d] 1 = b := rfl
  have e2 : elem (Ty.int IntKind.i64) [a, b, c, d] 2 = c := rfl
  have e3 : elem (Ty.int IntKind.i64) [a, b, c, d] 3 = d := rfl
  have l4 : (([a, b, c, d].length : Nat) : Int) = 4 := rfl
  simp only [cmp_Or_int.f, cmp_Or_int.c, cmp_Or_int.s0, cmp_Or_int.s0c, l4, e0, e1, e2, e3, w0, w1, w2, w3, cond_true, cond_false, if_b, decide_eq_true_eq, Bool.and_eq_true, Bool.or_eq_true, beq_iff_eq, bne_iff_ne, ne_eq, Bool.not_eq_true', Bool.not_eq_false', Bool.true_and, Bool.and_true, Bool.false_eq_true, if_false, if_true, true_and, and_true, Option.bind_some, Option.bind_none, Option.bind_fun_some, beq_eq_false_iff_ne, decide_eq_false_iff_not, toList_iff, Int.reduceLT, Int.reduceLE, and_self]
  unfold or0
  by_cases ha : a = 0
  · by_cases hb : b = 0
    · by_cases hc : c = 0
      · by_cases hd : d = 0
        · simp [ha, hb, hc, hd]
        · simp [ha, hb, hc, hd]
      · simp [ha, hb, hc]
    · simp [ha, hb]
  · simp [ha]
theorem vcmp_eq (a0 a1 : Int) (n : Nat) (s : ByteArray) (b0 b1 : Int) (m : Nat) (t : ByteArray) (hn : n < 18446744073709551616) (hm : m < 18446744073709551616) (k : Nat) (hk : 5 ≤ k) :
    values_Cmp.f k a0 a1 (n : Int) s b0 b1 (m : Int) t = some (cmpV a0 a1 n s.data.toList b0 b1 m t.data.toList) := by
  obtain ⟨k, rfl⟩ : ∃ j, k = j + 5 := ⟨k - 5, by omega⟩
  simp only [values_Cmp.f, values_Cmp.c, compare_eq', rcmp_eq hn hm, strcmp_eq, or_eq, Option.bind_some, cmpV]
theorem order_eq (b : Bool) (k : Nat) : transomref04_order.f k b = some (if b = true then -1 else 1) := by
  cases b <;> rfl
theorem refvcmp_eq (a0 a1 : Int) (n : Nat) (s : ByteArray) (b0 b1 : Int) (m : Nat) (t : ByteArray) (hn : n < 18446744073709551616) (hm : m < 18446744073709551616) (k : Nat) (hk : 5 ≤ k) :
    transomref04_Cmp.f k a0 a1 (n : Int) s b0 b1 (m : Int) t = some (cmpV a0 a1 n s.data.toList b0 b1 m t.data.toList) := by
  obtain ⟨k, rfl⟩ : ∃ j, k = j + 5 := ⟨k - 5, by omega⟩
  have hs : (s = t) ↔ s.data.toList = t.data.toList := ⟨fun h => by rw [h], ba_ext⟩
  simp only [transomref04_Cmp.f, transomref04_Cmp.c, order_eq, refrcmp_eq hn hm, cond_true, cond_false, if_b, decide_eq_true_eq, Bool.and_eq_true, Bool.or_eq_true, beq_iff_eq, bne_iff_ne, ne_eq, Bool.not_eq_true', Bool.not_eq_false', Bool.true_and, Bool.and_true, Bool.false_eq_true, if_false, if_true, true_and, and_true, Option.bind_some, Option.bind_none, Option.bind_fun_some, beq_eq_false_iff_ne, decide_eq_false_iff_not, toList_iff, cmpV, toList_data]
  unfold or0 cmpI cmpB
  by_cases h0 : a0 = b0
  · subst h0
    by_cases h1 : a1 = b1
    · subst h1
      by_cases h2 : cmpU n m = 0
      · by_cases h3 : s = t
        · subst h3; simp [h2]
        · have h3' : ¬ s.data.toList = t.data.toList := fun h => h3 (hs.2 h)
          simp [h2, h3']
      · simp [h2]
    · by_cases h2 : a1 < b1
      · simp [h1, h2]
      · have : b1 < a1 := by omega
        simp [h1, h2, this]
  · by_cases h2 : a0 < b0
    · simp [h0, h2]
    · have : b0 < a0 := by omega
      simp [h0, h2, this]
def cV (v w : V) : Int := cmpV v.1 v.2.1 v.2.2.1.toNat v.2.2.2.1.data.toList w.1 w.2.1 w.2.2.1.toNat w.2.2.2.1.data.toList
def cmpL : List V → List V → Int
  | [], [] => 0
  | [], _ :: _ => -1
  | _ :: _, [] => 1
  | v :: l, w :: m => if cV v w ≠ 0 then cV v w else cmpL l m
/-- numbers within bounds -/
def BitsV (l : List V) : Prop := ∀ v ∈ l, ∃ n : Nat, v.2.2.1 = (n : Int) ∧ n < 18446744073709551616
theorem cmprow_s0 (l m : List V) (hl : BitsV l) (hm : BitsV m) (hll : l.length ≤ 1000000000) (hml : m.length ≤ 1000000000) : ∀ (j i : Nat), i ≤ l.length → i ≤ m.length → l.length - i ≤ j → ∀ k, 3 * j + 10 < k →
    transomref04_CmpRow.s0 k l m (i : Int) = some (cmpL (l.drop i) (m.drop i)) := by
  intro j
  induction j with
  | zero =>
    intro i h1 h2 h3 k hk
    obtain ⟨k, rfl⟩ : ∃ j, k = j + 2 := ⟨k - 2, by omega⟩
    have e : ¬ (i : Int) < (l.length : Int) := by omega
    rw [List.drop_eq_nil_of_le (show l.length ≤ i by omega)]
    simp only [transomref04_CmpRow.s0, transomref04_CmpRow.s0c, transomref04_CmpRow.s1, transomref04_CmpRow.s1c, e, decide_false, cond_false, Option.bind_fun_some, order_eq, Option.bind_some]
    cases hd : m.drop i with
    | nil =>
      have : m.length = l.length := by have := congrArg List.length hd; simp at this; omega
      rw [show ((l.length : Int) != (m.length : Int)) = false by rw [bne_eq_false_iff_eq]; omega]; rfl
    | cons w m' =>
      have : l.length < m.length := by have := congrArg List.length hd; simp at this; omega
      rw [show ((l.length : Int) != (m.length : Int)) = true by rw [bne_iff_ne]; omega, decide_eq_true (by omega)]; rfl
  | succ j ih =>
    intro i h1 h2 h3 k hk
    obtain ⟨k, rfl⟩ : ∃ j, k = j + 3 := ⟨k - 3, by omega⟩
    by_cases hi : i < l.length
    · have e0 : (i : Int) < (l.length : Int) := by omega
      by_cases hi2 : i < m.length
      · have e0' : (i : Int) < (m.length : Int) := by omega
        have e1 : (0 : Int) ≤ (i : Int) := by omega
        have e2 : IntKind.wrap IntKind.i64 ((i : Int) + 1) = ((i + 1 : Nat) : Int) := by rw [i64w (by omega) (by omega)]; omega
        obtain ⟨n1, hn1, hb1⟩ := hl l[i] (List.getElem_mem hi)
        obtain ⟨n2, hn2, hb2⟩ := hm m[i] (List.getElem_mem hi2)
        have hc := refvcmp_eq l[i].1 l[i].2.1 n1 l[i].2.2.2.1 m[i].1 m[i].2.1 n2 m[i].2.2.2.1 hb1 hb2 k (by omega)
        have hcv : cmpV l[i].1 l[i].2.1 n1 l[i].2.2.2.1.data.toList m[i].1 m[i].2.1 n2 m[i].2.2.2.1.data.toList = cV l[i] m[i] := by unfold cV; rw [hn1, hn2]; rfl
        rw [hcv, ← hn1, ← hn2] at hc
        have := ih (i + 1) (by omega) (by omega) (by omega) k (by omega)
        simp only [transomref04_CmpRow.s0, transomref04_CmpRow.s0c, transomref04_CmpRow.s1, transomref04_CmpRow.s1c, transomref04_CmpRow.s2, transomref04_CmpRow.s2c, e0, e0', e1, e2, elem_at hi, elem_at hi2, hc, this, decide_true, Bool.and_self, cond_true, Option.bind_some, Option.bind_fun_some, List.drop_eq_getElem_cons hi, List.drop_eq_getElem_cons hi2, cmpL]
        by_cases h : cV l[i] m[i] = 0
        · rw [show (cV l[i] m[i] != 0) = false by rw [bne_eq_false_iff_eq]; exact h, if_neg (by simpa using h)]; rfl
        · rw [show (cV l[i] m[i] != 0) = true by rw [bne_iff_ne]; exact h, if_pos h]; rfl
      · have e0' : ¬ (i : Int) < (m.length : Int) := by omega
        have en : m.drop i = [] := List.drop_eq_nil_of_le (by omega)
        have hne : ((l.length : Int) != (m.length : Int)) = true := by rw [bne_iff_ne]; omega
        have hlt : ¬ (l.length : Int) < (m.length : Int) := by omega
        simp only [transomref04_CmpRow.s0, transomref04_CmpRow.s0c, transomref04_CmpRow.s1, transomref04_CmpRow.s1c, e0, e0', hne, hlt, decide_true, decide_false, cond_true, cond_false, Option.bind_fun_some, order_eq, Option.bind_some, List.drop_eq_getElem_cons hi, en, cmpL]
        rfl
    · have e : ¬ (i : Int) < (l.length : Int) := by omega
      rw [List.drop_eq_nil_of_le (show l.length ≤ i by omega)]
      simp only [transomref04_CmpRow.s0, transomref04_CmpRow.s0c, transomref04_CmpRow.s1, transomref04_CmpRow.s1c, e, decide_false, cond_false, Option.bind_fun_some, order_eq, Option.bind_some]
      cases hd : m.drop i with
      | nil =>
        have : m.length = l.length := by have := congrArg List.length hd; simp at this; omega
        rw [show ((l.length : Int) != (m.length : Int)) = false by rw [bne_eq_false_iff_eq]; omega]; rfl
      | cons w m' =>
        have : l.length < m.length := by have := congrArg List.length hd; simp at this; omega
        rw [show ((l.length : Int) != (m.length : Int)) = true by rw [bne_iff_ne]; omega, decide_eq_true (by omega)]; rfl
theorem cmprow_eq (l m : List V) (hl : BitsV l) (hm : BitsV m) (hll : l.length ≤ 1000000000) (hml : m.length ≤ 1000000000) (k : Nat) (hk : 3 * l.length + 20 < k) : transomref04_CmpRow.f k l m = some (cmpL l m) := by
  simp only [transomref04_CmpRow.f, transomref04_CmpRow.c, Option.bind_fun_some]
  exact cmprow_s0 l m hl hm hll hml l.length 0 (by omega) (by omega) (by omega) k (by omega)
end Go.Proofs.Ytlclhjdfbkenfaa.Aev
