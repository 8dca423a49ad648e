/- The order of values, as plain numbers. -/
import Derived.Test.YtldhmbaddiandaaBValuesThreeValsCmp
namespace Go.Proofs.Ytldhmbaddiandaa.PValuesThree
set_option linter.unusedVariables false
set_option linter.unusedSimpArgs false
open Go.RowKit Go.Proofs.YtldhmbaddiandaaW.PrintWords Go.Proofs.YtldhmbaddiandaaW.PrintLast Go.Proofs.YtldhmbaddiandaaW.PrintMore
open Go.Proofs.Ytldhmbaddiandaa.Plain

def or2 (p q : Int) : Int := if p ≠ 0 then p else q
theorem orS_or2 (p q r s : Int) : orS p q r s = or2 p (or2 q (or2 r s)) := rfl
/-- Three answers of one order. -/
def T3 (p q r : Int) : Prop := (p ≤ 0 ∧ q ≤ 0 → r ≤ 0) ∧ (p ≤ 0 ∧ q ≤ 0 ∧ r = 0 → p = 0 ∧ q = 0)
theorem T3_or {p q r p' q' r' : Int} (h : T3 p q r) (h' : T3 p' q' r') : T3 (or2 p p') (or2 q q') (or2 r r') := by
  unfold T3 or2 at *
  obtain ⟨h1, h2⟩ := h
  obtain ⟨h3, h4⟩ := h'
  constructor
  · rintro ⟨x, y⟩
    split at x <;> split at y <;> split <;> omega
  · rintro ⟨x, y, z⟩
    split at x <;> split at y <;> split at z <;> omega
/-- Two answers, one of each side. -/
def N2 (p q : Int) : Prop := p = -q ∧ -1 ≤ p ∧ p ≤ 1
theorem N2_or {p q p' q' : Int} (h : N2 p q) (h' : N2 p' q') : N2 (or2 p p') (or2 q q') := by
  unfold N2 or2 at *
  split <;> split <;> omega
theorem cmpI_T (a b c : Int) : T3 (cmpI a b) (cmpI b c) (cmpI a c) := by
  unfold T3 cmpI
  constructor
  · rintro ⟨x, y⟩
    split at x <;> split at y <;> split <;> (try split) <;> (try split at x) <;> (try split at y) <;> omega
  · rintro ⟨x, y, z⟩
    split at x <;> split at y <;> split at z <;> (try split at z) <;> (try split at x) <;> (try split at y) <;> omega
theorem cmpI_N (a b : Int) : N2 (cmpI a b) (cmpI b a) := by
  unfold N2 cmpI
  split <;> (try split) <;> (try split) <;> (try split) <;> omega
theorem cmpI_0 {a b : Int} : cmpI a b = 0 ↔ a = b := by
  unfold cmpI; split
  · omega
  · split <;> omega
theorem cmpU_I (a b : Nat) : cmpU a b = cmpI (keyU a) (keyU b) := by
  unfold cmpU cmpI
  by_cases c : keyU a < keyU b
  · rw [if_pos c, if_pos (show (keyU a : Int) < (keyU b : Int) by omega)]
  · rw [if_neg c, if_neg (show ¬ (keyU a : Int) < (keyU b : Int) by omega)]
    by_cases d : keyU b < keyU a
    · rw [if_pos d, if_pos (show (keyU a : Int) > (keyU b : Int) by omega)]
    · rw [if_neg d, if_neg (show ¬ (keyU a : Int) > (keyU b : Int) by omega)]
theorem cb_T : ∀ x y z : List UInt8, T3 (Lib.compareBytes x y) (Lib.compareBytes y z) (Lib.compareBytes x z)
  | [], [], [] => by unfold T3 Lib.compareBytes; omega
  | [], [], _ :: _ => by unfold T3 Lib.compareBytes; omega
  | [], _ :: _, [] => by unfold T3 Lib.compareBytes; omega
  | [], _ :: _, _ :: _ => by
    unfold T3; rw [show ∀ c l, Lib.compareBytes [] (c :: l) = -1 from fun _ _ => rfl, show ∀ c l, Lib.compareBytes [] (c :: l) = -1 from fun _ _ => rfl]; omega
  | _ :: _, [], z => by unfold T3; rw [show ∀ c l, Lib.compareBytes (c :: l) [] = 1 from fun _ _ => rfl]; omega
  | _ :: _, _ :: _, [] => by unfold T3; rw [show ∀ c l, Lib.compareBytes (c :: l) [] = 1 from fun _ _ => rfl, show ∀ c l, Lib.compareBytes (c :: l) [] = 1 from fun _ _ => rfl]; omega
  | a :: x, b :: y, c :: z => by
    have ih := cb_T x y z
    have e : ∀ (a b : UInt8) (x y : List UInt8), Lib.compareBytes (a :: x) (b :: y) = or2 (cmpI a.toNat b.toNat) (Lib.compareBytes x y) := by
      intro a b x y
      rw [Lib.compareBytes]
      unfold or2 cmpI
      by_cases h : a < b
      · have h' : a.toNat < b.toNat := UInt8.lt_iff_toNat_lt.1 h
        rw [if_pos h, if_pos (show (a.toNat : Int) < b.toNat by omega), if_pos (by decide)]
      · have h' : ¬ a.toNat < b.toNat := fun q => h (UInt8.lt_iff_toNat_lt.2 q)
        rw [if_neg h, if_neg (show ¬ (a.toNat : Int) < b.toNat by omega)]
        by_cases g : b < a
        · have g' : b.toNat < a.toNat := UInt8.lt_iff_toNat_lt.1 g
          rw [if_pos g, if_pos (show (a.toNat : Int) > b.toNat by omega), if_pos (by decide)]
        · have g' : ¬ b.toNat < a.toNat := fun q => g (UInt8.lt_iff_toNat_lt.2 q)
          rw [if_neg g, if_neg (show ¬ (a.toNat : Int) > b.toNat by omega), if_neg (by simp)]
    rw [e, e, e]
    exact T3_or (cmpI_T _ _ _) ih
theorem cb_N : ∀ x y : List UInt8, N2 (Lib.compareBytes x y) (Lib.compareBytes y x)
  | [], [] => by unfold N2 Lib.compareBytes; omega
  | [], _ :: _ => by unfold N2 Lib.compareBytes; omega
  | _ :: _, [] => by unfold N2 Lib.compareBytes; omega
  | a :: x, b :: y => by
    have ih := cb_N x y
    unfold Lib.compareBytes
    by_cases h : a < b
    · have h' : ¬ b < a := fun q => UInt8.lt_irrefl _ (UInt8.lt_trans h q)
      rw [if_pos h, if_neg h', if_pos h]; unfold N2; omega
    · rw [if_neg h]
      by_cases g : b < a
      · rw [if_pos g, if_pos g]; unfold N2; omega
      · rw [if_neg g, if_neg g, if_neg h]; exact ih
theorem cb_0 : ∀ x y : List UInt8, Lib.compareBytes x y = 0 ↔ x = y
  | [], [] => by simp [Lib.compareBytes]
  | [], _ :: _ => by simp [Lib.compareBytes]
  | _ :: _, [] => by simp [Lib.compareBytes]
  | a :: x, b :: y => by
    have ih := cb_0 x y
    unfold Lib.compareBytes
    by_cases h : a < b
    · rw [if_pos h]
      constructor
      · intro q; omega
      · intro q; injection q with q1 q2; subst q1; exact absurd h (UInt8.lt_irrefl _)
    · rw [if_neg h]
      by_cases g : b < a
      · rw [if_pos g]
        constructor
        · intro q; omega
        · intro q; injection q with q1 q2; subst q1; exact absurd g (UInt8.lt_irrefl _)
      · rw [if_neg g, ih]
        have : a = b := UInt8.le_antisymm (UInt8.not_lt.1 g) (UInt8.not_lt.1 h)
        subst this
        simp
theorem cb_less : ∀ x y : List UInt8, x ≠ y → Lib.compareBytes x y = if Op.bytesLess x y = true then -1 else 1
  | [], [], h => absurd rfl h
  | [], _ :: _, _ => rfl
  | _ :: _, [], _ => rfl
  | a :: x, b :: y, h => by
    have ih := cb_less x y
    unfold Lib.compareBytes Op.bytesLess
    by_cases c : a < b
    · rw [if_pos c, decide_eq_true c, Bool.true_or, if_pos rfl]
    · rw [if_neg c, decide_eq_false c, Bool.false_or]
      by_cases g : b < a
      · have : a ≠ b := fun q => by subst q; exact absurd g (UInt8.lt_irrefl _)
        rw [if_pos g, beq_eq_false_iff_ne.2 this, Bool.false_and, if_neg (by simp)]
      · have : a = b := UInt8.le_antisymm (UInt8.not_lt.1 g) (UInt8.not_lt.1 c)
        subst this
        rw [if_neg g, beq_self_eq_true, Bool.true_and]
        exact ih (fun q => h (by rw [q]))
theorem vcmp_N (a0 a1 : Int) (m : Nat) (s : ByteArray) (b0 b1 : Int) (n : Nat) (t : ByteArray) : N2 (vcmpS a0 a1 m s b0 b1 n t) (vcmpS b0 b1 n t a0 a1 m s) := by
  unfold vcmpS
  rw [orS_or2, orS_or2, cmpU_I, cmpU_I]
  exact N2_or (cmpI_N _ _) (N2_or (cmpI_N _ _) (N2_or (cmpI_N _ _) (cb_N _ _)))
theorem vcmp_T (a0 a1 : Int) (m : Nat) (s : ByteArray) (b0 b1 : Int) (n : Nat) (t : ByteArray) (c0 c1 : Int) (o : Nat) (u : ByteArray) : T3 (vcmpS a0 a1 m s b0 b1 n t) (vcmpS b0 b1 n t c0 c1 o u) (vcmpS a0 a1 m s c0 c1 o u) := by
  unfold vcmpS
  rw [orS_or2, orS_or2, orS_or2, cmpU_I, cmpU_I, cmpU_I]
  exact T3_or (cmpI_T _ _ _) (T3_or (cmpI_T _ _ _) (T3_or (cmpI_T _ _ _) (cb_T _ _ _)))
theorem or2_0 {p q : Int} : or2 p q = 0 ↔ p = 0 ∧ q = 0 := by unfold or2; split <;> omega
theorem vcmp_0 {a0 a1 : Int} {m : Nat} {s : ByteArray} {b0 b1 : Int} {n : Nat} {t : ByteArray} (hm : m < 18446744073709551616) (hn : n < 18446744073709551616) :
    vcmpS a0 a1 m s b0 b1 n t = 0 ↔ a0 = b0 ∧ a1 = b1 ∧ canon m = canon n ∧ s.toList = t.toList := by
  unfold vcmpS
  rw [orS_or2, or2_0, or2_0, or2_0, cmpI_0, cmpI_0, cmp_zero hm hn, cb_0, toList_data, toList_data]
end Go.Proofs.Ytldhmbaddiandaa.PValuesThree
