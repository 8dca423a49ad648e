/- ValuesKinds: any kind's first value, and its word, and any word's kind, are what the document says. For every input; no conditions. -/
import Derived.Test.YtldhmbaddiandaaPValuesKindsx
import Derived.Test.YtldhmbaddiandaaPlain
namespace Go.Proofs.Ytldhmbaddiandaa.Pure
set_option linter.unusedVariables false
set_option linter.unusedSimpArgs false
open Go.RowKit Go.Proofs.Ytldhmbaddiandaa.PValuesKinds Go.Proofs.YtldhmbaddiandaaW.PrintWords Go.Proofs.YtldhmbaddiandaaW.PrintLast
open Go.Proofs.Ytldhmbaddiandaa.Plain

theorem awake_60 : transomlaw04_awake.f 60 = some true := by decide +kernel
theorem awake_true {k : Nat} (h : 60 ≤ k) : transomlaw04_awake.f k = some true := by
  obtain ⟨j, rfl⟩ : ∃ j, k = 60 + j := ⟨k - 60, by omega⟩
  induction j with
  | zero => exact awake_60
  | succ j ih => exact transomlaw04_awake.mono _ _ (ih (by omega))
/-- A kind's word. -/
def nameB (a : Int) : ByteArray :=
  if a = 0 then (⟨#[110, 117, 108, 108]⟩ : ByteArray) else if a = 1 then (⟨#[98, 111, 111, 108]⟩ : ByteArray) else if a = 2 then (⟨#[105, 110, 116]⟩ : ByteArray) else if a = 3 then (⟨#[114, 101, 97, 108]⟩ : ByteArray) else if a = 4 then (⟨#[98, 121, 116, 101, 115]⟩ : ByteArray) else if a = 5 then (⟨#[116, 101, 120, 116]⟩ : ByteArray) else (⟨#[]⟩ : ByteArray)
theorem word_eq {a : Int} (h0 : 0 ≤ a) (h1 : a < 6) : values_word.f a = some (nameB a) := by
  unfold values_word.f nameB
  by_cases c0 : a = 0
  · rw [if_pos c0, if_pos c0]
  · rw [if_neg c0, if_neg c0]
    by_cases c1 : a = 1
    · rw [if_pos c1, if_pos c1]
    · rw [if_neg c1, if_neg c1]
      by_cases c2 : a = 2
      · rw [if_pos c2, if_pos c2]
      · rw [if_neg c2, if_neg c2]
        by_cases c3 : a = 3
        · rw [if_pos c3, if_pos c3]
        · rw [if_neg c3, if_neg c3]
          by_cases c4 : a = 4
          · rw [if_pos c4, if_pos c4]
          · rw [if_neg c4, if_neg c4, if_pos (by omega), if_pos (by omega)]
theorem name_eq (a : Int) : values_Name.f a = some (nameB a) := by
  unfold values_Name.f
  by_cases c : a < 0
  · rw [if_pos c]
    unfold nameB
    rw [if_neg (by omega), if_neg (by omega), if_neg (by omega), if_neg (by omega), if_neg (by omega), if_neg (by omega)]
  · rw [if_neg c]
    by_cases d : a ≥ 6
    · rw [if_pos d]
      unfold nameB
      rw [if_neg (by omega), if_neg (by omega), if_neg (by omega), if_neg (by omega), if_neg (by omega), if_neg (by omega)]
    · rw [if_neg d, word_eq (by omega) (by omega), Option.bind_some]
theorem refname_eq (a : Int) : transomref04_Name.f a = some (nameB a) := by
  unfold transomref04_Name.f nameB
  split
  · rfl
  · split
    · rfl
    · split
      · rfl
      · split
        · rfl
        · split
          · rfl
          · split <;> rfl
theorem kind_l0 (x : ByteArray) : ∀ (d i k : Nat), i + d = 6 → d < k → ∃ r, values_Kind.l0 k x i = some r ∧ transomref04_Kind.l0 k x i = some r := by
  intro d
  induction d with
  | zero =>
    intro i k hi hk
    obtain ⟨k, rfl⟩ : ∃ j, k = j + 1 := ⟨k - 1, by omega⟩
    exact ⟨-1, by rw [values_Kind.l0, if_neg (by omega)], by rw [transomref04_Kind.l0, if_neg (by omega)]⟩
  | succ d ih =>
    intro i k hi hk
    obtain ⟨k, rfl⟩ : ∃ j, k = j + 1 := ⟨k - 1, by omega⟩
    have e1 : wrap64 ((i : Int) + 1) = ((i + 1 : Nat) : Int) := by rw [w64id (by omega) (by omega)]; omega
    rw [values_Kind.l0, transomref04_Kind.l0, if_pos (by omega), if_pos (by omega), word_eq (by omega) (by omega), refname_eq, Option.bind_some, Option.bind_some, e1]
    by_cases c : (nameB (i : Int)).toList = x.toList
    · rw [if_pos c, if_pos c]; exact ⟨_, rfl, rfl⟩
    · rw [if_neg c, if_neg c]; exact ih (i + 1) k (by omega) (by omega)
theorem kind_20 : ∀ a : Fin 6, values_Kind.f 20 (nameB (a.val : Int)) = some (a.val : Int) := by decide +kernel
theorem kind_name {a : Int} (h0 : 0 ≤ a) (h1 : a < 6) (k : Nat) : values_Kind.f (20 + k) (nameB a) = some a := by
  obtain ⟨n, rfl⟩ : ∃ n : Nat, a = (n : Int) := ⟨a.toNat, by omega⟩
  induction k with
  | zero => exact kind_20 ⟨n, by omega⟩
  | succ k ih => exact values_Kind.mono _ _ _ ih
theorem zero_same (a : Int) : ∃ p q, values_Zero.f a = some p ∧ transomref04_Zero.f a = some q ∧ p = q := by
  unfold values_Zero.f transomref04_Zero.f
  by_cases c : a < 0
  · rw [if_pos c, if_pos c]; exact ⟨_, _, rfl, rfl, rfl⟩
  · rw [if_neg c, if_neg c]
    by_cases d : a ≥ 6
    · rw [if_pos d, if_pos (by omega)]; exact ⟨_, _, rfl, rfl, rfl⟩
    · rw [if_neg d, if_neg (by omega)]; exact ⟨_, _, rfl, rfl, rfl⟩
theorem same_self (a b c : Int) (s : ByteArray) : transomref04_Same.f a b c s a b c s = some true := by
  unfold transomref04_Same.f
  rw [if_pos rfl, if_pos rfl, if_pos rfl, beq_self_eq_true]
theorem ValuesKinds : transomlaw04_ValuesKinds.Pure := by
  intro a x wa hx
  obtain ⟨k, hk⟩ : ∃ k : Nat, 80 ≤ k := ⟨_, Nat.le_refl _⟩
  refine ⟨k, ?_⟩
  obtain ⟨p, q, h1, h2, rfl⟩ := zero_same a
  obtain ⟨r, h3, h4⟩ := kind_l0 x 6 0 k (by omega) (by omega)
  have h3 : values_Kind.f k x = some r := h3
  have h4 : transomref04_Kind.f k x = some r := h4
  unfold transomlaw04_ValuesKinds.f
  rw [h1, Option.bind_some, h2, Option.bind_some, same_self, Option.bind_some, if_pos rfl, if_pos rfl, name_eq, Option.bind_some, refname_eq, Option.bind_some, if_pos rfl, h3, Option.bind_some, h4, Option.bind_some, if_pos rfl, Option.bind_some, Option.bind_some, awake_true (by omega)]
  by_cases c : (nameB a).toList = ([] : List UInt8)
  · rw [if_pos c]; rfl
  · rw [if_neg c]
    have hr : 0 ≤ a ∧ a < 6 := by
      by_cases c0 : 0 ≤ a ∧ a < 6
      · exact c0
      · exfalso; apply c
        unfold nameB
        rw [if_neg (by omega), if_neg (by omega), if_neg (by omega), if_neg (by omega), if_neg (by omega), if_neg (by omega), toList_data]
    have := kind_name hr.1 hr.2 (k - 20)
    rw [show 20 + (k - 20) = k by omega] at this
    rw [this, Option.bind_some, if_pos rfl]; rfl
end Go.Proofs.Ytldhmbaddiandaa.Pure
