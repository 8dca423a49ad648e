/- Whether a value may be, or why not: the document's way. -/
import Derived.Test.YtldhmbaddiandaaBValuesOneValsCheck
import Derived.Test.YtldhmbaddiandaaBValuesOneValsRef
import Derived.Test.YtldhmbaddiandaaBValuesOneValsUtf
namespace Go.Proofs.Ytldhmbaddiandaa.PValuesOne
set_option linter.unusedVariables false
set_option linter.unusedSimpArgs false
open Go.RowKit Go.Proofs.YtldhmbaddiandaaW.PrintWords Go.Proofs.YtldhmbaddiandaaW.PrintLast Go.Proofs.YtldhmbaddiandaaW.PrintMore
open Go.Proofs.Ytldhmbaddiandaa.Plain

theorem refvalid_eq {s : ByteArray} {rs : List Int} {b : Bool} {k : Nat} (h : Rd s.data.toList rs b) (hz : s.size ≤ 140737488351232) (hk : s.size + 44 ≤ k) : transomref01_Valid.f k s = some b := by
  have := refcount_l0 h s 0 0 k rfl (by omega) hz (by rw [← sz]; omega) (by rw [← sz]; omega)
  have h5 : transomref01_Count.f k s = some (if b = true then ((0 + rs.length : Nat) : Int) else -1) := this
  unfold transomref01_Valid.f
  rw [h5, Option.bind_some]
  cases b
  · rfl
  · rw [if_pos rfl, decide_eq_true (by omega)]
theorem rcheck_j5 {a0 a1 : Int} {n : Nat} {s : ByteArray} {rs : List Int} {b : Bool} {k : Nat} (hr : Rd s.data.toList rs b) (hk : 130 ≤ k) :
    transomref04_Check.j5 k false a0 a1 (n : Int) s = some (endS a0 s b) := by
  obtain ⟨k, rfl⟩ : ∃ j, k = j + 1 := ⟨k - 1, by omega⟩
  rw [transomref04_Check.j5, if_neg Bool.false_ne_true]
  unfold endS
  by_cases d : 64 < s.size
  · rw [if_pos (by omega), if_pos d]
  · rw [if_neg (by omega), if_neg d]
    by_cases e : a0 = 5
    · rw [if_pos e, if_pos e, refvalid_eq hr (by omega) (by omega), Option.bind_some]; split <;> rfl
    · rw [if_neg e, if_neg e]
theorem canon_0 : canon 0 = 0 := by decide +kernel
theorem rcheck_j4 {a0 a1 : Int} {n : Nat} {s : ByteArray} {rs : List Int} {b : Bool} {k : Nat} (hn : n < 18446744073709551616) (hr : Rd s.data.toList rs b) (hk : 140 ≤ k) (hf : n = 0 ∨ a0 = 3) :
    transomref04_Check.j4 k false a0 a1 (n : Int) s = some (if canon n ≠ n then 4 else endS a0 s b) := by
  obtain ⟨k, rfl⟩ : ∃ j, k = (j + 2) + 1 := ⟨k - 3, by omega⟩
  rw [transomref04_Check.j4, if_neg Bool.false_ne_true]
  by_cases c : a0 = 3
  · rw [if_pos c, refcanon_eq hn, Option.bind_some]
    by_cases d : canon n = n
    · rw [bne_eq_false_iff_eq.2 (by omega), rcheck_j5 hr (by omega), if_neg (show ¬ canon n ≠ n by omega)]
    · rw [bne_iff_ne.2 (by omega), transomref04_Check.j5, if_pos rfl, if_pos (show canon n ≠ n from d)]
  · rw [if_neg c, rcheck_j5 hr (by omega)]
    obtain rfl : n = 0 := by omega
    rw [if_neg (show ¬ canon 0 ≠ 0 by rw [canon_0]; omega)]
theorem rcheck_j3 {a0 a1 : Int} {n : Nat} {s : ByteArray} {rs : List Int} {b : Bool} {k : Nat} (hn : n < 18446744073709551616) (hr : Rd s.data.toList rs b) (hk : 150 ≤ k) (f : Bool) (hf : fieldsOk a0 a1 n s ↔ f = false) :
    transomref04_Check.j3 k f a0 a1 (n : Int) s = some (if ¬ fieldsOk a0 a1 n s then 4 else if a0 = 1 ∧ a1 ≠ 0 ∧ a1 ≠ 1 then 6 else if canon n ≠ n then 4 else endS a0 s b) := by
  obtain ⟨k, rfl⟩ : ∃ j, k = (j + 1) + 1 := ⟨k - 2, by omega⟩
  rw [transomref04_Check.j3]
  cases f
  · have hg := hf.2 rfl
    rw [if_neg Bool.false_ne_true, if_neg (show ¬ ¬ fieldsOk a0 a1 n s from fun q => q hg), rcheck_j4 hn hr (by omega) hg.2.1]
    by_cases g : a0 = 1
    · rw [if_pos g]
      by_cases h0 : a1 = 0
      · rw [if_pos h0, if_neg (show ¬ (a0 = 1 ∧ a1 ≠ 0 ∧ a1 ≠ 1) by omega)]
      · rw [if_neg h0]
        by_cases h1 : a1 = 1
        · rw [bne_eq_false_iff_eq.2 h1, rcheck_j4 hn hr (by omega) hg.2.1, if_neg (show ¬ (a0 = 1 ∧ a1 ≠ 0 ∧ a1 ≠ 1) by omega)]
        · rw [bne_iff_ne.2 h1, transomref04_Check.j4, if_pos rfl, if_pos (show (a0 = 1 ∧ a1 ≠ 0 ∧ a1 ≠ 1) by omega)]
    · rw [if_neg g, if_neg (show ¬ (a0 = 1 ∧ a1 ≠ 0 ∧ a1 ≠ 1) by omega)]
  · have hg : ¬ fieldsOk a0 a1 n s := fun q => by simpa using hf.1 q
    rw [if_pos rfl, if_pos hg]
theorem fields_iff {a0 a1 : Int} {n : Nat} {s : ByteArray} {x3 x4 : Bool} (h3 : x3 = true ↔ a0 = 1 ∨ a0 = 2) (h4 : x4 = true ↔ a0 = 4 ∨ a0 = 5) :
    fieldsOk a0 a1 n s ↔ (a1 = 0 ∨ x3 = true) ∧ (n = 0 ∨ a0 = 3) ∧ (s.toList = [] ∨ x4 = true) := by
  unfold fieldsOk
  rw [h3, h4, toList_data]
theorem rcheck_j2 {a0 a1 : Int} {n : Nat} {s : ByteArray} {rs : List Int} {b : Bool} {k : Nat} (hn : n < 18446744073709551616) (hr : Rd s.data.toList rs b) (hk : 160 ≤ k) (x3 x4 : Bool) (h3 : x3 = true ↔ a0 = 1 ∨ a0 = 2) (h4 : x4 = true ↔ a0 = 4 ∨ a0 = 5) :
    transomref04_Check.j2 k x3 x4 false a0 a1 (n : Int) s = some (if ¬ fieldsOk a0 a1 n s then 4 else if a0 = 1 ∧ a1 ≠ 0 ∧ a1 ≠ 1 then 6 else if canon n ≠ n then 4 else endS a0 s b) := by
  obtain ⟨k, rfl⟩ : ∃ j, k = j + 1 := ⟨k - 1, by omega⟩
  have hi := fields_iff (a1 := a1) (n := n) (s := s) h3 h4
  have J := fun f hf => rcheck_j3 (a0 := a0) (a1 := a1) hn hr (show 150 ≤ k by omega) f hf
  rw [transomref04_Check.j2, if_neg Bool.false_ne_true]
  have text : (a1 = 0 ∨ x3 = true) → (n = 0 ∨ a0 = 3) → (if s.toList = ([] : List UInt8) then (transomref04_Check.j3 k false a0 a1 (n : Int) s) else (transomref04_Check.j3 k (!x4) a0 a1 (n : Int) s)) = some (if ¬ fieldsOk a0 a1 n s then 4 else if a0 = 1 ∧ a1 ≠ 0 ∧ a1 ≠ 1 then 6 else if canon n ≠ n then 4 else endS a0 s b) := by
    intro t1 t2
    by_cases c : s.toList = ([] : List UInt8)
    · rw [if_pos c]; exact J _ (by rw [hi]; exact ⟨fun _ => rfl, fun _ => ⟨t1, t2, .inl c⟩⟩)
    · rw [if_neg c]; refine J _ ?_
      rw [hi]
      cases x4
      · exact ⟨fun q => absurd q.2.2 (by simpa using c), fun q => by simp at q⟩
      · exact ⟨fun _ => rfl, fun _ => ⟨t1, t2, .inr rfl⟩⟩
  have bad : ¬ (a1 = 0 ∨ x3 = true) ∨ ¬ (n = 0 ∨ a0 = 3) → transomref04_Check.j3 k true a0 a1 (n : Int) s = some (if ¬ fieldsOk a0 a1 n s then 4 else if a0 = 1 ∧ a1 ≠ 0 ∧ a1 ≠ 1 then 6 else if canon n ≠ n then 4 else endS a0 s b) := by
    intro t
    refine J _ ?_
    rw [hi]
    exact ⟨fun q => absurd q (fun q => t.elim (fun t => t q.1) (fun t => t q.2.1)), fun q => by simp at q⟩
  have real : (a1 = 0 ∨ x3 = true) → (if (n : Int) = 0 then (if s.toList = ([] : List UInt8) then (transomref04_Check.j3 k false a0 a1 (n : Int) s) else (transomref04_Check.j3 k (!x4) a0 a1 (n : Int) s)) else (if a0 = 3 then (if s.toList = ([] : List UInt8) then (transomref04_Check.j3 k false a0 a1 (n : Int) s) else (transomref04_Check.j3 k (!x4) a0 a1 (n : Int) s)) else (transomref04_Check.j3 k true a0 a1 (n : Int) s))) = some (if ¬ fieldsOk a0 a1 n s then 4 else if a0 = 1 ∧ a1 ≠ 0 ∧ a1 ≠ 1 then 6 else if canon n ≠ n then 4 else endS a0 s b) := by
    intro t1
    by_cases c : n = 0
    · rw [if_pos (by omega)]; exact text t1 (.inl c)
    · rw [if_neg (by omega)]
      by_cases d : a0 = 3
      · rw [if_pos d]; exact text t1 (.inr d)
      · rw [if_neg d]; exact bad (.inr (by omega))
  by_cases c : a1 = 0
  · rw [if_pos c]; exact real (.inl c)
  · rw [if_neg c]
    by_cases d : x3 = true
    · rw [if_pos d]; exact real (.inr d)
    · rw [if_neg d]; exact bad (.inl (fun q => q.elim c d))
theorem rcheck_eq {a0 a1 : Int} {n : Nat} {s : ByteArray} {rs : List Int} {b : Bool} {k : Nat} (hn : n < 18446744073709551616) (hr : Rd s.data.toList rs b) (hk : 170 ≤ k) :
    transomref04_Check.f k a0 a1 (n : Int) s = some (checkS a0 a1 n s b) := by
  obtain ⟨k, rfl⟩ : ∃ j, k = ((j + 1) + 1) + 1 := ⟨k - 3, by omega⟩
  have j1 : ∀ x3 x4 : Bool, (x3 = true ↔ a0 = 1 ∨ a0 = 2) → (x4 = true ↔ a0 = 4 ∨ a0 = 5) → transomref04_Check.j1 ((k + 1) + 1) x3 x4 a0 a1 (n : Int) s = some (checkS a0 a1 n s b) := by
    intro x3 x4 h3 h4
    rw [transomref04_Check.j1]
    unfold checkS
    by_cases c : a0 < 0
    · rw [if_pos c, transomref04_Check.j2, if_pos rfl, if_pos (.inl c)]
    · rw [if_neg c]
      by_cases d : 5 < a0
      · rw [decide_eq_true d, transomref04_Check.j2, if_pos rfl, if_pos (.inr d)]
      · rw [decide_eq_false d, if_neg (show ¬ (a0 < 0 ∨ 5 < a0) by omega)]
        exact rcheck_j2 hn hr (by omega) x3 x4 h3 h4
  have j0 : ∀ x3 : Bool, (x3 = true ↔ a0 = 1 ∨ a0 = 2) → transomref04_Check.j0 (((k + 1) + 1) + 1) x3 a0 a1 (n : Int) s = some (checkS a0 a1 n s b) := by
    intro x3 h3
    rw [transomref04_Check.j0]
    by_cases c : a0 = 4
    · rw [if_pos c]; exact j1 _ _ h3 ⟨fun _ => .inl c, fun _ => rfl⟩
    · rw [if_neg c]; exact j1 _ _ h3 (by rw [beq_iff_eq]; omega)
  unfold transomref04_Check.f
  by_cases c : a0 = 1
  · rw [if_pos c]; exact j0 _ ⟨fun _ => .inl c, fun _ => rfl⟩
  · rw [if_neg c]; exact j0 _ (by rw [beq_iff_eq]; omega)
end Go.Proofs.Ytldhmbaddiandaa.PValuesOne
