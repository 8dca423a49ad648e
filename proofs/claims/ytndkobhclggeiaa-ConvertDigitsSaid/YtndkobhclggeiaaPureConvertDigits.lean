/- ConvertDigits: numbers in decimal, and read again, are what the document says. For every input; no conditions. -/
import Derived.Test.YtndkobhclggeiaaF5
import Derived.Test.YtndkobhclggeiaaF15
import Derived.Test.YtndkobhclggeiaaDec
namespace Go.Proofs.Ytndkobhclggeiaa.Aev
open Go
set_option linter.unusedVariables false
set_option linter.unusedSimpArgs false
set_option maxRecDepth 100000
theorem awake_all (k : Nat) : transomlaw07_awake.f (k + 300) = some true := by kernel_rfl
theorem numL_back (l : List UInt8) (h : (numL l).2 = 0) : digL (numL l).1 = l := by
  have key : ∀ s b, (numS s b l).2 = 0 → digL (numS s b l).1 = l := by
    intro s b h
    unfold numS at *
    split at h
    · rename_i q
      rw [if_pos q]
      split at h
      · rename_i q2; rw [if_pos q2]; exact q2
      · simp at h
    · simp at h
  cases l with
  | nil => simp [numL] at h
  | cons c t =>
    simp only [numL] at h ⊢
    split at h
    · rename_i q
      rw [if_pos q]
      split at h
      · simp at h
      · rename_i q2; rw [if_neg q2]; exact key _ _ h
    · rename_i q
      rw [if_neg q]
      split at h
      · simp at h
      · rename_i q2; rw [if_neg q2]; exact key _ _ h
theorem numL_in (l : List UInt8) : -9223372036854775808 ≤ (numL l).1 ∧ (numL l).1 ≤ 9223372036854775807 := by
  have key : ∀ s b, -9223372036854775808 ≤ (numS s b l).1 ∧ (numS s b l).1 ≤ 9223372036854775807 := by
    intro s b
    have := wrapS_in s (valL 0 b)
    unfold numS
    split
    · split
      · exact this
      · simp
    · simp
  cases l with
  | nil => simp [numL]
  | cons c t =>
    simp only [numL]
    split
    · split
      · simp
      · exact key _ _
    · split
      · simp
      · exact key _ _
theorem Pure.ConvertDigits (x0 : Int) (x1 : ByteArray) (h0 : Fit (.int .i64) x0) (h1 : Fit .str x1) : ∃ k, transomlaw07_ConvertDigits.f k x0 x1 = some true := by
  obtain ⟨k, hk⟩ : ∃ k, 9000 ≤ k := ⟨9000, Nat.le_refl _⟩
  refine ⟨k + 300, ?_⟩
  have aw := awake_all k
  generalize hkk : k + 300 = kk at *
  obtain ⟨b0, b1⟩ := fit_i64 h0
  rw [ba_of x1]
  generalize x1.data.toList = l
  simp only [transomlaw07_ConvertDigits.f, transomlaw07_ConvertDigits.c, ba_size, aw, Option.bind_some, Option.bind_fun_some]
  by_cases hs : (l.length : Int) > 2000
  · rw [decide_eq_true hs]; rfl
  · rw [decide_eq_false hs]
    have hd := digL_len x0 b0 b1
    obtain ⟨c0, c1⟩ := numL_in l
    have n1 := number_eq' l (by omega) kk (by omega)
    have n2 := refnumber_eq' l (by omega) kk (by omega)
    have d1 := digits_eq x0 b0 b1 kk (by omega)
    have d2 := refdigits_eq x0 b0 b1 kk (by omega)
    have n3 := number_eq' (digL x0) (by omega) kk (by omega)
    rw [numL_dig x0 b0 b1] at n3
    have d3 := digits_eq (numL l).1 c0 c1 kk (by omega)
    simp only [n1, n2, d1, d2, n3, d3, cond_false, cond_true, Option.bind_some, beq_self_eq_true]
    by_cases h : (numL l).2 = 0
    · rw [h, numL_back l h]
      simp only [bne_self_eq_false, cond_false, beq_self_eq_true, cond_true]
    · rw [bne_iff_ne.2 h]; rfl
end Go.Proofs.Ytndkobhclggeiaa.Aev
