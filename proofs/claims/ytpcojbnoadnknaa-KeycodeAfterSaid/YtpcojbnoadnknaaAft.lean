import Derived.Test.YtpcojbnoadnknaaAevX
namespace Go.Proofs.Ytpcojbnoadnknaa.Aev
open Go
set_option linter.unusedVariables false
set_option linter.unusedSimpArgs false
/-- the least text above all that begin so -/
def aft : List UInt8 → List UInt8
  | [] => []
  | c :: s => if aft s = [] then (if c = 255 then [] else [c + 1]) else c :: aft s
theorem aft_nil : ∀ {s : List UInt8}, aft s = [] → ∀ x ∈ s, x = 255
  | [], _, x, h => by simp at h
  | c :: s, h, x, hx => by
    unfold aft at h
    split at h
    · rename_i h1
      split at h
      · rename_i h2
        simp at hx
        rcases hx with rfl | hx
        · exact h2
        · exact aft_nil h1 x hx
      · simp at h
    · simp at h
theorem less_all : ∀ (t s : List UInt8), (∀ x ∈ s, x = 255) → Op.bytesLess t s = !(s.isPrefixOf t)
  | t, [], _ => by cases t <;> simp [Op.bytesLess, List.isPrefixOf]
  | [], c :: s, _ => by simp [Op.bytesLess, List.isPrefixOf]
  | y :: t, c :: s, h => by
    have hc : c = 255 := h c (by simp)
    subst hc
    have ih := less_all t s (fun x hx => h x (by simp [hx]))
    simp only [Op.bytesLess, ih, List.isPrefixOf]
    by_cases hy : y = 255
    · subst hy; simp
    · have : y < 255 := by
        have := y.toNat_lt
        have h1 : y.toNat ≠ 255 := fun e => hy (UInt8.toNat_inj.1 e)
        exact UInt8.lt_iff_toNat_lt.2 (by show y.toNat < 255; omega)
      have hne : (255 == y) = false := by simp; exact fun e => hy e.symm
      simp [this, hne]
theorem aft_spec : ∀ (s t : List UInt8), aft s ≠ [] → s.isPrefixOf t = (!(Op.bytesLess t s) && Op.bytesLess t (aft s))
  | [], t, h => by simp [aft] at h
  | c :: s, [], h => by simp [List.isPrefixOf, Op.bytesLess]
  | c :: s, y :: t, h => by
    unfold aft at h ⊢
    by_cases h1 : aft s = []
    · rw [if_pos h1] at h ⊢
      by_cases h2 : c = 255
      · rw [if_pos h2] at h; simp at h
      · rw [if_neg h2]
        have hall := less_all t s (aft_nil h1)
        have hc : c.toNat < 255 := by
          have := c.toNat_lt
          have h3 : c.toNat ≠ 255 := fun e => h2 (UInt8.toNat_inj.1 e)
          omega
        have hc1 : (c + 1).toNat = c.toNat + 1 := by
          rw [UInt8.toNat_add]
          show (c.toNat + 1) % 256 = _
          omega
        simp only [List.isPrefixOf, Op.bytesLess, hall]
        have hlt1 : (y < c + 1) = (y.toNat ≤ c.toNat) := by rw [UInt8.lt_iff_toNat_lt, hc1]; simp [Nat.lt_succ_iff]
        have hlt2 : (y < c) = (y.toNat < c.toNat) := by rw [UInt8.lt_iff_toNat_lt]
        have hnil : Op.bytesLess t [] = false := by cases t <;> rfl
        simp only [hnil, hlt1, hlt2, Bool.and_false, Bool.or_false]
        by_cases e : y = c
        · subst e; simp
        · have e' : ¬ c = y := fun h => e h.symm
          have hn : y.toNat ≠ c.toNat := fun h => e (UInt8.toNat_inj.1 h)
          have e1 : (c == y) = false := by simpa using e'
          have e2 : (y == c) = false := by simpa using e
          rw [e1, e2]
          simp
          omega
    · rw [if_neg h1]
      have ih := aft_spec s t h1
      simp only [List.isPrefixOf, Op.bytesLess, ih]
      by_cases e : y = c
      · subst e; simp
      · have e1 : (c == y) = false := by simpa using fun h : c = y => e h.symm
        have e2 : (y == c) = false := by simpa using e
        simp [e1, e2]
end Go.Proofs.Ytpcojbnoadnknaa.Aev
