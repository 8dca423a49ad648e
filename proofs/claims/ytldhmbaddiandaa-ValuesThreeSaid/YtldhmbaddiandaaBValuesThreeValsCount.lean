/- Package utf as plain functions: all characters of a text. -/
import Derived.Test.YtldhmbaddiandaaBValuesThreeValsNext
namespace Go.Proofs.Ytldhmbaddiandaa.PValuesThree
set_option linter.unusedVariables false
set_option linter.unusedSimpArgs false
open Go.RowKit Go.Proofs.YtldhmbaddiandaaW.PrintWords Go.Proofs.Ytldhmbaddiandaa.Plain

/-- A text's characters up to an error; and whether there is none. -/
inductive Rd : List UInt8 → List Int → Bool → Prop
  | nil : Rd [] [] true
  | bad {l : List UInt8} {r n e : Int} : l ≠ [] → nextS l = (r, n, e) → e ≠ 0 → Rd l [] false
  | cons {l : List UInt8} {r n : Int} {rs : List Int} {b : Bool} : l ≠ [] → nextS l = (r, n, 0) → Rd (l.drop n.toNat) rs b → Rd l (r :: rs) b
theorem rd_ex : ∀ (m : Nat) (l : List UInt8), l.length ≤ m → ∃ rs b, Rd l rs b := by
  intro m
  induction m with
  | zero =>
    intro l h
    obtain rfl : l = [] := List.eq_nil_of_length_eq_zero (by omega)
    exact ⟨_, _, .nil⟩
  | succ m ih =>
    intro l h
    by_cases hn : l = []
    · subst hn; exact ⟨_, _, .nil⟩
    · obtain ⟨r, n, e, hq⟩ : ∃ r n e, nextS l = (r, n, e) := ⟨_, _, _, rfl⟩
      by_cases he : e = 0
      · subst he
        have := next_ok hq
        obtain ⟨rs, b, hr⟩ := ih (l.drop n.toNat) (by rw [List.length_drop]; omega)
        exact ⟨_, _, .cons hn hq hr⟩
      · exact ⟨_, _, .bad hn hq he⟩
theorem rd_len {l : List UInt8} {rs : List Int} {b : Bool} (h : Rd l rs b) : rs.length ≤ l.length := by
  induction h with
  | nil => simp
  | bad => simp
  | cons hn hq _ ih =>
    have := next_ok hq
    rw [List.length_drop] at ih
    simp only [List.length_cons]; omega
theorem drop_ba (s : ByteArray) (n : Nat) : (s.extract n s.size).data.toList = s.data.toList.drop n := drop_data s n
theorem count_l0 {l : List UInt8} {rs : List Int} {b : Bool} (h : Rd l rs b) : ∀ (s : ByteArray) (x k : Nat), s.data.toList = l → s.size ≤ 140737488351232 → x + l.length ≤ 140737488351232 → l.length + 8 ≤ k →
    utf_Count.l0 k s x = some (if b = true then ((x + rs.length : Nat) : Int) else -1) := by
  induction h with
  | nil =>
    intro s x k hs hz hx hk
    obtain ⟨k, rfl⟩ : ∃ j, k = j + 1 := ⟨k - 1, by omega⟩
    rw [utf_Count.l0, toList_data, hs, if_pos rfl, if_pos rfl]; rfl
  | bad hn hq he =>
    intro s x k hs hz hx hk
    obtain ⟨k, rfl⟩ : ∃ j, k = j + 1 := ⟨k - 1, by omega⟩
    rw [utf_Count.l0, toList_data, hs, if_neg hn, next_eq (by omega) (by omega), hs, hq, Option.bind_some, if_neg he]; rfl
  | @cons l r n rs b hn hq hr ih =>
    intro s x k hs hz hx hk
    obtain ⟨k, rfl⟩ : ∃ j, k = j + 1 := ⟨k - 1, by omega⟩
    have ho := next_ok hq
    have hsz : s.size = l.length := by rw [sz, hs]
    have hd := drop_ba s n.toNat
    have hdz : (s.extract n.toNat s.size).size = l.length - n.toNat := by rw [sz, hd, hs, List.length_drop]
    have e1 : wrap64 ((x : Int) + 1) = ((x + 1 : Nat) : Int) := by rw [w64id (by omega) (by omega)]; omega
    rw [utf_Count.l0, toList_data, hs, if_neg hn, next_eq (by omega) (by omega), hs, hq, Option.bind_some]
    dsimp only
    rw [if_pos rfl, if_pos (by omega), if_pos (by omega), e1]
    rw [ih (s.extract n.toNat s.size) (x + 1) k (by rw [hd, hs]) (by omega) (by rw [List.length_drop]; omega) (by rw [List.length_drop]; omega)]
    congr 1
    split
    · simp; omega
    · rfl
theorem count_eq {s : ByteArray} {rs : List Int} {b : Bool} {k : Nat} (h : Rd s.data.toList rs b) (hz : s.size ≤ 140737488351232) (hk : s.size + 8 ≤ k) : utf_Count.f k s = some (if b = true then (rs.length : Int) else -1) := by
  have := count_l0 h s 0 k rfl hz (by rw [← sz]; omega) (by rw [← sz]; omega)
  unfold utf_Count.f
  rw [Nat.zero_add] at this
  exact this
theorem valid_eq {s : ByteArray} {rs : List Int} {b : Bool} {k : Nat} (h : Rd s.data.toList rs b) (hz : s.size ≤ 140737488351232) (hk : s.size + 8 ≤ k) : utf_Valid.f k s = some b := by
  unfold utf_Valid.f
  rw [count_eq h hz hk, Option.bind_some]
  cases b
  · rw [if_neg (by simp)]; rfl
  · rw [if_pos rfl, decide_eq_true (by omega)]
/-- What stands behind a character does not count. -/
theorem cont_append (w : Nat) : ∀ (n r lo hi : Nat) (t u : List UInt8) (q m : Int), contS w n r lo hi t = (q, m, 0) → contS w n r lo hi (t ++ u) = (q, m, 0) := by
  intro n
  induction n with
  | zero => intro r lo hi t u q m h; simpa [contS] using h
  | succ n ih =>
    intro r lo hi t u q m h
    cases t with
    | nil => simp [contS] at h
    | cons c t =>
      rw [contS] at h
      rw [List.cons_append, contS]
      split at h
      · simp at h
      · rename_i hc
        rw [if_neg hc]
        exact ih _ _ _ _ _ _ _ h
theorem next_append {l u : List UInt8} {r n : Int} (h : nextS l = (r, n, 0)) : nextS (l ++ u) = (r, n, 0) := by
  cases l with
  | nil => simp [nextS] at h
  | cons c t =>
    rw [nextS] at h
    rw [List.cons_append, nextS]
    split at h
    · simp at h
    · rename_i hc
      rw [if_neg hc]
      exact cont_append _ _ _ _ _ _ _ _ _ h
theorem rd_append {l u : List UInt8} {rs qs : List Int} {b c : Bool} (h : Rd l rs b) (hb : b = true) (hu : Rd u qs c) : Rd (l ++ u) (rs ++ qs) c := by
  induction h with
  | nil => exact hu
  | bad => exact absurd hb (by simp)
  | @cons l r n rs b hn hq hr ih =>
    have ho := next_ok hq
    rw [List.cons_append]
    refine .cons (by simp [hn]) (next_append hq) ?_
    rw [List.drop_append_of_le_length (by omega)]
    exact ih hb
end Go.Proofs.Ytldhmbaddiandaa.PValuesThree
