/- Package utf as plain functions: how a character is read. -/
import Derived.Test.YtldhmbaddiandaaPValuesThreex
import Derived.Test.YtldhmbaddiandaaNatBits
namespace Go.Proofs.Ytldhmbaddiandaa.PValuesThree
set_option linter.unusedVariables false
set_option linter.unusedSimpArgs false
open Go.RowKit Go.Proofs.YtldhmbaddiandaaW.PrintWords Go.Proofs.Ytldhmbaddiandaa.Plain

theorem wraps_i64 (n : Int) (h0 : 0 ≤ n) (h1 : n < 2 ^ 63) : IntKind.i64.wrap n = n := by
  have : (2 : Int) ^ 63 = 9223372036854775808 := by decide
  simp [IntKind.wrap, IntKind.bits, IntKind.signed]; omega
/-- What a character's first byte tells: how many bytes, its bits, from where to where the second one may be. -/
def firstS (c : Nat) : Nat × Nat × Nat × Nat :=
  if c < 128 then (1, c, 0, 0) else if c < 194 ∨ 244 < c then (0, 0, 0, 0) else if c < 224 then (2, c % 32, 128, 191) else if c = 224 then (3, 0, 160, 191) else
    if c = 237 then (3, 13, 128, 159) else if c < 240 then (3, c % 16, 128, 191) else if c = 240 then (4, 0, 144, 191) else if c = 244 then (4, 4, 128, 143) else (4, c % 8, 128, 191)
/-- The bytes behind the first. -/
def contS (w : Nat) : Nat → Nat → Nat → Nat → List UInt8 → Int × Int × Int
  | 0, r, _, _, _ => ((r : Int), (w : Int), 0)
  | _ + 1, _, _, _, [] => (0, 0, 3)
  | n + 1, r, lo, hi, c :: t => if c.toNat < lo ∨ hi < c.toNat then (0, 0, 7) else contS w n (r * 64 + c.toNat % 64) 128 191 t
def nextS : List UInt8 → Int × Int × Int
  | [] => (0, 0, 3)
  | c :: t => if (firstS c.toNat).1 = 0 then (0, 0, 7) else contS (firstS c.toNat).1 ((firstS c.toNat).1 - 1) (firstS c.toNat).2.1 (firstS c.toNat).2.2.1 (firstS c.toNat).2.2.2 t

theorem first_and (j m : Nat) (hm : (m : Int) = 2 ^ j - 1) (hj : j ≤ 8) {c : Nat} (h : c < 256) : Go.bits .and .u8 (c : Int) (m : Int) = ((c % 2 ^ j : Nat) : Int) := by
  have := Go.bits_mask .u8 8 (by decide) Go.wraps_u8 j hj (c : Int) (by omega) (by omega)
  rw [hm, this, Int.natCast_emod, Int.natCast_pow]; rfl
theorem first_eq {c : Nat} (h : c < 256) (k : Nat) : utf_first.f (k + 1) (c : Int) = some (((firstS c).1 : Int), ((firstS c).2.1 : Int), ((firstS c).2.2.1 : Int), ((firstS c).2.2.2 : Int)) := by
  have e31 : Go.bits .and .u8 (c : Int) 31 = ((c % 32 : Nat) : Int) := first_and 5 31 (by decide) (by omega) h
  have e15 : Go.bits .and .u8 (c : Int) 15 = ((c % 16 : Nat) : Int) := first_and 4 15 (by decide) (by omega) h
  have e7 : Go.bits .and .u8 (c : Int) 7 = ((c % 8 : Nat) : Int) := first_and 3 7 (by decide) (by omega) h
  have w : ∀ n : Nat, n < 256 → wrap64 (n : Int) = (n : Int) := fun n hn => w64id (by omega) (by omega)
  have jf : utf_first.j0 (k + 1) (c : Int) true = some (0, 0, 0, 0) := by rw [utf_first.j0, if_pos rfl]
  unfold utf_first.f firstS
  by_cases c1 : c < 128
  · rw [if_pos (show (c : Int) < 128 by omega), if_pos c1, w c h]; rfl
  · rw [if_neg (show ¬ (c : Int) < 128 by omega), if_neg c1]
    by_cases c2 : c < 194
    · rw [if_pos (show (c : Int) < 194 by omega), if_pos (.inl c2), jf]; rfl
    · rw [if_neg (show ¬ (c : Int) < 194 by omega)]
      by_cases c3 : 244 < c
      · rw [decide_eq_true (show (c : Int) > 244 by omega), if_pos (.inr c3), jf]; rfl
      · rw [decide_eq_false (show ¬ (c : Int) > 244 by omega), if_neg (by omega), utf_first.j0, if_neg (by simp), e31, e15, e7, w (c % 32) (by omega), w (c % 16) (by omega), w (c % 8) (by omega)]
        by_cases c4 : c < 224
        · rw [if_pos (show (c : Int) < 224 by omega), if_pos c4]; rfl
        · rw [if_neg (show ¬ (c : Int) < 224 by omega), if_neg c4]
          by_cases c5 : c = 224
          · rw [if_pos (show (c : Int) = 224 by omega), if_pos c5]; rfl
          · rw [if_neg (show ¬ (c : Int) = 224 by omega), if_neg c5]
            by_cases c6 : c = 237
            · rw [if_pos (show (c : Int) = 237 by omega), if_pos c6, c6]; rfl
            · rw [if_neg (show ¬ (c : Int) = 237 by omega), if_neg c6]
              by_cases c7 : c < 240
              · rw [if_pos (show (c : Int) < 240 by omega), if_pos c7]; rfl
              · rw [if_neg (show ¬ (c : Int) < 240 by omega), if_neg c7]
                by_cases c8 : c = 240
                · rw [if_pos (show (c : Int) = 240 by omega), if_pos c8]; rfl
                · rw [if_neg (show ¬ (c : Int) = 240 by omega), if_neg c8]
                  by_cases c9 : c = 244
                  · rw [if_pos (show (c : Int) = 244 by omega), if_pos c9]; rfl
                  · rw [if_neg (show ¬ (c : Int) = 244 by omega), if_neg c9]; rfl
theorem first_range' : ∀ c : Fin 256, (firstS c.val).1 ≤ 4 ∧ (firstS c.val).2.1 < 128 ∧ ((firstS c.val).1 = 0 ∨ (firstS c.val).1 = 1 ∧ c.val < 128 ∨ 2 ≤ (firstS c.val).1 ∧ (firstS c.val).2.1 < 32) := by decide +kernel
theorem first_range (c : Nat) (h : c < 256) : (firstS c).1 ≤ 4 ∧ (firstS c).2.1 < 128 ∧ ((firstS c).1 = 0 ∨ (firstS c).1 = 1 ∧ c < 128 ∨ 2 ≤ (firstS c).1 ∧ (firstS c).2.1 < 32) := first_range' ⟨c, h⟩
theorem and63_u8 (c : UInt8) : Go.bits .and .u8 (c.toNat : Int) 63 = ((c.toNat % 64 : Nat) : Int) := first_and 6 63 (by decide) (by omega) c.toNat_lt
theorem shift_or {r c : Nat} (hr : r < 1099511627776) (hc : c < 64) : Go.bits .or .i64 (wrap64 ((r : Int) * 64)) (wrap64 (c : Int)) = ((r * 64 + c : Nat) : Int) := by
  rw [w64id (by omega) (by omega), w64id (by omega) (by omega)]
  have := Go.bits_join .i64 63 (by decide) wraps_i64 6 ((r : Int) * 64) (c : Int) (by omega) (by omega) (by omega) (by omega) (by omega) (by omega)
  rw [this]; omega
theorem next_l0 (s : ByteArray) (w : Nat) (hw : w ≤ 4) (hs : s.size ≤ 4611686018427387904) : ∀ (n i r lo hi k : Nat), i + n = w → (r + 1) * 64 ^ n ≤ 1099511627776 → n < k → i ≤ s.size →
    utf_Next.l0 k s w r lo hi 0 i = some (contS w n r lo hi (s.data.toList.drop i)) := by
  intro n
  induction n with
  | zero =>
    intro i r lo hi k hi' hr hk _
    obtain ⟨k, rfl⟩ : ∃ j, k = j + 1 := ⟨k - 1, by omega⟩
    rw [utf_Next.l0, if_neg (by omega), if_pos rfl]; rfl
  | succ n ih =>
    intro i r lo hi k hi' hr hk hsz
    obtain ⟨k, rfl⟩ : ∃ j, k = j + 1 := ⟨k - 1, by omega⟩
    have hp : 0 < 64 ^ n := Nat.pow_pos (by omega)
    have hr2 : r < 1099511627776 := by
      have h1 : 1 ≤ 64 ^ (n + 1) := Nat.pow_pos (by omega)
      have : (r + 1) * 1 ≤ (r + 1) * 64 ^ (n + 1) := Nat.mul_le_mul_left _ h1
      omega
    rw [utf_Next.l0, if_pos (by omega)]
    by_cases c : s.size ≤ i
    · rw [if_pos (show (i : Int) ≥ (s.size : Int) by omega), List.drop_eq_nil_of_le (by rw [← sz]; exact c)]; rfl
    · have hl : i < s.data.toList.length := by rw [← sz]; omega
      have hd : s.data.toList.drop i = s.data.toList[i] :: s.data.toList.drop (i + 1) := List.drop_eq_getElem_cons hl
      have hb : bt s (i : Int) = ((s.data.toList[i]).toNat : Int) := bt_get hl
      rw [if_neg (show ¬ (i : Int) ≥ (s.size : Int) by omega), if_pos (by omega), if_pos (by omega), hb, hd]
      generalize s.data.toList[i] = b
      rw [contS, and63_u8, shift_or hr2 (by omega), w64id (n := (i : Int) + 1) (by omega) (by omega)]
      by_cases d : b.toNat < lo
      · rw [if_pos (by omega), if_pos (.inl d)]
      · by_cases e : hi < b.toNat
        · rw [if_neg (by omega), if_pos (by omega), if_pos (.inr e)]
        · rw [if_neg (by omega), if_neg (by omega), if_neg (by omega)]
          have e1 : (i : Int) + 1 = ((i + 1 : Nat) : Int) := by omega
          rw [e1]
          refine ih (i + 1) (r * 64 + b.toNat % 64) 128 191 k (by omega) ?_ (by omega) (by omega)
          have h1 : (r * 64 + b.toNat % 64 + 1) * 64 ^ n ≤ ((r + 1) * 64) * 64 ^ n := Nat.mul_le_mul_right _ (by omega)
          have h2 : 64 * 64 ^ n = 64 ^ (n + 1) := by rw [Nat.pow_succ, Nat.mul_comm]
          rw [Nat.mul_assoc, h2] at h1
          omega
theorem next_eq {s : ByteArray} {k : Nat} (hs : s.size ≤ 4611686018427387904) (hk : 6 ≤ k) : utf_Next.f k s = some (nextS s.data.toList) := by
  obtain ⟨k, rfl⟩ : ∃ j, k = j + 1 := ⟨k - 1, by omega⟩
  unfold utf_Next.f
  rw [toList_data]
  cases hl : s.data.toList with
  | nil => rw [if_pos rfl]; rfl
  | cons c t =>
    have h0 : 0 < s.size := by rw [sz, hl]; simp
    have hb : bt s 0 = (c.toNat : Int) := bt_mid (pre := []) hl
    obtain ⟨f1, f2, f3⟩ := first_range c.toNat c.toNat_lt
    rw [if_neg (by simp), if_pos (by omega), hb, first_eq c.toNat_lt, Option.bind_some, nextS]
    by_cases z : (firstS c.toNat).1 = 0
    · rw [if_pos (by omega), if_pos z]
    · rw [if_neg (by omega), if_neg z]
      have := next_l0 s (firstS c.toNat).1 f1 hs ((firstS c.toNat).1 - 1) 1 (firstS c.toNat).2.1 (firstS c.toNat).2.2.1 (firstS c.toNat).2.2.2 (k + 1) (by omega) ?_ (by omega) (by omega)
      · rw [hl] at this
        exact this
      · have : 64 ^ ((firstS c.toNat).1 - 1) ≤ 64 ^ 3 := Nat.pow_le_pow_right (by omega) (by omega)
        calc ((firstS c.toNat).2.1 + 1) * 64 ^ ((firstS c.toNat).1 - 1) ≤ 128 * 64 ^ 3 := Nat.mul_le_mul (by omega) this
          _ ≤ 1099511627776 := by omega
/-- How far a character reaches. -/
theorem cont_ok (w : Nat) : ∀ (n r lo hi : Nat) (t : List UInt8) (q m : Int), contS w n r lo hi t = (q, m, 0) → m = w ∧ n ≤ t.length := by
  intro n
  induction n with
  | zero => intro r lo hi t q m h; simp [contS] at h; exact ⟨h.2.symm, by omega⟩
  | succ n ih =>
    intro r lo hi t q m h
    cases t with
    | nil => simp [contS] at h
    | cons c t =>
      rw [contS] at h
      split at h
      · simp at h
      · obtain ⟨a, b⟩ := ih _ _ _ _ _ _ h
        exact ⟨a, by simp; omega⟩
theorem next_ok {l : List UInt8} {r n : Int} (h : nextS l = (r, n, 0)) : 1 ≤ n ∧ n ≤ 4 ∧ n ≤ l.length := by
  cases l with
  | nil => simp [nextS] at h
  | cons c t =>
    obtain ⟨f1, f2, f3⟩ := first_range c.toNat c.toNat_lt
    rw [nextS] at h
    split at h
    · simp at h
    · obtain ⟨a, b⟩ := cont_ok _ _ _ _ _ _ _ _ h
      simp only [List.length_cons]
      omega
end Go.Proofs.Ytldhmbaddiandaa.PValuesThree
