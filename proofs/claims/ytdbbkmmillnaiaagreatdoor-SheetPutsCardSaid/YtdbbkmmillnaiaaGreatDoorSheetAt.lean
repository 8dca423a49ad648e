
/- Sheets: where a key stands; whether lines rise, and are the same: the program's and the document's ways. -/
import Derived.Test.YtdbbkmmillnaiaaGreatDoorF1
import Derived.Test.YtdbbkmmillnaiaaGreatDoorF6
import Derived.Test.YtdbbkmmillnaiaaGreatDoorF7
import Derived.Test.YtdbbkmmillnaiaaGreatDoorF9
import Derived.Test.YtdbbkmmillnaiaaGreatDoorF16
import Derived.Test.YtdbbkmmillnaiaaGreatDoorSheet
import Derived.Test.YtdbbkmmillnaiaaGreatDoorLines
import Derived.Test.YtdbbkmmillnaiaaGreatDoorSameRow
namespace Go.Proofs.YtdbbkmmillnaiaaGreatDoor.Aev
open Go
set_option linter.unusedVariables false
set_option linter.unusedSimpArgs false
set_option maxRecDepth 100000
theorem cb_neg : ∀ a b : List UInt8, decide (Lib.compareBytes a b < 0) = Op.bytesLess a b
  | [], [] => rfl
  | [], _ :: _ => rfl
  | _ :: _, [] => rfl
  | c :: a, d :: b => by
    have ih := cb_neg a b
    unfold Lib.compareBytes
    rcases Nat.lt_trichotomy c.toNat d.toNat with h | h | h
    · have h1 : c < d := UInt8.lt_iff_toNat_lt.2 h
      rw [if_pos h1]; simp [Op.bytesLess, h1]
    · obtain rfl : c = d := UInt8.toNat_inj.1 h
      have h1 : ¬ c < c := by rw [UInt8.lt_iff_toNat_lt]; omega
      rw [if_neg h1, if_neg h1, ih]; simp [Op.bytesLess]
    · have h1 : ¬ c < d := by rw [UInt8.lt_iff_toNat_lt]; omega
      have h2 : d < c := UInt8.lt_iff_toNat_lt.2 h
      have h3 : ¬ c = d := fun e => by subst e; omega
      rw [if_neg h1, if_pos h2]; simp [Op.bytesLess, h1, h3]
theorem cb_zero : ∀ a b : List UInt8, (Lib.compareBytes a b == 0) = decide (a = b)
  | [], [] => by decide
  | [], _ :: _ => by simp [Lib.compareBytes]
  | _ :: _, [] => by simp [Lib.compareBytes]
  | c :: a, d :: b => by
    have ih := cb_zero a b
    unfold Lib.compareBytes
    rcases Nat.lt_trichotomy c.toNat d.toNat with h | h | h
    · have h1 : c < d := UInt8.lt_iff_toNat_lt.2 h
      have h3 : ¬ c = d := fun e => by subst e; omega
      rw [if_pos h1]; simp [h3]
    · obtain rfl : c = d := UInt8.toNat_inj.1 h
      have h1 : ¬ c < c := by rw [UInt8.lt_iff_toNat_lt]; omega
      rw [if_neg h1, if_neg h1, ih]; simp
    · have h1 : ¬ c < d := by rw [UInt8.lt_iff_toNat_lt]; omega
      have h2 : d < c := UInt8.lt_iff_toNat_lt.2 h
      have h3 : ¬ c = d := fun e => by subst e; omega
      rw [if_neg h1, if_pos h2]; simp [h3]
theorem at1_f (a b : ByteArray) (v : List V) (k : Nat) : sheet_at_1.f k a v b = some (Lib.compareBytes a.data.toList b.data.toList) := by
  simp only [sheet_at_1.f, sheet_at_1.c, strings_Compare.f, strings_Compare.c, bytealg_CompareString.f, bytealg_CompareString.c, bytealg_abigen_runtime_cmpstring.f, Option.bind_some]
theorem cmp_lt (a b : ByteArray) : decide (Lib.compareBytes a.data.toList b.data.toList < 0) = ltK a b := by
  unfold ltK; rw [toList_data, toList_data]; exact cb_neg _ _
theorem cmp_eq (a b : ByteArray) : (Lib.compareBytes a.data.toList b.data.toList == 0) = decide (a = b) := by
  rw [cb_zero, Bool.eq_iff_iff, decide_eq_true_iff, decide_eq_true_iff, ← toList_data, ← toList_data, toList_iff]
theorem mid_eq (i j : Nat) (h : i + j ≤ 1000000) : IntKind.wrap IntKind.i64 (Int.fdiv (IntKind.wrap IntKind.u64 (IntKind.wrap IntKind.i64 ((i : Int) + (j : Int)))) (2 : Int)) = (((i + j) / 2 : Nat) : Int) := by
  rw [i64w (n := (i : Int) + (j : Int)) (by omega) (by omega), u64w (by omega) (by omega), Int.fdiv_eq_ediv_of_nonneg _ (by decide), i64w (by omega) (by omega)]
  omega
theorem bs_s0 (l : List Ln) (key : ByteArray) (hl : l.length ≤ 1000) (hr : Rise l) : ∀ (d i j : Nat), j - i ≤ d → i ≤ pos l key → pos l key ≤ j → j ≤ l.length → ∀ k, d < k →
    api_Line_string.s0 k l key (l.length : Int) (i : Int) (j : Int) = some ((pos l key : Int), isAt l key) := by
  intro d
  induction d with
  | zero =>
    intro i j hd h1 h2 h3 k hk
    obtain ⟨k, rfl⟩ : ∃ q, k = q + 1 := ⟨k - 1, by omega⟩
    have hi : i = pos l key := by omega
    have e : ¬ (i : Int) < (j : Int) := by omega
    simp only [api_Line_string.s0, api_Line_string.s0c, e, decide_false, cond_false]
    unfold isAt
    by_cases c : pos l key < l.length
    · have c1 : (i : Int) < (l.length : Int) := by omega
      have c2 : (0 : Int) ≤ (i : Int) := by omega
      have he := elem_l (show i < l.length by omega)
      rw [dif_pos c]
      simp only [c1, c2, he, at1_f, cmp_eq, decide_true, Bool.and_self, cond_true, Option.bind_some]
      subst hi; rfl
    · have c1 : ¬ (i : Int) < (l.length : Int) := by omega
      rw [dif_neg c]
      simp only [c1, decide_false, cond_false]
      subst hi; rfl
  | succ d ih =>
    intro i j hd h1 h2 h3 k hk
    obtain ⟨k, rfl⟩ : ∃ q, k = q + 1 := ⟨k - 1, by omega⟩
    by_cases e : i < j
    · have e0 : (i : Int) < (j : Int) := by omega
      have em := mid_eq i j (by omega)
      have hm : (i + j) / 2 < l.length := by omega
      have c1 : ((((i + j) / 2 : Nat) : Int)) < (l.length : Int) := by omega
      have c2 : (0 : Int) ≤ (((i + j) / 2 : Nat) : Int) := by omega
      have he := elem_l hm
      have e2 : IntKind.wrap IntKind.i64 ((((i + j) / 2 : Nat) : Int) + 1) = (((i + j) / 2 + 1 : Nat) : Int) := by rw [i64w (by omega) (by omega)]; omega
      simp only [api_Line_string.s0, api_Line_string.s0c, e0, em, c1, c2, he, e2, at1_f, cmp_lt, decide_true, Bool.and_self, cond_true, Option.bind_some, Option.bind_fun_some]
      cases c : ltK (l[(i + j) / 2]).1 key with
      | true =>
        have hp : (i + j) / 2 < pos l key := by
          rcases Nat.lt_or_ge ((i + j) / 2) (pos l key) with h | h
          · exact h
          · have := rise_above hr hm h
            rw [c] at this; cases this
        exact ih ((i + j) / 2 + 1) j (by omega) (by omega) h2 h3 k (by omega)
      | false =>
        have hp : pos l key ≤ (i + j) / 2 := by
          rcases Nat.lt_or_ge ((i + j) / 2) (pos l key) with h | h
          · have := pos_below h hm
            rw [c] at this; cases this
          · exact h
        exact ih i ((i + j) / 2) (by omega) h1 hp (by omega) k (by omega)
    · have hi : i = pos l key := by omega
      have e : ¬ (i : Int) < (j : Int) := by omega
      simp only [api_Line_string.s0, api_Line_string.s0c, e, decide_false, cond_false]
      unfold isAt
      by_cases c : pos l key < l.length
      · have c1 : (i : Int) < (l.length : Int) := by omega
        have c2 : (0 : Int) ≤ (i : Int) := by omega
        have he := elem_l (show i < l.length by omega)
        rw [dif_pos c]
        simp only [c1, c2, he, at1_f, cmp_eq, decide_true, Bool.and_self, cond_true, Option.bind_some]
        subst hi; rfl
      · have c1 : ¬ (i : Int) < (l.length : Int) := by omega
        rw [dif_neg c]
        simp only [c1, decide_false, cond_false]
        subst hi; rfl
theorem at_f (l : List Ln) (key : ByteArray) (hl : l.length ≤ 1000) (hr : Rise l) (k : Nat) (hk : 1100 ≤ k) : sheet_at.f k l key = some ((pos l key : Int), isAt l key) := by
  have h := bs_s0 l key hl hr l.length 0 l.length (by omega) (by omega) (pos_le l key) (Nat.le_refl _) k (by omega)
  have h' : api_Line_string.s0 k l key (l.length : Int) 0 (l.length : Int) = some ((pos l key : Int), isAt l key) := h
  simp only [sheet_at.f, sheet_at.c, api_Line_string.f, api_Line_string.c, h', Option.bind_some, Option.bind_fun_some]
theorem find_f (nm : ByteArray) (a : Int) (cols : List C) (l : List Ln) (key : ByteArray) (hl : l.length ≤ 1000) (hr : Rise l) (k : Nat) (hk : 1100 ≤ k) : sheet_Find.f k nm a cols l key = some ((pos l key : Int), isAt l key) := by
  simp only [sheet_Find.f, sheet_Find.c, at_f l key hl hr k hk, Option.bind_some]
theorem less_ltK (a b : ByteArray) : Op.bytesLess a.toList b.toList = ltK a b := rfl
theorem tl_dec (x y : ByteArray) : (x.toList == y.toList) = decide (x = y) := by rw [Bool.eq_iff_iff, beq_iff_eq, decide_eq_true_iff, toList_iff]
/-- not above: -/
theorem le_dec (a b : ByteArray) : (ltK a b || decide (a = b)) = !(ltK b a) := by
  cases h : ltK b a with
  | true =>
    have h1 := ltK_asym h
    have h2 : ¬ a = b := fun e => by subst e; rw [ltK_irr] at h; cases h
    simp [h1, h2]
  | false =>
    by_cases e : a = b
    · simp [e]
    · simp [ltK_total h (fun e' => e e'.symm), e]
theorem rises_s0 (nm : ByteArray) (a : Int) (cols : List C) (l : List Ln) (hl : l.length ≤ 1000) : ∀ (m i : Nat), i + m = l.length → 1 ≤ i → ∀ k, m < k →
    ∃ r, transomlaw12_Rises.s0 k (i : Int) nm a cols l = some r ∧ (r = 0 ∨ r = 1) ∧ (r = 1 ↔ ∀ j (h : j + 1 < l.length), i ≤ j + 1 → ltK (l[j]).1 (l[j + 1]).1 = true) := by
  intro m
  induction m with
  | zero =>
    intro i hi h1 k hk
    obtain ⟨k, rfl⟩ : ∃ q, k = q + 1 := ⟨k - 1, by omega⟩
    have e : ¬ (i : Int) < (l.length : Int) := by omega
    simp only [transomlaw12_Rises.s0, transomlaw12_Rises.s0c, e, decide_false, cond_false]
    exact ⟨1, rfl, .inr rfl, by simp only [true_iff]; intro j h h2; omega⟩
  | succ m ih =>
    intro i hi h1 k hk
    obtain ⟨k, rfl⟩ : ∃ q, k = q + 1 := ⟨k - 1, by omega⟩
    obtain ⟨p, rfl⟩ : ∃ p, i = p + 1 := ⟨i - 1, by omega⟩
    have hlt : p + 1 < l.length := by omega
    have hlt' : p < l.length := by omega
    have e0 : ((p + 1 : Nat) : Int) < (l.length : Int) := by omega
    have e1 : (0 : Int) ≤ ((p + 1 : Nat) : Int) := by omega
    have e2 : IntKind.wrap IntKind.i64 (((p + 1 : Nat) : Int) + 1) = ((p + 1 + 1 : Nat) : Int) := by rw [i64w (by omega) (by omega)]; omega
    have e3 : IntKind.wrap IntKind.i64 (((p + 1 : Nat) : Int) - 1) = ((p : Nat) : Int) := by rw [i64w (by omega) (by omega)]; omega
    have e4 : (0 : Int) ≤ ((p : Nat) : Int) := by omega
    have e5 : ((p : Nat) : Int) < (l.length : Int) := by omega
    have he := elem_l hlt
    have he' := elem_l hlt'
    obtain ⟨r, g1, g2, g3⟩ := ih (p + 1 + 1) (by omega) (by omega) k (by omega)
    simp only [transomlaw12_Rises.s0, transomlaw12_Rises.s0c, e0, e1, e2, e3, e4, e5, he, he', g1, less_ltK, tl_dec, le_dec, decide_true, Bool.and_self, cond_true, Option.bind_some, Option.bind_fun_some]
    cases c : ltK (l[p]).1 (l[p + 1]).1 with
    | true =>
      refine ⟨r, rfl, g2, g3.trans ⟨fun h j hj hi => ?_, fun h j hj hi => h j hj (by omega)⟩⟩
      by_cases e : j = p
      · subst e; exact c
      · exact h j hj (by omega)
    | false =>
      refine ⟨0, rfl, .inl rfl, ⟨fun h => absurd h (by decide), fun h => ?_⟩⟩
      have := h p hlt (Nat.le_refl _)
      rw [c] at this; cases this
theorem rises_f (nm : ByteArray) (a : Int) (cols : List C) (l : List Ln) (hl : l.length ≤ 1000) (k : Nat) (hk : 1100 ≤ k) :
    ∃ r, transomlaw12_Rises.f k nm a cols l = some r ∧ (r = 0 ∨ r = 1) ∧ (r = 1 ↔ Rise l) := by
  by_cases h0 : l = []
  · subst h0
    obtain ⟨k, rfl⟩ : ∃ q, k = q + 1 := ⟨k - 1, by omega⟩
    have e : ¬ (1 : Int) < (([] : List Ln).length : Int) := by decide
    refine ⟨1, ?_, .inr rfl, by simp [Rise]⟩
    simp only [transomlaw12_Rises.f, transomlaw12_Rises.c, transomlaw12_Rises.s0, transomlaw12_Rises.s0c, e, decide_false, cond_false, Option.bind_some]
  · have h1 : 1 ≤ l.length := by cases l <;> simp at h0 ⊢
    obtain ⟨r, g1, g2, g3⟩ := rises_s0 nm a cols l hl (l.length - 1) 1 (by omega) (Nat.le_refl _) k (by omega)
    have g1' : transomlaw12_Rises.s0 k 1 nm a cols l = some r := g1
    refine ⟨r, ?_, g2, g3.trans ⟨fun h => rise_of fun i hi => h i hi (by omega), fun h j hj hi => rise_lt h hj (by omega)⟩⟩
    simp only [transomlaw12_Rises.f, transomlaw12_Rises.c, g1', Option.bind_some, Option.bind_fun_some]
theorem refSame_eq (l m : List V) (hl : l.length ≤ 1000) (k : Nat) (hk : 2000 ≤ k) : transomref06_Same.f k l m = some (decide (l = m)) := by
  simp only [transomref06_Same.f, transomref06_Same.c, samerow_eq l m (by omega) k (by omega), Option.bind_some]
theorem samelines_s0 (l : List Ln) (hl : l.length ≤ 1000) (hv : ∀ x ∈ l, x.2.1.length ≤ 1000) : ∀ (m i : Nat), i + m = l.length → ∀ k, 3 * m + 2000 < k → transomref12_SameLines.s0 k l l (i : Int) = some true := by
  intro m
  induction m with
  | zero =>
    intro i hi k hk
    obtain ⟨k, rfl⟩ : ∃ q, k = q + 1 := ⟨k - 1, by omega⟩
    have e : ¬ (i : Int) < (l.length : Int) := by omega
    simp only [transomref12_SameLines.s0, transomref12_SameLines.s0c, e, decide_false, cond_false]
  | succ m ih =>
    intro i hi k hk
    obtain ⟨k, rfl⟩ : ∃ q, k = q + 3 := ⟨k - 3, by omega⟩
    have hlt : i < l.length := by omega
    have e0 : (i : Int) < (l.length : Int) := by omega
    have e1 : (0 : Int) ≤ (i : Int) := by omega
    have e2 : IntKind.wrap IntKind.i64 ((i : Int) + 1) = ((i + 1 : Nat) : Int) := by rw [i64w (by omega) (by omega)]; omega
    have he := elem_l hlt
    have h1 := ih (i + 1) (by omega) k (by omega)
    have h2 := refSame_eq l[i].2.1 l[i].2.1 (hv _ (List.getElem_mem hlt)) (k + 2) (by omega)
    simp only [transomref12_SameLines.s0, transomref12_SameLines.s0c, transomref12_SameLines.s1, transomref12_SameLines.s1c, transomref12_SameLines.s2, transomref12_SameLines.s2c, e0, e1, e2, he, h1, h2, beq_self_eq_true, Bool.not_true, cond_false, decide_true, Bool.and_self, cond_true, Option.bind_some, Option.bind_fun_some]
theorem samelines_f (l : List Ln) (hl : l.length ≤ 1000) (hv : ∀ x ∈ l, x.2.1.length ≤ 1000) (k : Nat) (hk : 6000 ≤ k) : transomref12_SameLines.f k l l = some true := by
  have h := samelines_s0 l hl hv l.length 0 (by omega) k (by omega)
  have h' : transomref12_SameLines.s0 k l l 0 = some true := h
  simp only [transomref12_SameLines.f, transomref12_SameLines.c, bne_self_eq_false, cond_false, h', Option.bind_some, Option.bind_fun_some]
theorem few_lines {l : List Ln} (h : ∀ x ∈ l, FewV x.2.1) : ∀ x ∈ l, x.2.1.length ≤ 1000 := fun x hx => by have := (h x hx).1; omega
/-- a cut's end -/
theorem cut_drop {α : Type} (l : List α) (p : Nat) : List.take (Int.toNat (l.length : Int) - Int.toNat (p : Int)) (List.drop (Int.toNat (p : Int)) l) = l.drop p := by
  rw [Int.toNat_natCast, Int.toNat_natCast]; exact List.take_of_length_le (by simp)
theorem cut_take {α : Type} (l : List α) (p : Nat) : List.take (Int.toNat (p : Int) - 0) (List.drop 0 l) = l.take p := by
  rw [Int.toNat_natCast, List.drop_zero, Nat.sub_zero]
theorem cut_all {α : Type} (l : List α) : List.take (Int.toNat (l.length : Int) - 0) (List.drop 0 l) = l := by
  rw [cut_take]; exact List.take_of_length_le (Nat.le_refl _)
end Go.Proofs.YtdbbkmmillnaiaaGreatDoor.Aev
