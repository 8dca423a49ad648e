/- What becomes of a value may be; made one of its own kind again it is the value. No program here. -/
import Derived.Test.YtndkobhclggeiaaConv
namespace Go.Proofs.Ytndkobhclggeiaa.Aev
open Go
set_option linter.unusedVariables false
set_option linter.unusedSimpArgs false
set_option maxRecDepth 100000
theorem numL_back (l : List UInt8) (h : (numL l).2 = 0) : digL (numL l).1 = l := by
  have key : ∀ s b, (numS s b l).2 = 0 → digL (numS s b l).1 = l := by
    intro s b h
    unfold numS at *
    split at h
    · rename_i q
      rw [if_pos q]
      split at h
      · rename_i q2; rw [if_pos q2]; exact q2
      · simp at h
    · simp at h
  cases l with
  | nil => simp [numL] at h
  | cons c t =>
    simp only [numL] at h ⊢
    split at h
    · rename_i q
      rw [if_pos q]
      split at h
      · simp at h
      · rename_i q2; rw [if_neg q2]; exact key _ _ h
    · rename_i q
      rw [if_neg q]
      split at h
      · simp at h
      · rename_i q2; rw [if_neg q2]; exact key _ _ h
theorem numL_in (l : List UInt8) : -9223372036854775808 ≤ (numL l).1 ∧ (numL l).1 ≤ 9223372036854775807 := by
  have key : ∀ s b, -9223372036854775808 ≤ (numS s b l).1 ∧ (numS s b l).1 ≤ 9223372036854775807 := by
    intro s b
    have := wrapS_in s (valL 0 b)
    unfold numS
    split
    · split
      · exact this
      · simp
    · simp
  cases l with
  | nil => simp [numL]
  | cons c t =>
    simp only [numL]
    split
    · split
      · simp
      · exact key _ _
    · split
      · simp
      · exact key _ _
theorem eight_numB {l : List UInt8} (h : l.length = 8) : (eightI (numB l)).map b8 = l := by
  match l, h with
  | [a, b, c, d, e, f, g, i], _ =>
    have := a.toNat_lt; have := b.toNat_lt; have := c.toNat_lt; have := d.toNat_lt
    have := e.toNat_lt; have := f.toNat_lt; have := g.toNat_lt; have := i.toNat_lt
    simp only [numB, List.foldl_cons, List.foldl_nil, eightI, List.map_cons, List.map_nil, List.cons.injEq, and_true]
    refine ⟨?_, ?_, ?_, ?_, ?_, ?_, ?_, ?_⟩ <;> (apply UInt8.toNat_inj.1; rw [b8_byteAt]; omega)
theorem numB_l8 {l : List UInt8} (h : l.length = 8) : numB l < 18446744073709551616 := by
  have := numB8_lt l
  rwa [List.take_of_length_le (by omega)] at this
/-- an opened conversion -/
theorem toC_open {a0 a1 : Int} {n : Nat} {s : List UInt8} {t : Int} {p c : Int} {q : Nat} {w : List UInt8} (hne : ¬ (a0 = 0 ∨ a0 = t)) (h : toC a0 a1 n s t = .ok p c q w) :
    checkS a0 a1 n (mkB s) = 0 ∧ canB a0 t = true ∧ (if a0 = 1 then cBool a1 t else if a0 = 2 then cInt a1 t else if a0 = 3 then cReal n t else if a0 = 4 then cBytes s t else cText s t) = .ok p c q w := by
  unfold toC at h
  split at h
  · simp at h
  · rename_i hc
    split at h
    · simp at h
    · split at h
      · simp at h
      · rename_i hb
        exact ⟨by simpa using hc, by simpa using hb, h⟩
theorem toC_no {a0 a1 : Int} {n : Nat} {s : List UInt8} {t e : Int} (h : toC a0 a1 n s t = .no e) : e ≠ 0 := by
  have i : ∀ n t e, cInt n t = .no e → e ≠ 0 := by
    intro n t e h
    unfold cInt at h
    repeat' split at h
    all_goals first | (simp at h; done) | (simp at h; omega)
  unfold toC at h
  split at h
  · rename_i hc; simp at h; subst h; exact hc
  · split at h
    · simp at h; omega
    · split at h
      · simp at h
      · split at h
        · simp at h; omega
        · split at h
          · unfold cBool at h
            split at h
            · simp at h
            · exact i _ _ _ h
          · split at h
            · exact i _ _ _ h
            · split at h
              · unfold cReal at h
                split at h
                · simp at h
                · split at h
                  · exact i _ _ _ h
                  · simp at h; omega
              · split at h
                · unfold cBytes at h
                  repeat' split at h
                  all_goals first | (simp at h; done) | (simp at h; omega)
                · unfold cText at h
                  split at h
                  · simp at h
                  · split at h
                    · repeat' split at h
                      all_goals first | (simp at h; done) | (simp at h; omega)
                    · split at h
                      · simp at h
                      · rename_i hz; simp at h; subst h; exact hz
theorem sg_nat {n : Nat} (h : n < 18446744073709551616) : n = (if Fl.neg n = true then 9223372036854775808 + Fl.rung n else Fl.rung n) := by
  have hneg : Fl.neg n = decide (9223372036854775808 ≤ n) := by
    unfold Fl.neg
    by_cases c : 9223372036854775808 ≤ n
    · rw [decide_eq_true c, beq_iff_eq]; omega
    · rw [decide_eq_false c, beq_eq_false_iff_ne]; omega
  rw [hneg]
  unfold Fl.rung
  by_cases c : 9223372036854775808 ≤ n
  · rw [decide_eq_true c, if_pos rfl]; omega
  · rw [decide_eq_false c, if_neg (by simp)]; omega
/-- a number's real is that number -/
theorem toI_wd {n : Int} (hm : n.natAbs < 18446744073709551616) (hx : Fl.exact n.natAbs = true) (h : (toI (wd n)).2 = true) : (toI (wd n)).1 = n := by
  obtain ⟨hr, hs⟩ := wd_rung hm
  unfold toI at *
  by_cases c : isI (wd n) = true
  · rw [if_pos c]
    simp only
    unfold Fl.sg
    rw [hr, hs, Fl.T_exact hx]
    by_cases d : n < 0
    · rw [decide_eq_true d, if_pos rfl]; omega
    · rw [decide_eq_false d, if_neg (by simp)]; omega
  · rw [if_neg c] at h; simp at h
/-- a real's number's real: that real, but for the sign of 0 -/
theorem wd_toI {n : Nat} (hn : n < 18446744073709551616) (h : (toI n).2 = true) : wd (toI n).1 = n ∨ (wd (toI n).1 = 0 ∧ n = 9223372036854775808) := by
  obtain ⟨b0, b1⟩ := toI_in h
  have hm : (toI n).1.natAbs < 18446744073709551616 := by omega
  have hw := wd_eq hm
  have hsg := sg_nat hn
  unfold toI at *
  by_cases c : isI n = true
  · rw [if_pos c] at *
    simp only at *
    obtain ⟨h1, h2, h3, h4⟩ := (is_eq n).1 c
    have hnr : Fl.near (Fl.T (Fl.rung n)) = Fl.rung n := by
      unfold isI at c
      simp only [Bool.and_eq_true, decide_eq_true_eq] at c
      exact c.2
    rw [hw]
    unfold Fl.sg at *
    generalize hT : Fl.T (Fl.rung n) = T at *
    cases hg : Fl.neg n
    · rw [hg] at hsg
      simp only [Bool.false_eq_true, if_false, Int.natAbs_natCast] at hsg ⊢
      rw [if_neg (by omega), hnr]
      left; exact hsg.symm
    · rw [hg] at hsg
      simp only [if_true, Int.natAbs_neg, Int.natAbs_natCast] at hsg ⊢
      by_cases z : T = 0
      · subst z
        rw [if_neg (by omega)]
        have h0 : Fl.near 0 = 0 := by simp [Fl.near]
        rw [h0] at hnr ⊢
        right; exact ⟨rfl, by omega⟩
      · rw [if_pos (by omega), hnr]
        left; exact hsg.symm
  · rw [if_neg c] at h; simp at h
theorem sgn_mod {m : Nat} (h : m < 18446744073709551616) : (sgn m % 18446744073709551616).toNat = m := by
  unfold sgn; split <;> omega
/-- made one of its own kind again -/
theorem back_core {a0 a1 : Int} {n : Nat} {s : List UInt8} {t t' b : Int} {m : Nat} {u : List UInt8} {p c : Int} {q : Nat} {w : List UInt8}
    (h0 : -9223372036854775808 ≤ a1) (h1 : a1 ≤ 9223372036854775807) (hn : n < 18446744073709551616)
    (h : toC a0 a1 n s t = .ok t' b m u) (h2 : toC t' b m u a0 = .ok p c q w) :
    (p = a0 ∧ c = a1 ∧ q = n ∧ w = s) ∨ (a0 = 3 ∧ p = 3 ∧ q = 0 ∧ n = 9223372036854775808) ∨ (a0 = 4 ∧ t = 3 ∧ m = nan ∧ w.length = 8) := by
  by_cases hz : a0 = 0 ∨ a0 = t
  · have he : t' = a0 ∧ b = a1 ∧ m = n ∧ u = s := by
      unfold toC at h
      repeat' split at h
      all_goals first | (simp at h; done) | (simp at h; omega) | (simp at h; exact ⟨h.1.symm, h.2.1.symm, h.2.2.1.symm, h.2.2.2.symm⟩) | contradiction
    obtain ⟨rfl, rfl, rfl, rfl⟩ := he
    left
    unfold toC at h2
    split at h2
    · simp at h2
    · split at h2
      · simp at h2
      · rw [if_pos (Or.inr rfl)] at h2
        simp at h2
        exact ⟨h2.1.symm, h2.2.1.symm, h2.2.2.1.symm, h2.2.2.2.symm⟩
  · obtain ⟨hc, hb, h⟩ := toC_open hz h
    obtain ⟨⟨p0, p5⟩, ⟨f1, f2, f3⟩, pb, pn, ps, pv⟩ := check_0.1 hc
    simp only [ba_data] at f3
    rcases can_kinds hb hz with ⟨rfl, rfl | rfl | rfl⟩ | ⟨rfl, rfl | rfl | rfl | rfl⟩ | ⟨rfl, rfl | rfl | rfl⟩ | ⟨rfl, rfl | rfl | rfl⟩ | ⟨rfl, rfl | rfl | rfl⟩
    -- 1 to 2
    · obtain rfl : n = 0 := by omega
      obtain rfl : s = [] := by rcases f3 with f | f; exact f; omega
      have ha := pb rfl
      simp [cBool, cInt] at h
      obtain ⟨rfl, rfl, rfl, rfl⟩ := h
      obtain ⟨_, _, h2⟩ := toC_open (by omega) h2
      simp [cInt, ha] at h2
      obtain ⟨rfl, rfl, rfl, rfl⟩ := h2
      exact Or.inl ⟨rfl, rfl, rfl, rfl⟩
    -- 1 to 3
    · obtain rfl : n = 0 := by omega
      obtain rfl : s = [] := by rcases f3 with f | f; exact f; omega
      have ha := pb rfl
      have hx : Fl.exact a1.natAbs = true := by rcases ha with rfl | rfl <;> decide
      simp [cBool, cInt, hx] at h
      obtain ⟨rfl, rfl, rfl, rfl⟩ := h
      obtain ⟨_, _, h2⟩ := toC_open (by omega) h2
      simp [cReal] at h2
      split at h2
      · rename_i hi
        rw [toI_wd (by omega) hx hi] at h2
        simp [cInt, ha] at h2
        obtain ⟨rfl, rfl, rfl, rfl⟩ := h2
        exact Or.inl ⟨rfl, rfl, rfl, rfl⟩
      · simp at h2
    -- 1 to 5
    · obtain rfl : n = 0 := by omega
      obtain rfl : s = [] := by rcases f3 with f | f; exact f; omega
      have ha := pb rfl
      simp [cBool] at h
      obtain ⟨rfl, rfl, rfl, rfl⟩ := h
      obtain ⟨_, _, h2⟩ := toC_open (by omega) h2
      rcases ha with rfl | rfl
      · simp [cText] at h2
        obtain ⟨rfl, rfl, rfl, rfl⟩ := h2
        exact Or.inl ⟨rfl, rfl, rfl, rfl⟩
      · simp [cText] at h2
        obtain ⟨rfl, rfl, rfl, rfl⟩ := h2
        exact Or.inl ⟨rfl, rfl, rfl, rfl⟩
    -- 2 to 1
    · obtain rfl : n = 0 := by omega
      obtain rfl : s = [] := by rcases f3 with f | f; exact f; omega
      simp [cInt] at h
      split at h
      · simp at h
        obtain ⟨rfl, rfl, rfl, rfl⟩ := h
        obtain ⟨_, _, h2⟩ := toC_open (by omega) h2
        simp [cBool, cInt] at h2
        obtain ⟨rfl, rfl, rfl, rfl⟩ := h2
        exact Or.inl ⟨rfl, rfl, rfl, rfl⟩
      · simp at h
    -- 2 to 3
    · obtain rfl : n = 0 := by omega
      obtain rfl : s = [] := by rcases f3 with f | f; exact f; omega
      simp [cInt] at h
      split at h
      · rename_i hx
        simp at h
        obtain ⟨rfl, rfl, rfl, rfl⟩ := h
        obtain ⟨_, _, h2⟩ := toC_open (by omega) h2
        simp [cReal] at h2
        split at h2
        · rename_i hi
          rw [toI_wd (by omega) hx hi] at h2
          simp [cInt] at h2
          obtain ⟨rfl, rfl, rfl, rfl⟩ := h2
          exact Or.inl ⟨rfl, rfl, rfl, rfl⟩
        · simp at h2
      · simp at h
    -- 2 to 4
    · obtain rfl : n = 0 := by omega
      obtain rfl : s = [] := by rcases f3 with f | f; exact f; omega
      have e : cInt a1 4 = .ok 4 0 0 ((eightI (a1 % 18446744073709551616).toNat).map b8) := rfl
      have h : cInt a1 4 = .ok t' b m u := h
      rw [e] at h
      injection h with e1 e2 e3 e4
      subst e1; subst e2; subst e3; subst e4
      obtain ⟨_, _, h2⟩ := toC_open (by omega) h2
      have h2 : cBytes ((eightI (a1 % 18446744073709551616).toNat).map b8) 2 = .ok p c q w := h2
      have e2 : cBytes ((eightI (a1 % 18446744073709551616).toNat).map b8) 2 = .ok 2 (sgn (numB ((eightI (a1 % 18446744073709551616).toNat).map b8))) 0 [] := by
        unfold cBytes
        rw [if_neg (by omega), if_neg (by rw [eight_len]; simp), if_neg (by omega)]
      rw [e2, numB_eight (by omega), sgn_back h0 h1] at h2
      injection h2 with e1 e2 e3 e4
      subst e1; subst e2; subst e3; subst e4
      exact Or.inl ⟨rfl, rfl, rfl, rfl⟩
    -- 2 to 5
    · obtain rfl : n = 0 := by omega
      obtain rfl : s = [] := by rcases f3 with f | f; exact f; omega
      have e : cInt a1 5 = .ok 5 0 0 (digL a1) := rfl
      have h : cInt a1 5 = .ok t' b m u := h
      rw [e] at h
      injection h with e1 e2 e3 e4
      subst e1; subst e2; subst e3; subst e4
      obtain ⟨_, _, h2⟩ := toC_open (by omega) h2
      have h2 : cText (digL a1) 2 = .ok p c q w := h2
      have e2 : cText (digL a1) 2 = .ok 2 a1 0 [] := by
        unfold cText
        rw [if_neg (by omega), if_neg (by omega), numL_dig a1 h0 h1, if_pos rfl]
      rw [e2] at h2
      injection h2 with e1 e2 e3 e4
      subst e1; subst e2; subst e3; subst e4
      exact Or.inl ⟨rfl, rfl, rfl, rfl⟩
    -- 3 to 1
    · obtain rfl : a1 = 0 := by omega
      obtain rfl : s = [] := by rcases f3 with f | f; exact f; omega
      simp [cReal] at h
      split at h
      · rename_i hi
        simp [cInt] at h
        split at h
        · simp at h
          obtain ⟨rfl, rfl, rfl, rfl⟩ := h
          obtain ⟨_, _, h2⟩ := toC_open (by omega) h2
          simp [cBool, cInt] at h2
          split at h2
          · simp at h2
            obtain ⟨rfl, rfl, rfl, rfl⟩ := h2
            rcases wd_toI hn hi with e | ⟨e, z⟩
            · exact Or.inl ⟨rfl, rfl, e, rfl⟩
            · exact Or.inr (Or.inl ⟨rfl, rfl, e, z⟩)
          · simp at h2
        · simp at h
      · simp at h
    -- 3 to 2
    · obtain rfl : a1 = 0 := by omega
      obtain rfl : s = [] := by rcases f3 with f | f; exact f; omega
      simp [cReal] at h
      split at h
      · rename_i hi
        simp [cInt] at h
        obtain ⟨rfl, rfl, rfl, rfl⟩ := h
        obtain ⟨_, _, h2⟩ := toC_open (by omega) h2
        simp [cInt] at h2
        split at h2
        · simp at h2
          obtain ⟨rfl, rfl, rfl, rfl⟩ := h2
          rcases wd_toI hn hi with e | ⟨e, z⟩
          · exact Or.inl ⟨rfl, rfl, e, rfl⟩
          · exact Or.inr (Or.inl ⟨rfl, rfl, e, z⟩)
        · simp at h2
      · simp at h
    -- 3 to 4
    · obtain rfl : a1 = 0 := by omega
      obtain rfl : s = [] := by rcases f3 with f | f; exact f; omega
      have e : cReal n 4 = .ok 4 0 0 ((eightI n).map b8) := rfl
      have h : cReal n 4 = .ok t' b m u := h
      rw [e] at h
      injection h with e1 e2 e3 e4
      subst e1; subst e2; subst e3; subst e4
      obtain ⟨_, _, h2⟩ := toC_open (by omega) h2
      have h2 : cBytes ((eightI n).map b8) 3 = .ok p c q w := h2
      have e2 : cBytes ((eightI n).map b8) 3 = .ok 3 0 (canon (numB ((eightI n).map b8))) [] := by
        unfold cBytes
        rw [if_neg (by omega), if_neg (by rw [eight_len]; simp), if_pos rfl]
      rw [e2, numB_eight hn, pn] at h2
      injection h2 with e1 e2 e3 e4
      subst e1; subst e2; subst e3; subst e4
      exact Or.inl ⟨rfl, rfl, rfl, rfl⟩
    -- 4 to 2
    · obtain rfl : n = 0 := by omega
      obtain rfl : a1 = 0 := by omega
      have h : cBytes s 2 = .ok t' b m u := h
      unfold cBytes at h
      rw [if_neg (by omega)] at h
      split at h
      · simp at h
      · rename_i h8
        have h8 : s.length = 8 := by simpa using h8
        rw [if_neg (by omega)] at h
        injection h with e1 e2 e3 e4
        subst e1; subst e2; subst e3; subst e4
        obtain ⟨_, _, h2⟩ := toC_open (by omega) h2
        have h2 : cInt (sgn (numB s)) 4 = .ok p c q w := h2
        have e2 : cInt (sgn (numB s)) 4 = .ok 4 0 0 ((eightI (sgn (numB s) % 18446744073709551616).toNat).map b8) := rfl
        rw [e2, sgn_mod (numB_l8 h8), eight_numB h8] at h2
        injection h2 with e1 e2 e3 e4
        subst e1; subst e2; subst e3; subst e4
        exact Or.inl ⟨rfl, rfl, rfl, rfl⟩
    -- 4 to 3
    · obtain rfl : n = 0 := by omega
      obtain rfl : a1 = 0 := by omega
      have h : cBytes s 3 = .ok t' b m u := h
      unfold cBytes at h
      rw [if_neg (by omega)] at h
      split at h
      · simp at h
      · rename_i h8
        have h8 : s.length = 8 := by simpa using h8
        rw [if_pos rfl] at h
        injection h with e1 e2 e3 e4
        subst e1; subst e2; subst e3; subst e4
        obtain ⟨_, _, h2⟩ := toC_open (by omega) h2
        have h2 : cReal (canon (numB s)) 4 = .ok p c q w := h2
        have e2 : cReal (canon (numB s)) 4 = .ok 4 0 0 ((eightI (canon (numB s))).map b8) := rfl
        rw [e2] at h2
        injection h2 with e1 e2 e3 e4
        subst e1; subst e2; subst e3; subst e4
        by_cases z : canon (numB s) = numB s
        · rw [z, eight_numB h8]; exact Or.inl ⟨rfl, rfl, rfl, rfl⟩
        · have z2 : canon (numB s) = nan := by
            unfold canon at z ⊢
            split at z
            · rename_i zz; rw [if_pos zz]
            · simp at z
          exact Or.inr (Or.inr ⟨rfl, rfl, z2, eight_len _⟩)
    -- 4 to 5
    · obtain rfl : n = 0 := by omega
      obtain rfl : a1 = 0 := by omega
      have h : cBytes s 5 = .ok t' b m u := h
      unfold cBytes at h
      rw [if_pos rfl] at h
      split at h
      · injection h with e1 e2 e3 e4
        subst e1; subst e2; subst e3; subst e4
        obtain ⟨_, _, h2⟩ := toC_open (by omega) h2
        have h2 : cText s 4 = .ok p c q w := h2
        have e2 : cText s 4 = .ok 4 0 0 s := rfl
        rw [e2] at h2
        injection h2 with e1 e2 e3 e4
        subst e1; subst e2; subst e3; subst e4
        exact Or.inl ⟨rfl, rfl, rfl, rfl⟩
      · simp at h
    -- 5 to 1
    · obtain rfl : n = 0 := by omega
      obtain rfl : a1 = 0 := by omega
      have h : cText s 1 = .ok t' b m u := h
      unfold cText at h
      rw [if_neg (by omega), if_pos rfl] at h
      split at h
      · rename_i hs
        injection h with e1 e2 e3 e4
        subst e1; subst e2; subst e3; subst e4
        obtain ⟨_, _, h2⟩ := toC_open (by omega) h2
        have h2 : cBool 0 5 = .ok p c q w := h2
        have e2 : cBool 0 5 = .ok 5 0 0 tFalse := rfl
        rw [e2] at h2
        injection h2 with e1 e2 e3 e4
        subst e1; subst e2; subst e3; subst e4
        exact Or.inl ⟨rfl, rfl, rfl, hs.symm⟩
      · split at h
        · rename_i hs
          injection h with e1 e2 e3 e4
          subst e1; subst e2; subst e3; subst e4
          obtain ⟨_, _, h2⟩ := toC_open (by omega) h2
          have h2 : cBool 1 5 = .ok p c q w := h2
          have e2 : cBool 1 5 = .ok 5 0 0 tTrue := rfl
          rw [e2] at h2
          injection h2 with e1 e2 e3 e4
          subst e1; subst e2; subst e3; subst e4
          exact Or.inl ⟨rfl, rfl, rfl, hs.symm⟩
        · simp at h
    -- 5 to 2
    · obtain rfl : n = 0 := by omega
      obtain rfl : a1 = 0 := by omega
      have h : cText s 2 = .ok t' b m u := h
      unfold cText at h
      rw [if_neg (by omega), if_neg (by omega)] at h
      split at h
      · rename_i hs
        injection h with e1 e2 e3 e4
        subst e1; subst e2; subst e3; subst e4
        obtain ⟨_, _, h2⟩ := toC_open (by omega) h2
        have h2 : cInt (numL s).1 5 = .ok p c q w := h2
        have e2 : cInt (numL s).1 5 = .ok 5 0 0 (digL (numL s).1) := rfl
        rw [e2, numL_back s hs] at h2
        injection h2 with e1 e2 e3 e4
        subst e1; subst e2; subst e3; subst e4
        exact Or.inl ⟨rfl, rfl, rfl, rfl⟩
      · simp at h
    -- 5 to 4
    · obtain rfl : n = 0 := by omega
      obtain rfl : a1 = 0 := by omega
      have h : cText s 4 = .ok t' b m u := h
      have e : cText s 4 = .ok 4 0 0 s := rfl
      rw [e] at h
      injection h with e1 e2 e3 e4
      subst e1; subst e2; subst e3; subst e4
      obtain ⟨_, _, h2⟩ := toC_open (by omega) h2
      have h2 : cBytes s 5 = .ok p c q w := h2
      unfold cBytes at h2
      rw [if_pos rfl] at h2
      split at h2
      · injection h2 with e1 e2 e3 e4
        subst e1; subst e2; subst e3; subst e4
        exact Or.inl ⟨rfl, rfl, rfl, rfl⟩
      · simp at h2
/-! ### it may be -/
theorem validU_of {l : List UInt8} (hl : l.length ≤ 100000) {rs : List Int} {b : Bool} (h : Rdc l rs b) : validU l = b := by
  have h1 := valid_f (mkB l) (l.length + 30) (by rw [ba_size]; omega) (by rw [ba_size]; omega)
  have h2 := valid_eq (s := mkB l) (k := l.length + 30) h (by rw [ba_size]; omega) (by rw [ba_size]; omega)
  rw [h1] at h2
  simpa using h2
theorem rd_ascii : ∀ l : List UInt8, (∀ c ∈ l, c.toNat < 128) → ∃ rs, Rdc l rs true
  | [], _ => ⟨[], .nil⟩
  | c :: t, h => by
    obtain ⟨rs, hr⟩ := rd_ascii t (fun d hd => h d (by simp [hd]))
    have hc := h c (by simp)
    have hn : nextS (c :: t) = ((c.toNat : Int), 1, 0) := by
      have hf : firstS c.toNat = (1, c.toNat, 0, 0) := by unfold firstS; rw [if_pos hc]
      simp only [nextS, hf]; rfl
    exact ⟨_, .cons (by simp) hn hr⟩
theorem validU_ascii {l : List UInt8} (hl : l.length ≤ 100000) (h : ∀ c ∈ l, c.toNat < 128) : validU l = true := by
  obtain ⟨rs, hr⟩ := rd_ascii l h
  exact validU_of hl hr
theorem decL_dg (m : Nat) : ∀ c ∈ decL m, 48 ≤ c.toNat ∧ c.toNat ≤ 57 := by
  induction m using Nat.strongRecOn with
  | _ m ih =>
    intro c hc
    by_cases h : m < 10
    · rw [decL_lt h] at hc; simp at hc; subst hc; rw [dg_nat]; omega
    · rw [decL_ge h] at hc
      rcases List.mem_append.1 hc with hc | hc
      · exact ih _ (by omega) c hc
      · simp at hc; subst hc; rw [dg_nat]; omega
theorem digL_ascii (n : Int) : ∀ c ∈ digL n, c.toNat < 128 := by
  intro c hc
  unfold digL at hc
  split at hc
  · rcases List.mem_cons.1 hc with rfl | hc
    · decide
    · have := decL_dg _ c hc; omega
  · have := decL_dg _ c hc; omega
theorem canon_wd {n : Int} (h : n.natAbs < 18446744073709551616) : canon (wd n) = wd n := by
  have h1 := near_inf h
  have h2 := (wd_rung h).1
  unfold canon
  rw [if_neg (by rw [h2]; unfold Fl.inf; omega)]
theorem canon_canon (n : Nat) : canon (canon n) = canon n := by
  unfold canon
  split
  · decide
  · rfl
theorem chk_ok {t a : Int} {n : Nat} {s : List UInt8} (h1 : 0 ≤ t ∧ t ≤ 5) (h2 : a = 0 ∨ t = 1 ∨ t = 2) (h3 : n = 0 ∨ t = 3) (h4 : s = [] ∨ t = 4 ∨ t = 5) (h5 : t = 1 → a = 0 ∨ a = 1) (h6 : canon n = n) (h7 : s.length ≤ 64) (h8 : t = 5 → validU s = true) : checkS t a n (mkB s) = 0 :=
  check_0.2 ⟨h1, ⟨h2, h3, h4⟩, h5, h6, h7, h8⟩
theorem fits_int {x t : Int} (hx : x.natAbs < 18446744073709551616) (ht : 1 ≤ t ∧ t ≤ 5) (h0 : -9223372036854775808 ≤ x) (h1 : x ≤ 9223372036854775807) {t' b : Int} {m : Nat} {u : List UInt8} (h : cInt x t = .ok t' b m u) : checkS t' b m (mkB u) = 0 ∧ t' = t := by
  unfold cInt at h
  split at h
  · rename_i q; subst q
    split at h
    · rename_i q2
      injection h with e1 e2 e3 e4
      subst e1; subst e2; subst e3; subst e4
      exact ⟨chk_ok (by omega) (by omega) (by omega) (Or.inl rfl) (fun _ => q2) canon_0 (by simp) (by omega), rfl⟩
    · simp at h
  · split at h
    · rename_i q; subst q
      split at h
      · injection h with e1 e2 e3 e4
        subst e1; subst e2; subst e3; subst e4
        exact ⟨chk_ok (by omega) (by omega) (by omega) (Or.inl rfl) (by omega) (canon_wd hx) (by simp) (by omega), rfl⟩
      · simp at h
    · split at h
      · rename_i q; subst q
        injection h with e1 e2 e3 e4
        subst e1; subst e2; subst e3; subst e4
        exact ⟨chk_ok (by omega) (by omega) (by omega) (by omega) (by omega) canon_0 (by rw [eight_len]; omega) (by omega), rfl⟩
      · split at h
        · rename_i q; subst q
          injection h with e1 e2 e3 e4
          subst e1; subst e2; subst e3; subst e4
          have hl := (digL_len x h0 h1).1
          exact ⟨chk_ok (by omega) (by omega) (by omega) (by omega) (by omega) canon_0 (by omega) (fun _ => validU_ascii (by omega) (digL_ascii x)), rfl⟩
        · injection h with e1 e2 e3 e4
          subst e1; subst e2; subst e3; subst e4
          exact ⟨chk_ok (by omega) (by omega) (by omega) (Or.inl rfl) (by omega) canon_0 (by simp) (by omega), rfl⟩
theorem fits_core {a0 a1 : Int} {n : Nat} {s : List UInt8} {t t' b : Int} {m : Nat} {u : List UInt8} (h0 : -9223372036854775808 ≤ a1) (h1 : a1 ≤ 9223372036854775807) (hs : s.length ≤ 100000)
    (h : toC a0 a1 n s t = .ok t' b m u) : checkS t' b m (mkB u) = 0 ∧ (t' = t ∨ (t' = 0 ∧ a0 = 0)) := by
  by_cases hz : a0 = 0 ∨ a0 = t
  · unfold toC at h
    split at h
    · simp at h
    · rename_i hc
      split at h
      · simp at h
      · injection h with e1 e2 e3 e4
        subst e1; subst e2; subst e3; subst e4
        exact ⟨by simpa using hc, by omega⟩
  · have hO := toC_open hz h
    clear h
    obtain ⟨hc, hb, h⟩ := hO
    obtain ⟨⟨p0, p5⟩, ⟨f1, f2, f3⟩, pb, pn, ps, pv⟩ := check_0.1 hc
    simp only [ba_data] at f3 pv
    rw [ba_size] at ps
    have ht : 1 ≤ t ∧ t ≤ 5 := by unfold canB at hb; rw [decide_eq_true_eq] at hb; omega
    suffices checkS t' b m (mkB u) = 0 ∧ t' = t from ⟨this.1, Or.inl this.2⟩
    split at h
    · rename_i q; subst q
      unfold cBool at h
      split at h
      · rename_i q; subst q
        injection h with e1 e2 e3 e4
        subst e1; subst e2; subst e3
        have ha : u = tFalse ∨ u = tTrue := by
          split at e4
          · left; exact e4.symm
          · right; exact e4.symm
        refine ⟨chk_ok (by omega) (by omega) (by omega) (by omega) (by omega) canon_0 (by rcases ha with rfl | rfl <;> simp) (fun _ => ?_), rfl⟩
        rcases ha with rfl | rfl
        · exact validU_ascii (by simp) (by decide)
        · exact validU_ascii (by simp) (by decide)
      · exact fits_int (by omega) ht h0 h1 h
    · split at h
      · exact fits_int (by omega) ht h0 h1 h
      · split at h
        · rename_i q; subst q
          unfold cReal at h
          split at h
          · rename_i q; subst q
            injection h with e1 e2 e3 e4
            subst e1; subst e2; subst e3; subst e4
            exact ⟨chk_ok (by omega) (by omega) (by omega) (by omega) (by omega) canon_0 (by rw [eight_len]; omega) (by omega), rfl⟩
          · split at h
            · rename_i hi
              obtain ⟨c0, c1⟩ := toI_in hi
              exact fits_int (by omega) ht c0 c1 h
            · simp at h
        · split at h
          · unfold cBytes at h
            split at h
            · rename_i q; subst q
              split at h
              · rename_i hv
                injection h with e1 e2 e3 e4
                subst e1; subst e2; subst e3; subst e4
                exact ⟨chk_ok (by omega) (by omega) (by omega) (by omega) (by omega) canon_0 ps (fun _ => hv), rfl⟩
              · simp at h
            · split at h
              · simp at h
              · split at h
                · rename_i q; subst q
                  injection h with e1 e2 e3 e4
                  subst e1; subst e2; subst e3; subst e4
                  exact ⟨chk_ok (by omega) (by omega) (by omega) (Or.inl rfl) (by omega) (canon_canon _) (by simp) (by omega), rfl⟩
                · rename_i n1 n2 n3 n4 n5
                  have h2 : t = 2 := by
                    unfold canB at hb; rw [decide_eq_true_eq] at hb; omega
                  subst h2
                  injection h with e1 e2 e3 e4
                  subst e1; subst e2; subst e3; subst e4
                  exact ⟨chk_ok (by omega) (by omega) (by omega) (Or.inl rfl) (by omega) canon_0 (by simp) (by omega), rfl⟩
          · have k5 : a0 = 5 := by unfold canB at hb; rw [decide_eq_true_eq] at hb; omega
            subst k5
            unfold cText at h
            split at h
            · rename_i q; subst q
              injection h with e1 e2 e3 e4
              subst e1; subst e2; subst e3; subst e4
              exact ⟨chk_ok (by omega) (by omega) (by omega) (by omega) (by omega) canon_0 ps (by omega), rfl⟩
            · split at h
              · rename_i q; subst q
                split at h
                · injection h with e1 e2 e3 e4
                  subst e1; subst e2; subst e3; subst e4
                  exact ⟨chk_ok (by omega) (by omega) (by omega) (Or.inl rfl) (by omega) canon_0 (by simp) (by omega), rfl⟩
                · split at h
                  · injection h with e1 e2 e3 e4
                    subst e1; subst e2; subst e3; subst e4
                    exact ⟨chk_ok (by omega) (by omega) (by omega) (Or.inl rfl) (by omega) canon_0 (by simp) (by omega), rfl⟩
                  · simp at h
              · split at h
                · have h2 : t = 2 := by
                    unfold canB at hb; rw [decide_eq_true_eq] at hb; omega
                  subst h2
                  injection h with e1 e2 e3 e4
                  subst e1; subst e2; subst e3; subst e4
                  exact ⟨chk_ok (by omega) (by omega) (by omega) (Or.inl rfl) (by omega) canon_0 (by simp) (by omega), rfl⟩
                · simp at h
/-- what comes out is within bounds -/
theorem toC_in {a0 a1 : Int} {n : Nat} {s : List UInt8} {t t' b : Int} {m : Nat} {u : List UInt8} (h0 : -9223372036854775808 ≤ a1) (h1 : a1 ≤ 9223372036854775807) (hn : n < 18446744073709551616) (hs : s.length ≤ 100000)
    (h : toC a0 a1 n s t = .ok t' b m u) : (-9223372036854775808 ≤ b ∧ b ≤ 9223372036854775807) ∧ m < 18446744073709551616 ∧ u.length ≤ 64 := by
  have hf := (fits_core h0 h1 hs h).1
  have hu : u.length ≤ 64 := by have := (check_0.1 hf).2.2.2.2.1; rwa [ba_size] at this
  refine ⟨?_, ?_, hu⟩
  · have i : ∀ x t, (-9223372036854775808 ≤ x ∧ x ≤ 9223372036854775807) → cInt x t = .ok t' b m u → (-9223372036854775808 ≤ b ∧ b ≤ 9223372036854775807) := by
      intro x t hx h
      unfold cInt at h
      repeat' split at h
      all_goals first | (simp at h; done) | (injection h with e1 e2 e3 e4; omega)
    unfold toC at h
    repeat' split at h
    all_goals first
      | (simp at h; done)
      | (injection h with e1 e2 e3 e4; omega)
      | exact i _ _ ⟨h0, h1⟩ h
      | skip
    · unfold cBool at h
      split at h
      · injection h with e1 e2 e3 e4; omega
      · exact i _ _ ⟨h0, h1⟩ h
    · unfold cReal at h
      split at h
      · injection h with e1 e2 e3 e4; omega
      · split at h
        · rename_i hi; exact i _ _ (toI_in hi) h
        · simp at h
    · unfold cBytes at h
      repeat' split at h
      all_goals first | (simp at h; done) | (injection h with e1 e2 e3 e4; omega) | skip
      rename_i h8 _
      have h8 : s.length = 8 := by simpa using h8
      have := numB_l8 h8
      injection h with e1 e2 e3 e4
      subst e2
      unfold sgn; split <;> omega
    · unfold cText at h
      have := numL_in s
      repeat' split at h
      all_goals first | (simp at h; done) | (injection h with e1 e2 e3 e4; omega)
  · have i : ∀ x t, x.natAbs < 18446744073709551616 → cInt x t = .ok t' b m u → m < 18446744073709551616 := by
      intro x t hx h
      have := wd_lt hx
      unfold cInt at h
      repeat' split at h
      all_goals first | (simp at h; done) | (injection h with e1 e2 e3 e4; omega)
    unfold toC at h
    repeat' split at h
    all_goals first
      | (simp at h; done)
      | (injection h with e1 e2 e3 e4; omega)
      | exact i _ _ (by omega) h
      | skip
    · unfold cBool at h
      split at h
      · injection h with e1 e2 e3 e4; omega
      · exact i _ _ (by omega) h
    · unfold cReal at h
      split at h
      · injection h with e1 e2 e3 e4; omega
      · split at h
        · rename_i hi; have := toI_in hi; exact i _ _ (by omega) h
        · simp at h
    · unfold cBytes at h
      repeat' split at h
      all_goals first | (simp at h; done) | (injection h with e1 e2 e3 e4; omega) | skip
      rename_i h8 _
      have h8 : s.length = 8 := by simpa using h8
      have := canon_lt (numB_l8 h8)
      injection h with e1 e2 e3 e4
      omega
    · unfold cText at h
      repeat' split at h
      all_goals first | (simp at h; done) | (injection h with e1 e2 e3 e4; omega)
end Go.Proofs.Ytndkobhclggeiaa.Aev
