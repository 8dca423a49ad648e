
/- Sheets: the lines of two: the program's and the document's ways. -/
import Derived.Test.YtdbbkmmillnaiaaDoorF8
import Derived.Test.YtdbbkmmillnaiaaDoorF10
import Derived.Test.YtdbbkmmillnaiaaDoorSheetAt
namespace Go.Proofs.YtdbbkmmillnaiaaDoor.Aev
open Go
set_option linter.unusedVariables false
set_option linter.unusedSimpArgs false
set_option maxRecDepth 100000
def mres (out : List Ln) (o : Option (List Ln)) : List Ln × Int := match o with | some r => (out ++ r, 0) | none => ([], 15)
theorem mres_map (out p : List Ln) (o : Option (List Ln)) : mres out (o.map fun r => p ++ r) = mres (out ++ p) o := by
  cases o with
  | none => rfl
  | some r => simp [mres, List.append_assoc]
theorem merge_s0 (b : List Ln) (hb : b.length ≤ 100) : ∀ (m i : Nat), i + m = b.length → ∀ (a out : List Ln), Rise a → a.length + out.length + m ≤ 1000 → ∀ k, m + 1200 < k →
    sheet_Merge.s0 k a b (b.length : Int) (i : Int) out = some (mres out (mergeL a (b.drop i))) := by
  intro m
  induction m with
  | zero =>
    intro i hi a out hr hs k hk
    obtain ⟨k, rfl⟩ : ∃ q, k = q + 1 := ⟨k - 1, by omega⟩
    have e : ¬ (i : Int) < (b.length : Int) := by omega
    have c : (out.length + a.length) * 40 ≤ 35184372088832 := by omega
    rw [List.drop_eq_nil_of_le (by omega)]
    simp only [sheet_Merge.s0, sheet_Merge.s0c, e, c, decide_false, decide_true, cond_false, cond_true, mergeL, mres]
  | succ m ih =>
    intro i hi a out hr hs k hk
    obtain ⟨k, rfl⟩ : ∃ q, k = q + 1 := ⟨k - 1, by omega⟩
    have hlt : i < b.length := by omega
    have e0 : (i : Int) < (b.length : Int) := by omega
    have e1 : (0 : Int) ≤ (i : Int) := by omega
    have e2 : IntKind.wrap IntKind.i64 ((i : Int) + 1) = ((i + 1 : Nat) : Int) := by rw [i64w (by omega) (by omega)]; omega
    have he := elem_l hlt
    have ha := at_f a b[i].1 (by omega) hr k (by omega)
    have hp := pos_le a b[i].1
    have c1 : (0 : Int) ≤ ((pos a b[i].1 : Nat) : Int) := by omega
    have c2 : ((pos a b[i].1 : Nat) : Int) ≤ (a.length : Int) := by omega
    have c3 : (out.length + (a.take (pos a b[i].1)).length) * 40 ≤ 35184372088832 := by rw [List.length_take]; omega
    have c4 : ((out ++ a.take (pos a b[i].1)).length + 1) * 40 ≤ 35184372088832 := by rw [List.length_append, List.length_take]; omega
    have hx : (b[i].1, (b[i].2.1, ())) = b[i] := rfl
    have h1 := ih (i + 1) (by omega) (a.drop (pos a b[i].1)) ((out ++ a.take (pos a b[i].1)) ++ [b[i]]) (rise_drop hr _) (by simp only [List.length_append, List.length_take, List.length_drop, List.length_cons, List.length_nil]; omega) k (by omega)
    rw [List.drop_eq_getElem_cons hlt]
    simp only [sheet_Merge.s0, sheet_Merge.s0c, e0, e1, e2, he, ha, c1, c2, cut_take, cut_drop, c3, c4, hx, h1, Int.le_refl, decide_true, Bool.and_self, cond_true, Option.bind_some, Option.bind_fun_some, mergeL]
    by_cases c : isAt a b[i].1 = true
    · rw [c]; rfl
    · have c' : isAt a b[i].1 = false := by simpa using c
      rw [c']
      have := mres_map out (a.take (pos a b[i].1) ++ [b[i]]) (mergeL (a.drop (pos a b[i].1)) (b.drop (i + 1)))
      simp only [List.append_assoc, List.singleton_append] at this
      simp only [Bool.false_eq_true, if_false, cond_false, List.append_assoc, List.singleton_append]
      rw [this]
theorem merge_f (nm nm' : ByteArray) (x x' : Int) (cols cols' : List C) (a b : List Ln) (ha : a.length ≤ 100) (hb : b.length ≤ 100) (hr : Rise a) (k : Nat) (hk : 2000 ≤ k) :
    sheet_Merge.f k nm x cols a nm' x' cols' b = some (mres [] (mergeL a b)) := by
  have h := merge_s0 b hb b.length 0 (by omega) a [] hr (by simp; omega) k (by omega)
  have h' : sheet_Merge.s0 k a b (b.length : Int) 0 [] = some (mres [] (mergeL a b)) := h
  simp only [sheet_Merge.f, sheet_Merge.c, cut_all, h', Int.le_refl, decide_true, Bool.and_self, cond_true, Option.bind_some, Option.bind_fun_some]
theorem mergeL_skip {y x : Ln} {a b : List Ln} (h : ltK y.1 x.1 = true) : mergeL (y :: a) (x :: b) = (mergeL a (x :: b)).map fun r => [y] ++ r := by
  have hp : pos (y :: a) x.1 = pos a x.1 + 1 := by rw [pos_cons, if_pos h]
  have hi : isAt (y :: a) x.1 = isAt a x.1 := by
    unfold isAt
    simp only [hp, List.length_cons, Nat.add_lt_add_iff_right, List.getElem_cons_succ]
  unfold mergeL
  rw [hi, hp, List.drop_succ_cons, List.take_succ_cons]
  by_cases c : isAt a x.1 = true
  · rw [if_pos c, if_pos c]; rfl
  · rw [if_neg c, if_neg c, Option.map_map]; rfl
theorem mergeL_stop {x : Ln} {a b : List Ln} (h : pos a x.1 = 0) (h' : isAt a x.1 = false) : mergeL a (x :: b) = (mergeL a b).map fun r => [x] ++ r := by
  conv => lhs; unfold mergeL
  rw [h', h]; rfl
theorem rmerge_s1 (nm nm' : ByteArray) (x x' : Int) (cols cols' : List C) (a b : List Ln) (ha : a.length ≤ 100) (hb : b.length ≤ 100) : ∀ (n i j : Nat) (out : List Ln), (a.length - i) + (b.length - j) ≤ n → i ≤ a.length → j < b.length → out.length + (a.length - i) + (b.length - j) ≤ 300 → ∀ k, 8 * n + 20 ≤ k →
    transomref12_Merge.s1 k (i : Int) (j : Int) nm x cols a nm' x' cols' b out = some (mres out (mergeL (a.drop i) (b.drop j))) := by
  intro n
  induction n with
  | zero => intro i j out h1 h2 h3; omega
  | succ n ih =>
    intro i j out h1 h2 h3 hs k hk
    obtain ⟨k, rfl⟩ : ∃ q, k = q + 3 := ⟨k - 3, by omega⟩
    have f0 : (j : Int) < (b.length : Int) := by omega
    have f1 : (0 : Int) ≤ (j : Int) := by omega
    have hej := elem_l h3
    have fe2 : IntKind.wrap IntKind.i64 ((j : Int) + 1) = ((j + 1 : Nat) : Int) := by rw [i64w (by omega) (by omega)]; omega
    have c1 : (out.length + 1) * 40 ≤ 35184372088832 := by omega
    have hxj : (b[j].1, (b[j].2.1, ())) = b[j] := rfl
    -- the next line of b, and then the rest
    have hnext : pos (a.drop i) b[j].1 = 0 → isAt (a.drop i) b[j].1 = false → ∀ k', 8 * n + 23 ≤ k' → transomref12_Merge.s5 k' (i : Int) (j : Int) nm x cols a nm' x' cols' b out = some (mres out (mergeL (a.drop i) (b.drop j))) := by
      intro hp hn k' hk'
      obtain ⟨k', rfl⟩ : ∃ q, k' = q + 3 := ⟨k' - 3, by omega⟩
      rw [List.drop_eq_getElem_cons h3, mergeL_stop hp hn, mres_map]
      simp only [transomref12_Merge.s5, transomref12_Merge.s5c, transomref12_Merge.s6, transomref12_Merge.s6c, transomref12_Merge.s0, transomref12_Merge.s0c, f0, f1, hej, fe2, c1, hxj, decide_true, Bool.and_self, cond_true, Option.bind_some, Option.bind_fun_some]
      by_cases d : j + 1 < b.length
      · have d' : ((j + 1 : Nat) : Int) < (b.length : Int) := by omega
        have h := ih i (j + 1) (out ++ [b[j]]) (by omega) h2 d (by simp only [List.length_append, List.length_cons, List.length_nil]; omega) k' (by omega)
        simp only [d', h, decide_true, cond_true]
      · have d' : ¬ ((j + 1 : Nat) : Int) < (b.length : Int) := by omega
        have g1 : (0 : Int) ≤ (i : Int) := by omega
        have g2 : (i : Int) ≤ (a.length : Int) := by omega
        have g3 : ((out ++ [b[j]]).length + (a.drop i).length) * 40 ≤ 35184372088832 := by simp only [List.length_append, List.length_cons, List.length_nil, List.length_drop]; omega
        rw [List.drop_eq_nil_of_le (show b.length ≤ j + 1 by omega)]
        simp only [d', g1, g2, cut_drop, g3, Int.le_refl, decide_true, decide_false, Bool.and_self, cond_true, cond_false, mergeL, mres]
    by_cases c : i < a.length
    · have e0 : (i : Int) < (a.length : Int) := by omega
      have e1 : (0 : Int) ≤ (i : Int) := by omega
      have he := elem_l c
      have hxi : (a[i].1, (a[i].2.1, ())) = a[i] := rfl
      have e2 : IntKind.wrap IntKind.i64 ((i : Int) + 1) = ((i + 1 : Nat) : Int) := by rw [i64w (by omega) (by omega)]; omega
      cases hl : ltK a[i].1 b[j].1 with
      | true =>
        have h := ih (i + 1) j (out ++ [a[i]]) (by omega) (by omega) h3 (by simp only [List.length_append, List.length_cons, List.length_nil]; omega) k (by omega)
        simp only [transomref12_Merge.s1, transomref12_Merge.s1c, transomref12_Merge.s2, transomref12_Merge.s2c, transomref12_Merge.s3, transomref12_Merge.s3c, e0, e1, f0, f1, he, hej, less_ltK, hl, c1, hxi, e2, decide_true, Bool.and_self, cond_true, Option.bind_some, Option.bind_fun_some]
        have h' : transomref12_Merge.s1 k ((i + 1 : Nat) : Int) (j : Int) nm x cols a nm' x' cols' b (out ++ [a[i]]) = some (mres (out ++ [a[i]]) (mergeL (a.drop (i + 1)) (b.drop j))) := h
        refine Eq.trans h' ?_
        rw [List.drop_eq_getElem_cons c, List.drop_eq_getElem_cons h3, mergeL_skip hl, mres_map]
      | false =>
        have hp : pos (a.drop i) b[j].1 = 0 := by rw [List.drop_eq_getElem_cons c, pos_cons, if_neg (by rw [hl]; simp)]
        simp only [transomref12_Merge.s1, transomref12_Merge.s1c, transomref12_Merge.s2, transomref12_Merge.s2c, transomref12_Merge.s4, transomref12_Merge.s4c, e0, e1, f0, f1, he, hej, less_ltK, hl, tl_dec, decide_true, Bool.and_self, cond_true, cond_false, Option.bind_some, Option.bind_fun_some]
        by_cases q : a[i].1 = b[j].1
        · have hi : isAt (a.drop i) b[j].1 = true := by
            unfold isAt
            have : pos (a.drop i) b[j].1 < (a.drop i).length := by rw [hp, List.length_drop]; omega
            rw [dif_pos this]
            simp only [hp, List.getElem_drop, Nat.add_zero, q, decide_true]
          rw [List.drop_eq_getElem_cons h3]
          simp only [q, decide_true, cond_true, mergeL, hi, if_true, mres]
        · have hi : isAt (a.drop i) b[j].1 = false := by
            unfold isAt
            have : pos (a.drop i) b[j].1 < (a.drop i).length := by rw [hp, List.length_drop]; omega
            rw [dif_pos this]
            simp only [hp, List.getElem_drop, Nat.add_zero, q, decide_false]
          simp only [q, decide_false, cond_false]
          exact hnext hp hi _ (by omega)
    · have e0 : ¬ (i : Int) < (a.length : Int) := by omega
      have hd : a.drop i = [] := List.drop_eq_nil_of_le (by omega)
      simp only [transomref12_Merge.s1, transomref12_Merge.s1c, transomref12_Merge.s2, transomref12_Merge.s2c, transomref12_Merge.s4, transomref12_Merge.s4c, e0, decide_false, cond_false, Option.bind_some, Option.bind_fun_some]
      exact hnext (by rw [hd]; rfl) (by rw [hd]; rfl) _ (by omega)
theorem rmerge_f (nm nm' : ByteArray) (x x' : Int) (cols cols' : List C) (a b : List Ln) (ha : a.length ≤ 100) (hb : b.length ≤ 100) (k : Nat) (hk : 3000 ≤ k) :
    transomref12_Merge.f k nm x cols a nm' x' cols' b = some (mres [] (mergeL a b)) := by
  obtain ⟨k, rfl⟩ : ∃ q, k = q + 1 := ⟨k - 1, by omega⟩
  by_cases c : 0 < b.length
  · have h := rmerge_s1 nm nm' x x' cols cols' a b ha hb (a.length + b.length) 0 0 [] (by omega) (by omega) c (by simp; omega) k (by omega)
    have h' : transomref12_Merge.s1 k 0 0 nm x cols a nm' x' cols' b [] = some (mres [] (mergeL a b)) := h
    have e : (0 : Int) < (b.length : Int) := by omega
    simp only [transomref12_Merge.f, transomref12_Merge.c, transomref12_Merge.s0, transomref12_Merge.s0c, e, h', decide_true, cond_true, Option.bind_some, Option.bind_fun_some]
  · have hb0 : b = [] := List.length_eq_zero_iff.1 (by omega)
    subst hb0
    have e : ¬ (0 : Int) < (([] : List Ln).length : Int) := by decide
    have g1 : (0 : Int) ≤ (a.length : Int) := by omega
    have g2 : (([] : List Ln).length + a.length) * 40 ≤ 35184372088832 := by simp; omega
    have g3 : List.take (Int.toNat (a.length : Int) - Int.toNat 0) (List.drop (Int.toNat 0) a) = a := cut_all a
    simp only [transomref12_Merge.f, transomref12_Merge.c, transomref12_Merge.s0, transomref12_Merge.s0c, e, g1, g3, g2, Int.le_refl, decide_true, decide_false, Bool.and_self, cond_true, cond_false, Option.bind_some, Option.bind_fun_some, mergeL, mres]
end Go.Proofs.YtdbbkmmillnaiaaDoor.Aev
