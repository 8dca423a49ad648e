
/- Rows as bytes that keep their order: the program's and the document's ways. -/
import Derived.Test.YtdbbkmmillnaiaaGreatDoorF6
import Derived.Test.YtdbbkmmillnaiaaGreatDoorF15
import Derived.Test.YtdbbkmmillnaiaaGreatDoorKey
import Derived.Test.YtdbbkmmillnaiaaGreatDoorFew
namespace Go.Proofs.YtdbbkmmillnaiaaGreatDoor.Aev
open Go
set_option linter.unusedVariables false
set_option linter.unusedSimpArgs false
set_option maxRecDepth 100000
/-- a value's check, and bytes -/
noncomputable def chk (v : V) : Int := checkS v.1 v.2.1 v.2.2.1.toNat v.2.2.2.1
def kb (v : V) : List Int := kputI v.1 v.2.1 v.2.2.1.toNat v.2.2.2.1.data.toList
/-- a row's bytes; the first error -/
noncomputable def krow : List V → List UInt8 × Int
  | [] => ([], 0)
  | v :: l => if chk v ≠ 0 then ([], chk v) else if (krow l).2 ≠ 0 then ([], (krow l).2) else ((kb v).map b8 ++ (krow l).1, 0)
theorem kRow_s0 (l : List V) (hl : FewV l) : ∀ (m i : Nat) (xs : List Int), i + m = l.length → xs.length ≤ i * 5000 → ∀ k, m + 200 < k →
    ∃ b, keycode_Row.s0 k l (l.length : Int) (i : Int) xs = some (b, (krow (l.drop i)).2) ∧ b.data.toList = if (krow (l.drop i)).2 = 0 then xs.map b8 ++ (krow (l.drop i)).1 else [] := by
  intro m
  induction m with
  | zero =>
    intro i xs hi hx k hk
    obtain ⟨k, rfl⟩ : ∃ j, k = j + 1 := ⟨k - 1, by omega⟩
    have e : ¬ (i : Int) < (l.length : Int) := by omega
    rw [List.drop_eq_nil_of_le (by omega)]
    simp only [keycode_Row.s0, keycode_Row.s0c, e, decide_false, cond_false, krow]
    exact ⟨_, rfl, by simp⟩
  | succ m ih =>
    intro i xs hi hx k hk
    obtain ⟨k, rfl⟩ : ∃ j, k = j + 1 := ⟨k - 1, by omega⟩
    have hlt : i < l.length := by omega
    have hl1 := hl.1
    have e0 : (i : Int) < (l.length : Int) := by omega
    have e1 : (0 : Int) ≤ (i : Int) := by omega
    have e2 : IntKind.wrap IntKind.i64 ((i : Int) + 1) = ((i + 1 : Nat) : Int) := by rw [i64w (by omega) (by omega)]; omega
    have hd : l.drop i = l[i] :: l.drop (i + 1) := List.drop_eq_getElem_cons hlt
    have he := elem_at hlt
    obtain ⟨hs, n, hn, hn2⟩ := hl.2 l[i] (List.getElem_mem hlt)
    have hch : checkS l[i].1 l[i].2.1 n l[i].2.2.2.1 = chk l[i] := by unfold chk; rw [hn]; rfl
    have hkb : kputI l[i].1 l[i].2.1 n l[i].2.2.2.1.data.toList = kb l[i] := by unfold kb; rw [hn]; rfl
    have hlen := kput_len l[i].1 l[i].2.1 n l[i].2.2.2.1.data.toList
    rw [← size_eq, hkb] at hlen
    have hput := kput_eq l[i].1 l[i].2.1 n hn2 l[i].2.2.2.1 (by omega) xs (by omega) k (by omega)
    obtain ⟨b, h1, h2⟩ := ih (i + 1) (xs ++ kb l[i]) (by omega) (by rw [List.length_append]; omega) k (by omega)
    simp only [keycode_Row.s0, keycode_Row.s0c, e0, e1, e2, he, hn, vcheck_eq (show 120 ≤ k by omega), hch, hput, hkb, h1, decide_true, Bool.and_self, cond_true, Option.bind_some, Option.bind_fun_some, hd, krow, cond_true, cond_false, if_b, decide_eq_true_eq, Bool.and_eq_true, Bool.or_eq_true, beq_iff_eq, bne_iff_ne, ne_eq, Bool.not_eq_true', Bool.not_eq_false', Bool.true_and, Bool.and_true, Bool.false_eq_true, if_false, if_true, true_and, and_true, Option.bind_some, Option.bind_none, Option.bind_fun_some, beq_eq_false_iff_ne, decide_eq_false_iff_not, toList_iff]
    by_cases c : chk l[i] = 0
    · rw [if_neg (by simpa using c), if_neg (by simpa using c)]
      by_cases c2 : (krow (l.drop (i + 1))).2 = 0
      · rw [c2] at h1 h2 ⊢
        refine ⟨b, by simp, ?_⟩
        rw [h2]; simp
      · rw [if_pos c2]
        exact ⟨b, by simp, by rw [h2, if_neg c2, if_neg c2]⟩
    · rw [if_pos c, if_pos c]
      exact ⟨_, rfl, by rw [if_neg c]⟩
theorem kRow_eq {l : List V} (hl : FewV l) (k : Nat) (hk : 7000 ≤ k) : ∃ b, keycode_Row.f k l = some (b, (krow l).2) ∧ b.data.toList = if (krow l).2 = 0 then (krow l).1 else [] := by
  have hl1 := hl.1
  obtain ⟨b, h1, h2⟩ := kRow_s0 l hl l.length 0 [] (by omega) (by simp) k (by omega)
  simp only [List.drop_zero, List.map_nil, List.nil_append] at h1 h2
  refine ⟨b, ?_, h2⟩
  simp only [keycode_Row.f, keycode_Row.c, Option.bind_fun_some]; exact h1
theorem rRow_s0 (l : List V) (hl : FewV l) : ∀ (m i : Nat) (x : ByteArray), i + m = l.length → x.size ≤ i * 5000 → ∀ k, m + 6000 < k →
    ∃ b, transomref05_Row.s0 k l x (i : Int) = some (b, (krow (l.drop i)).2) ∧ b.data.toList = if (krow (l.drop i)).2 = 0 then x.data.toList ++ (krow (l.drop i)).1 else [] := by
  intro m
  induction m with
  | zero =>
    intro i x hi hx k hk
    obtain ⟨k, rfl⟩ : ∃ j, k = j + 1 := ⟨k - 1, by omega⟩
    have e : ¬ (i : Int) < (l.length : Int) := by omega
    rw [List.drop_eq_nil_of_le (by omega)]
    simp only [transomref05_Row.s0, transomref05_Row.s0c, e, decide_false, cond_false, krow]
    exact ⟨_, rfl, by simp⟩
  | succ m ih =>
    intro i x hi hx k hk
    obtain ⟨k, rfl⟩ : ∃ j, k = j + 1 := ⟨k - 1, by omega⟩
    have hlt : i < l.length := by omega
    have hl1 := hl.1
    have e0 : (i : Int) < (l.length : Int) := by omega
    have e1 : (0 : Int) ≤ (i : Int) := by omega
    have e2 : IntKind.wrap IntKind.i64 ((i : Int) + 1) = ((i + 1 : Nat) : Int) := by rw [i64w (by omega) (by omega)]; omega
    have hd : l.drop i = l[i] :: l.drop (i + 1) := List.drop_eq_getElem_cons hlt
    have he := elem_at hlt
    obtain ⟨hs, n, hn, hn2⟩ := hl.2 l[i] (List.getElem_mem hlt)
    have hch : checkS l[i].1 l[i].2.1 n l[i].2.2.2.1 = chk l[i] := by unfold chk; rw [hn]; rfl
    have hkb : kputI l[i].1 l[i].2.1 n l[i].2.2.2.1.data.toList = kb l[i] := by unfold kb; rw [hn]; rfl
    have hlen := kput_len l[i].1 l[i].2.1 n l[i].2.2.2.1.data.toList
    rw [← size_eq, hkb] at hlen
    obtain ⟨q, hq1, hq2⟩ := rPut_eq l[i].1 l[i].2.1 n hn2 l[i].2.2.2.1 hs k (by omega)
    rw [hch] at hq1 hq2
    rw [hkb] at hq2
    by_cases c : chk l[i] = 0
    · rw [if_pos c] at hq2
      have hqs : q.size ≤ 5000 := by rw [size_eq, hq2, List.length_map]; omega
      have g1 : x.size ≤ 4611686018427387903 := by omega
      have g2 : q.size ≤ 4611686018427387903 := by omega
      have hxq : (x ++ q).size ≤ (i + 1) * 5000 := by rw [ByteArray.size_append]; omega
      obtain ⟨b, h1, h2⟩ := ih (i + 1) (x ++ q) (by omega) hxq k (by omega)
      simp only [transomref05_Row.s0, transomref05_Row.s0c, e0, e1, e2, he, hn, hq1, c, g1, g2, h1, decide_true, Bool.and_self, cond_true, Option.bind_some, Option.bind_fun_some, hd, krow, cond_true, cond_false, if_b, decide_eq_true_eq, Bool.and_eq_true, Bool.or_eq_true, beq_iff_eq, bne_iff_ne, ne_eq, Bool.not_eq_true', Bool.not_eq_false', Bool.true_and, Bool.and_true, Bool.false_eq_true, if_false, if_true, true_and, and_true, Option.bind_some, Option.bind_none, Option.bind_fun_some, beq_eq_false_iff_ne, decide_eq_false_iff_not, toList_iff, not_true_eq_false]
      by_cases c2 : (krow (l.drop (i + 1))).2 = 0
      · rw [c2] at h1 h2 ⊢
        refine ⟨b, by simp, ?_⟩
        rw [h2, append_data, hq2]; simp
      · rw [if_pos c2]
        exact ⟨b, by simp, by rw [h2, if_neg c2, if_neg c2]⟩
    · simp only [transomref05_Row.s0, transomref05_Row.s0c, e0, e1, e2, he, hn, hq1, decide_true, Bool.and_self, cond_true, Option.bind_some, Option.bind_fun_some, hd, krow, cond_true, cond_false, if_b, decide_eq_true_eq, Bool.and_eq_true, Bool.or_eq_true, beq_iff_eq, bne_iff_ne, ne_eq, Bool.not_eq_true', Bool.not_eq_false', Bool.true_and, Bool.and_true, Bool.false_eq_true, if_false, if_true, true_and, and_true, Option.bind_some, Option.bind_none, Option.bind_fun_some, beq_eq_false_iff_ne, decide_eq_false_iff_not, toList_iff]
      rw [if_pos c, if_pos c]
      exact ⟨_, rfl, by rw [if_neg c]⟩
theorem rows_same {l : List V} (hl : FewV l) (k k' : Nat) (hk : 7000 ≤ k) (hk' : 7000 ≤ k') : ∃ b, keycode_Row.f k l = some (b, (krow l).2) ∧ transomref05_Row.f k' l = some (b, (krow l).2) ∧ b.data.toList = if (krow l).2 = 0 then (krow l).1 else [] := by
  have hl1 := hl.1
  obtain ⟨b, h1, h2⟩ := kRow_s0 l hl l.length 0 [] (by omega) (by simp) k (by omega)
  obtain ⟨c, h3, h4⟩ := rRow_s0 l hl l.length 0 (ByteArray.mk (List.toArray [])) (by omega) (by simp [size_eq]) k' (by omega)
  simp only [List.drop_zero, List.map_nil, List.nil_append, mk_nil_data] at h1 h2 h3 h4
  obtain rfl : b = c := ba_ext (h2.trans h4.symm)
  refine ⟨b, ?_, ?_, h2⟩
  · simp only [keycode_Row.f, keycode_Row.c, Option.bind_fun_some]; exact h1
  · simp only [transomref05_Row.f, transomref05_Row.c, Option.bind_fun_some]; exact h3
end Go.Proofs.YtdbbkmmillnaiaaGreatDoor.Aev
