
/- Sheets: a row in its place; without a key's row; whether a sheet may be. -/
import Derived.Test.YtdbbkmmillnaiaaGreatDoorF6
import Derived.Test.YtdbbkmmillnaiaaGreatDoorF7
import Derived.Test.YtdbbkmmillnaiaaGreatDoorF8
import Derived.Test.YtdbbkmmillnaiaaGreatDoorF9
import Derived.Test.YtdbbkmmillnaiaaGreatDoorF15
import Derived.Test.YtdbbkmmillnaiaaGreatDoorSheetAt
import Derived.Test.YtdbbkmmillnaiaaGreatDoorTabSame
namespace Go.Proofs.YtdbbkmmillnaiaaGreatDoor.Aev
open Go
set_option linter.unusedVariables false
set_option linter.unusedSimpArgs false
set_option maxRecDepth 100000
/-- a row's key, or the error -/
noncomputable def keyS (nm : ByteArray) (a : Int) (cols : List C) (l : List V) : ByteArray × Int :=
  if fitsS nm a cols l ≠ 0 then (ByteArray.mk (List.toArray []), fitsS nm a cols l)
  else (ByteArray.mk (List.toArray (if (krow (l.take a.toNat)).2 = 0 then (krow (l.take a.toNat)).1 else [])), (krow (l.take a.toNat)).2)
theorem keyS_f (nm : ByteArray) (a : Int) (cols : List C) (hc : FewL cols) (l : List V) (hl : FewV l) (k : Nat) (hk : 7000 ≤ k) : schema_Key.f k nm a cols l = some (keyS nm a cols l) := by
  unfold keyS
  by_cases h : fitsS nm a cols l = 0
  · rw [if_neg (by simp [h])]
    obtain ⟨b, h1, h2⟩ := kRow_eq (few_take hl a.toNat) k hk
    rw [((skey_f l hl cols hc nm a k hk).2 h).trans h1]
    congr 2
    exact ba_ext h2
  · rw [if_pos h]; exact (skey_f l hl cols hc nm a k hk).1 h
theorem rkeyS_f (nm : ByteArray) (a : Int) (cols : List C) (hc : FewL cols) (l : List V) (hl : FewV l) (k : Nat) (hk : 7000 ≤ k) : transomref09_Key.f k nm a cols l = some (keyS nm a cols l) := by
  obtain ⟨r, h1, h2⟩ := keys_same l hl cols hc nm a k hk
  rw [h2, ← keyS_f nm a cols hc l hl k hk, h1]
theorem keyS_ok {nm : ByteArray} {a : Int} {cols : List C} {l : List V} (h : (keyS nm a cols l).2 = 0) : 1 ≤ l.length := by
  unfold keyS at h
  by_cases c : fitsS nm a cols l = 0
  · unfold fitsS at c
    split at c
    · rename_i h1; exact absurd c h1
    · rename_i h1
      split at c
      · simp at c
      · rename_i h2
        have := tab_len (by simpa using h1)
        omega
  · rw [if_pos c] at h; exact absurd h c
theorem spliced_f (l : List Ln) (i j : Nat) (w : List Ln) (hi : i ≤ l.length) (hj : j ≤ l.length) (hl : l.length ≤ 1000) (hw : w.length ≤ 10) (k : Nat) : sheet_spliced.f k l (i : Int) (j : Int) w = some (l.take i ++ w ++ l.drop j) := by
  have c1 : (0 : Int) ≤ (i : Int) := by omega
  have c2 : (i : Int) ≤ (l.length : Int) := by omega
  have c3 : ((l.take i).length + w.length) * 40 ≤ 35184372088832 := by rw [List.length_take]; omega
  have c4 : (0 : Int) ≤ (j : Int) := by omega
  have c5 : (j : Int) ≤ (l.length : Int) := by omega
  have c6 : ((l.take i ++ w).length + (l.drop j).length) * 40 ≤ 35184372088832 := by rw [List.length_append, List.length_take, List.length_drop]; omega
  simp only [sheet_spliced.f, sheet_spliced.c, cut_take, cut_drop, c1, c2, c3, c4, c5, c6, Int.le_refl, decide_true, Bool.and_self, cond_true]
theorem clone_f (l : List V) (h1 : 1 ≤ l.length) (h2 : l.length ≤ 1000) (k : Nat) : api_Value.f k l = some l := by
  have c : (0 + l.length) * 40 ≤ 35184372088832 := by omega
  simp only [api_Value.f, api_Value.c, h1, c, decide_true, cond_true, List.nil_append]
/-- a sheet with a row -/
noncomputable def putS (nm : ByteArray) (a : Int) (cols : List C) (l : List Ln) (v : List V) : ByteArray × Int × List C × List Ln × Bool × Int :=
  if (keyS nm a cols v).2 ≠ 0 then (nm, a, cols, l, false, (keyS nm a cols v).2) else (nm, a, cols, putL l ((keyS nm a cols v).1, v, ()), !(isAt l (keyS nm a cols v).1), 0)
theorem put_f (nm : ByteArray) (a : Int) (cols : List C) (hc : FewL cols) (l : List Ln) (hl : l.length ≤ 100) (hr : Rise l) (v : List V) (hv : FewV v) (k : Nat) (hk : 8000 ≤ k) : sheet_Put.f k nm a cols l v = some (putS nm a cols l v) := by
  obtain ⟨k, rfl⟩ : ∃ q, k = q + 1 := ⟨k - 1, by omega⟩
  unfold putS
  simp only [sheet_Put.f, sheet_Put.c, keyS_f nm a cols hc v hv (k + 1) (by omega), Option.bind_some, Option.bind_fun_some]
  by_cases c : (keyS nm a cols v).2 = 0
  · have h1 := keyS_ok c
    have h2 := hv.1
    have hp := pos_le l (keyS nm a cols v).1
    have hu := upto_le l (keyS nm a cols v).1
    have ha := at_f l (keyS nm a cols v).1 (by omega) hr (k + 1) (by omega)
    rw [if_neg (by simp [c])]
    simp only [c, bne_self_eq_false, cond_false, ha, Option.bind_some]
    cases d : isAt l (keyS nm a cols v).1 with
    | true =>
      have e2 : IntKind.wrap IntKind.i64 (((pos l (keyS nm a cols v).1 : Nat) : Int) + 1) = ((pos l (keyS nm a cols v).1 + 1 : Nat) : Int) := by rw [i64w (by omega) (by omega)]; omega
      have hu' : pos l (keyS nm a cols v).1 + 1 ≤ l.length := by unfold upto at hu; rw [if_pos d] at hu; exact hu
      have hs := spliced_f l (pos l (keyS nm a cols v).1) (pos l (keyS nm a cols v).1 + 1) [((keyS nm a cols v).1, (v, ()))] hp hu' (by omega) (by simp) (k + 1)
      simp only [e2, cond_true, sheet_Put.s0, sheet_Put.s0c, clone_f v h1 (by omega), Option.bind_some]
      have hs' := spliced_f l (pos l (keyS nm a cols v).1) (pos l (keyS nm a cols v).1 + 1) [((keyS nm a cols v).1, (v, ()))] hp hu' (by omega) (by simp) k
      simp only [hs', Option.bind_some]
      unfold putL upto
      simp only [d, if_true, List.append_assoc, List.singleton_append]
    | false =>
      have hs' := spliced_f l (pos l (keyS nm a cols v).1) (pos l (keyS nm a cols v).1) [((keyS nm a cols v).1, (v, ()))] hp hp (by omega) (by simp) k
      simp only [cond_false, sheet_Put.s0, sheet_Put.s0c, clone_f v h1 (by omega), hs', Option.bind_some]
      unfold putL upto
      simp only [d, Bool.false_eq_true, if_false, List.append_assoc, List.singleton_append]
  · rw [if_pos c]
    simp only [bne_iff_ne.2 c, cond_true]
theorem delete_f (nm : ByteArray) (a : Int) (cols : List C) (l : List Ln) (hl : l.length ≤ 100) (hr : Rise l) (key : ByteArray) (k : Nat) (hk : 2000 ≤ k) : sheet_Delete.f k nm a cols l key = some (nm, a, cols, delL l key, isAt l key) := by
  have ha := at_f l key (by omega) hr k (by omega)
  simp only [sheet_Delete.f, sheet_Delete.c, ha, Option.bind_some]
  unfold delL
  cases d : isAt l key with
  | true =>
    obtain ⟨hp, _⟩ := isAt_lt d
    have e2 : IntKind.wrap IntKind.i64 (((pos l key : Nat) : Int) + 1) = ((pos l key + 1 : Nat) : Int) := by rw [i64w (by omega) (by omega)]; omega
    have hs := spliced_f l (pos l key) (pos l key + 1) [] (by omega) (by omega) (by omega) (by simp) k
    simp only [e2, hs, cond_true, if_true, Option.bind_some, List.append_nil]
  | false => simp only [cond_false, Bool.false_eq_true, if_false]
theorem sames_f (nm : ByteArray) (a : Int) (cols : List C) (hc : cols.length ≤ 1000) (l : List Ln) (hl : l.length ≤ 1000) (hv : ∀ x ∈ l, x.2.1.length ≤ 1000) (k : Nat) (hk : 6000 ≤ k) : transomref12_Same.f k nm a cols l nm a cols l = some true := by
  simp only [transomref12_Same.f, transomref12_Same.c, same_refl nm a cols hc k (by omega), samelines_f l hl hv k hk, cond_true, Option.bind_some]
/-- may these lines be? -/
noncomputable def linesOk (nm : ByteArray) (a : Int) (cols : List C) (l : List Ln) (i : Nat) : Prop :=
  ∀ j (h : j < l.length), i ≤ j → keyS nm a cols (l[j]).2.1 = ((l[j]).1, 0) ∧ ∀ p (hp : p + 1 = j), ltK (l[p]'(by omega)).1 (l[j]).1 = true
theorem check_s0 (nm : ByteArray) (a : Int) (cols : List C) (hc : FewL cols) (l : List Ln) (hl : l.length ≤ 100) (hv : ∀ x ∈ l, FewV x.2.1) : ∀ (m i : Nat), i + m = l.length → ∀ k, 3 * m + 7010 ≤ k →
    ∃ r, sheet_Check.s0 k l (l.length : Int) (i : Int) nm a cols l = some r ∧ (r = 0 ↔ linesOk nm a cols l i) := by
  intro m
  induction m with
  | zero =>
    intro i hi k hk
    obtain ⟨k, rfl⟩ : ∃ j, k = j + 1 := ⟨k - 1, by omega⟩
    have e : ¬ (i : Int) < (l.length : Int) := by omega
    simp only [sheet_Check.s0, sheet_Check.s0c, e, decide_false, cond_false]
    exact ⟨0, rfl, by simp only [true_iff]; intro j h h2; omega⟩
  | succ m ih =>
    intro i hi k hk
    obtain ⟨k, rfl⟩ : ∃ j, k = j + 3 := ⟨k - 3, by omega⟩
    have hlt : i < l.length := by omega
    have e0 : (i : Int) < (l.length : Int) := by omega
    have e1 : (0 : Int) ≤ (i : Int) := by omega
    have e2 : IntKind.wrap IntKind.i64 ((i : Int) + 1) = ((i + 1 : Nat) : Int) := by rw [i64w (by omega) (by omega)]; omega
    have he := elem_l hlt
    obtain ⟨q, g1, g2⟩ := ih (i + 1) (by omega) k (by omega)
    have h1 := keyS_f nm a cols hc l[i].2.1 (hv _ (List.getElem_mem hlt)) (k + 2) (by omega)
    simp only [sheet_Check.s0, sheet_Check.s0c, sheet_Check.s1, sheet_Check.s1c, sheet_Check.s2, sheet_Check.s2c, e0, e1, e2, he, h1, g1, tl_dec, less_ltK, le_dec, decide_true, Bool.and_self, cond_true, Option.bind_some, Option.bind_fun_some]
    by_cases c : (keyS nm a cols l[i].2.1).2 = 0
    · simp only [c, bne_self_eq_false, cond_false]
      by_cases c2 : (keyS nm a cols l[i].2.1).1 = l[i].1
      · have hk2 : keyS nm a cols (l[i]).2.1 = ((l[i]).1, 0) := Prod.ext c2 c
        simp only [c2, decide_true, Bool.not_true, cond_false]
        by_cases c3 : 0 < i
        · obtain ⟨p, rfl⟩ : ∃ p, i = p + 1 := ⟨i - 1, by omega⟩
          have hp : p < l.length := by omega
          have f0 : ((p + 1 : Nat) : Int) > 0 := by omega
          have f1 : IntKind.wrap IntKind.i64 (((p + 1 : Nat) : Int) - 1) = ((p : Nat) : Int) := by rw [i64w (by omega) (by omega)]; omega
          have f2 : (0 : Int) ≤ ((p : Nat) : Int) := by omega
          have f3 : ((p : Nat) : Int) < (l.length : Int) := by omega
          have hep := elem_l hp
          simp only [f0, f1, f2, f3, hep, less_ltK, tl_dec, le_dec, Bool.not_true, cond_false, cond_true, decide_true, Bool.and_self]
          cases hB : ltK l[p].1 l[p + 1].1 with
          | true =>
            refine ⟨q, rfl, g2.trans ⟨fun h j hj hij => ?_, fun h j hj hij => h j hj (by omega)⟩⟩
            by_cases e : j = p + 1
            · subst e
              refine ⟨hk2, fun p' hp' => ?_⟩
              obtain rfl : p' = p := by omega
              exact hB
            · exact h j hj (by omega)
          | false =>
            refine ⟨13, rfl, ⟨fun h => absurd h (by decide), fun h => ?_⟩⟩
            have := (h (p + 1) hlt (Nat.le_refl _)).2 p rfl
            rw [hB] at this; cases this
        · have f0 : ¬ (i : Int) > 0 := by omega
          simp only [f0, Bool.not_true, cond_false, decide_false]
          refine ⟨q, rfl, g2.trans ⟨fun h j hj hij => ?_, fun h j hj hij => h j hj (by omega)⟩⟩
          by_cases e : j = i
          · subst e
            exact ⟨hk2, fun p' hp' => by omega⟩
          · exact h j hj (by omega)
      · simp only [c2, decide_false, Bool.not_false, cond_true]
        refine ⟨4, rfl, ⟨fun h => absurd h (by decide), fun h => ?_⟩⟩
        have := (h i hlt (Nat.le_refl _)).1
        exact absurd (congrArg Prod.fst this) c2
    · simp only [bne_iff_ne.2 c, cond_true]
      refine ⟨_, rfl, ⟨fun h => absurd h c, fun h => ?_⟩⟩
      have := (h i hlt (Nat.le_refl _)).1
      exact absurd (congrArg Prod.snd this) c
/-- may a sheet be? -/
noncomputable def sheetOk (nm : ByteArray) (a : Int) (cols : List C) (l : List Ln) : Prop := tabS nm a cols = 0 ∧ Rise l ∧ ∀ x ∈ l, keyS nm a cols x.2.1 = (x.1, 0)
theorem linesOk_iff (nm : ByteArray) (a : Int) (cols : List C) (l : List Ln) : linesOk nm a cols l 0 ↔ Rise l ∧ ∀ x ∈ l, keyS nm a cols x.2.1 = (x.1, 0) := by
  constructor
  · intro h
    refine ⟨rise_of fun i hi => (h (i + 1) hi (by omega)).2 i rfl, fun x hx => ?_⟩
    obtain ⟨j, hj, rfl⟩ := List.getElem_of_mem hx
    exact (h j hj (by omega)).1
  · rintro ⟨h1, h2⟩ j hj _
    refine ⟨h2 _ (List.getElem_mem hj), fun p hp => ?_⟩
    subst hp
    exact rise_lt h1 hj (by omega)
theorem check_f (nm : ByteArray) (a : Int) (cols : List C) (hc : FewL cols) (l : List Ln) (hl : l.length ≤ 100) (hv : ∀ x ∈ l, FewV x.2.1) (k : Nat) (hk : 8000 ≤ k) : ∃ r, sheet_Check.f k nm a cols l = some r ∧ (r = 0 ↔ sheetOk nm a cols l) := by
  obtain ⟨r, h1, h2⟩ := check_s0 nm a cols hc l hl hv l.length 0 (by omega) k (by omega)
  have h1' : sheet_Check.s0 k l (l.length : Int) 0 nm a cols l = some r := h1
  simp only [sheet_Check.f, sheet_Check.c, scheck_f nm a hc (k := k) (by omega), h1', Option.bind_some, Option.bind_fun_some]
  unfold sheetOk
  by_cases c : tabS nm a cols = 0
  · simp only [c, bne_self_eq_false, cond_false]
    exact ⟨r, rfl, by rw [h2, linesOk_iff]; simp⟩
  · simp only [bne_iff_ne.2 c, cond_true]
    exact ⟨_, rfl, by simp [c]⟩
end Go.Proofs.YtdbbkmmillnaiaaGreatDoor.Aev
