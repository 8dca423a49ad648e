import Derived.Test.YtaehpfmnejeddaaGreatDoorF0
import Derived.Test.YtaehpfmnejeddaaGreatDoorF3
import Derived.Test.YtaehpfmnejeddaaGreatDoorF6
import Derived.Test.YtaehpfmnejeddaaGreatDoorF9
import Derived.Test.YtaehpfmnejeddaaGreatDoorF14
import Derived.Test.YtaehpfmnejeddaaGreatDoorTab
import Derived.Test.YtaehpfmnejeddaaGreatDoorKeyRow

/- What is asked, as bytes, written: the program's and the document's ways. -/
namespace Go.Proofs.YtaehpfmnejeddaaGreatDoor.Aev
open Go
set_option linter.unusedVariables false
set_option linter.unusedSimpArgs false
set_option maxRecDepth 100000
abbrev Ch : Type := D_api_Change
theorem elem_t {l : List ByteArray} {i : Nat} (h : i < l.length) : elem Ty.str l (i : Int) = l[i] := by
 simp [elem, List.getD, List.getElem?_eq_getElem h]
theorem few08_s0 (l : List ByteArray) (hl : l.length ≤ 60) : ∀ (m i : Nat), i + m = l.length → ∀ k, m < k →
  ∃ r, transomlaw08_Few.s0 k l (i : Int) = some r ∧ (r = 0 ∨ ∀ s ∈ l.drop i, s.size ≤ 500) := by
 intro m
 induction m with
 | zero =>
  intro i hi k hk
  obtain ⟨k, rfl⟩ : ∃ q, k = q + 1 := ⟨k - 1, by omega⟩
  have e : ¬ (i : Int) < (l.length : Int) := by omega
  rw [List.drop_eq_nil_of_le (by omega)]
  simp only [transomlaw08_Few.s0, transomlaw08_Few.s0c, e, decide_false, cond_false]
  exact ⟨1, rfl, .inr (by simp)⟩
 | succ m ih =>
  intro i hi k hk
  obtain ⟨k, rfl⟩ : ∃ q, k = q + 1 := ⟨k - 1, by omega⟩
  have hlt : i < l.length := by omega
  have e0 : (i : Int) < (l.length : Int) := by omega
  have e1 : (0 : Int) ≤ (i : Int) := by omega
  have e2 : IntKind.wrap IntKind.i64 ((i : Int) + 1) = ((i + 1 : Nat) : Int) := by rw [i64w (by omega) (by omega)]; omega
  obtain ⟨r, h1, h2⟩ := ih (i + 1) (by omega) k (by omega)
  rw [List.drop_eq_getElem_cons hlt]
  simp only [transomlaw08_Few.s0, transomlaw08_Few.s0c, e0, e1, e2, elem_t hlt, h1, decide_true, Bool.and_self, cond_true, Option.bind_some, Option.bind_fun_some]
  by_cases c : ((l[i]).size : Int) > 500
  ·simp only [c, decide_true, cond_true]; exact ⟨0, rfl, .inl rfl⟩
  ·simp only [c, decide_false, cond_false]
   refine ⟨r, rfl, h2.imp id fun h => ?_⟩
   rw [List.forall_mem_cons]
   exact ⟨by omega, h⟩
theorem few08 (l : List ByteArray) (k : Nat) (hk : 100 ≤ k) : ∃ r, transomlaw08_Few.f k l = some r ∧ (r = 0 ∨ (l.length ≤ 60 ∧ ∀ s ∈ l, s.size ≤ 500)) := by
 simp only [transomlaw08_Few.f, transomlaw08_Few.c]
 by_cases c : (l.length : Int) > 60
 ·simp only [c, decide_true, cond_true]; exact ⟨0, rfl, .inl rfl⟩
 ·obtain ⟨r, h1, h2⟩ := few08_s0 l (by omega) l.length 0 (by omega) k (by omega)
  have h1' : transomlaw08_Few.s0 k l 0 = some r := h1
  simp only [c, decide_false, cond_false, h1', Option.bind_some, Option.bind_fun_some]
  exact ⟨r, rfl, h2.imp id fun h => ⟨by omega, by simpa using h⟩⟩
structure FewCh (c : Ch) : Prop where
 cn : c.2.2.2.2.2.2.2.2.1.1.size ≤ 500
 col : FewC c.2.2.2.2.2.2.2.2.1 ∧ c.2.2.2.2.2.2.2.2.1.2.2.2.1.2.2.2.1.size ≤ 2000
 dn : c.2.2.2.2.2.2.2.2.2.1.1.size ≤ 500
 dc : FewL c.2.2.2.2.2.2.2.2.2.1.2.2.1 ∧ fewB c.2.2.2.2.2.2.2.2.2.1.2.2.1
theorem few10 (c : Ch) (hf : Fit T_api_Change c) (k : Nat) (hk : 200 ≤ k) : ∃ r, transomlaw10_Few.f k c = some r ∧ (r = 0 ∨ FewCh c) := by
 obtain ⟨f1, f2, f3, f4, f5, f6, f7, f8, f9, f10, _⟩ := hf
 obtain ⟨r1, h1, g1⟩ := few08 c.2.2.2.2.2.2.2.1 k (by omega)
 obtain ⟨r2, h2, g2⟩ := few08 [c.2.1, c.2.2.1, c.2.2.2.1, c.2.2.2.2.1, c.2.2.2.2.2.1, c.2.2.2.2.2.2.2.2.1.1] k (by omega)
 have h3 := few09 c.2.2.2.2.2.2.2.2.2.1.1 c.2.2.2.2.2.2.2.2.2.1.2.1 c.2.2.2.2.2.2.2.2.2.1.2.2.1 k (by omega)
 have h4 := few04' c.2.2.2.2.2.2.2.2.1.2.2.2.1.1 c.2.2.2.2.2.2.2.2.1.2.2.2.1.2.1 c.2.2.2.2.2.2.2.2.1.2.2.2.1.2.2.1 c.2.2.2.2.2.2.2.2.1.2.2.2.1.2.2.2.1 k
 simp only [transomlaw10_Few.f, transomlaw10_Few.c, h1, h2, h3, h4, Option.bind_some]
 by_cases c1 : r1 = 0
 ·simp only [c1, beq_self_eq_true, cond_true]; exact ⟨0, rfl, .inl rfl⟩
 ·by_cases c2 : r2 = 0
  ·simp only [beq_eq_false_iff_ne.2 c1, c2, beq_self_eq_true, cond_true, cond_false]; exact ⟨0, rfl, .inl rfl⟩
  ·simp only [beq_eq_false_iff_ne.2 c1, beq_eq_false_iff_ne.2 c2, cond_false]
   split
   ·rename_i c3
    have z1 : ((1 : Int) == 0) = false := rfl
    simp only [z1, cond_false]
    split
    ·rename_i c4
     simp only [z1, cond_false]
     refine ⟨1, rfl, .inr ?_⟩
     obtain ⟨v1, v2, v3, ⟨v4, v5, v6, v7, _⟩, _⟩ := f9
     exact { cn := (g2.resolve_left c2).2 _ (by simp), col := ⟨nat_u64 v6, c4⟩, dn := c3.2.1, dc := ⟨fit_l f10.2.2.1 c3.1 c3.2.2, c3.2.2⟩ }
    ·exact ⟨0, rfl, .inl rfl⟩
   ·exact ⟨0, rfl, .inl rfl⟩
def longB (s : ByteArray) : Bool := decide ((s.size : Int) > 16)
theorem long_f (s : ByteArray) (k : Nat) : ops_long.f k s = some (longB s) := by simp only [ops_long.f, ops_long.c]; rfl
theorem idx_s0 (l : List ByteArray) (hl : l.length ≤ 1000) : ∀ (m i : Nat), i + m = l.length → ∀ k, m < k →
  ∃ r, slices_IndexFunc_string_string.s0 k l (l.length : Int) (i : Int) = some r ∧ (decide (r ≥ 0) = (l.drop i).any longB) := by
 intro m
 induction m with
 | zero =>
  intro i hi k hk
  obtain ⟨k, rfl⟩ : ∃ q, k = q + 1 := ⟨k - 1, by omega⟩
  have e : ¬ (i : Int) < (l.length : Int) := by omega
  rw [List.drop_eq_nil_of_le (by omega)]
  simp only [slices_IndexFunc_string_string.s0, slices_IndexFunc_string_string.s0c, e, decide_false, cond_false]
  exact ⟨-1, rfl, rfl⟩
 | succ m ih =>
  intro i hi k hk
  obtain ⟨k, rfl⟩ : ∃ q, k = q + 1 := ⟨k - 1, by omega⟩
  have hlt : i < l.length := by omega
  have e0 : (i : Int) < (l.length : Int) := by omega
  have e1 : (0 : Int) ≤ (i : Int) := by omega
  have e2 : IntKind.wrap IntKind.i64 ((i : Int) + 1) = ((i + 1 : Nat) : Int) := by rw [i64w (by omega) (by omega)]; omega
  obtain ⟨r, h1, h2⟩ := ih (i + 1) (by omega) k (by omega)
  rw [List.drop_eq_getElem_cons hlt, List.any_cons]
  simp only [slices_IndexFunc_string_string.s0, slices_IndexFunc_string_string.s0c, e0, e1, e2, elem_t hlt, h1, long_f, decide_true, Bool.and_self, cond_true, Option.bind_some, Option.bind_fun_some]
  cases c : longB l[i] with
  | true => exact ⟨(i : Int), rfl, by simp⟩
  | false => exact ⟨r, rfl, by simpa using h2⟩
theorem anylong_f (l : List ByteArray) (hl : l.length ≤ 1000) (k : Nat) (hk : 1100 ≤ k) : slices_ContainsFunc_string_string.f k l = some (l.any longB) := by
 obtain ⟨r, h1, h2⟩ := idx_s0 l hl l.length 0 (by omega) k (by omega)
 have h1' : slices_IndexFunc_string_string.s0 k l (l.length : Int) 0 = some r := h1
 simp only [slices_ContainsFunc_string_string.f, slices_ContainsFunc_string_string.c, slices_IndexFunc_string_string.f, slices_IndexFunc_string_string.c, h1', h2, List.drop_zero, Option.bind_some, Option.bind_fun_some]
theorem rlong_s0 (l : List ByteArray) (hl : l.length ≤ 1000) : ∀ (m i : Nat), i + m = l.length → ∀ k, m < k → transomref14_long.s0 k l (i : Int) = some ((l.drop i).any longB) := by
 intro m
 induction m with
 | zero =>
  intro i hi k hk
  obtain ⟨k, rfl⟩ : ∃ q, k = q + 1 := ⟨k - 1, by omega⟩
  have e : ¬ (i : Int) < (l.length : Int) := by omega
  rw [List.drop_eq_nil_of_le (by omega)]
  simp only [transomref14_long.s0, transomref14_long.s0c, e, decide_false, cond_false]; rfl
 | succ m ih =>
  intro i hi k hk
  obtain ⟨k, rfl⟩ : ∃ q, k = q + 1 := ⟨k - 1, by omega⟩
  have hlt : i < l.length := by omega
  have e0 : (i : Int) < (l.length : Int) := by omega
  have e1 : (0 : Int) ≤ (i : Int) := by omega
  have e2 : IntKind.wrap IntKind.i64 ((i : Int) + 1) = ((i + 1 : Nat) : Int) := by rw [i64w (by omega) (by omega)]; omega
  have h1 := ih (i + 1) (by omega) k (by omega)
  have hL : decide (((l[i]).size : Int) > 16) = longB l[i] := rfl
  rw [List.drop_eq_getElem_cons hlt, List.any_cons]
  simp only [transomref14_long.s0, transomref14_long.s0c, e0, e1, e2, elem_t hlt, h1, hL, decide_true, Bool.and_self, cond_true, Option.bind_some, Option.bind_fun_some]
  cases longB l[i] <;> rfl
theorem rlong_f (l : List ByteArray) (hl : l.length ≤ 1000) (k : Nat) (hk : 1100 ≤ k) : transomref14_long.f k l = some (l.any longB) := by
 have h := rlong_s0 l hl l.length 0 (by omega) k (by omega)
 have h' : transomref14_long.s0 k l 0 = some (l.any longB) := h
 simp only [transomref14_long.f, transomref14_long.c, h', Option.bind_some, Option.bind_fun_some]
def chkC (c : Ch) : Int :=
 if c.1 < 1 ∨ c.1 > 6 ∨ c.2.2.2.2.2.2.1 < 0 ∨ c.2.2.2.2.2.2.1 > 100 ∨ (c.2.2.2.2.2.2.2.1.length : Int) > 8 then 1
 else if (longB c.2.1 || longB c.2.2.1 || longB c.2.2.2.1 || longB c.2.2.2.2.1 || longB c.2.2.2.2.2.1 || c.2.2.2.2.2.2.2.1.any longB) = true then 8 else 0
theorem check_eq (c : Ch) (k : Nat) (hk : 2000 ≤ k) : ops_check.f k c = some (chkC c) := by
 obtain ⟨k, rfl⟩ : ∃ q, k = q + 2 := ⟨k - 2, by omega⟩
 have t : ∀ j, ops_texts.f0 j c = some c := fun j => rfl
 simp only [ops_check.f, ops_check.c]
 unfold chkC
 by_cases h0 : c.1 < 1
 ·simp only [h0, decide_true, cond_true, ops_check.s0, ops_check.s0c, true_or, if_true, Option.bind_some]
 ·by_cases h1 : c.1 > 6
  ·simp only [h0, h1, decide_true, decide_false, cond_true, cond_false, ops_check.s0, ops_check.s0c, true_or, or_true, if_true, Option.bind_some]
  ·by_cases h2 : c.2.2.2.2.2.2.1 < 0
   ·simp only [h0, h1, h2, decide_true, decide_false, cond_true, cond_false, ops_check.s0, ops_check.s0c, true_or, or_true, if_true, Option.bind_some]
   ·by_cases h3 : c.2.2.2.2.2.2.1 > 100
    ·simp only [h0, h1, h2, h3, decide_true, decide_false, cond_true, cond_false, ops_check.s0, ops_check.s0c, true_or, or_true, if_true, Option.bind_some]
    ·by_cases h4 : (c.2.2.2.2.2.2.2.1.length : Int) > 8
     ·simp only [h0, h1, h2, h3, h4, decide_true, decide_false, cond_true, cond_false, ops_check.s0, ops_check.s0c, true_or, or_true, if_true, Option.bind_some]
     ·have ha := anylong_f c.2.2.2.2.2.2.2.1 (by omega) k (by omega)
      simp only [h0, h1, h2, h3, h4, decide_false, cond_false, ops_check.s0, ops_check.s0c, ops_check.s1, ops_check.s1c, t, long_f, ha, or_self, if_false, Option.bind_some]
      cases longB c.2.1 <;> cases longB c.2.2.1 <;> cases longB c.2.2.2.1 <;> cases longB c.2.2.2.2.1 <;> cases longB c.2.2.2.2.2.1 <;> cases c.2.2.2.2.2.2.2.1.any longB <;> rfl
def keyNm (s : ByteArray) : ByteArray := bif s.toList == (mL [107]).toList then mL [106] else mL [107]
def defS (c : Ch) : ByteArray × Int × List C × Bool :=
 if c.1 = 1 then (c.2.2.2.2.2.2.2.2.2.1.1, c.2.2.2.2.2.2.2.2.2.1.2.1, c.2.2.2.2.2.2.2.2.2.1.2.2.1, true)
 else if c.1 = 2 then (mL [120], 1, [(keyNm c.2.2.2.2.2.2.2.2.1.1, 2, false, (0, 0, 0, mL [], ()), ()), c.2.2.2.2.2.2.2.2.1], true)
 else (mL [], 0, [], false)
theorem def_eq (c : Ch) (k : Nat) : ops_def.f k c = some (defS c) := by
 simp only [ops_def.f, ops_def.c]
 unfold defS keyNm
 by_cases h1 : c.1 = 1
 ·rw [if_pos h1, h1]; rfl
 ·rw [if_neg h1, beq_eq_false_iff_ne.2 h1]
  by_cases h2 : c.1 = 2
  ·rw [if_pos h2, h2]
   cases (c.2.2.2.2.2.2.2.2.1.1.toList == (mL [107]).toList) <;> rfl
  ·rw [if_neg h2, beq_eq_false_iff_ne.2 h2]; rfl
theorem rdef_eq (c : Ch) (k : Nat) : transomref14_def.f k c = some (defS c) := by
 simp only [transomref14_def.f, transomref14_def.c, transomref14_small.f, transomref14_small.c]
 unfold defS keyNm
 by_cases h1 : c.1 = 1
 ·rw [if_pos h1, h1]; rfl
 ·rw [if_neg h1, beq_eq_false_iff_ne.2 h1]
  by_cases h2 : c.1 = 2
  ·rw [if_pos h2, h2]
   cases (c.2.2.2.2.2.2.2.2.1.1.toList == (mL [107]).toList) <;> rfl
  ·rw [if_neg h2, beq_eq_false_iff_ne.2 h2]; rfl
theorem defS_few {c : Ch} (h : FewCh c) : FewL (defS c).2.2.1 ∧ (defS c).1.size ≤ 2000 ∧ ∀ d ∈ (defS c).2.2.1, d.1.size ≤ 2000 ∧ d.2.2.2.1.2.2.2.1.size ≤ 2000 := by
 unfold defS
 split
 ·exact ⟨h.dc.1, by have := h.dn; simp only; omega, fun d hd => by have := h.dc.2 d hd; omega⟩
 ·split
  ·refine ⟨⟨by simp, ?_⟩, by simp only [ba_size]; decide, ?_⟩
   ·simp only [List.forall_mem_cons]
    exact ⟨⟨0, rfl, by decide⟩, h.col.1, by simp⟩
   ·simp only [List.forall_mem_cons]
    refine ⟨⟨?_, by simp only [ba_size]; decide⟩, ⟨by have := h.cn; omega, h.col.2⟩, by simp⟩
    unfold keyNm
    cases (c.2.2.2.2.2.2.2.2.1.1.toList == (mL [107]).toList) <;> simp only [cond_true, cond_false, ba_size] <;> decide
  ·exact ⟨⟨by simp, by simp⟩, by simp only [ba_size]; decide, by simp⟩
def tB (s : ByteArray) : List UInt8 := encL s.size ++ s.data.toList
theorem tB_len {s : ByteArray} (h : s.size ≤ 1000000) : (tB s).length ≤ s.size + 10 := by
 have := encL_len (m := s.size) (by omega)
 unfold tB; rw [List.length_append, ← size_eq]; omega
theorem ptext (s : ByteArray) (h : s.size ≤ 1000000) {k : Nat} (hk : 10 ≤ k) : pack_Text.f k s = some (mL (tB s)) := text_b s h hk
theorem rtext (s : ByteArray) (h : s.size ≤ 1000000) {k : Nat} (hk : 10 ≤ k) : transomref03_Text.f k s = some (mL (tB s)) := reftext_b s h hk
theorem le62 {n : Nat} (h : n ≤ 100000000) : decide (n ≤ 4611686018427387903) = true := decide_eq_true (by omega)
def chB (c : Ch) : List UInt8 := encL c.1.toNat ++ (tB c.2.1 ++ (tB c.2.2.1 ++ (tB c.2.2.2.1 ++ (tB c.2.2.2.2.1 ++ (tB c.2.2.2.2.2.1 ++ (encL c.2.2.2.2.2.2.1.toNat ++ (encL c.2.2.2.2.2.2.2.1.length ++ c.2.2.2.2.2.2.2.1.flatMap tB)))))))
noncomputable def putC (c : Ch) : ByteArray × Int :=
 if chkC c ≠ 0 then (mL [], chkC c)
 else if (defS c).2.2.2 = true then (if tabS (defS c).1 (defS c).2.1 (defS c).2.2.1 ≠ 0 then (mL [], tabS (defS c).1 (defS c).2.1 (defS c).2.2.1) else (mL (chB c ++ tabB (defS c).1 (defS c).2.1 (defS c).2.2.1), 0))
 else (mL (chB c), 0)
theorem putc_s1 (l : List ByteArray) (hl : l.length ≤ 8) (hs : ∀ s ∈ l, s.size ≤ 500) (d : List UInt8) (hd : d.length ≤ 1000000) : ∀ (m i : Nat) (acc : List UInt8), i + m = l.length → acc.length ≤ 10000 + i * 1000 → ∀ k, m + 10 < k →
  ops_PutChange.s1 k (mL d) (mL acc) l (l.length : Int) (i : Int) = some (mL (acc ++ ((l.drop i).flatMap tB ++ d)), 0) := by
 intro m
 induction m with
 | zero =>
  intro i acc hi ha k hk
  obtain ⟨k, rfl⟩ : ∃ q, k = q + 1 := ⟨k - 1, by omega⟩
  have e : ¬ (i : Int) < (l.length : Int) := by omega
  rw [List.drop_eq_nil_of_le (by omega)]
  simp (disch := omega) only [ops_PutChange.s1, ops_PutChange.s1c, e, decide_false, cond_false, ba_size, le62, Bool.and_self, cond_true, ba_append, List.flatMap_nil, List.nil_append]
 | succ m ih =>
  intro i acc hi ha k hk
  obtain ⟨k, rfl⟩ : ∃ q, k = q + 1 := ⟨k - 1, by omega⟩
  have hlt : i < l.length := by omega
  have e0 : (i : Int) < (l.length : Int) := by omega
  have e1 : (0 : Int) ≤ (i : Int) := by omega
  have e2 : IntKind.wrap IntKind.i64 ((i : Int) + 1) = ((i + 1 : Nat) : Int) := by rw [i64w (by omega) (by omega)]; omega
  have hsz := hs _ (List.getElem_mem hlt)
  have ht := tB_len (s := l[i]) (by omega)
  have h1 := ih (i + 1) (acc ++ tB l[i]) (by omega) (by rw [List.length_append]; omega) k (by omega)
  rw [List.drop_eq_getElem_cons hlt]
  simp (disch := omega) only [ops_PutChange.s1, ops_PutChange.s1c, e0, e1, e2, elem_t hlt, ptext, ba_size, le62, ba_append, h1, decide_true, Bool.and_self, cond_true, Option.bind_some, Option.bind_fun_some, List.flatMap_cons, List.append_assoc]
theorem rputc_s5 (c : Ch) (hl : c.2.2.2.2.2.2.2.1.length ≤ 8) (hs : ∀ s ∈ c.2.2.2.2.2.2.2.1, s.size ≤ 500) (d : List UInt8) (hd : d.length ≤ 1000000) : ∀ (m i : Nat) (acc : List UInt8), i + m = c.2.2.2.2.2.2.2.1.length → acc.length ≤ 10000 + i * 1000 → ∀ k, m + 10 < k →
  transomref14_PutChange.s5 k (mL d) (mL acc) (i : Int) c = some (mL (acc ++ ((c.2.2.2.2.2.2.2.1.drop i).flatMap tB ++ d)), 0) := by
 intro m
 induction m with
 | zero =>
  intro i acc hi ha k hk
  obtain ⟨k, rfl⟩ : ∃ q, k = q + 1 := ⟨k - 1, by omega⟩
  have e : ¬ (i : Int) < (c.2.2.2.2.2.2.2.1.length : Int) := by omega
  rw [List.drop_eq_nil_of_le (by omega)]
  simp (disch := omega) only [transomref14_PutChange.s5, transomref14_PutChange.s5c, e, decide_false, cond_false, ba_size, le62, Bool.and_self, cond_true, ba_append, List.flatMap_nil, List.nil_append]
 | succ m ih =>
  intro i acc hi ha k hk
  obtain ⟨k, rfl⟩ : ∃ q, k = q + 1 := ⟨k - 1, by omega⟩
  have hlt : i < c.2.2.2.2.2.2.2.1.length := by omega
  have e0 : (i : Int) < (c.2.2.2.2.2.2.2.1.length : Int) := by omega
  have e1 : (0 : Int) ≤ (i : Int) := by omega
  have e2 : IntKind.wrap IntKind.i64 ((i : Int) + 1) = ((i + 1 : Nat) : Int) := by rw [i64w (by omega) (by omega)]; omega
  have hsz := hs _ (List.getElem_mem hlt)
  have ht := tB_len (s := c.2.2.2.2.2.2.2.1[i]) (by omega)
  have h1 := ih (i + 1) (acc ++ tB c.2.2.2.2.2.2.2.1[i]) (by omega) (by rw [List.length_append]; omega) k (by omega)
  rw [List.drop_eq_getElem_cons hlt]
  simp (disch := omega) only [transomref14_PutChange.s5, transomref14_PutChange.s5c, e0, e1, e2, elem_t hlt, rtext, ba_size, le62, ba_append, h1, decide_true, Bool.and_self, cond_true, Option.bind_some, Option.bind_fun_some, List.flatMap_cons, List.append_assoc]
theorem chkC_0 {c : Ch} (h : chkC c = 0) : 1 ≤ c.1 ∧ c.1 ≤ 6 ∧ 0 ≤ c.2.2.2.2.2.2.1 ∧ c.2.2.2.2.2.2.1 ≤ 100 ∧ c.2.2.2.2.2.2.2.1.length ≤ 8 ∧ c.2.1.size ≤ 16 ∧ c.2.2.1.size ≤ 16 ∧ c.2.2.2.1.size ≤ 16 ∧ c.2.2.2.2.1.size ≤ 16 ∧ c.2.2.2.2.2.1.size ≤ 16 ∧ ∀ s ∈ c.2.2.2.2.2.2.2.1, s.size ≤ 16 := by
 unfold chkC at h
 split at h
 ·cases h
 ·rename_i h1
  split at h
  ·cases h
  ·rename_i h2
   simp only [Bool.or_eq_true, not_or, longB, decide_eq_true_eq, List.any_eq_true, not_exists, not_and] at h2
   obtain ⟨⟨⟨⟨⟨g1, g2⟩, g3⟩, g4⟩, g5⟩, g6⟩ := h2
   exact ⟨by omega, by omega, by omega, by omega, by omega, by omega, by omega, by omega, by omega, by omega, fun s hs => by have := g6 s hs; omega⟩
theorem tabB_len {nm : ByteArray} {a : Int} {l : List C} (hn : nm.size ≤ 2000) (hz : ∀ c ∈ l, c.1.size ≤ 2000 ∧ c.2.2.2.1.2.2.2.1.size ≤ 2000) (h0 : tabS nm a l = 0) : (tabB nm a l).length ≤ 95000 := by
 obtain ⟨h1, h2, h3, h4⟩ := tabS_0 h0
 obtain ⟨g1, g2, g3⟩ := head_len (nm := nm) (a := a) (n := l.length) hn (by omega) h4
 have key : ∀ m : List C, (∀ c ∈ m, (c.1.size ≤ 2000 ∧ c.2.2.2.1.2.2.2.1.size ≤ 2000) ∧ colS c = 0) → (m.flatMap colB).length ≤ m.length * 10000 := by
  intro m
  induction m with
  | nil => intro _; simp
  | cons c m ih =>
   intro h
   have h5 := ih fun d hd => h d (List.mem_cons_of_mem _ hd)
   obtain ⟨h6, h7⟩ := h c (List.mem_cons_self ..)
   have h8 := colS_0 h7
   have h9 := colB_len h6 ⟨h8.1, h8.2.1⟩
   rw [List.flatMap_cons, List.length_append, List.length_cons]; omega
 have := key l fun c hc => ⟨hz c hc, colsS_0 h1 c hc⟩
 unfold tabB headB
 rw [List.length_append] at g1
 simp only [List.length_append] at *
 omega
theorem putc_s0 (c : Ch) (h : FewCh c) (h0 : chkC c = 0) (d : List UInt8) (hd : d.length ≤ 1000000) (k : Nat) (hk : 100 ≤ k) : ops_PutChange.s0 k (mL d) c = some (mL (chB c ++ d), 0) := by
 obtain ⟨k, rfl⟩ : ∃ q, k = q + 1 := ⟨k - 1, by omega⟩
 obtain ⟨a1, a2, a3, a4, a5, a6, a7, a8, a9, a10, a11⟩ := chkC_0 h0
 obtain ⟨n, hn⟩ := Int.eq_ofNat_of_zero_le (show 0 ≤ c.1 by omega)
 obtain ⟨y, hy⟩ := Int.eq_ofNat_of_zero_le a3
 have t : ∀ j, ops_texts.f0 j c = some c := fun j => rfl
 have u1 := uint_f (m := n) (k := k) (by omega) (by omega)
 have u2 := uint_f (m := y) (k := k) (by omega) (by omega)
 have u3 := uint_f (m := c.2.2.2.2.2.2.2.1.length) (k := k) (by omega) (by omega)
 have l1 := encL_len (m := n) (by omega)
 have l2 := encL_len (m := y) (by omega)
 have l3 := encL_len (m := c.2.2.2.2.2.2.2.1.length) (by omega)
 have b1 := tB_len (s := c.2.1) (by omega)
 have b2 := tB_len (s := c.2.2.1) (by omega)
 have b3 := tB_len (s := c.2.2.2.1) (by omega)
 have b4 := tB_len (s := c.2.2.2.2.1) (by omega)
 have b5 := tB_len (s := c.2.2.2.2.2.1) (by omega)
 have w1 : IntKind.wrap .u64 c.1 = (n : Int) := by rw [hn]; exact u64w (by omega) (by omega)
 have w2 : IntKind.wrap .u64 c.2.2.2.2.2.2.1 = (y : Int) := by rw [hy]; exact u64w (by omega) (by omega)
 have w3 : IntKind.wrap .u64 (c.2.2.2.2.2.2.2.1.length : Int) = (c.2.2.2.2.2.2.2.1.length : Int) := u64w (by omega) (by omega)
 have hL := fun acc ha => putc_s1 c.2.2.2.2.2.2.2.1 a5 (fun s hs => by have := a11 s hs; omega) d hd c.2.2.2.2.2.2.2.1.length 0 acc (by omega) ha k (by omega)
 have hL' : ∀ acc : List UInt8, acc.length ≤ 10000 → ops_PutChange.s1 k (mL d) (mL acc) c.2.2.2.2.2.2.2.1 (c.2.2.2.2.2.2.2.1.length : Int) 0 = some (mL (acc ++ (c.2.2.2.2.2.2.2.1.flatMap tB ++ d)), 0) := fun acc ha => hL acc (by omega)
 simp (disch := (first | omega | (simp only [List.length_append]; omega))) only [ops_PutChange.s0, ops_PutChange.s0c, w1, w2, w3, u1, u2, u3, t, ptext, ba_append, ba_size, List.length_append, le62, Bool.and_self, cond_true, hL', Option.bind_some, Option.bind_fun_some]
 unfold chB
 rw [hn, hy, Int.toNat_natCast, Int.toNat_natCast]
 simp only [List.append_assoc]
theorem rputc_s4 (c : Ch) (h : FewCh c) (h0 : chkC c = 0) (d : List UInt8) (hd : d.length ≤ 1000000) (k : Nat) (hk : 100 ≤ k) : transomref14_PutChange.s4 k (mL d) c = some (mL (chB c ++ d), 0) := by
 obtain ⟨k, rfl⟩ : ∃ q, k = q + 1 := ⟨k - 1, by omega⟩
 obtain ⟨a1, a2, a3, a4, a5, a6, a7, a8, a9, a10, a11⟩ := chkC_0 h0
 obtain ⟨n, hn⟩ := Int.eq_ofNat_of_zero_le (show 0 ≤ c.1 by omega)
 obtain ⟨y, hy⟩ := Int.eq_ofNat_of_zero_le a3
 have u1 := refuint_f (m := n) (k := k) (by omega) (by omega)
 have u2 := refuint_f (m := y) (k := k) (by omega) (by omega)
 have u3 := refuint_f (m := c.2.2.2.2.2.2.2.1.length) (k := k) (by omega) (by omega)
 have l1 := encL_len (m := n) (by omega)
 have l2 := encL_len (m := y) (by omega)
 have l3 := encL_len (m := c.2.2.2.2.2.2.2.1.length) (by omega)
 have b1 := tB_len (s := c.2.1) (by omega)
 have b2 := tB_len (s := c.2.2.1) (by omega)
 have b3 := tB_len (s := c.2.2.2.1) (by omega)
 have b4 := tB_len (s := c.2.2.2.2.1) (by omega)
 have b5 := tB_len (s := c.2.2.2.2.2.1) (by omega)
 have w1 : IntKind.wrap .u64 c.1 = (n : Int) := by rw [hn]; exact u64w (by omega) (by omega)
 have w2 : IntKind.wrap .u64 c.2.2.2.2.2.2.1 = (y : Int) := by rw [hy]; exact u64w (by omega) (by omega)
 have w3 : IntKind.wrap .u64 (c.2.2.2.2.2.2.2.1.length : Int) = (c.2.2.2.2.2.2.2.1.length : Int) := u64w (by omega) (by omega)
 have hL := fun acc ha => rputc_s5 c a5 (fun s hs => by have := a11 s hs; omega) d hd c.2.2.2.2.2.2.2.1.length 0 acc (by omega) ha k (by omega)
 have hL' : ∀ acc : List UInt8, acc.length ≤ 10000 → transomref14_PutChange.s5 k (mL d) (mL acc) 0 c = some (mL (acc ++ (c.2.2.2.2.2.2.2.1.flatMap tB ++ d)), 0) := fun acc ha => hL acc (by omega)
 simp (disch := (first | omega | (simp only [List.length_append]; omega))) only [transomref14_PutChange.s4, transomref14_PutChange.s4c, w1, w2, w3, u1, u2, u3, rtext, ba_append, ba_size, List.length_append, le62, Bool.and_self, cond_true, hL', Option.bind_some, Option.bind_fun_some]
 unfold chB
 rw [hn, hy, Int.toNat_natCast, Int.toNat_natCast]
 simp only [List.append_assoc]
theorem putC_f {c : Ch} (h : FewCh c) (k : Nat) (hk : 8000 ≤ k) : ops_PutChange.f k c = some (putC c) := by
 obtain ⟨g1, g2, g3⟩ := defS_few h
 have hs := sput_f (defS c).1 (defS c).2.1 (defS c).2.2.1 g1 g2 g3 k (by omega)
 simp only [ops_PutChange.f, ops_PutChange.c, check_eq c k (by omega), def_eq, hs, Option.bind_some, Option.bind_fun_some]
 unfold putC
 by_cases c0 : chkC c = 0
 ·have n0 : ¬ chkC c ≠ 0 := by simp [c0]
  rw [if_neg n0]
  simp only [c0, bne_self_eq_false, cond_false]
  have hz := putc_s0 c h c0 [] (by simp) k (by omega)
  rw [List.append_nil] at hz
  cases c1 : (defS c).2.2.2 with
  | true =>
   by_cases c2 : tabS (defS c).1 (defS c).2.1 (defS c).2.2.1 = 0
   ·have hl := tabB_len g2 g3 c2
    have ht := putc_s0 c h c0 (tabB (defS c).1 (defS c).2.1 (defS c).2.2.1) (by omega) k (by omega)
    simp only [c2, if_true, ne_eq, not_true_eq_false, if_false, bne_self_eq_false, cond_true, cond_false, ht]
   ·simp only [c2, if_false, if_true, ne_eq, not_false_eq_true, bne_iff_ne.2 c2, cond_true]
  | false => simp only [cond_false, hz, Bool.false_eq_true, if_false]
 ·rw [if_pos c0]
  simp only [bne_iff_ne.2 c0, cond_true]
theorem rputC_f {c : Ch} (h : FewCh c) (k : Nat) (hk : 8000 ≤ k) : transomref14_PutChange.f k c = some (putC c) := by
 obtain ⟨k, rfl⟩ : ∃ q, k = q + 4 := ⟨k - 4, by omega⟩
 obtain ⟨g1, g2, g3⟩ := defS_few h
 have hs := rput_f (defS c).1 (defS c).2.1 (defS c).2.2.1 g1 g2 g3 k (by omega)
 simp only [transomref14_PutChange.f, transomref14_PutChange.c]
 unfold putC
 have e1 : chkC c = 1 → transomref14_PutChange.s0 (k + 4) true c = some (if chkC c ≠ 0 then (mL [], chkC c) else (mL [], 0)) := by
  intro e; rw [e, if_pos (by decide)]; simp only [transomref14_PutChange.s0, transomref14_PutChange.s0c, cond_true]
 by_cases hb : c.1 < 1 ∨ c.1 > 6 ∨ c.2.2.2.2.2.2.1 < 0 ∨ c.2.2.2.2.2.2.1 > 100 ∨ (c.2.2.2.2.2.2.2.1.length : Int) > 8
 ·have hc : chkC c = 1 := by unfold chkC; rw [if_pos hb]
  have e2 := e1 hc
  rw [if_pos (by rw [hc]; decide)] at e2 ⊢
  by_cases b0 : c.1 < 1
  ·simp only [b0, decide_true, cond_true, e2, Option.bind_fun_some]
  ·by_cases b1 : c.1 > 6
   ·simp only [b0, b1, decide_true, decide_false, cond_true, cond_false, e2, Option.bind_fun_some]
   ·by_cases b2 : c.2.2.2.2.2.2.1 < 0
    ·simp only [b0, b1, b2, decide_true, decide_false, cond_true, cond_false, e2, Option.bind_fun_some]
    ·by_cases b3 : c.2.2.2.2.2.2.1 > 100
     ·simp only [b0, b1, b2, b3, decide_true, decide_false, cond_true, cond_false, e2, Option.bind_fun_some]
     ·have b4 : (c.2.2.2.2.2.2.2.1.length : Int) > 8 := by omega
      simp only [b0, b1, b2, b3, b4, decide_true, decide_false, cond_true, cond_false, e2, Option.bind_fun_some]
 ·have b0 : ¬ c.1 < 1 := by omega
  have b1 : ¬ c.1 > 6 := by omega
  have b2 : ¬ c.2.2.2.2.2.2.1 < 0 := by omega
  have b3 : ¬ c.2.2.2.2.2.2.1 > 100 := by omega
  have b4 : ¬ (c.2.2.2.2.2.2.2.1.length : Int) > 8 := by omega
  have r1 := rlong_f [c.2.1, c.2.2.1, c.2.2.2.1, c.2.2.2.2.1, c.2.2.2.2.2.1] (by simp) (k + 2) (by omega)
  have r2 := rlong_f c.2.2.2.2.2.2.2.1 (by omega) (k + 2) (by omega)
  have hany : ([c.2.1, c.2.2.1, c.2.2.2.1, c.2.2.2.2.1, c.2.2.2.2.2.1].any longB || c.2.2.2.2.2.2.2.1.any longB) = (longB c.2.1 || longB c.2.2.1 || longB c.2.2.2.1 || longB c.2.2.2.2.1 || longB c.2.2.2.2.2.1 || c.2.2.2.2.2.2.2.1.any longB) := by
   simp only [List.any_cons, List.any_nil, Bool.or_false, Bool.or_assoc]
  have hz := fun c0 => rputc_s4 c h c0 [] (by simp) k (by omega)
  simp only [List.append_nil] at hz
  have h3 : chkC c = 0 → transomref14_PutChange.s3 (k + 1) c = some (if (defS c).2.2.2 = true then (if tabS (defS c).1 (defS c).2.1 (defS c).2.2.1 ≠ 0 then (mL [], tabS (defS c).1 (defS c).2.1 (defS c).2.2.1) else (mL (chB c ++ tabB (defS c).1 (defS c).2.1 (defS c).2.2.1), 0)) else (mL (chB c), 0)) := by
   intro c0
   simp only [transomref14_PutChange.s3, transomref14_PutChange.s3c, rdef_eq, hs, Option.bind_some, Option.bind_fun_some]
   cases c1 : (defS c).2.2.2 with
   | true =>
    by_cases c2 : tabS (defS c).1 (defS c).2.1 (defS c).2.2.1 = 0
    ·have hl := tabB_len g2 g3 c2
     have ht := rputc_s4 c h c0 (tabB (defS c).1 (defS c).2.1 (defS c).2.2.1) (by omega) k (by omega)
     simp only [c2, if_true, ne_eq, not_true_eq_false, if_false, bne_self_eq_false, cond_true, cond_false, ht]
    ·simp only [c2, if_false, if_true, ne_eq, not_false_eq_true, bne_iff_ne.2 c2, cond_true]
   | false => simp only [cond_false, hz c0, Bool.false_eq_true, if_false]
  have h2 : ∀ b : Bool, b = (longB c.2.1 || longB c.2.2.1 || longB c.2.2.2.1 || longB c.2.2.2.2.1 || longB c.2.2.2.2.2.1 || c.2.2.2.2.2.2.2.1.any longB) → transomref14_PutChange.s2 (k + 2) b c = some (if chkC c ≠ 0 then (mL [], chkC c) else if (defS c).2.2.2 = true then (if tabS (defS c).1 (defS c).2.1 (defS c).2.2.1 ≠ 0 then (mL [], tabS (defS c).1 (defS c).2.1 (defS c).2.2.1) else (mL (chB c ++ tabB (defS c).1 (defS c).2.1 (defS c).2.2.1), 0)) else (mL (chB c), 0)) := by
   intro b hb'
   have hc : chkC c = if b = true then 8 else 0 := by unfold chkC; rw [if_neg hb, hb']
   cases b with
   | true =>
    have hc8 : chkC c = 8 := hc
    rw [hc8, if_pos (by decide)]
    simp only [transomref14_PutChange.s2, transomref14_PutChange.s2c, cond_true]
   | false =>
    have hc0 : chkC c = 0 := hc
    have n0 : ¬ chkC c ≠ 0 := by simp [hc0]
    rw [if_neg n0]
    have e3 := h3 hc0
    obtain ⟨q, hq⟩ : ∃ q, q = k + 1 := ⟨_, rfl⟩
    rw [← hq] at e3
    have : k + 2 = q + 1 := by omega
    rw [this]
    simp only [transomref14_PutChange.s2, transomref14_PutChange.s2c, cond_false, e3, Option.bind_fun_some]
  obtain ⟨q, hq⟩ : ∃ q, q = k + 2 := ⟨_, rfl⟩
  rw [← hq] at r1 r2 h2
  have hk4 : k + 4 = q + 1 + 1 := by omega
  rw [hk4]
  simp only [b0, b1, b2, b3, b4, decide_false, cond_false, transomref14_PutChange.s0, transomref14_PutChange.s0c, transomref14_PutChange.s1, transomref14_PutChange.s1c, r1, r2, Option.bind_some, Option.bind_fun_some]
  cases d : [c.2.1, c.2.2.1, c.2.2.2.1, c.2.2.2.2.1, c.2.2.2.2.2.1].any longB with
  | true =>
   rw [d, Bool.true_or] at hany
   exact h2 true hany
  | false =>
   rw [d, Bool.false_or] at hany
   exact h2 _ hany
end Go.Proofs.YtaehpfmnejeddaaGreatDoor.Aev
