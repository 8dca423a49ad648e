import Derived.Test.YtimadphjdkjgaaaDoorF0
import Derived.Test.YtimadphjdkjgaaaDoorLineT

/- What is not too great, of what is asked. -/
namespace Go.Proofs.YtimadphjdkjgaaaDoor.Aev
open Go
set_option linter.unusedVariables false
set_option linter.unusedSimpArgs false
set_option maxRecDepth 100000
theorem elem_t {l : List ByteArray} {i : Nat} (h : i < l.length) : elem Ty.str l (i : Int) = l[i] := elem_str h
theorem few08_s0 (l : List ByteArray) (hl : l.length ≤ 60) : ∀ (m i : Nat), i + m = l.length → ∀ k, m < k →
  ∃ r, transomlaw08_Few.s0 k l (i : Int) = some r ∧ (r = 0 ∨ ∀ s ∈ l.drop i, s.size ≤ 500) := by
 intro m
 induction m with
 | zero =>
  intro i hi k hk
  obtain ⟨k, rfl⟩ : ∃ q, k = q + 1 := ⟨k - 1, by omega⟩
  have e : ¬ (i : Int) < (l.length : Int) := by omega
  rw [List.drop_eq_nil_of_le (by omega)]
  simp only [transomlaw08_Few.s0, transomlaw08_Few.s0c, e, decide_false, cond_false]
  exact ⟨1, rfl, .inr (by simp)⟩
 | succ m ih =>
  intro i hi k hk
  obtain ⟨k, rfl⟩ : ∃ q, k = q + 1 := ⟨k - 1, by omega⟩
  have hlt : i < l.length := by omega
  have e0 : (i : Int) < (l.length : Int) := by omega
  have e1 : (0 : Int) ≤ (i : Int) := by omega
  have e2 : IntKind.wrap IntKind.i64 ((i : Int) + 1) = ((i + 1 : Nat) : Int) := by rw [i64w (by omega) (by omega)]; omega
  obtain ⟨r, h1, h2⟩ := ih (i + 1) (by omega) k (by omega)
  rw [List.drop_eq_getElem_cons hlt]
  simp only [transomlaw08_Few.s0, transomlaw08_Few.s0c, e0, e1, e2, elem_t hlt, h1, decide_true, Bool.and_self, cond_true, os, ofs]
  by_cases c : ((l[i]).size : Int) > 500
  ·simp only [c, decide_true, cond_true]; exact ⟨0, rfl, .inl rfl⟩
  ·simp only [c, decide_false, cond_false]
   refine ⟨r, rfl, h2.imp id fun h => ?_⟩
   rw [List.forall_mem_cons]
   exact ⟨by omega, h⟩
theorem few08 (l : List ByteArray) (k : Nat) (hk : 100 ≤ k) : ∃ r, transomlaw08_Few.f k l = some r ∧ (r = 0 ∨ (l.length ≤ 60 ∧ ∀ s ∈ l, s.size ≤ 500)) := by
 simp only [transomlaw08_Few.f, transomlaw08_Few.c]
 by_cases c : (l.length : Int) > 60
 ·simp only [c, decide_true, cond_true]; exact ⟨0, rfl, .inl rfl⟩
 ·obtain ⟨r, h1, h2⟩ := few08_s0 l (by omega) l.length 0 (by omega) k (by omega)
  have h1' : transomlaw08_Few.s0 k l 0 = some r := h1
  simp only [c, decide_false, cond_false, h1', os, ofs]
  exact ⟨r, rfl, h2.imp id fun h => ⟨by omega, by simpa using h⟩⟩
theorem okv {v : V} (h : Fit T_api_Value v) (hs : v.2.2.2.1.size ≤ 2000) : OkV v := by
 obtain ⟨h1, h2, h3, _⟩ := h
 exact ⟨hs, nat_of_u64 h3, by simpa [Fit, IntKind.min, IntKind.max, IntKind.signed, IntKind.bits] using h2⟩
theorem few10 (c : Ch) (hf : Fit T_api_Change c) (k : Nat) (hk : 200 ≤ k) : ∃ r, transomlaw10_Few.f k c = some r ∧ (r = 0 ∨ OkCh c) := by
 obtain ⟨f1, f2, f3, f4, f5, f6, f7, f8, f9, f10, _⟩ := hf
 obtain ⟨r1, h1, g1⟩ := few08 c.2.2.2.2.2.2.2.1 k (by omega)
 obtain ⟨r2, h2, g2⟩ := few08 [c.2.1, c.2.2.1, c.2.2.2.1, c.2.2.2.2.1, c.2.2.2.2.2.1, c.2.2.2.2.2.2.2.2.1.1] k (by omega)
 have h3 := few09 c.2.2.2.2.2.2.2.2.2.1.1 c.2.2.2.2.2.2.2.2.2.1.2.1 c.2.2.2.2.2.2.2.2.2.1.2.2.1 k (by omega)
 have h4 := few04' c.2.2.2.2.2.2.2.2.1.2.2.2.1.1 c.2.2.2.2.2.2.2.2.1.2.2.2.1.2.1 c.2.2.2.2.2.2.2.2.1.2.2.2.1.2.2.1 c.2.2.2.2.2.2.2.2.1.2.2.2.1.2.2.2.1 k
 simp only [transomlaw10_Few.f, transomlaw10_Few.c, h1, h2, h3, h4, os]
 by_cases c1 : r1 = 0
 ·simp only [c1, beq_self_eq_true, cond_true]; exact ⟨0, rfl, .inl rfl⟩
 ·by_cases c2 : r2 = 0
  ·simp only [beq_eq_false_iff_ne.2 c1, c2, beq_self_eq_true, cond_true, cond_false]; exact ⟨0, rfl, .inl rfl⟩
  ·simp only [beq_eq_false_iff_ne.2 c1, beq_eq_false_iff_ne.2 c2, cond_false]
   split
   ·rename_i c3
    have z1 : ((1 : Int) == 0) = false := rfl
    simp only [z1, cond_false]
    split
    ·rename_i c4
     simp only [z1, cond_false]
     refine ⟨1, rfl, .inr ?_⟩
     obtain ⟨v1, v2, v3, v4, _⟩ := f9
     obtain ⟨t1, t2, ⟨_, t3⟩, _⟩ := f10
     refine { keys := by simpa [Fit, IntKind.min, IntKind.max, IntKind.signed, IntKind.bits] using t2, cols := fun x hx => ?_, col := okv v4 c4 }
     obtain ⟨_, _, _, w4, _⟩ := t3 x hx
     exact okv w4 (c3.2.2 x hx).2
    ·exact ⟨0, rfl, .inl rfl⟩
   ·exact ⟨0, rfl, .inl rfl⟩
theorem okvs {l : List V} (h : Fit (.sl T_api_Value) l) (hs : ∀ v ∈ l, v.2.2.2.1.size ≤ 2000) : ∀ v ∈ l, OkV v := fun v hv => okv (h.2 v hv) (hs v hv)
theorem few13 (o : Oq) (hf : Fit T_api_Op o) (k : Nat) (hk : 200 ≤ k) : ∃ r, transomlaw13_FewOp.f k o = some r ∧ (r = 0 ∨ OkO o) := by
 obtain ⟨f1, f2, f3, f4, f5, f6, f7, _⟩ := hf
 have h1 := few05 o.2.2.1 k (by omega)
 have h2 := few05 o.2.2.2.1 k (by omega)
 have h3 := few05 o.2.2.2.2.1 k (by omega)
 obtain ⟨r, h4, g4⟩ := few10 o.2.2.2.2.2.2.1 f7 k hk
 have z1 : ((1 : Int) == 0) = false := rfl
 have z0 : ((0 : Int) == 0) = true := rfl
 simp only [transomlaw13_FewOp.f, transomlaw13_FewOp.c, h1, h2, h3, h4, os]
 by_cases c0 : (o.2.1.size : Int) > 500
 ·simp only [c0, decide_true, cond_true]; exact ⟨0, rfl, .inl rfl⟩
 ·simp only [c0, decide_false, cond_false]
  by_cases c1 : o.2.2.1.length ≤ 30 ∧ ∀ v ∈ o.2.2.1, v.2.2.2.1.size ≤ 2000
  ·rw [if_pos c1]
   by_cases c2 : o.2.2.2.1.length ≤ 30 ∧ ∀ v ∈ o.2.2.2.1, v.2.2.2.1.size ≤ 2000
   ·rw [if_pos c2]
    by_cases c3 : o.2.2.2.2.1.length ≤ 30 ∧ ∀ v ∈ o.2.2.2.2.1, v.2.2.2.1.size ≤ 2000
    ·rw [if_pos c3]
     by_cases c4 : r = 0
     ·simp only [z1, c4, z0, cond_false, cond_true]; exact ⟨0, rfl, .inl rfl⟩
     ·simp only [z1, beq_eq_false_iff_ne.2 c4, cond_false]
      exact ⟨1, rfl, .inr { max := by simpa [Fit, IntKind.min, IntKind.max, IntKind.signed, IntKind.bits] using f6, row := okvs f3 c1.2, lo := okvs f4 c2.2, hi := okvs f5 c3.2, ch := g4.resolve_left c4 }⟩
    ·rw [if_neg c3]; simp only [z1, z0, cond_false, cond_true]; exact ⟨0, rfl, .inl rfl⟩
   ·rw [if_neg c2]; simp only [z1, z0, cond_false, cond_true]; exact ⟨0, rfl, .inl rfl⟩
  ·rw [if_neg c1]; simp only [z1, z0, cond_false, cond_true]; exact ⟨0, rfl, .inl rfl⟩
end Go.Proofs.YtimadphjdkjgaaaDoor.Aev
