import Derived.Test.YtimadphjdkjgaaaGreatDoorF2
import Derived.Test.YtimadphjdkjgaaaGreatDoorF7
import Derived.Test.YtimadphjdkjgaaaGreatDoorF9
import Derived.Test.YtimadphjdkjgaaaGreatDoorF10
import Derived.Test.YtimadphjdkjgaaaGreatDoorLineB

/- Steps as lines: the document's words; and that the program's lines are these. -/
namespace Go.Proofs.YtimadphjdkjgaaaGreatDoor.Aev
open Go
set_option linter.unusedVariables false
set_option linter.unusedSimpArgs false
set_option maxRecDepth 100000
theorem sq_w0 (w : ByteArray) (p : P2) : sq (0, [w]) p = (p.1, w :: p.2) := by simp [sq]
def RefP (r : Option (ByteArray × Int)) (p : P2) (n : Nat) : Prop := ∃ s, r = some (mkW s, p.1) ∧ (p.1 = 0 → s = jb p.2) ∧ s.length ≤ n
def RefJ (r : Option (ByteArray × Int)) (p : P2) (n : Nat) : Prop := ∃ s, r = some (mkW s, p.1) ∧ (p.1 = 0 → s = jn p.2) ∧ s.length ≤ n
theorem ne_beq {a : Int} (h : a = 0) : (a != 0) = false := by rw [h]; rfl
theorem ne_bne {a : Int} (h : ¬ a = 0) : (a != 0) = true := bne_iff_ne.2 h
theorem nameS_len {l : List UInt8} (h : nameS l = 0) : l.length ≤ 16 := by
 unfold nameS at h
 split at h
 ·simp at h
 ·omega
theorem rsmall (n : Int) (h0 : -9223372036854775808 ≤ n) (h1 : n ≤ 9223372036854775807) (k : Nat) (hk : 100 ≤ k) : RefP (r37_small.f k n) (numP n) 21 := by
 have d := refdigits_eq n h0 h1 k hk
 have hl := (digL_len n h0 h1).1
 have g : (digL n).length ≤ 4611686018427387903 := by omega
 simp only [r37_small.f, r37_small.c, d, os, ba_size, g, decide_true, Bool.and_self, cond_true, ba_append]
 unfold RefP numP
 by_cases c0 : n < 0
 ·rw [decide_eq_true c0, cond_true, if_pos (.inl c0)]
  exact ⟨[], rfl, fun h => by simp at h, by simp⟩
 ·by_cases c1 : n > 1000
  ·rw [decide_eq_false c0, cond_false, decide_eq_true c1, cond_true, if_pos (.inr c1)]
   exact ⟨[], rfl, fun h => by simp at h, by simp⟩
  ·rw [decide_eq_false c0, cond_false, decide_eq_false c1, cond_false, if_neg (by omega)]
   exact ⟨_, rfl, fun _ => by rw [jb_one]; rfl, by simp; omega⟩
theorem rnames_s0 (l : List ByteArray) (hl : l.length ≤ 100) : ∀ (m i : Nat) (x : List UInt8), i + m = l.length → x.length ≤ 17 * i → ∀ k, m + 100 < k →
  ∃ s, r37_names.s0 k l (mkW x) (i : Int) = some (mkW s, (nmP (l.drop i)).1) ∧ ((nmP (l.drop i)).1 = 0 → s = x ++ jb (nmP (l.drop i)).2) ∧ s.length ≤ 17 * l.length := by
 intro m
 induction m with
 | zero =>
  intro i x hi hx k hk
  obtain ⟨k, rfl⟩ : ∃ q, k = q + 1 := ⟨k - 1, by omega⟩
  have e : ¬ (i : Int) < (l.length : Int) := by omega
  rw [List.drop_eq_nil_of_le (by omega)]
  simp only [r37_names.s0, r37_names.s0c, e, decide_false, cond_false]
  exact ⟨x, rfl, fun _ => by simp [nmP, jb], by omega⟩
 | succ m ih =>
  intro i x hi hx k hk
  obtain ⟨k, rfl⟩ : ∃ q, k = q + 1 := ⟨k - 1, by omega⟩
  have hlt : i < l.length := by omega
  have e0 : (i : Int) < (l.length : Int) := by omega
  have e1 : (0 : Int) ≤ (i : Int) := by omega
  have e2 : IntKind.wrap IntKind.i64 ((i : Int) + 1) = ((i + 1 : Nat) : Int) := by rw [i64w (by omega) (by omega)]; omega
  have c := rncheck_eq l[i] k (by omega)
  rw [List.drop_eq_getElem_cons hlt]
  simp only [r37_names.s0, r37_names.s0c, e0, e1, e2, elem_str hlt, c, decide_true, Bool.and_self, Bool.and_true, cond_true, os, ofs, nmP]
  by_cases q : nameS l[i].data.toList = 0
  ·have hn := nameS_len q
   have g1 : x.length ≤ 4611686018427387903 := by omega
   have g2 : (x ++ [32]).length ≤ 4611686018427387903 := by simp; omega
   have g3 : (l[i]).size ≤ 4611686018427387903 := by
    have : (l[i]).size = l[i].data.toList.length := by rw [Array.length_toList]; rfl
    omega
   have happ : mkW (x ++ [32]) ++ l[i] = mkW (x ++ 32 :: l[i].data.toList) := by
    refine (congrArg (fun z => mkW (x ++ [32]) ++ z) (ba_of l[i])).trans ?_
    rw [ba_append, List.append_assoc]; rfl
   obtain ⟨s, h1, h2, h3⟩ := ih (i + 1) (x ++ 32 :: l[i].data.toList) (by omega) (by rw [List.length_append, List.length_cons]; omega) k (by omega)
   rw [ne_beq q]
   simp only [ba_size, g1, ba_append, g2, g3, happ, decide_true, Bool.and_self, cond_true, cond_false, h1]
   have hq : (sq (nameS l[i].data.toList, [l[i]]) (nmP (l.drop (i + 1)))).1 = (nmP (l.drop (i + 1))).1 := by simp [sq, q]
   refine ⟨s, by rw [hq], fun h => ?_, h3⟩
   rw [hq] at h
   rw [h2 h, sq, jb_app, jb_one, List.append_assoc]
  ·rw [ne_bne q, cond_true]
   have hq : (sq (nameS l[i].data.toList, [l[i]]) (nmP (l.drop (i + 1)))).1 = nameS l[i].data.toList := by simp [sq, q]
   exact ⟨[], by rw [hq], fun h => absurd (hq ▸ h) q, by simp⟩
theorem rnames (l : List ByteArray) (hl : l.length ≤ 100) (k : Nat) (hk : 300 ≤ k) : RefP (r37_names.f k l) (nmP l) (17 * l.length) := by
 obtain ⟨s, h1, h2, h3⟩ := rnames_s0 l hl l.length 0 [] (by omega) (by simp) k (by omega)
 simp only [r37_names.f, r37_names.c, ofs]
 exact ⟨s, h1, fun h => by simpa using h2 h, h3⟩
theorem rvalues_s0 (l : List V) (hl : l.length ≤ 100) (hv : ∀ v ∈ l, OkV v) : ∀ (m i : Nat) (x : List UInt8), i + m = l.length → x.length ≤ 8011 * i → ∀ k, m + 600000 < k →
  ∃ s, r37_values.s0 k l (mkW x) (i : Int) = some (mkW s, (vsL (l.drop i)).1) ∧ ((vsL (l.drop i)).1 = 0 → s = x ++ jb (vsL (l.drop i)).2) ∧ s.length ≤ 8011 * l.length := by
 intro m
 induction m with
 | zero =>
  intro i x hi hx k hk
  obtain ⟨k, rfl⟩ : ∃ q, k = q + 1 := ⟨k - 1, by omega⟩
  have e : ¬ (i : Int) < (l.length : Int) := by omega
  rw [List.drop_eq_nil_of_le (by omega)]
  simp only [r37_values.s0, r37_values.s0c, e, decide_false, cond_false]
  exact ⟨x, rfl, fun _ => by simp [vsL, jb], by omega⟩
 | succ m ih =>
  intro i x hi hx k hk
  obtain ⟨k, rfl⟩ : ∃ q, k = q + 1 := ⟨k - 1, by omega⟩
  have hlt : i < l.length := by omega
  have e0 : (i : Int) < (l.length : Int) := by omega
  have e1 : (0 : Int) ≤ (i : Int) := by omega
  have e2 : IntKind.wrap IntKind.i64 ((i : Int) + 1) = ((i + 1 : Nat) : Int) := by rw [i64w (by omega) (by omega)]; omega
  have he : elem T_api_Value l (i : Int) = l[i] := elem_at hlt
  have hvi := hv (l[i]) (List.getElem_mem _)
  have c := rshw_f hvi k (by omega)
  have hn := shw_len hvi
  rw [List.drop_eq_getElem_cons hlt]
  simp only [r37_values.s0, r37_values.s0c, e0, e1, e2, he, c, decide_true, Bool.and_self, Bool.and_true, cond_true, os, ofs, vsL]
  by_cases q : (shw l[i]).2 = 0
  ·have g1 : x.length ≤ 4611686018427387903 := by omega
   have g2 : (x ++ [32]).length ≤ 4611686018427387903 := by simp; omega
   have g3 : (shw l[i]).1.length ≤ 4611686018427387903 := by omega
   obtain ⟨s, h1, h2, h3⟩ := ih (i + 1) (x ++ [32] ++ (shw l[i]).1) (by omega) (by simp; omega) k (by omega)
   rw [ne_beq q]
   simp only [ba_size, g1, ba_append, g2, g3, decide_true, Bool.and_self, cond_true, cond_false, h1]
   have hq : (sq (vP l[i]) (vsL (l.drop (i + 1)))).1 = (vsL (l.drop (i + 1))).1 := by simp [sq, vP, q]
   refine ⟨s, by rw [hq], fun h => ?_, h3⟩
   rw [hq] at h
   rw [h2 h, sq, jb_app, vP, jb_one, List.append_assoc, List.append_assoc]; rfl
  ·rw [ne_bne q, cond_true]
   have hq : (sq (vP l[i]) (vsL (l.drop (i + 1)))).1 = (shw l[i]).2 := by simp [sq, vP, q]
   exact ⟨[], by rw [hq], fun h => absurd (hq ▸ h) q, by simp⟩
theorem rvalues (l : List V) (hv : ∀ v ∈ l, OkV v) (k : Nat) (hk : 700000 ≤ k) : RefP (r37_values.f k l) (vsP l) 64088 := by
 simp only [r37_values.f, r37_values.c, ofs]
 unfold vsP
 by_cases c : 8 < l.length
 ·have c' : (l.length : Int) > 8 := by omega
  rw [decide_eq_true c', cond_true, if_pos c]
  exact ⟨[], rfl, fun h => by simp at h, by simp⟩
 ·have c' : ¬ (l.length : Int) > 8 := by omega
  rw [decide_eq_false c', cond_false, if_neg c]
  obtain ⟨s, h1, h2, h3⟩ := rvalues_s0 l (by omega) hv l.length 0 [] (by omega) (by simp) k (by omega)
  exact ⟨s, h1, fun h => by simpa using h2 h, by omega⟩
theorem nameV_len (a : Int) : (nameV a).length ≤ 5 := by unfold nameV; (repeat' split) <;> simp
theorem rkind (a : Int) (k : Nat) : RefP (r37_kind.f k a) (kdP a) 6 := by
 have d := rname_f a k
 have hl := nameV_len a
 have g : (nameV a).length ≤ 4611686018427387903 := by omega
 simp only [r37_kind.f, r37_kind.c, d, os, ba_size, g, decide_true, Bool.and_self, cond_true, ba_append]
 unfold RefP kdP
 by_cases c0 : a < 1
 ·rw [decide_eq_true c0, cond_true, if_pos (.inl c0)]
  exact ⟨[], rfl, fun h => by simp at h, by simp⟩
 ·by_cases c1 : a > 5
  ·rw [decide_eq_false c0, cond_false, decide_eq_true c1, cond_true, if_pos (.inr c1)]
   exact ⟨[], rfl, fun h => by simp at h, by simp⟩
  ·rw [decide_eq_false c0, cond_false, decide_eq_false c1, cond_false, if_neg (by omega)]
   exact ⟨_, rfl, fun _ => by rw [jb_one]; rfl, by simp; omega⟩
theorem rcol {c : C} (hv : OkV c.2.2.2.1) (k : Nat) (hk : 700000 ≤ k) : RefP (r37_col.f k c.1 c.2.1 c.2.2.1 c.2.2.2.1.1 c.2.2.2.1.2.1 c.2.2.2.1.2.2.1 c.2.2.2.1.2.2.2.1) (colP c) 8040 := by
 obtain ⟨k, rfl⟩ : ∃ q, k = q + 1 := ⟨k - 1, by omega⟩
 obtain ⟨s1, a1, a2, a3⟩ := rnames [c.1] (by simp) (k + 1) (by omega)
 obtain ⟨s2, b1, b2, b3⟩ := rkind c.2.1 (k + 1)
 have d := rshw_f hv k (by omega)
 have hn := shw_len hv
 have a3 : s1.length ≤ 17 := by simpa using a3
 have S0 : ∀ w : List UInt8, w.length ≤ 5 → r37_col.s0 (k + 1) (mkW s1) (mkW s2) (mkW w) c.1 c.2.1 c.2.2.1 c.2.2.2.1.1 c.2.2.2.1.2.1 c.2.2.2.1.2.2.1 c.2.2.2.1.2.2.2.1 = some (mkW (s1 ++ s2 ++ w ++ [32] ++ (shw c.2.2.2.1).1), (shw c.2.2.2.1).2) := by
  intro w hw
  have g1 : s1.length ≤ 4611686018427387903 := by omega
  have g2 : s2.length ≤ 4611686018427387903 := by omega
  have g3 : (s1 ++ s2).length ≤ 4611686018427387903 := by simp; omega
  have g4 : w.length ≤ 4611686018427387903 := by omega
  have g5 : (s1 ++ s2 ++ w).length ≤ 4611686018427387903 := by simp; omega
  have g6 : (s1 ++ s2 ++ w ++ [32]).length ≤ 4611686018427387903 := by simp; omega
  have g7 : (shw c.2.2.2.1).1.length ≤ 4611686018427387903 := by omega
  simp only [r37_col.s0, r37_col.s0c, d, os, ba_size, ba_append, g1, g2, g3, g4, g5, g6, g7, decide_true, Bool.and_self, Bool.and_true, cond_true]
 simp only [r37_col.f, r37_col.c, a1, b1, os, ofs]
 unfold RefP colP
 by_cases q1 : (nmP [c.1]).1 = 0
 ·rw [ne_beq q1, cond_false]
  by_cases q2 : (kdP c.2.1).1 = 0
  ·rw [ne_beq q2, cond_false]
   have hp1 : (sq (nmP [c.1]) (sq (kdP c.2.1) (sq (0, [nullW c.2.2.1]) (vP c.2.2.2.1)))).1 = (shw c.2.2.2.1).2 := by simp [sq, q1, q2, vP]
   have hp2 : (sq (nmP [c.1]) (sq (kdP c.2.1) (sq (0, [nullW c.2.2.1]) (vP c.2.2.2.1)))).2 = (nmP [c.1]).2 ++ ((kdP c.2.1).2 ++ ([nullW c.2.2.1] ++ (vP c.2.2.2.1).2)) := rfl
   rw [hp1, hp2, jb_app, jb_app, jb_app, ← a2 q1, ← b2 q2, vP, jb_one, jb_one]
   cases hb : c.2.2.1 with
   | true =>
    rw [hb] at S0
    have := S0 [32, 110, 117, 108, 108] (by simp)
    refine ⟨_, by rw [cond_true]; exact this, fun _ => ?_, by simp; omega⟩
    have e : (nullW true).data.toList = [110, 117, 108, 108] := rfl
    rw [e]
    simp [ba_data]
   | false =>
    rw [hb] at S0
    have := S0 [32, 115, 101, 116] (by simp)
    refine ⟨_, by rw [cond_false]; exact this, fun _ => ?_, by simp; omega⟩
    have e : (nullW false).data.toList = [115, 101, 116] := rfl
    rw [e]
    simp [ba_data]
  ·rw [ne_bne q2, cond_true]
   have hp1 : (sq (nmP [c.1]) (sq (kdP c.2.1) (sq (0, [nullW c.2.2.1]) (vP c.2.2.2.1)))).1 = (kdP c.2.1).1 := by simp [sq, q1, q2]
   exact ⟨[], by rw [hp1], fun h => absurd (hp1 ▸ h) q2, by simp⟩
 ·rw [ne_bne q1, cond_true]
  have hp1 : (sq (nmP [c.1]) (sq (kdP c.2.1) (sq (0, [nullW c.2.2.1]) (vP c.2.2.2.1)))).1 = (nmP [c.1]).1 := by simp [sq, q1]
  exact ⟨[], by rw [hp1], fun h => absurd (hp1 ▸ h) q1, by simp⟩
theorem rcols_s0 (l : List C) (hl : l.length ≤ 100) (hv : ∀ c ∈ l, OkV c.2.2.2.1) (nm : ByteArray) (a : Int) : ∀ (m i : Nat) (x : List UInt8), i + m = l.length → x.length ≤ 1000 + 8040 * i → ∀ k, m + 700000 < k →
  ∃ s, r37_create.s0 k (mkW x) (i : Int) nm a l = some (mkW s, (colsL (l.drop i)).1) ∧ ((colsL (l.drop i)).1 = 0 → s = x ++ jb (colsL (l.drop i)).2) ∧ s.length ≤ 1000 + 8040 * l.length := by
 intro m
 induction m with
 | zero =>
  intro i x hi hx k hk
  obtain ⟨k, rfl⟩ : ∃ q, k = q + 1 := ⟨k - 1, by omega⟩
  have e : ¬ (i : Int) < (l.length : Int) := by omega
  rw [List.drop_eq_nil_of_le (by omega)]
  simp only [r37_create.s0, r37_create.s0c, e, decide_false, cond_false]
  exact ⟨x, rfl, fun _ => by simp [colsL, jb], by omega⟩
 | succ m ih =>
  intro i x hi hx k hk
  obtain ⟨k, rfl⟩ : ∃ q, k = q + 1 := ⟨k - 1, by omega⟩
  have hlt : i < l.length := by omega
  have e0 : (i : Int) < (l.length : Int) := by omega
  have e1 : (0 : Int) ≤ (i : Int) := by omega
  have e2 : IntKind.wrap IntKind.i64 ((i : Int) + 1) = ((i + 1 : Nat) : Int) := by rw [i64w (by omega) (by omega)]; omega
  obtain ⟨t, c1, c2, c3⟩ := rcol (hv (l[i]) (List.getElem_mem _)) k (by omega)
  rw [List.drop_eq_getElem_cons hlt]
  simp only [r37_create.s0, r37_create.s0c, e0, e1, e2, elem_c hlt, c1, decide_true, Bool.and_self, Bool.and_true, cond_true, os, ofs, colsL]
  by_cases q : (colP l[i]).1 = 0
  ·have g1 : x.length ≤ 4611686018427387903 := by omega
   have g2 : t.length ≤ 4611686018427387903 := by omega
   obtain ⟨s, h1, h2, h3⟩ := ih (i + 1) (x ++ t) (by omega) (by simp; omega) k (by omega)
   rw [ne_beq q]
   simp only [ba_size, g1, g2, ba_append, decide_true, Bool.and_self, cond_true, cond_false, h1]
   have hq : (sq (colP l[i]) (colsL (l.drop (i + 1)))).1 = (colsL (l.drop (i + 1))).1 := by simp [sq, q]
   refine ⟨s, by rw [hq], fun h => ?_, h3⟩
   rw [hq] at h
   rw [h2 h, c2 q, sq, jb_app, List.append_assoc]
  ·rw [ne_bne q, cond_true]
   have hq : (sq (colP l[i]) (colsL (l.drop (i + 1)))).1 = (colP l[i]).1 := by simp [sq, q]
   exact ⟨[], by rw [hq], fun h => absurd (hq ▸ h) q, by simp⟩
theorem rnamed (w : List UInt8) (hw : w.length ≤ 20) (l : List ByteArray) (hl : l.length ≤ 100) (k : Nat) (hk : 300 ≤ k) : RefJ (r37_named.f k (mkW w) l) (sq (0, [mkW w]) (nmP l)) (20 + 17 * l.length) := by
 obtain ⟨s, h1, h2, h3⟩ := rnames l hl k hk
 have g1 : w.length ≤ 4611686018427387903 := by omega
 have g2 : s.length ≤ 4611686018427387903 := by omega
 simp only [r37_named.f, r37_named.c, h1, os, ba_size, ba_append, g1, g2, decide_true, Bool.and_self, cond_true]
 rw [sq_w0]
 by_cases q : (nmP l).1 = 0
 ·rw [ne_beq q, cond_false]
  exact ⟨w ++ s, by rw [q], fun h => by rw [h2 q]; rfl, by simp; omega⟩
 ·rw [ne_bne q, cond_true]
  exact ⟨[], rfl, fun h => absurd h q, by simp⟩
theorem rcreate (nm : ByteArray) (a : Int) (h0 : -9223372036854775808 ≤ a) (h1 : a ≤ 9223372036854775807) (l : List C) (hv : ∀ c ∈ l, OkV c.2.2.2.1) (k : Nat) (hk : 800000 ≤ k) :
  RefJ (r37_create.f k nm a l) (sq (0, [wCreate]) (sq (nmP [nm]) (sq (numP a) (colsP l)))) 70000 := by
 obtain ⟨s1, a1, a2, a3⟩ := rnames [nm] (by simp) k (by omega)
 obtain ⟨s2, b1, b2, b3⟩ := rsmall a h0 h1 k (by omega)
 have a3 : s1.length ≤ 17 := by simpa using a3
 simp only [r37_create.f, r37_create.c, a1, b1, os, ofs]
 rw [sq_w0]
 unfold RefJ
 by_cases q1 : (nmP [nm]).1 = 0
 ·rw [ne_beq q1, cond_false]
  by_cases q2 : (numP a).1 = 0
  ·rw [ne_beq q2, cond_false]
   have hp1 : (sq (nmP [nm]) (sq (numP a) (colsP l))).1 = (colsP l).1 := by simp [sq, q1, q2]
   have hp2 : (sq (nmP [nm]) (sq (numP a) (colsP l))).2 = (nmP [nm]).2 ++ ((numP a).2 ++ (colsP l).2) := rfl
   simp only [hp1, hp2]
   unfold colsP
   by_cases c : 8 < l.length
   ·have c' : (l.length : Int) > 8 := by omega
    rw [decide_eq_true c', cond_true, if_pos c]
    exact ⟨[], rfl, fun h => by simp at h, by simp⟩
   ·have c' : ¬ (l.length : Int) > 8 := by omega
    rw [decide_eq_false c', cond_false, if_neg c]
    have g1 : s1.length ≤ 4611686018427387903 := by omega
    have g2 : s2.length ≤ 4611686018427387903 := by omega
    have g3 : ([99, 114, 101, 97, 116, 101] ++ s1).length ≤ 4611686018427387903 := by simp; omega
    obtain ⟨s, h1, h2, h3⟩ := rcols_s0 l (by omega) hv nm a l.length 0 ([99, 114, 101, 97, 116, 101] ++ s1 ++ s2) (by omega) (by simp; omega) k (by omega)
    have h1' : r37_create.s0 k (mkW ([99, 114, 101, 97, 116, 101] ++ s1 ++ s2)) 0 nm a l = some (mkW s, (colsL l).1) := h1
    simp only [ba_size, ba_append, g1, g2, g3, decide_true, Bool.and_self, Bool.true_and, cond_true, h1']
    refine ⟨s, rfl, fun h => ?_, by omega⟩
    have := h2 h
    rw [this, a2 q1, b2 q2, jn, jb_app, jb_app, ba_data, List.append_assoc, List.append_assoc]
    rfl
  ·rw [ne_bne q2, cond_true]
   have hp1 : (sq (nmP [nm]) (sq (numP a) (colsP l))).1 = (numP a).1 := by simp [sq, q1, q2]
   exact ⟨[], by rw [hp1], fun h => absurd (hp1 ▸ h) q2, by simp⟩
 ·rw [ne_bne q1, cond_true]
  have hp1 : (sq (nmP [nm]) (sq (numP a) (colsP l))).1 = (nmP [nm]).1 := by simp [sq, q1]
  exact ⟨[], by rw [hp1], fun h => absurd (hp1 ▸ h) q1, by simp⟩
theorem fin_of {r : Option (ByteArray × Int)} {p : P2} {n : Nat} (h : RefJ r p n) : ∃ s, (r.bind fun r0 => (bif (r0.2 != (0 : Int)) then (some ((ByteArray.mk (List.toArray []) : ByteArray), r0.2)) else (some (r0.1, (0 : Int))))) = some (mkW s, p.1) ∧ (p.1 = 0 → s = jn p.2) ∧ s.length ≤ n := by
 obtain ⟨s, h1, h2, h3⟩ := h
 rw [h1, os]
 by_cases q : p.1 = 0
 ·exact ⟨s, by rw [ne_beq q, cond_false, q], h2, h3⟩
 ·exact ⟨[], by simp only [ne_bne q, cond_true], fun h => absurd h q, by simp⟩
theorem more_of {r t : Option (ByteArray × Int)} {p q : P2} {n m : Nat} (h : RefJ r p n) (g : RefP t q m) (hp : p.2 ≠ []) (hn : n ≤ 1000000) (hm : m ≤ 1000000) :
  ∃ s, (r.bind fun r1 => (bif (r1.2 == (0 : Int)) then (t.bind fun r2 => (bif ((decide (r1.1.size ≤ 4611686018427387903)) && (decide (r2.1.size ≤ 4611686018427387903))) then (bif (r2.2 != (0 : Int)) then (some ((ByteArray.mk (List.toArray []) : ByteArray), r2.2)) else (some ((r1.1 ++ r2.1), (0 : Int)))) else none)) else (bif (r1.2 != (0 : Int)) then (some ((ByteArray.mk (List.toArray []) : ByteArray), r1.2)) else (some (r1.1, (0 : Int)))))) = some (mkW s, (sq p q).1) ∧ ((sq p q).1 = 0 → s = jn (sq p q).2) ∧ s.length ≤ n + m := by
 obtain ⟨s, h1, h2, h3⟩ := h
 obtain ⟨s', g1, g2, g3⟩ := g
 rw [h1, os]
 by_cases c1 : p.1 = 0
 ·have e1 : (p.1 == 0) = true := beq_iff_eq.2 c1
  have z1 : s.length ≤ 4611686018427387903 := by omega
  have z2 : s'.length ≤ 4611686018427387903 := by omega
  simp only [e1, cond_true, g1, os, ba_size, ba_append, z1, z2, decide_true, Bool.and_self]
  have hq : (sq p q).1 = q.1 := by simp [sq, c1]
  by_cases c2 : q.1 = 0
  ·rw [ne_beq c2, cond_false]
   refine ⟨s ++ s', by rw [hq, c2], fun _ => ?_, by simp; omega⟩
   rw [sq, jn_app hp, h2 c1, g2 c2]
  ·rw [ne_bne c2, cond_true]
   exact ⟨[], by rw [hq], fun h => absurd (hq ▸ h) c2, by simp⟩
 ·have e1 : (p.1 == 0) = false := beq_eq_false_iff_ne.2 c1
  have hq : (sq p q).1 = p.1 := by simp [sq, c1]
  simp only [e1, cond_false, ne_bne c1, cond_true]
  exact ⟨[], by rw [hq], fun h => absurd (hq ▸ h) c1, by simp⟩
theorem rchange (c : Ch) (hc : OkCh c) (k : Nat) (hk : 900000 ≤ k) : RefJ (r37_Change.f k c) (chP c) 100000 := by
 simp only [r37_Change.f, r37_Change.c]
 unfold chP
 by_cases q1 : c.1 = 1
 ·rw [beq_iff_eq.2 q1, cond_true, if_pos q1]
  obtain ⟨s, a, b, d⟩ := fin_of (rcreate _ _ hc.keys.1 hc.keys.2 _ hc.cols k (by omega))
  exact ⟨s, a, b, by omega⟩
 ·rw [beq_eq_false_iff_ne.2 q1, cond_false, if_neg q1]
  by_cases q2 : c.1 = 2
  ·rw [beq_iff_eq.2 q2, cond_true, if_pos q2, ← sq_assoc]
   have hn := rnamed [97, 100, 100] (by simp) [c.2.1] (by simp) k (by omega)
   obtain ⟨s, a, b, d⟩ := more_of hn (rcol hc.col k (by omega)) (by simp [sq]) (by simp) (by omega)
   exact ⟨s, a, b, by simp at d; omega⟩
  ·rw [beq_eq_false_iff_ne.2 q2, cond_false, if_neg q2]
   by_cases q3 : c.1 = 3
   ·rw [beq_iff_eq.2 q3, cond_true, if_pos q3]
    obtain ⟨s, a, b, d⟩ := fin_of (rnamed [100, 114, 111, 112] (by simp) [c.2.1, c.2.2.2.2.2.1] (by simp) k (by omega))
    exact ⟨s, a, b, by simp at d; omega⟩
   ·rw [beq_eq_false_iff_ne.2 q3, cond_false, if_neg q3]
    by_cases q4 : c.1 = 4
    ·rw [beq_iff_eq.2 q4, cond_true, if_pos q4, ← sq_assoc]
     have hn := rnamed [114, 101, 116, 121, 112, 101] (by simp) [c.2.1, c.2.2.2.2.2.1] (by simp) k (by omega)
     obtain ⟨s, a, b, d⟩ := more_of hn (rkind c.2.2.2.2.2.2.1 k) (by simp [sq]) (by simp) (by omega)
     exact ⟨s, a, b, by simp at d; omega⟩
    ·rw [beq_eq_false_iff_ne.2 q4, cond_false, if_neg q4]
     by_cases q5 : c.1 = 5
     ·rw [beq_iff_eq.2 q5, cond_true, if_pos q5, ← sq_assoc]
      have hs : RefJ (r37_split.f k c) (sq (sq (0, [wSplit]) (nmP [c.2.1, c.2.2.2.1, c.2.2.2.2.1])) (if 8 < c.2.2.2.2.2.2.2.1.length then (2, []) else nmP c.2.2.2.2.2.2.2.1)) 2000 := by
       obtain ⟨s, a, b, d⟩ := rnamed [115, 112, 108, 105, 116] (by simp) [c.2.1, c.2.2.2.1, c.2.2.2.2.1] (by simp) k (by omega)
       have d : s.length ≤ 71 := by simpa using d
       simp only [r37_split.f, r37_split.c, a, os]
       by_cases z : (sq (0, [wSplit]) (nmP [c.2.1, c.2.2.2.1, c.2.2.2.2.1])).1 = 0
       ·have z' : (sq (0, [mkW [115, 112, 108, 105, 116]]) (nmP [c.2.1, c.2.2.2.1, c.2.2.2.2.1])).1 = 0 := z
        rw [ne_beq z', cond_false]
        by_cases c8 : 8 < c.2.2.2.2.2.2.2.1.length
        ·have c' : (c.2.2.2.2.2.2.2.1.length : Int) > 8 := by omega
         rw [decide_eq_true c', cond_true, if_pos c8]
         have hq : (sq (sq (0, [wSplit]) (nmP [c.2.1, c.2.2.2.1, c.2.2.2.2.1])) ((2, []) : P2)).1 = 2 := by rw [sq, if_pos z]
         exact ⟨[], by rw [hq], fun h => by rw [hq] at h; simp at h, by simp⟩
        ·have c' : ¬ (c.2.2.2.2.2.2.2.1.length : Int) > 8 := by omega
         rw [decide_eq_false c', cond_false, if_neg c8]
         obtain ⟨s', a', b', d'⟩ := rnames c.2.2.2.2.2.2.2.1 (by omega) k (by omega)
         have z1 : s.length ≤ 4611686018427387903 := by omega
         have z2 : s'.length ≤ 4611686018427387903 := by omega
         have hq : (sq (sq (0, [wSplit]) (nmP [c.2.1, c.2.2.2.1, c.2.2.2.2.1])) (nmP c.2.2.2.2.2.2.2.1)).1 = (nmP c.2.2.2.2.2.2.2.1).1 := by rw [sq, if_pos z]
         simp only [a', os, ba_size, ba_append, z1, z2, decide_true, Bool.and_self, cond_true]
         refine ⟨s ++ s', by rw [hq], fun h => ?_, by simp; omega⟩
         rw [hq] at h
         rw [sq, jn_app (by simp [sq]), b z, b' h]
       ·have z' : ¬ (sq (0, [mkW [115, 112, 108, 105, 116]]) (nmP [c.2.1, c.2.2.2.1, c.2.2.2.2.1])).1 = 0 := z
        rw [ne_bne z', cond_true]
        have hq : ∀ p, (sq (sq (0, [wSplit]) (nmP [c.2.1, c.2.2.2.1, c.2.2.2.2.1])) p).1 = (sq (0, [wSplit]) (nmP [c.2.1, c.2.2.2.1, c.2.2.2.2.1])).1 := fun p => by rw [sq, if_neg z]
        exact ⟨[], by rw [hq], fun h => absurd (hq _ ▸ h) z, by simp⟩
      obtain ⟨s, a, b, d⟩ := fin_of hs
      exact ⟨s, a, b, by omega⟩
     ·rw [beq_eq_false_iff_ne.2 q5, cond_false, if_neg q5]
      by_cases q6 : c.1 = 6
      ·rw [beq_iff_eq.2 q6, cond_true, if_pos q6]
       obtain ⟨s, a, b, d⟩ := fin_of (rnamed [109, 101, 114, 103, 101] (by simp) [c.2.1, c.2.2.1, c.2.2.2.1] (by simp) k (by omega))
       exact ⟨s, a, b, by simp at d; omega⟩
      ·rw [beq_eq_false_iff_ne.2 q6, cond_false, if_neg q6]
       exact ⟨[], rfl, fun h => by simp at h, by simp⟩
end Go.Proofs.YtimadphjdkjgaaaGreatDoor.Aev
