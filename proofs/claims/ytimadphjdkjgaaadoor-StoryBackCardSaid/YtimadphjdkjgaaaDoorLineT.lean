import Derived.Test.YtimadphjdkjgaaaDoorF0
import Derived.Test.YtimadphjdkjgaaaDoorF2
import Derived.Test.YtimadphjdkjgaaaDoorF3
import Derived.Test.YtimadphjdkjgaaaDoorLineS
import Derived.Test.YtimadphjdkjgaaaDoorWGood

/- Steps as lines: the program's lines. -/
namespace Go.Proofs.YtimadphjdkjgaaaDoor.Aev
open Go
set_option linter.unusedVariables false
set_option linter.unusedSimpArgs false
set_option maxRecDepth 100000
theorem jn_count : ∀ (l : List ByteArray), l.length ≤ (jn l).length + 1
 | [] => by simp
 | x :: r => by
  have : ∀ r : List ByteArray, r.length ≤ (jb r).length := by
   intro r
   induction r with
   | nil => simp
   | cons y r ih => rw [jb_cons]; simp; omega
  have := this r
  rw [jn]; simp; omega
theorem join_eq (l : List ByteArray) (h : (jn l).length ≤ 35184372088831) (k : Nat) : strings_Join.f k l (mkW [32]) = some (mkW (jn l)) := by
 have := jn_count l
 unfold strings_Join.f
 rw [joinL_jn, if_pos ⟨by omega, by omega⟩]
noncomputable def txtP (p : P2) : ByteArray × Int := if p.1 = 0 then (mkW (jn p.2), 0) else (mkW [], p.1)
theorem text0_eq (p : P2) (h : p.1 = 0 → (jn p.2).length ≤ 400000) (k : Nat) : sw_text.f0 k p.1 p.2 = some (.inl ((txtP p).1, (txtP p).2, p)) := by
 simp only [sw_text.f0, sw_text.c0, txtP]
 by_cases c : p.1 = 0
 ·rw [ne_beq c, cond_false, if_pos c, join_eq _ (by have := h c; omega)]; rfl
 ·rw [ne_bne c, cond_true, if_neg c]
theorem text1_eq (e : Int) (c : ¬ e = 0) (k : Nat) : sw_text.f1 k e = some (.inr (mkW [], e, e)) := by
 simp only [sw_text.f1, sw_text.c1]
 rw [ne_bne c, cond_true]
theorem line_eq (s : Sp) (hs : OkS s) (k : Nat) (hk : 900010 ≤ k) : story_Line.f k s = some (txtP (linP s)) := by
 have T0 := text0_eq (linP s) (line_len hs) k
 obtain ⟨l, e1, e2⟩ := plain_eq k
 simp only [story_Line.f, story_Line.c, e1, e2, os]
 revert T0
 unfold linP
 cases hv : plainW s.1 with
 | some w =>
  intro T0
  simp only [Option.isSome_some, cond_true, Option.getD_some]
  simp [txtP, jn, jb]
 | none =>
  simp only [Option.isSome_none, cond_false]
  by_cases c1 : s.1 = 1
  ·rw [if_pos c1]
   intro T0
   have w1 := word1_eq [mkW [97, 115, 107]] 0 (by simp) k
   have e0 : sq ((0, []) : P2) (0, [mkW [97, 115, 107]]) = (0, [mkW [97, 115, 107]]) := rfl
   rw [e0] at w1
   have w2 := number_w s.2.1 hs.at'.1 hs.at'.2 (0, [mkW [97, 115, 107]]) (by simp) k (by omega)
   have l2 : (sq (0, [mkW [97, 115, 107]]) (numP s.2.1)).2.length ≤ 300 := by simp [sq, numP]
   have w3 := op_w s.2.2.1 hs.op (sq (0, [mkW [97, 115, 107]]) (numP s.2.1)) l2 k (by omega)
   rw [sq_assoc] at w3
   rw [beq_iff_eq.2 c1, cond_true]
   simp only [w1, w2, w3, T0, os, Sum.elim_inl]
  ·rw [if_neg c1]
   by_cases c2 : s.1 = 2
   ·rw [if_pos c2]
    intro T0
    have w1 := word1_eq [mkW [114, 117, 110]] 0 (by simp) k
    have e0 : sq ((0, []) : P2) (0, [mkW [114, 117, 110]]) = (0, [mkW [114, 117, 110]]) := rfl
    rw [e0] at w1
    have w2 := number_w s.2.1 hs.at'.1 hs.at'.2 (0, [mkW [114, 117, 110]]) (by simp) k (by omega)
    rw [beq_eq_false_iff_ne.2 c1, cond_false, beq_iff_eq.2 c2, cond_true]
    simp only [w1, w2, T0, os, Sum.elim_inl]
   ·rw [if_neg c2]
    intro T0
    have w1 := fail1_eq 1 0 k
    have w1 : sw_fail.f1 k 1 0 = some (.inr 1) := w1
    rw [beq_eq_false_iff_ne.2 c1, cond_false, beq_eq_false_iff_ne.2 c2, cond_false]
    simp only [w1, text1_eq 1 (by omega) k, os, Sum.elim_inl, Sum.elim_inr]
    rfl
end Go.Proofs.YtimadphjdkjgaaaDoor.Aev
