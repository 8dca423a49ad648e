import Derived.Test.YtimadphjdkjgaaaGreatDoorF2
import Derived.Test.YtimadphjdkjgaaaGreatDoorF9
import Derived.Test.YtimadphjdkjgaaaGreatDoorF10
import Derived.Test.YtimadphjdkjgaaaGreatDoorLineR

/- Steps as lines: what is asked, and whole steps; the program's lines are the document's. -/
namespace Go.Proofs.YtimadphjdkjgaaaGreatDoor.Aev
open Go
set_option linter.unusedVariables false
set_option linter.unusedSimpArgs false
set_option maxRecDepth 100000
theorem jb_cons (x : ByteArray) (r : List ByteArray) : jb (x :: r) = 32 :: (x.data.toList ++ jb r) := by simp [jb]
theorem sq_ne {w : ByteArray} {p : P2} : (sq (0, [w]) p).2 ≠ [] := by simp [sq]
theorem chP_ne {c : Ch} (h : (chP c).1 = 0) : (chP c).2 ≠ [] := by
 unfold chP at h ⊢
 (repeat' split) <;> first | exact sq_ne | skip
 rename_i h1 h2 h3 h4 h5 h6
 rw [if_neg h1, if_neg h2, if_neg h3, if_neg h4, if_neg h5, if_neg h6] at h
 simp at h
theorem opP_ne {o : Oq} (h : (opP o).1 = 0) : (opP o).2 ≠ [] := by
 unfold opP at h ⊢
 by_cases c2 : o.1 = 2
 ·rw [if_pos c2]; exact sq_ne
 ·rw [if_neg c2] at h ⊢
  by_cases c6 : o.1 = 6
  ·rw [if_pos c6]; exact sq_ne
  ·rw [if_neg c6] at h ⊢
   cases hv : verbW o.1 with
   | none => rw [hv] at h; simp at h
   | some w =>
    simp only
    split
    ·exact sq_ne
    ·simp
theorem rscan (o : Oq) (ho : OkO o) (k : Nat) (hk : 800000 ≤ k) : RefJ (r37_scan.f k o) (sq (0, [wScan]) (sq (nmP [o.2.1]) (sq (numP o.2.2.2.2.2.1) (sq (vsP o.2.2.2.1) (sq (0, [wTo]) (vsP o.2.2.2.2.1)))))) 200000 := by
 obtain ⟨s0, a0, b0, d0⟩ := rnamed [115, 99, 97, 110] (by simp) [o.2.1] (by simp) k (by omega)
 obtain ⟨s1, a1, b1, d1⟩ := rsmall o.2.2.2.2.2.1 ho.max.1 ho.max.2 k (by omega)
 obtain ⟨s2, a2, b2, d2⟩ := rvalues o.2.2.2.1 ho.lo k (by omega)
 obtain ⟨s3, a3, b3, d3⟩ := rvalues o.2.2.2.2.1 ho.hi k (by omega)
 have d0 : s0.length ≤ 37 := by simpa using d0
 have ez : sq (0, [mkW [115, 99, 97, 110]]) (nmP [o.2.1]) = sq (0, [wScan]) (nmP [o.2.1]) := rfl
 rw [ez] at a0 b0
 simp only [r37_scan.f, r37_scan.c, a0, a1, a2, a3, os]
 rw [← sq_assoc, ← sq_assoc, ← sq_assoc, ← sq_assoc]
 generalize hp : sq (0, [wScan]) (nmP [o.2.1]) = p at b0 ⊢
 have hne : p.2 ≠ [] := by rw [← hp]; simp [sq]
 generalize numP o.2.2.2.2.2.1 = p1 at b1 ⊢
 generalize vsP o.2.2.2.1 = p2 at b2 ⊢
 generalize vsP o.2.2.2.2.1 = p3 at b3 ⊢
 unfold RefJ
 by_cases q0 : p.1 = 0
 ·rw [ne_beq q0, cond_false]
  by_cases q1 : p1.1 = 0
  ·rw [ne_beq q1, cond_false]
   by_cases q2 : p2.1 = 0
   ·rw [ne_beq q2, cond_false]
    have hq : (sq (sq (sq (sq p p1) p2) (0, [wTo])) p3).1 = p3.1 := by simp [sq, q0, q1, q2]
    have g0 : s0.length ≤ 4611686018427387903 := by omega
    have g1 : s1.length ≤ 4611686018427387903 := by omega
    have g2 : s2.length ≤ 4611686018427387903 := by omega
    have g3 : s3.length ≤ 4611686018427387903 := by omega
    have g4 : (s0 ++ s1).length ≤ 4611686018427387903 := by rw [List.length_append]; omega
    have g5 : (s0 ++ s1 ++ s2).length ≤ 4611686018427387903 := by rw [List.length_append, List.length_append]; omega
    have g6 : (s0 ++ s1 ++ s2 ++ [32, 116, 111]).length ≤ 4611686018427387903 := by rw [List.length_append, List.length_append, List.length_append]; simp; omega
    simp only [ba_size, ba_append, g0, g1, g2, g3, g4, g5, g6, decide_true, Bool.and_self, cond_true]
    refine ⟨s0 ++ s1 ++ s2 ++ [32, 116, 111] ++ s3, by rw [hq], fun h => ?_, by simp; omega⟩
    rw [hq] at h
    rw [sq, jn_app (by simp [sq]), sq, jn_app (by simp [sq, hne]), sq, jn_app (by simp [sq, hne]), sq, jn_app hne, b0 q0, b1 q1, b2 q2, b3 h, jb_one]
   ·rw [ne_bne q2, cond_true]
    have hq : (sq (sq (sq (sq p p1) p2) (0, [wTo])) p3).1 = p2.1 := by simp [sq, q0, q1, q2]
    exact ⟨[], by rw [hq], fun h => absurd (hq ▸ h) q2, by simp⟩
  ·rw [ne_bne q1, cond_true]
   have hq : (sq (sq (sq (sq p p1) p2) (0, [wTo])) p3).1 = p1.1 := by simp [sq, q0, q1]
   exact ⟨[], by rw [hq], fun h => absurd (hq ▸ h) q1, by simp⟩
 ·rw [ne_bne q0, cond_true]
  have hq : (sq (sq (sq (sq p p1) p2) (0, [wTo])) p3).1 = p.1 := by simp [sq, q0]
  exact ⟨[], by rw [hq], fun h => absurd (hq ▸ h) q0, by simp⟩
theorem rword (a : Int) (k : Nat) : r37_word.f k a = some ((verbW a).getD (mkW [])) := by
 simp only [r37_word.f, r37_word.c]
 unfold verbW
 by_cases c1 : a = 1
 ·subst c1; rfl
 ·by_cases c3 : a = 3
  ·subst c3; rfl
  ·by_cases c4 : a = 4
   ·subst c4; rfl
   ·by_cases c5 : a = 5
    ·subst c5; rfl
    ·by_cases c7 : a = 7
     ·subst c7; rfl
     ·by_cases c8 : a = 8
      ·subst c8; rfl
      ·by_cases c9 : a = 9
       ·subst c9; rfl
       ·simp only [c1, c3, c4, c5, c7, c8, c9, beq_eq_false_iff_ne.2, ne_eq, not_false_eq_true, cond_false, if_false, Option.getD_none]
theorem verbW_len {a : Int} {w : ByteArray} (h : verbW a = some w) : ∃ s, w = mkW s ∧ s.length ≤ 6 := by
 unfold verbW at h
 (repeat' split at h) <;> first | (cases h; done) | (obtain rfl := Option.some.inj h; exact ⟨_, rfl, by simp⟩)
theorem verbW_in {a : Int} {w : ByteArray} (h : verbW a = some w) : (a = 1 ∨ a = 3 ∨ a = 4 ∨ a = 5) ∨ (a = 7 ∨ a = 8 ∨ a = 9) := by
 unfold verbW at h
 (repeat' split at h) <;> first | (cases h; done) | omega
theorem verbW_out {a : Int} (h : verbW a = none) (h2 : a ≠ 2) (h6 : a ≠ 6) : a < 1 ∨ 9 < a := by
 unfold verbW at h
 (repeat' split at h) <;> first | (cases h; done) | omega
theorem rop (o : Oq) (ho : OkO o) (k : Nat) (hk : 900004 ≤ k) : RefJ (r37_op.f k o) (opP o) 300000 := by
 obtain ⟨k, rfl⟩ : ∃ q, k = q + 3 := ⟨k - 3, by omega⟩
 simp only [r37_op.f, r37_op.c, ofs]
 unfold opP
 by_cases q2 : o.1 = 2
 ·rw [beq_iff_eq.2 q2, cond_true, if_pos q2]
  obtain ⟨s, a, b, d⟩ := rscan o ho (k + 3) (by omega)
  rw [a, os]
  exact ⟨s, rfl, b, by omega⟩
 ·rw [beq_eq_false_iff_ne.2 q2, cond_false, if_neg q2]
  by_cases q6 : o.1 = 6
  ·rw [beq_iff_eq.2 q6, cond_true, if_pos q6]
   obtain ⟨s, a, b, d⟩ := rchange o.2.2.2.2.2.2.1 ho.ch (k + 3) (by omega)
   have g : s.length ≤ 4611686018427387903 := by omega
   have hq : (sq (0, [wChange]) (chP o.2.2.2.2.2.2.1)).1 = (chP o.2.2.2.2.2.2.1).1 := by simp [sq]
   simp only [a, os, ba_size, g, decide_true, Bool.and_self, cond_true, ba_append]
   refine ⟨[99, 104, 97, 110, 103, 101, 32] ++ s, by rw [hq], fun h => ?_, by simp; omega⟩
   rw [hq] at h
   rw [b h, sq_w0]
   have hc : (chP o.2.2.2.2.2.2.1).2 ≠ [] := chP_ne h
   cases hw : (chP o.2.2.2.2.2.2.1).2 with
   | nil => exact absurd hw hc
   | cons x r => rw [jn, jn, ba_data, jb_cons]; rfl
  ·rw [beq_eq_false_iff_ne.2 q6, cond_false, if_neg q6]
   cases hv : verbW o.1 with
   | none =>
    refine ⟨[], ?_, fun h => by simp at h, by simp⟩
    rcases verbW_out hv q2 q6 with c | c
    ·have e1 : ¬ o.1 ≥ 7 := by omega
     simp only [e1, c, decide_false, decide_true, cond_false, cond_true, r37_op.s0, r37_op.s0c, r37_op.s1, r37_op.s1c, ofs]
    ·have e1 : o.1 ≥ 7 := by omega
     have e2 : ¬ o.1 ≤ 9 := by omega
     have e3 : ¬ o.1 < 1 := by omega
     have e4 : o.1 > 9 := by omega
     simp only [e1, e2, e3, e4, decide_false, decide_true, cond_false, cond_true, r37_op.s0, r37_op.s0c, r37_op.s1, r37_op.s1c, ofs]
   | some w =>
    have rw1 := fun k => rword o.1 k
    rw [hv] at rw1
    obtain ⟨ws, rfl, hws⟩ := verbW_len hv
    show RefJ _ (if o.1 < 7 then sq (0, [mkW ws]) (sq (nmP [o.2.1]) (vsP o.2.2.1)) else (0, [mkW ws])) _
    rcases verbW_in hv with c | c
    ·have e1 : ¬ o.1 ≥ 7 := by omega
     have e3 : ¬ o.1 < 1 := by omega
     have e4 : ¬ o.1 > 9 := by omega
     rw [if_pos (show o.1 < 7 by omega)]
     obtain ⟨s0, a0, b0, d0⟩ := rnamed ws (by omega) [o.2.1] (by simp) k (by omega)
     obtain ⟨s2, a2, b2, d2⟩ := rvalues o.2.2.1 ho.row k (by omega)
     have d0 : s0.length ≤ 37 := by simpa using d0
     have g0 : s0.length ≤ 4611686018427387903 := by omega
     have g2 : s2.length ≤ 4611686018427387903 := by omega
     simp only [e1, e3, e4, decide_false, decide_true, cond_false, cond_true, r37_op.s0, r37_op.s0c, r37_op.s1, r37_op.s1c, r37_op.s2, r37_op.s2c, rw1, os, ofs, Option.getD_some, a0, a2]
     rw [← sq_assoc]
     by_cases z : (sq (0, [mkW ws]) (nmP [o.2.1])).1 = 0
     ·have hq : (sq (sq (0, [mkW ws]) (nmP [o.2.1])) (vsP o.2.2.1)).1 = (vsP o.2.2.1).1 := by rw [sq, if_pos z]
      simp only [ne_beq z, cond_false, ba_size, ba_append, g0, g2, decide_true, Bool.and_self, cond_true]
      refine ⟨s0 ++ s2, by rw [hq], fun h => ?_, by simp; omega⟩
      rw [hq] at h
      rw [sq, jn_app (by simp [sq]), b0 z, b2 h]
     ·have hq : (sq (sq (0, [mkW ws]) (nmP [o.2.1])) (vsP o.2.2.1)).1 = (sq (0, [mkW ws]) (nmP [o.2.1])).1 := by rw [sq, if_neg z]
      simp only [ne_bne z, cond_true]
      exact ⟨[], by rw [hq], fun h => absurd (hq ▸ h) z, by simp⟩
    ·have e1 : o.1 ≥ 7 := by omega
     have e2 : o.1 ≤ 9 := by omega
     rw [if_neg (show ¬ o.1 < 7 by omega)]
     simp only [e1, e2, decide_true, cond_true, r37_op.s0, r37_op.s0c, rw1, os, ofs, Option.getD_some]
     exact ⟨ws, rfl, fun _ => by simp [jn, jb], by omega⟩
/-! ### steps -/
abbrev Sp : Type := D_api_Step
noncomputable def linP (s : Sp) : P2 :=
 match plainW s.1 with
 | some w => (0, [w])
 | none => if s.1 = 1 then sq (0, [mkW [97, 115, 107]]) (sq (numP s.2.1) (opP s.2.2.1)) else if s.1 = 2 then sq (0, [mkW [114, 117, 110]]) (numP s.2.1) else (1, [])
structure OkS (s : Sp) : Prop where
 at' : -9223372036854775808 ≤ s.2.1 ∧ s.2.1 ≤ 9223372036854775807
 op : OkO s.2.2.1
theorem rLine (s : Sp) (hs : OkS s) (k : Nat) (hk : 900010 ≤ k) : RefJ (r37_Line.f k s) (linP s) 400000 := by
 obtain ⟨k, rfl⟩ : ∃ q, k = q + 2 := ⟨k - 2, by omega⟩
 simp only [r37_Line.f, r37_Line.c, ofs]
 unfold linP plainW
 by_cases c3 : s.1 = 3
 ·rw [beq_iff_eq.2 c3, cond_true, if_pos c3]
  exact ⟨_, rfl, fun _ => by simp [jn, jb], by simp⟩
 ·rw [beq_eq_false_iff_ne.2 c3, cond_false, if_neg c3]
  by_cases c4 : s.1 = 4
  ·rw [beq_iff_eq.2 c4, cond_true, if_pos c4]
   exact ⟨_, rfl, fun _ => by simp [jn, jb], by simp⟩
  ·rw [beq_eq_false_iff_ne.2 c4, cond_false, if_neg c4]
   by_cases c5 : s.1 = 5
   ·rw [beq_iff_eq.2 c5, cond_true, if_pos c5]
    exact ⟨_, rfl, fun _ => by simp [jn, jb], by simp⟩
   ·rw [beq_eq_false_iff_ne.2 c5, cond_false, if_neg c5]
    by_cases c6 : s.1 = 6
    ·rw [beq_iff_eq.2 c6, cond_true, if_pos c6]
     exact ⟨_, rfl, fun _ => by simp [jn, jb], by simp⟩
    ·rw [beq_eq_false_iff_ne.2 c6, cond_false, if_neg c6]
     obtain ⟨s1, a1, b1, d1⟩ := rsmall s.2.1 hs.at'.1 hs.at'.2 k (by omega)
     obtain ⟨s2, a2, b2, d2⟩ := rop s.2.2.1 hs.op k (by omega)
     have g1 : s1.length ≤ 4611686018427387903 := by omega
     have g2 : s2.length ≤ 4611686018427387903 := by omega
     have g3 : ([97, 115, 107] ++ s1).length ≤ 4611686018427387903 := by rw [List.length_append]; simp; omega
     have g4 : ([97, 115, 107] ++ s1 ++ [32]).length ≤ 4611686018427387903 := by rw [List.length_append, List.length_append]; simp; omega
     by_cases c1 : s.1 = 1
     ·have c2 : ¬ s.1 = 2 := by omega
      simp only [c1, beq_self_eq_true, cond_true, if_true, r37_Line.s0, r37_Line.s0c, r37_Line.s1, r37_Line.s1c, a1, a2, os, ofs, show ((1 : Int) == 2) = false from rfl, cond_false]
      by_cases z : (numP s.2.1).1 = 0
      ·rw [ne_beq z, cond_false]
       have hq : (sq (0, [mkW [97, 115, 107]]) (sq (numP s.2.1) (opP s.2.2.1))).1 = (opP s.2.2.1).1 := by simp [sq, z]
       by_cases z2 : (opP s.2.2.1).1 = 0
       ·simp only [ne_beq z2, cond_false, ba_size, ba_append, g1, g2, g3, g4, decide_true, Bool.and_self, cond_true]
        refine ⟨[97, 115, 107] ++ s1 ++ [32] ++ s2, by rw [hq, z2], fun h => ?_, by simp; omega⟩
        rw [← sq_assoc, sq, jn_app (by simp [sq]), sq_w0, jn, ← b1 z, b2 z2]
        cases hw : (opP s.2.2.1).2 with
        | nil => exact absurd hw (opP_ne z2)
        | cons x r => rw [jn, jb_cons, ba_data]; simp [List.append_assoc]
       ·simp only [ne_bne z2, cond_true]
        exact ⟨[], by rw [hq], fun h => absurd (hq ▸ h) z2, by simp⟩
      ·rw [ne_bne z, cond_true]
       have hq : (sq (0, [mkW [97, 115, 107]]) (sq (numP s.2.1) (opP s.2.2.1))).1 = (numP s.2.1).1 := by simp [sq, z]
       exact ⟨[], by rw [hq], fun h => absurd (hq ▸ h) z, by simp⟩
     ·by_cases c2 : s.1 = 2
      ·simp only [c2, show ((2 : Int) == 1) = false from rfl, beq_self_eq_true, cond_true, cond_false, if_true, show ¬ ((2 : Int) = 1) from by omega, if_false, r37_Line.s0, r37_Line.s0c, r37_Line.s1, r37_Line.s1c, a1, os, ofs]
       have hq : (sq (0, [mkW [114, 117, 110]]) (numP s.2.1)).1 = (numP s.2.1).1 := by simp [sq]
       by_cases z : (numP s.2.1).1 = 0
       ·simp only [ne_beq z, cond_false, ba_size, ba_append, g1, decide_true, Bool.and_self, cond_true]
        refine ⟨[114, 117, 110] ++ s1, by rw [hq, z], fun h => ?_, by simp; omega⟩
        rw [sq_w0, jn, b1 z]
       ·simp only [ne_bne z, cond_true]
        exact ⟨[], by rw [hq], fun h => absurd (hq ▸ h) z, by simp⟩
      ·simp only [beq_eq_false_iff_ne.2 c1, beq_eq_false_iff_ne.2 c2, cond_false, if_neg c1, if_neg c2, r37_Line.s0, r37_Line.s0c, ofs]
       exact ⟨[], rfl, fun h => by simp at h, by simp⟩
end Go.Proofs.YtimadphjdkjgaaaGreatDoor.Aev
