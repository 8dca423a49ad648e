import Derived.Test.YtimadphjdkjgaaaDoorF0
import Derived.Test.YtimadphjdkjgaaaDoorF3
import Derived.Test.YtimadphjdkjgaaaDoorF6
import Derived.Test.YtimadphjdkjgaaaDoorF7
import Derived.Test.YtimadphjdkjgaaaDoorF8
import Derived.Test.YtimadphjdkjgaaaDoorLineF
import Derived.Test.YtimadphjdkjgaaaDoorRdS

/- StoryBack: a line of a step is read as a step whose line it is; a line that is read is the step's line. For every input; no conditions. -/
namespace Go.Proofs.YtimadphjdkjgaaaDoor.Aev
open Go
set_option linter.unusedVariables false
set_option linter.unusedSimpArgs false
set_option maxRecDepth 100000
theorem awake_all (k : Nat) : transomlaw37_awake.f (k + 400) = some true := by kernel_rfl
theorem awake_ge (k : Nat) (h : 400 ≤ k) : transomlaw37_awake.f k = some true := by
 obtain ⟨q, rfl⟩ : ∃ q, k = q + 400 := ⟨k - 400, by omega⟩
 exact awake_all q
theorem isline_f {line : List UInt8} {t : Sp} (h : IsLine line t) (k : Nat) (hk : 900010 ≤ k) : story_Line.f k t = some (mkW line, 0) := by
 obtain ⟨h1, h2, rfl⟩ := h
 rw [line_eq t h1 k hk, txt_ok h2]
theorem back_s3 (l : List UInt8) (hl : l.length ≤ 2000) (k : Nat) (hk : 18000000 ≤ k) : transomlaw37_StoryBack.s3 k (mkW l) = some true := by
 obtain ⟨k, rfl⟩ : ∃ q, k = q + 1 := ⟨k - 1, by omega⟩
 obtain ⟨t, e, _, h1, h2, h3⟩ := read_both l (by omega)
 have r := h3 k (by omega)
 have aw := awake_ge k (by omega)
 by_cases c : e = 0
 ·have f := isline_f (h1 c) k (by omega)
  have z : ((0 : Int) != 0) = false := rfl
  subst c
  simp only [transomlaw37_StoryBack.s3, transomlaw37_StoryBack.s3c, r, f, aw, z, beq_self_eq_true, cond_true, cond_false, os]
 ·obtain rfl := h2 c
  have f := line_eq Z_api_Step okSZ k (by omega)
  simp only [transomlaw37_StoryBack.s3, transomlaw37_StoryBack.s3c, r, f, aw, bne_iff_ne.2 c, cond_true, os]
theorem Pure.StoryBack (x0 : D_api_Step) (x1 : ByteArray) (h0 : Fit T_api_Step x0) (h1 : Fit .str x1) : ∃ k, transomlaw37_StoryBack.f k x0 x1 = some true := by
 obtain ⟨k, hk⟩ : ∃ k, k = 19000000 := ⟨_, rfl⟩
 refine ⟨k + 3, ?_⟩
 obtain ⟨f0, f1, f2, _⟩ := h0
 obtain ⟨r, hr1, hr2⟩ := few13 x0.2.2.1 f2 (k + 3) (by omega)
 obtain ⟨q, hq1, hq2⟩ := few10 x0.2.2.1.2.2.2.2.2.2.1 f2.2.2.2.2.2.2.1 (k + 3) (by omega)
 have aw2 := awake_ge (k + 2) (by omega)
 have done : ∀ b, b = true → transomlaw37_StoryBack.s0 (k + 3) x1 b x0 = some true := by
  rintro b rfl
  simp only [transomlaw37_StoryBack.s0, transomlaw37_StoryBack.s0c, aw2, cond_true, os]
 simp only [transomlaw37_StoryBack.f, transomlaw37_StoryBack.c, hr1, hq1, os, ofs]
 by_cases c0 : r = 0
 ·rw [beq_iff_eq.2 c0, cond_true]; exact done _ rfl
 ·rw [beq_eq_false_iff_ne.2 c0, cond_false]
  by_cases c1 : q = 0
  ·rw [beq_iff_eq.2 c1, cond_true]; exact done _ rfl
  ·rw [beq_eq_false_iff_ne.2 c1, cond_false]
   by_cases hs : (x1.size : Int) > 2000
   ·exact done _ (decide_eq_true hs)
   ·rw [decide_eq_false hs]
    have ok : OkS x0 := { at' := fit_i64 f1, op := hr2.resolve_left c0 }
    have s3 : ∀ p, 18000000 ≤ p → transomlaw37_StoryBack.s3 p x1 = some true := fun p hp => by
     rw [ba_of x1]
     exact back_s3 _ (by have := size_eq x1; omega) p hp
    have l1 := line_eq x0 ok (k + 1) (by omega)
    simp only [transomlaw37_StoryBack.s0, transomlaw37_StoryBack.s0c, transomlaw37_StoryBack.s1, transomlaw37_StoryBack.s1c, l1, cond_false, os, ofs]
    by_cases c : (linP x0).1 = 0
    ·obtain ⟨t, t1, t2, _, _, t3⟩ := read_ok (line := jn (linP x0).2) ⟨ok, c, rfl⟩
     have r1 := t3 (k + 1) (by omega)
     have g := isline_f t1 (k + 1) (by omega)
     have z : ((0 : Int) != 0) = false := rfl
     have zt : (t.1 != x0.1) = false := by rw [t2]; exact bne_self_eq_false _
     rw [txt_ok c]
     simp only [r1, g, z, zt, beq_self_eq_true, Bool.not_true, cond_true, cond_false, os, transomlaw37_StoryBack.s2, transomlaw37_StoryBack.s2c, s3 k (by omega), ofs]
    ·have e : txtP (linP x0) = (mkW [], (linP x0).1) := by unfold txtP; rw [if_neg c]
     rw [e]
     simp only [beq_eq_false_iff_ne.2 c, cond_false]
     exact s3 (k + 1) (by omega)
end Go.Proofs.YtimadphjdkjgaaaDoor.Aev
