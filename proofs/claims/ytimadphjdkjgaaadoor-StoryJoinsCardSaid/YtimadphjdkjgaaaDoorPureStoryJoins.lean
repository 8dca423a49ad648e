import Derived.Test.YtimadphjdkjgaaaDoorF0
import Derived.Test.YtimadphjdkjgaaaDoorF3
import Derived.Test.YtimadphjdkjgaaaDoorF7
import Derived.Test.YtimadphjdkjgaaaDoorF9
import Derived.Test.YtimadphjdkjgaaaDoorLineF
import Derived.Test.YtimadphjdkjgaaaDoorPrs

/- StoryJoins: lines of steps, one behind the other, are read as these. For every input; no conditions. -/
namespace Go.Proofs.YtimadphjdkjgaaaDoor.Aev
open Go
set_option linter.unusedVariables false
set_option linter.unusedSimpArgs false
set_option maxRecDepth 100000
theorem awake_joins (k : Nat) : transomlaw37_awake.f (k + 400) = some true := by kernel_rfl
theorem awakej_ge (k : Nat) (h : 400 ≤ k) : transomlaw37_awake.f k = some true := by
 obtain ⟨q, rfl⟩ : ∃ q, k = q + 400 := ⟨k - 400, by omega⟩
 exact awake_joins q
theorem islinej_f {line : List UInt8} {t : Sp} (h : IsLine line t) (k : Nat) (hk : 900010 ≤ k) : story_Line.f k t = some (mkW line, 0) := by
 obtain ⟨h1, h2, rfl⟩ := h
 rw [line_eq t h1 k hk, txt_ok h2]
theorem elem_st {l : List Sp} {i : Nat} (h : i < l.length) : elem T_api_Step l (i : Int) = l[i] := by
 simp [elem, List.getD, List.getElem?_eq_getElem h]
def txL (X : List (List UInt8)) : List UInt8 := (X.map fun x => x ++ [10]).flatten
theorem txL_app (X : List (List UInt8)) (x : List UInt8) : txL (X ++ [x]) = txL X ++ (x ++ [10]) := by simp [txL]
theorem txL_len : ∀ (X : List (List UInt8)), (∀ x ∈ X, x.length ≤ 400000) → (txL X).length ≤ 400001 * X.length
 | [], _ => by simp [txL]
 | x :: X, h => by
  have ih := txL_len X fun y hy => h y (List.mem_cons_of_mem _ hy)
  have h0 := h x (by simp)
  have e : txL (x :: X) = x ++ [10] ++ txL X := by simp [txL]
  rw [e]
  simp only [List.length_append, List.length_cons, List.length_nil]; omega
def AllL (X : List (List UInt8)) : Prop := ∀ x ∈ X, ∃ s, IsLine x s
theorem line_no10 {x : List UInt8} {s : Sp} (h : IsLine x s) : ∀ c ∈ x, ¬ c = 10 := by
 obtain ⟨h1, h2, rfl⟩ := h
 have hg := gd_lin h1 h2
 have key : ∀ c ∈ jn (linP s).2, 32 ≤ c.toNat := by
  have hb : ∀ r : List ByteArray, (∀ w ∈ r, GW w.data.toList) → ∀ c ∈ jb r, 32 ≤ c.toNat := by
   intro r hr c hc
   unfold jb at hc
   obtain ⟨y, hy, hc⟩ := List.mem_flatten.1 hc
   obtain ⟨w, hw, rfl⟩ := List.mem_map.1 hy
   cases List.mem_cons.1 hc with
   | inl e => subst e; decide
   | inr e => exact ((hr w hw).2.2.1 c e).1
  intro c hc
  cases hw : (linP s).2 with
  | nil => rw [hw] at hc; cases hc
  | cons w r =>
   rw [hw, jn] at hc
   rw [hw] at hg
   rcases List.mem_append.1 hc with hc | hc
   ·exact ((hg w (by simp)).2.2.1 c hc).1
   ·exact hb r (fun x hx => hg x (List.mem_cons_of_mem _ hx)) c hc
 intro c hc e
 have := key c hc
 rw [e] at this
 exact absurd this (by decide)
theorem lns_txL : ∀ X : List (List UInt8), AllL X → lnsL (txL X) = X ++ [[]]
 | [], _ => rfl
 | x :: X, h => by
  obtain ⟨s, hs⟩ := h x (by simp)
  have e : txL (x :: X) = x ++ 10 :: txL X := by simp [txL]
  rw [e, lns_line x (line_no10 hs), lns_txL X fun y hy => h y (List.mem_cons_of_mem _ hy)]; rfl
theorem linP_ne {s : Sp} (h : (linP s).1 = 0) : (linP s).2 ≠ [] := by
 rcases linP_0 h with (q | q | q | q) | q | q
 ·rw [linP_p (w := mkW [109, 105, 103, 114, 97, 116, 101]) (by rw [q]; rfl)]; simp
 ·rw [linP_p (w := mkW [116, 105, 99, 107]) (by rw [q]; rfl)]; simp
 ·rw [linP_p (w := mkW [99, 111, 108, 108, 101, 99, 116]) (by rw [q]; rfl)]; simp
 ·rw [linP_p (w := mkW [102, 114, 101, 101]) (by rw [q]; rfl)]; simp
 ·rw [linP_1 q]; simp [sq]
 ·rw [linP_2 q]; simp [sq]
theorem prs_lines : ∀ (X : List (List UInt8)), AllL X → ∀ (n : Nat) (out : List Sp), prs (X ++ [[]]) n out = (out ++ X.map fun x => (rd x).1, 0, 0)
 | [], _, n, out => by
  have e : splitL [] = ([], 0) := rfl
  rw [List.nil_append, prs, e, if_pos ⟨rfl, rfl⟩, prs, List.map_nil, List.append_nil]
 | x :: X, h, n, out => by
  obtain ⟨s, hs⟩ := h x (by simp)
  have hr := (rd_line hs).1
  have hne : ¬ ((splitL x).2 = 0 ∧ (splitL x).1 = []) := by
   obtain ⟨h1, h2, rfl⟩ := hs
   rw [split_lin h1 h2]
   rintro ⟨_, e⟩
   exact linP_ne h2 (List.map_eq_nil_iff.1 e)
  rw [List.cons_append, prs, if_neg hne, if_pos hr, prs_lines X (fun y hy => h y (List.mem_cons_of_mem _ hy)), List.append_assoc]; rfl
/-! ### the law's second loop: the lines of what was read -/
theorem joins_s4 (X : List (List UInt8)) (hX : AllL X) (hn : X.length ≤ 15) (txt : List UInt8) (ht : txL X = txt) : ∀ (m i : Nat), i + m = X.length → ∀ k, m + 900020 < k →
  transomlaw37_StoryJoins.s4 k (mkW txt) (X.map fun x => (rd x).1) (mkW (txL (X.take i))) (i : Int) = some true := by
 have hlen : ∀ x ∈ X, x.length ≤ 400000 := fun x hx => by
  obtain ⟨s, h1, h2, rfl⟩ := hX x hx
  exact line_len h1 h2
 intro m
 induction m with
 | zero =>
  intro i hi k hk
  obtain ⟨k, rfl⟩ : ∃ q, k = q + 1 := ⟨k - 1, by omega⟩
  have e : ¬ (i : Int) < ((X.map fun x => (rd x).1).length : Int) := by rw [List.length_map]; omega
  have aw := awakej_ge k (by omega)
  rw [List.take_of_length_le (by omega), ht]
  simp only [transomlaw37_StoryJoins.s4, transomlaw37_StoryJoins.s4c, e, aw, beq_self_eq_true, decide_false, cond_true, cond_false, os]
 | succ m ih =>
  intro i hi k hk
  obtain ⟨k, rfl⟩ : ∃ q, k = q + 1 := ⟨k - 1, by omega⟩
  have hlt : i < X.length := by omega
  have hlt2 : i < (X.map fun x => (rd x).1).length := by rw [List.length_map]; exact hlt
  have e0 : (i : Int) < ((X.map fun x => (rd x).1).length : Int) := by omega
  have e1 : (0 : Int) ≤ (i : Int) := by omega
  have e2 : IntKind.wrap IntKind.i64 ((i : Int) + 1) = ((i + 1 : Nat) : Int) := by rw [i64w (by omega) (by omega)]; omega
  have he : elem T_api_Step (X.map fun x => (rd x).1) (i : Int) = (rd X[i]).1 := by rw [elem_st hlt2, List.getElem_map]
  obtain ⟨s, hs⟩ := hX _ (List.getElem_mem hlt)
  have f := islinej_f (rd_line hs).2 k (by omega)
  have g0 := hlen _ (List.getElem_mem hlt)
  have gt : (txL (X.take i)).length ≤ 400001 * 15 := by
   have := txL_len (X.take i) fun x hx => hlen x (List.mem_of_mem_take hx)
   rw [List.length_take] at this
   have : 400001 * min i X.length ≤ 400001 * 15 := Nat.mul_le_mul_left _ (by omega)
   omega
  have g1 : X[i].length ≤ 4611686018427387903 := by omega
  have g2 : (txL (X.take i)).length ≤ 4611686018427387903 := by omega
  have g3 : (X[i] ++ [10]).length ≤ 4611686018427387903 := by rw [List.length_append, List.length_singleton]; omega
  have r := ih (i + 1) (by omega) k (by omega)
  have et : txL (X.take (i + 1)) = txL (X.take i) ++ (X[i] ++ [10]) := by rw [List.take_succ_eq_append_getElem hlt, txL_app]
  rw [et] at r
  simp only [transomlaw37_StoryJoins.s4, transomlaw37_StoryJoins.s4c, e0, e1, e2, he, f, ba_size, ba_append, g1, g2, g3, r, decide_true, Bool.and_self, cond_true, os, ofs]
theorem joins_end (X : List (List UInt8)) (hX : AllL X) (hn : X.length ≤ 15) (l : List Sp) (k : Nat) (hk : 80000000 ≤ k) :
  ((story_Parse.f k (mkW (txL X))).bind fun r3 => (bif (r3.2.2 != (0 : Int)) then transomlaw37_StoryJoins.s2 k (mkW (txL X)) r3.1 true else (bif (r3.2.1 != (0 : Int)) then transomlaw37_StoryJoins.s2 k (mkW (txL X)) r3.1 true else transomlaw37_StoryJoins.s2 k (mkW (txL X)) r3.1 ((r3.1.length : Int) != (X.length : Int))))) = some true := by
 have hlen : ∀ x ∈ X, x.length ≤ 400000 := fun x hx => by
  obtain ⟨s, h1, h2, rfl⟩ := hX x hx
  exact line_len h1 h2
 have gt := txL_len X hlen
 have ln := lns_txL X hX
 have p := parse_f (txL X) (by have : 400001 * X.length ≤ 400001 * 15 := Nat.mul_le_mul_left _ hn; omega) (by
  rw [ln]
  intro x hx
  rcases List.mem_append.1 hx with hx | hx
  ·exact .inr (hX x hx)
  ·rw [List.mem_singleton.1 hx]; exact .inl (by simp)) k (by omega)
 rw [ln, prs_lines X hX, List.nil_append] at p
 obtain ⟨k, rfl⟩ : ∃ q, k = q + 2 := ⟨k - 2, by omega⟩
 have r := joins_s4 X hX hn (txL X) rfl X.length 0 (by omega) k (by omega)
 have r : transomlaw37_StoryJoins.s4 k (mkW (txL X)) (X.map fun x => (rd x).1) (mkW []) 0 = some true := r
 have z : ((0 : Int) != 0) = false := rfl
 have zl : (((X.map fun x => (rd x).1).length : Int) != (X.length : Int)) = false := by rw [List.length_map]; exact bne_self_eq_false _
 rw [p]
 simp only [z, zl, transomlaw37_StoryJoins.s2, transomlaw37_StoryJoins.s2c, transomlaw37_StoryJoins.s3, transomlaw37_StoryJoins.s3c, r, cond_false, os, ofs]
theorem joins_s0 (l : List Sp) (hl : l.length ≤ 15) (hf : Fit (.sl T_api_Step) l) : ∀ (m i : Nat) (X : List (List UInt8)), i + m = l.length → AllL X → X.length ≤ i → ∀ k, 2 * m + 80000010 < k →
  transomlaw37_StoryJoins.s0 k l (mkW (txL X)) (X.length : Int) (i : Int) = some true := by
 intro m
 induction m with
 | zero =>
  intro i X hi hX hn k hk
  obtain ⟨k, rfl⟩ : ∃ q, k = q + 1 := ⟨k - 1, by omega⟩
  have e : ¬ (i : Int) < (l.length : Int) := by omega
  have := joins_end X hX (by omega) l k (by omega)
  simp only [transomlaw37_StoryJoins.s0, transomlaw37_StoryJoins.s0c, e, decide_false, cond_false, ofs]
  exact this
 | succ m ih =>
  intro i X hi hX hn k hk
  obtain ⟨k, rfl⟩ : ∃ q, k = q + 2 := ⟨k - 2, by omega⟩
  have hlt : i < l.length := by omega
  have e0 : (i : Int) < (l.length : Int) := by omega
  have e1 : (0 : Int) ≤ (i : Int) := by omega
  have e2 : IntKind.wrap IntKind.i64 ((i : Int) + 1) = ((i + 1 : Nat) : Int) := by rw [i64w (by omega) (by omega)]; omega
  have e3 : IntKind.wrap IntKind.i64 ((X.length : Int) + 1) = ((X.length + 1 : Nat) : Int) := by rw [i64w (by omega) (by omega)]; omega
  have aw := awakej_ge (k + 1) (by omega)
  obtain ⟨f0, f1, f2, _⟩ := hf.2 _ (List.getElem_mem hlt)
  obtain ⟨r, hr1, hr2⟩ := few13 l[i].2.2.1 f2 (k + 1) (by omega)
  simp only [transomlaw37_StoryJoins.s0, transomlaw37_StoryJoins.s0c, e0, e1, elem_st hlt, hr1, aw, decide_true, Bool.and_self, cond_true, os, ofs]
  by_cases c0 : r = 0
  ·rw [beq_iff_eq.2 c0, cond_true]
  ·rw [beq_eq_false_iff_ne.2 c0, cond_false]
   have ok : OkS l[i] := { at' := fit_i64 f1, op := hr2.resolve_left c0 }
   have l1 := line_eq l[i] ok (k + 1) (by omega)
   by_cases c : (linP l[i]).1 = 0
   ·have hlen : ∀ x ∈ X, x.length ≤ 400000 := fun x hx => by
     obtain ⟨s, h1, h2, rfl⟩ := hX x hx
     exact line_len h1 h2
    have gt := txL_len X hlen
    have gx : 400001 * X.length ≤ 400001 * 15 := Nat.mul_le_mul_left _ (by omega)
    have g0 := line_len ok c
    have g1 : (jn (linP l[i]).2).length ≤ 4611686018427387903 := by omega
    have g2 : (txL X).length ≤ 4611686018427387903 := by omega
    have g3 : (jn (linP l[i]).2 ++ [10]).length ≤ 4611686018427387903 := by rw [List.length_append, List.length_singleton]; omega
    have t := ih (i + 1) (X ++ [jn (linP l[i]).2]) (by omega) (fun x hx => by
     rcases List.mem_append.1 hx with hx | hx
     ·exact hX x hx
     ·rw [List.mem_singleton.1 hx]; exact ⟨_, ok, c, rfl⟩) (by rw [List.length_append, List.length_singleton]; omega) k (by omega)
    rw [txL_app, List.length_append, List.length_singleton] at t
    rw [txt_ok c] at l1
    simp only [l1, e2, e3, ba_size, ba_append, g1, g2, g3, t, beq_self_eq_true, transomlaw37_StoryJoins.s1, transomlaw37_StoryJoins.s1c, decide_true, Bool.and_self, cond_true, os, ofs]
   ·have e : txtP (linP l[i]) = (mkW [], (linP l[i]).1) := by unfold txtP; rw [if_neg c]
    rw [e] at l1
    have t := ih (i + 1) X (by omega) hX (by omega) k (by omega)
    simp only [l1, e2, beq_eq_false_iff_ne.2 c, transomlaw37_StoryJoins.s1, transomlaw37_StoryJoins.s1c, t, cond_false, os, ofs]
theorem Pure.StoryJoins (x0 : List D_api_Step) (h0 : Fit (.sl T_api_Step) x0) : ∃ k, transomlaw37_StoryJoins.f k x0 = some true := by
 obtain ⟨k, hk⟩ : ∃ k, k = 90000000 := ⟨_, rfl⟩
 refine ⟨k, ?_⟩
 have aw := awakej_ge k (by omega)
 simp only [transomlaw37_StoryJoins.f, transomlaw37_StoryJoins.c, aw, os, ofs]
 by_cases hs : (x0.length : Int) > 15
 ·rw [decide_eq_true hs]; rfl
 ·rw [decide_eq_false hs, cond_false]
  have := joins_s0 x0 (by omega) h0 x0.length 0 [] (by omega) (fun x hx => by cases hx) (by simp) k (by omega)
  exact this
end Go.Proofs.YtimadphjdkjgaaaDoor.Aev
