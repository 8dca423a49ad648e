import Derived.Test.YtimadphjdkjgaaaDoorF3
import Derived.Test.YtimadphjdkjgaaaDoorF6
import Derived.Test.YtimadphjdkjgaaaDoorF7
import Derived.Test.YtimadphjdkjgaaaDoorRdS
import Derived.Test.YtimadphjdkjgaaaDoorLns

/- Texts read as steps, line by line: the program's way and the document's. -/
namespace Go.Proofs.YtimadphjdkjgaaaDoor.Aev
open Go
set_option linter.unusedVariables false
set_option linter.unusedSimpArgs false
set_option maxRecDepth 100000
open Classical in
/-- the step that a line is -/
noncomputable def rd (line : List UInt8) : Sp × Int :=
 if h : ∃ s, IsLine line s then ((read_ok h.choose_spec).choose, 0) else (Z_api_Step, if (splitL line).2 = 0 then 4 else (splitL line).2)
def OkLn (x : List UInt8) : Prop := x.length ≤ 90000 ∨ ∃ s, IsLine x s
theorem okln_len {x : List UInt8} (h : OkLn x) : x.length ≤ 400000 := by
 rcases h with h | ⟨s, h1, h2, rfl⟩
 ·omega
 ·exact line_len h1 h2
theorem rd_f {line : List UInt8} (h : OkLn line) (k : Nat) (hk : 17000000 ≤ k) : story_Read.f k (mkW line) = some (rd line) := by
 unfold rd
 by_cases c : ∃ s, IsLine line s
 ·rw [dif_pos c]
  exact (read_ok c.choose_spec).choose_spec.2.2.2.2 k hk
 ·rw [dif_neg c]
  rcases h with h | h
  ·exact read_no h (fun s hs => c ⟨s, hs⟩) k hk
  ·exact absurd h c
theorem rd_line {line : List UInt8} {s : Sp} (h : IsLine line s) : (rd line).2 = 0 ∧ IsLine line (rd line).1 := by
 have c : ∃ s, IsLine line s := ⟨s, h⟩
 unfold rd
 rw [dif_pos c]
 exact ⟨rfl, (read_ok c.choose_spec).choose_spec.1⟩
noncomputable def prs : List (List UInt8) → Nat → List Sp → List Sp × Int × Int
 | [], _, out => (out, 0, 0)
 | x :: r, n, out => if (splitL x).2 = 0 ∧ (splitL x).1 = [] then prs r (n + 1) out else if (rd x).2 = 0 then prs r (n + 1) (out ++ [(rd x).1]) else ([], (n : Int), (rd x).2)
theorem enc_len (x : List UInt8) : (((encS (splitL x)).1.length : Int) == 0) = decide ((splitL x).1 = []) := by
 unfold encS
 cases (splitL x).1 with
 | nil => rfl
 | cons a b =>
  rw [decide_eq_false (by simp), beq_eq_false_iff_ne, List.map_cons, List.length_cons]
  omega
theorem elem_sp {l : List ByteArray} {i : Nat} (h : i < l.length) : elem Ty.str l (i : Int) = l[i] := by
 simp [elem, List.getD, List.getElem?_eq_getElem h]
theorem parse_s0 (L : List (List UInt8)) (hL : L.length ≤ 10000000) (ok : ∀ x ∈ L, OkLn x) : ∀ (m i : Nat) (out : List Sp), i + m = L.length → out.length ≤ i → ∀ k, 4 * m + 17000010 < k →
  story_Parse.s0 k (L.map mkW) (L.length : Int) (i : Int) out = some (prs (L.drop i) (i + 1) out) := by
 intro m
 induction m with
 | zero =>
  intro i out hi ho k hk
  obtain ⟨k, rfl⟩ : ∃ q, k = q + 1 := ⟨k - 1, by omega⟩
  have e : ¬ (i : Int) < (L.length : Int) := by omega
  rw [List.drop_eq_nil_of_le (by omega)]
  simp only [story_Parse.s0, story_Parse.s0c, e, decide_false, cond_false, prs]
 | succ m ih =>
  intro i out hi ho k hk
  obtain ⟨k, rfl⟩ : ∃ q, k = q + 4 := ⟨k - 4, by omega⟩
  have hlt : i < L.length := by omega
  have hlt2 : i < (L.map mkW).length := by rw [List.length_map]; exact hlt
  have e0 : (i : Int) < (L.length : Int) := by omega
  have e0' : (i : Int) < ((L.map mkW).length : Int) := by rw [List.length_map]; omega
  have e1 : (0 : Int) ≤ (i : Int) := by omega
  have e2 : IntKind.wrap IntKind.i64 ((i : Int) + 1) = ((i + 1 : Nat) : Int) := by rw [i64w (by omega) (by omega)]; omega
  have e3 : (out.length + 1) * 360 ≤ 35184372088832 := by omega
  have he : elem Ty.str (L.map mkW) (i : Int) = mkW L[i] := by rw [elem_sp hlt2, List.getElem_map]
  have hok := ok _ (List.getElem_mem hlt)
  have hlen := okln_len hok
  have sp := split_eq L[i] (by omega) (k + 3) (by omega)
  have rf := (rd_f hok (k + 2) (by omega))
  have rf1 := (rd_f hok (k + 1) (by omega))
  have r0 : ∀ q, q = k ∨ q = k + 1 → story_Parse.s0 q (L.map mkW) (L.length : Int) ((i + 1 : Nat) : Int) out = some (prs (L.drop (i + 1)) (i + 1 + 1) out) := fun q hq => ih (i + 1) out (by omega) (by omega) q (by omega)
  have r1 := ih (i + 1) (out ++ [(rd L[i]).1]) (by omega) (by rw [List.length_append, List.length_singleton]; omega) k (by omega)
  have s2 : story_Parse.s2 (k + 2) (i : Int) (mkW L[i]) (L.map mkW) (L.length : Int) (i : Int) out = some (if (rd L[i]).2 = 0 then prs (L.drop (i + 1)) (i + 1 + 1) (out ++ [(rd L[i]).1]) else ([], ((i + 1 : Nat) : Int), (rd L[i]).2)) := by
   simp only [story_Parse.s2, story_Parse.s2c, story_Parse.s3, story_Parse.s3c, rf, rf1, e2, e3, r1, decide_true, cond_true, os, ofs]
   by_cases c : (rd L[i]).2 = 0
   ·rw [if_pos c, c]; rfl
   ·rw [if_neg c, bne_iff_ne.2 c]; rfl
  have s3r : story_Parse.s3 (k + 2) (L.map mkW) (L.length : Int) (i : Int) out = some (prs (L.drop (i + 1)) (i + 1 + 1) out) := by
   simp only [story_Parse.s3, story_Parse.s3c, e2, ofs]
   exact r0 (k + 1) (.inr rfl)
  rw [List.drop_eq_getElem_cons hlt, prs]
  simp only [story_Parse.s0, story_Parse.s0c, story_Parse.s1, story_Parse.s1c, e0, e0', e1, he, sp, enc_len, s2, s3r, decide_true, Bool.and_self, cond_true, cond_false, os, ofs]
  have es : (encS (splitL L[i])).2 = (splitL L[i]).2 := rfl
  rw [es]
  by_cases c : (splitL L[i]).2 = 0
  ·rw [c, beq_self_eq_true, cond_true]
   by_cases d : (splitL L[i]).1 = []
   ·rw [decide_eq_true d, cond_true, if_pos (show ((0 : Int) = 0 ∧ (splitL L[i]).1 = []) from ⟨rfl, d⟩)]
   ·rw [decide_eq_false d, cond_false, if_neg (show ¬ ((0 : Int) = 0 ∧ (splitL L[i]).1 = []) from fun z => d z.2)]
  ·rw [beq_eq_false_iff_ne.2 c, cond_false, if_neg (show ¬ ((splitL L[i]).2 = 0 ∧ (splitL L[i]).1 = []) from fun z => c z.1)]
theorem parse_f (t : List UInt8) (ht : t.length ≤ 9000000) (ok : ∀ x ∈ lnsL t, OkLn x) (k : Nat) (hk : 60000000 ≤ k) : story_Parse.f k (mkW t) = some (prs (lnsL t) 1 []) := by
 have hc := lns_count t
 have sp := ssplit_f t (by omega) k
 have r := parse_s0 (lnsL t) (by omega) ok (lnsL t).length 0 [] (by omega) (by simp) k (by omega)
 have r : story_Parse.s0 k ((lnsL t).map mkW) ((lnsL t).length : Int) 0 [] = some (prs (lnsL t) 1 []) := r
 simp only [story_Parse.f, story_Parse.c, sp, List.length_map, r, os, ofs]
/-! ### the document's way -/
end Go.Proofs.YtimadphjdkjgaaaDoor.Aev
