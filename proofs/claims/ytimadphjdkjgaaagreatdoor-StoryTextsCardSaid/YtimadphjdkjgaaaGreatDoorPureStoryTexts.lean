import Derived.Test.YtimadphjdkjgaaaGreatDoorF3
import Derived.Test.YtimadphjdkjgaaaGreatDoorF5
import Derived.Test.YtimadphjdkjgaaaGreatDoorF6
import Derived.Test.YtimadphjdkjgaaaGreatDoorF10
import Derived.Test.YtimadphjdkjgaaaGreatDoorF13
import Derived.Test.YtimadphjdkjgaaaGreatDoorF16
import Derived.Test.YtimadphjdkjgaaaGreatDoorRdS
import Derived.Test.YtimadphjdkjgaaaGreatDoorLns
import Derived.Test.YtimadphjdkjgaaaGreatDoorBa

/- Texts read as steps, line by line: the program's way and the document's. -/
namespace Go.Proofs.YtimadphjdkjgaaaGreatDoor.Aev
open Go
set_option linter.unusedVariables false
set_option linter.unusedSimpArgs false
set_option maxRecDepth 100000
open Classical in
/-- the step that a line is -/
noncomputable def rd (line : List UInt8) : Sp × Int :=
 if h : ∃ s, IsLine line s then ((read_ok h.choose_spec).choose, 0) else (Z_api_Step, if (splitL line).2 = 0 then 4 else (splitL line).2)
def OkLn (x : List UInt8) : Prop := x.length ≤ 90000 ∨ ∃ s, IsLine x s
theorem okln_len {x : List UInt8} (h : OkLn x) : x.length ≤ 400000 := by
 rcases h with h | ⟨s, h1, h2, rfl⟩
 ·omega
 ·exact line_len h1 h2
theorem rd_f {line : List UInt8} (h : OkLn line) (k : Nat) (hk : 17000000 ≤ k) : story_Read.f k (mkW line) = some (rd line) ∧ r37_Read.f k (mkW line) = some (rd line) := by
 unfold rd
 by_cases c : ∃ s, IsLine line s
 ·rw [dif_pos c]
  exact (read_ok c.choose_spec).choose_spec.2.2.2.2 k hk
 ·rw [dif_neg c]
  rcases h with h | h
  ·exact read_no h (fun s hs => c ⟨s, hs⟩) k hk
  ·exact absurd h c
theorem rd_small (line : List UInt8) : SmallS (rd line).1 := by
 unfold rd
 split
 ·rename_i c
  exact (read_ok c.choose_spec).choose_spec.2.2.2.1
 ·exact smallZ
theorem rd_err {line : List UInt8} (h : ¬ (splitL line).2 = 0) : (rd line).2 = (splitL line).2 := by
 unfold rd
 split
 ·rename_i c
  obtain ⟨s, h1, h2, rfl⟩ := c
  exact absurd (by rw [split_lin h1 h2]) h
 ·first | rfl | exact if_neg h
noncomputable def prs : List (List UInt8) → Nat → List Sp → List Sp × Int × Int
 | [], _, out => (out, 0, 0)
 | x :: r, n, out => if (splitL x).2 = 0 ∧ (splitL x).1 = [] then prs r (n + 1) out else if (rd x).2 = 0 then prs r (n + 1) (out ++ [(rd x).1]) else ([], (n : Int), (rd x).2)
theorem prs_small : ∀ (l : List (List UInt8)) (n : Nat) (out : List Sp), (∀ s ∈ out, SmallS s) → ∀ s ∈ (prs l n out).1, SmallS s
 | [], n, out, h => h
 | x :: r, n, out, h => by
  unfold prs
  split
  ·exact prs_small r _ _ h
  ·split
   ·refine prs_small r _ _ fun s hs => ?_
    rcases List.mem_append.1 hs with hs | hs
    ·exact h s hs
    ·rw [List.mem_singleton.1 hs]; exact rd_small x
   ·intro s hs; cases hs
theorem prs_len : ∀ (l : List (List UInt8)) (n : Nat) (out : List Sp), (prs l n out).1.length ≤ out.length + l.length
 | [], n, out => Nat.le_refl _
 | x :: r, n, out => by
  unfold prs
  split
  ·have := prs_len r (n + 1) out; rw [List.length_cons]; omega
  ·split
   ·have := prs_len r (n + 1) (out ++ [(rd x).1]); rw [List.length_append, List.length_singleton] at this; rw [List.length_cons]; omega
   ·simp
theorem enc_len (x : List UInt8) : (((encS (splitL x)).1.length : Int) == 0) = decide ((splitL x).1 = []) := by
 unfold encS
 cases (splitL x).1 with
 | nil => rfl
 | cons a b =>
  rw [decide_eq_false (by simp), beq_eq_false_iff_ne, List.map_cons, List.length_cons]
  omega
theorem elem_sp {l : List ByteArray} {i : Nat} (h : i < l.length) : elem Ty.str l (i : Int) = l[i] := by
 simp [elem, List.getD, List.getElem?_eq_getElem h]
theorem parse_s0 (L : List (List UInt8)) (hL : L.length ≤ 10000000) (ok : ∀ x ∈ L, OkLn x) : ∀ (m i : Nat) (out : List Sp), i + m = L.length → out.length ≤ i → ∀ k, 4 * m + 17000010 < k →
  story_Parse.s0 k (L.map mkW) (L.length : Int) (i : Int) out = some (prs (L.drop i) (i + 1) out) := by
 intro m
 induction m with
 | zero =>
  intro i out hi ho k hk
  obtain ⟨k, rfl⟩ : ∃ q, k = q + 1 := ⟨k - 1, by omega⟩
  have e : ¬ (i : Int) < (L.length : Int) := by omega
  rw [List.drop_eq_nil_of_le (by omega)]
  simp only [story_Parse.s0, story_Parse.s0c, e, decide_false, cond_false, prs]
 | succ m ih =>
  intro i out hi ho k hk
  obtain ⟨k, rfl⟩ : ∃ q, k = q + 4 := ⟨k - 4, by omega⟩
  have hlt : i < L.length := by omega
  have hlt2 : i < (L.map mkW).length := by rw [List.length_map]; exact hlt
  have e0 : (i : Int) < (L.length : Int) := by omega
  have e0' : (i : Int) < ((L.map mkW).length : Int) := by rw [List.length_map]; omega
  have e1 : (0 : Int) ≤ (i : Int) := by omega
  have e2 : IntKind.wrap IntKind.i64 ((i : Int) + 1) = ((i + 1 : Nat) : Int) := by rw [i64w (by omega) (by omega)]; omega
  have e3 : (out.length + 1) * 360 ≤ 35184372088832 := by omega
  have he : elem Ty.str (L.map mkW) (i : Int) = mkW L[i] := by rw [elem_sp hlt2, List.getElem_map]
  have hok := ok _ (List.getElem_mem hlt)
  have hlen := okln_len hok
  have sp := split_eq L[i] (by omega) (k + 3) (by omega)
  have rf := (rd_f hok (k + 2) (by omega)).1
  have rf1 := (rd_f hok (k + 1) (by omega)).1
  have r0 : ∀ q, q = k ∨ q = k + 1 → story_Parse.s0 q (L.map mkW) (L.length : Int) ((i + 1 : Nat) : Int) out = some (prs (L.drop (i + 1)) (i + 1 + 1) out) := fun q hq => ih (i + 1) out (by omega) (by omega) q (by omega)
  have r1 := ih (i + 1) (out ++ [(rd L[i]).1]) (by omega) (by rw [List.length_append, List.length_singleton]; omega) k (by omega)
  have s2 : story_Parse.s2 (k + 2) (i : Int) (mkW L[i]) (L.map mkW) (L.length : Int) (i : Int) out = some (if (rd L[i]).2 = 0 then prs (L.drop (i + 1)) (i + 1 + 1) (out ++ [(rd L[i]).1]) else ([], ((i + 1 : Nat) : Int), (rd L[i]).2)) := by
   simp only [story_Parse.s2, story_Parse.s2c, story_Parse.s3, story_Parse.s3c, rf, rf1, e2, e3, r1, decide_true, cond_true, os, ofs]
   by_cases c : (rd L[i]).2 = 0
   ·rw [if_pos c, c]; rfl
   ·rw [if_neg c, bne_iff_ne.2 c]; rfl
  have s3r : story_Parse.s3 (k + 2) (L.map mkW) (L.length : Int) (i : Int) out = some (prs (L.drop (i + 1)) (i + 1 + 1) out) := by
   simp only [story_Parse.s3, story_Parse.s3c, e2, ofs]
   exact r0 (k + 1) (.inr rfl)
  rw [List.drop_eq_getElem_cons hlt, prs]
  simp only [story_Parse.s0, story_Parse.s0c, story_Parse.s1, story_Parse.s1c, e0, e0', e1, he, sp, enc_len, s2, s3r, decide_true, Bool.and_self, cond_true, cond_false, os, ofs]
  have es : (encS (splitL L[i])).2 = (splitL L[i]).2 := rfl
  rw [es]
  by_cases c : (splitL L[i]).2 = 0
  ·rw [c, beq_self_eq_true, cond_true]
   by_cases d : (splitL L[i]).1 = []
   ·rw [decide_eq_true d, cond_true, if_pos (show ((0 : Int) = 0 ∧ (splitL L[i]).1 = []) from ⟨rfl, d⟩)]
   ·rw [decide_eq_false d, cond_false, if_neg (show ¬ ((0 : Int) = 0 ∧ (splitL L[i]).1 = []) from fun z => d z.2)]
  ·rw [beq_eq_false_iff_ne.2 c, cond_false, if_neg (show ¬ ((splitL L[i]).2 = 0 ∧ (splitL L[i]).1 = []) from fun z => c z.1)]
theorem parse_f (t : List UInt8) (ht : t.length ≤ 9000000) (ok : ∀ x ∈ lnsL t, OkLn x) (k : Nat) (hk : 60000000 ≤ k) : story_Parse.f k (mkW t) = some (prs (lnsL t) 1 []) := by
 have hc := lns_count t
 have sp := ssplit_f t (by omega) k
 have r := parse_s0 (lnsL t) (by omega) ok (lnsL t).length 0 [] (by omega) (by simp) k (by omega)
 have r : story_Parse.s0 k ((lnsL t).map mkW) ((lnsL t).length : Int) 0 [] = some (prs (lnsL t) 1 []) := r
 simp only [story_Parse.f, story_Parse.c, sp, List.length_map, r, os, ofs]
/-! ### the document's way -/
theorem lns_one (a : List UInt8) (h : ∀ c ∈ a, ¬ c = 10) : lnsL a = [a] := by
 have := lns_app a h (l := []) (x := []) (r := []) rfl
 rwa [List.append_nil] at this
theorem u8_10 (c : UInt8) : ((c.toNat : Int) != 10) = !decide (c = 10) := by
 have : ((c.toNat : Int) == 10) = decide (c = 10) := byte_is c 10 (by omega)
 rw [← this]; rfl
theorem ex_take (t : List UInt8) (a b : Nat) : (mkW t).extract a b = mkW ((t.drop a).take (b - a)) := by
 apply ba_ext
 rw [ByteArray.data_extract]
 simp [List.extract_eq_take_drop]
theorem rparse_s0 (t : List UInt8) (ht : t.length ≤ 9000000) (ok : ∀ x ∈ lnsL t, OkLn x) : ∀ (m n fr i : Nat) (out : List Sp), i + m = t.length + 1 → fr ≤ i → n ≤ i + 1 → (∀ c ∈ (t.drop fr).take (i - fr), ¬ c = 10) → (∀ x ∈ lnsL (t.drop fr), OkLn x) → out.length ≤ i → ∀ k, 5 * m + 17000020 < k →
  r37_Parse.s0 k (mkW t) (n : Int) (fr : Int) (i : Int) out = some (if i ≤ t.length then prs (lnsL (t.drop fr)) n out else (out, 0, 0)) := by
 intro m
 induction m with
 | zero =>
  intro n fr i out hi hf hn hc ok ho k hk
  obtain ⟨k, rfl⟩ : ∃ q, k = q + 1 := ⟨k - 1, by omega⟩
  have e : ¬ (i : Int) ≤ ((mkW t).size : Int) := by rw [ba_size]; omega
  rw [if_neg (by omega)]
  simp only [r37_Parse.s0, r37_Parse.s0c, e, decide_false, cond_false]
 | succ m ih =>
  intro n fr i out hi hf hn hc ok ho k hk
  obtain ⟨k, rfl⟩ : ∃ q, k = q + 5 := ⟨k - 5, by omega⟩
  have hle : i ≤ t.length := by omega
  have e : (i : Int) ≤ ((mkW t).size : Int) := by rw [ba_size]; omega
  have w1 : IntKind.wrap IntKind.i64 ((i : Int) + 1) = ((i + 1 : Nat) : Int) := by rw [i64w (by omega) (by omega)]; omega
  have w2 : IntKind.wrap IntKind.i64 ((n : Int) + 1) = ((n + 1 : Nat) : Int) := by rw [i64w (by omega) (by omega)]; omega
  have e3 : (out.length + 1) * 360 ≤ 35184372088832 := by omega
  have f0 : (0 : Int) ≤ (fr : Int) := by omega
  have f1 : (fr : Int) ≤ (i : Int) := by omega
  have hx : ByteArray.extract (mkW t) (Int.toNat (fr : Int)) (Int.toNat (i : Int)) = mkW ((t.drop fr).take (i - fr)) := by
   rw [Int.toNat_natCast, Int.toNat_natCast]
   exact ex_take t fr i
  rw [if_pos hle]
  -- behind a line
  have line : ∀ rest : List (List UInt8), lnsL (t.drop fr) = (t.drop fr).take (i - fr) :: rest → (∀ o : List Sp, o.length ≤ i + 1 → ∀ q, 5 * m + 17000020 < q → r37_Parse.s0 q (mkW t) ((n + 1 : Nat) : Int) ((i + 1 : Nat) : Int) ((i + 1 : Nat) : Int) o = some (prs rest (n + 1) o)) →
    r37_Parse.s2 (k + 3) (mkW t) (n : Int) (fr : Int) (i : Int) out = some (prs (lnsL (t.drop fr)) n out) := by
   intro rest hrest hgo
   have hok := ok ((t.drop fr).take (i - fr)) (by rw [hrest]; simp)
   rw [hrest]
   generalize (t.drop fr).take (i - fr) = x at *
   have hlen := okln_len hok
   have sp : ∀ q, k ≤ q → r36_Split.f q (mkW x) = some (encS (splitL x)) := fun q hq => refsplit_eq x (by omega) q (by omega)
   have rf : ∀ q, k ≤ q → r37_Read.f q (mkW x) = some (rd x) := fun q hq => (rd_f hok q (by omega)).2
   have s3 : ∀ o : List Sp, o.length ≤ i + 1 → r37_Parse.s3 (k + 2) (mkW t) (n : Int) ((i + 1 : Nat) : Int) (i : Int) o = some (prs rest (n + 1) o) := by
    intro o hlo
    have := hgo o hlo k (by omega)
    simp only [r37_Parse.s3, r37_Parse.s3c, r37_Parse.s4, r37_Parse.s4c, w1, w2, ofs]
    exact this
   have q1 := s3 out (by omega)
   have q2 := s3 (out ++ [(rd x).1]) (by rw [List.length_append, List.length_singleton]; omega)
   have hgt : decide (((encS (splitL x)).1.length : Int) > 0) = !decide ((splitL x).1 = []) := by
    unfold encS
    cases (splitL x).1 with
    | nil => rfl
    | cons a b =>
     rw [decide_eq_false (show ¬ (a :: b) = [] by simp), Bool.not_false, decide_eq_true_iff, List.map_cons, List.length_cons]
     omega
   have es : (encS (splitL x)).2 = (splitL x).2 := rfl
   simp only [r37_Parse.s2, r37_Parse.s2c, f0, f1, e, hx, w1, sp (k + 2) (by omega), rf (k + 2) (by omega), hgt, e3, q1, q2, es, decide_true, Bool.and_self, cond_true, os, ofs]
   rw [prs]
   by_cases c : (splitL x).2 = 0
   ·rw [c]
    by_cases d : (splitL x).1 = []
    ·rw [decide_eq_true d, if_pos ⟨rfl, d⟩]; rfl
    ·rw [decide_eq_false d, if_neg (fun z => d z.2)]
     by_cases g : (rd x).2 = 0
     ·rw [if_pos g, g]; rfl
     ·rw [if_neg g, bne_iff_ne.2 g]; rfl
   ·have g := rd_err c
    rw [bne_iff_ne.2 c, if_neg (fun z => c z.1), if_neg (by rw [g]; exact c), g]; rfl
  by_cases h : i < t.length
  ·have l1 : (i : Int) < ((mkW t).size : Int) := by rw [ba_size]; omega
   have l0 : (0 : Int) ≤ (i : Int) := by omega
   have hb : bt (mkW t) (i : Int) = (t[i].toNat : Int) := ba_bt t i h
   have hd : t.drop fr = (t.drop fr).take (i - fr) ++ t[i] :: t.drop (i + 1) := by
    have h1 : (t.drop fr).drop (i - fr) = t.drop i := by rw [List.drop_drop]; congr 1; omega
    rw [← List.drop_eq_getElem_cons h, ← h1, List.take_append_drop]
   by_cases c : t[i] = 10
   ·have hl : lnsL (t.drop fr) = (t.drop fr).take (i - fr) :: lnsL (t.drop (i + 1)) := by
     conv => lhs; rw [hd, c]
     exact lns_line _ hc _
    have okr : ∀ x ∈ lnsL (t.drop (i + 1)), OkLn x := fun x hx => ok x (by rw [hl]; exact List.mem_cons_of_mem _ hx)
    have := line _ hl fun o hlo q hq => by
     have := ih (n + 1) (i + 1) (i + 1) o (by omega) (Nat.le_refl _) (by omega) (by rw [Nat.sub_self, List.take_zero]; intro c hc; cases hc) okr hlo q hq
     rw [if_pos (by omega)] at this
     exact this
    simp only [r37_Parse.s0, r37_Parse.s0c, r37_Parse.s1, r37_Parse.s1c, e, l1, l0, hb, u8_10, decide_eq_true c, decide_true, Bool.and_self, Bool.not_true, cond_true, cond_false, ofs]
    exact this
   ·have hc' : ∀ d ∈ (t.drop fr).take (i + 1 - fr), ¬ d = 10 := by
     have e : (t.drop fr).take (i + 1 - fr) = (t.drop fr).take (i - fr) ++ [t[i]] := take_step t fr i hf h
     rw [e]
     intro d hd
     rcases List.mem_append.1 hd with q | q
     ·exact hc d q
     ·rw [List.mem_singleton.1 q]; exact c
    have := ih n fr (i + 1) out (by omega) (by omega) (by omega) hc' ok (by omega) (k + 2) (by omega)
    rw [if_pos (by omega)] at this
    have s4r : r37_Parse.s4 (k + 3) (mkW t) (n : Int) (fr : Int) (i : Int) out = some (prs (lnsL (t.drop fr)) n out) := by
     simp only [r37_Parse.s4, r37_Parse.s4c, w1, ofs]
     exact this
    simp only [r37_Parse.s0, r37_Parse.s0c, r37_Parse.s1, r37_Parse.s1c, e, l1, l0, hb, s4r, u8_10, decide_eq_false c, decide_true, Bool.and_self, Bool.not_false, cond_true, cond_false, ofs]
  ·have l1 : ¬ (i : Int) < ((mkW t).size : Int) := by rw [ba_size]; omega
   have hi2 : i = t.length := by omega
   have hd : (t.drop fr).take (i - fr) = t.drop fr := List.take_of_length_le (by rw [List.length_drop]; omega)
   have hl : lnsL (t.drop fr) = (t.drop fr).take (i - fr) :: [] := by
    rw [hd]; rw [hd] at hc; exact lns_one _ hc
   have := line _ hl fun o hlo q hq => by
    have := ih (n + 1) (i + 1) (i + 1) o (by omega) (Nat.le_refl _) (by omega) (by rw [Nat.sub_self, List.take_zero]; intro c hc; cases hc) (by
     rw [List.drop_eq_nil_of_le (by omega)]
     intro x hx
     have : x = [] := by simpa [lnsL] using hx
     rw [this]; exact .inl (by simp)) hlo q hq
    rw [if_neg (by omega)] at this
    exact this
   simp only [r37_Parse.s0, r37_Parse.s0c, r37_Parse.s1, r37_Parse.s1c, e, l1, decide_true, decide_false, cond_true, cond_false, ofs]
   exact this
theorem rparse_f (t : List UInt8) (ht : t.length ≤ 9000000) (ok : ∀ x ∈ lnsL t, OkLn x) (k : Nat) (hk : 70000000 ≤ k) : r37_Parse.f k (mkW t) = some (prs (lnsL t) 1 []) := by
 have r := rparse_s0 t ht ok (t.length + 1) 1 0 0 [] (by omega) (Nat.le_refl _) (by omega) (by simp) (by rw [List.drop_zero]; exact ok) (by simp) k (by omega)
 rw [if_pos (by omega), List.drop_zero] at r
 have r : r37_Parse.s0 k (mkW t) 1 0 0 [] = some (prs (lnsL t) 1 []) := r
 simp only [r37_Parse.f, r37_Parse.c, r, ofs]
end Go.Proofs.YtimadphjdkjgaaaGreatDoor.Aev

/- StoryTexts: the steps of any text, or the first line that is none, and the error: what the document says. For every input; no conditions. -/
namespace Go.Proofs.YtimadphjdkjgaaaGreatDoor.Aev
open Go
set_option linter.unusedVariables false
set_option linter.unusedSimpArgs false
set_option maxRecDepth 100000
theorem awake_texts (k : Nat) : transomlaw37_awake.f (k + 400) = some true := by kernel_rfl
theorem elem_st {l : List Sp} {i : Nat} (h : i < l.length) : elem T_api_Step l (i : Int) = l[i] := by
 simp [elem, List.getD, List.getElem?_eq_getElem h]
theorem texts_s2 (l : List Sp) (hl : l.length ≤ 1000000) (hs : ∀ s ∈ l, SmallS s) : ∀ (m i : Nat), i + m = l.length → ∀ k, m + 3010 < k → transomlaw37_StoryTexts.s2 k l l (i : Int) = some true := by
 intro m
 induction m with
 | zero =>
  intro i hi k hk
  obtain ⟨k, rfl⟩ : ∃ q, k = q + 1 := ⟨k - 1, by omega⟩
  have e : ¬ (i : Int) < (l.length : Int) := by omega
  have aw : transomlaw37_awake.f k = some true := by
   obtain ⟨q, hq⟩ : ∃ q, k = q + 400 := ⟨k - 400, by omega⟩
   rw [hq]; exact awake_texts q
  simp only [transomlaw37_StoryTexts.s2, transomlaw37_StoryTexts.s2c, e, aw, decide_false, cond_false, os]
 | succ m ih =>
  intro i hi k hk
  obtain ⟨k, rfl⟩ : ∃ q, k = q + 1 := ⟨k - 1, by omega⟩
  have hlt : i < l.length := by omega
  have e0 : (i : Int) < (l.length : Int) := by omega
  have e1 : (0 : Int) ≤ (i : Int) := by omega
  have e2 : IntKind.wrap IntKind.i64 ((i : Int) + 1) = ((i + 1 : Nat) : Int) := by rw [i64w (by omega) (by omega)]; omega
  have c := same_st (hs _ (List.getElem_mem hlt)) k (by omega)
  have r := ih (i + 1) (by omega) k (by omega)
  have z : ((1 : Int) == 0) = false := rfl
  simp only [transomlaw37_StoryTexts.s2, transomlaw37_StoryTexts.s2c, e0, e1, e2, elem_st hlt, c, r, z, decide_true, Bool.and_self, cond_true, cond_false, os, ofs]
theorem Pure.StoryTexts (x0 : ByteArray) (h0 : Fit .str x0) : ∃ k, transomlaw37_StoryTexts.f k x0 = some true := by
 obtain ⟨k, hk⟩ : ∃ k, k = 90000000 := ⟨_, rfl⟩
 refine ⟨k + 2, ?_⟩
 have aw : transomlaw37_awake.f (k + 2) = some true := by
  obtain ⟨q, hq⟩ : ∃ q, k + 2 = q + 400 := ⟨k + 2 - 400, by omega⟩
  rw [hq]; exact awake_texts q
 rw [ba_of x0]
 generalize x0.data.toList = l
 simp only [transomlaw37_StoryTexts.f, transomlaw37_StoryTexts.c, ba_size, aw, os, ofs]
 by_cases hs : (l.length : Int) > 4000
 ·rw [decide_eq_true hs]; rfl
 ·have ok : ∀ x ∈ lnsL l, OkLn x := fun x hx => .inl (by have := lns_len l x hx; omega)
  have a := parse_f l (by omega) ok (k + 2) (by omega)
  have b := rparse_f l (by omega) ok (k + 2) (by omega)
  have n := prs_len (lnsL l) 1 []
  have n2 := lns_count l
  have sm := prs_small (lnsL l) 1 [] (by simp)
  rw [decide_eq_false hs]
  simp only [a, b, cond_false, os, bne_self_eq_false]
  generalize (prs (lnsL l) 1 []).1 = r at *
  have t := texts_s2 r (by simp at n; omega) sm r.length 0 (by omega) k (by simp at n; omega)
  have t : transomlaw37_StoryTexts.s2 k r r 0 = some true := t
  simp only [transomlaw37_StoryTexts.s0, transomlaw37_StoryTexts.s0c, transomlaw37_StoryTexts.s1, transomlaw37_StoryTexts.s1c, t, cond_false, os, ofs]
end Go.Proofs.YtimadphjdkjgaaaGreatDoor.Aev
