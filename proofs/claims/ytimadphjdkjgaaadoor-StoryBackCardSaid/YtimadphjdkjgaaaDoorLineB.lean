import Derived.Test.YtimadphjdkjgaaaDoorF0
import Derived.Test.YtimadphjdkjgaaaDoorF2
import Derived.Test.YtimadphjdkjgaaaDoorF3
import Derived.Test.YtimadphjdkjgaaaDoorLine

/- Steps as lines: the program's changes, what is asked, and steps. -/
namespace Go.Proofs.YtimadphjdkjgaaaDoor.Aev
open Go
set_option linter.unusedVariables false
set_option linter.unusedSimpArgs false
set_option maxRecDepth 100000
abbrev Ch : Type := D_api_Change
abbrev Oq : Type := D_api_Op
abbrev wCreate : ByteArray := ByteArray.mk (List.toArray [99, 114, 101, 97, 116, 101])
abbrev wAdd : ByteArray := ByteArray.mk (List.toArray [97, 100, 100])
abbrev wDrop : ByteArray := ByteArray.mk (List.toArray [100, 114, 111, 112])
abbrev wRetype : ByteArray := ByteArray.mk (List.toArray [114, 101, 116, 121, 112, 101])
abbrev wSplit : ByteArray := ByteArray.mk (List.toArray [115, 112, 108, 105, 116])
abbrev wMerge : ByteArray := ByteArray.mk (List.toArray [109, 101, 114, 103, 101])
abbrev wScan : ByteArray := ByteArray.mk (List.toArray [115, 99, 97, 110])
abbrev wChange : ByteArray := ByteArray.mk (List.toArray [99, 104, 97, 110, 103, 101])
abbrev wTo : ByteArray := ByteArray.mk (List.toArray [116, 111])
noncomputable def colsP (l : List C) : P2 := if 8 < l.length then (2, []) else colsL l
noncomputable def chP (c : Ch) : P2 :=
 if c.1 = 1 then sq (0, [wCreate]) (sq (nmP [c.2.2.2.2.2.2.2.2.2.1.1]) (sq (numP c.2.2.2.2.2.2.2.2.2.1.2.1) (colsP c.2.2.2.2.2.2.2.2.2.1.2.2.1)))
 else if c.1 = 2 then sq (0, [wAdd]) (sq (nmP [c.2.1]) (colP c.2.2.2.2.2.2.2.2.1))
 else if c.1 = 3 then sq (0, [wDrop]) (nmP [c.2.1, c.2.2.2.2.2.1])
 else if c.1 = 4 then sq (0, [wRetype]) (sq (nmP [c.2.1, c.2.2.2.2.2.1]) (kdP c.2.2.2.2.2.2.1))
 else if c.1 = 5 then sq (0, [wSplit]) (sq (nmP [c.2.1, c.2.2.2.1, c.2.2.2.2.1]) (if 8 < c.2.2.2.2.2.2.2.1.length then (2, []) else nmP c.2.2.2.2.2.2.2.1))
 else if c.1 = 6 then sq (0, [wMerge]) (nmP [c.2.1, c.2.2.1, c.2.2.2.1])
 else (1, [])
structure OkCh (c : Ch) : Prop where
 keys : -9223372036854775808 ≤ c.2.2.2.2.2.2.2.2.2.1.2.1 ∧ c.2.2.2.2.2.2.2.2.2.1.2.1 ≤ 9223372036854775807
 cols : ∀ x ∈ c.2.2.2.2.2.2.2.2.2.1.2.2.1, OkV x.2.2.2.1
 col : OkV c.2.2.2.2.2.2.2.2.1.2.2.2.1
section
variable (c : Ch) (hc : OkCh c) (st : P2) (h : st.2.length ≤ 400) (k : Nat) (hk : 900000 ≤ k)
include hc h hk
theorem change_main (F : List ByteArray → Option (Int × List ByteArray)) (hF : ∀ ws, ws.length ≤ 1 → F ws = some (sq st (0, ws)))
  (no : Option sw_change.R) :
  (bif (c.1 == (1 : Int)) then ((F [wCreate]).bind fun r0 => ((sw_name.f k [c.2.2.2.2.2.2.2.2.2.1.1] r0.1 r0.2).bind fun r1 => ((sw_number.f k c.2.2.2.2.2.2.2.2.2.1.2.1 r1.1 r1.2).bind fun r2 => (bif (decide ((c.2.2.2.2.2.2.2.2.2.1.2.2.1.length : Int) > (8 : Int))) then ((sw_fail.f0 k (2 : Int) r2.1 r2.2).bind fun r3 => (Sum.elim (fun r4 => (some (.inl (r4.1, r4.2)))) (fun r5 => (some (.inr (r5)))) r3)) else (sw_change.s0 k c.2.2.2.2.2.2.2.2.2.1.2.2.1 (c.2.2.2.2.2.2.2.2.2.1.2.2.1.length : Int) (0 : Int) r2.1 r2.2)))))
  else (bif (c.1 == (2 : Int)) then ((F [wAdd]).bind fun r6 => ((sw_name.f k [c.2.1] r6.1 r6.2).bind fun r7 => ((sw_col.f k c.2.2.2.2.2.2.2.2.1.1 c.2.2.2.2.2.2.2.2.1.2.1 c.2.2.2.2.2.2.2.2.1.2.2.1 c.2.2.2.2.2.2.2.2.1.2.2.2.1.1 c.2.2.2.2.2.2.2.2.1.2.2.2.1.2.1 c.2.2.2.2.2.2.2.2.1.2.2.2.1.2.2.1 c.2.2.2.2.2.2.2.2.1.2.2.2.1.2.2.2.1 r7.1 r7.2).bind fun r8 => (some (.inl (r8.1, r8.2))))))
  else (bif (c.1 == (3 : Int)) then ((F [wDrop]).bind fun r9 => ((sw_name.f k [c.2.1, c.2.2.2.2.2.1] r9.1 r9.2).bind fun r10 => (some (.inl (r10.1, r10.2)))))
  else (bif (c.1 == (4 : Int)) then ((F [wRetype]).bind fun r11 => ((sw_name.f k [c.2.1, c.2.2.2.2.2.1] r11.1 r11.2).bind fun r12 => ((sw_kind.f k c.2.2.2.2.2.2.1 r12.1 r12.2).bind fun r13 => (some (.inl (r13.1, r13.2))))))
  else (bif (c.1 == (5 : Int)) then ((F [wSplit]).bind fun r14 => ((sw_name.f k [c.2.1, c.2.2.2.1, c.2.2.2.2.1] r14.1 r14.2).bind fun r15 => (bif (decide ((c.2.2.2.2.2.2.2.1.length : Int) > (8 : Int))) then ((sw_fail.f0 k (2 : Int) r15.1 r15.2).bind fun r16 => (Sum.elim (fun r17 => (some (.inl (r17.1, r17.2)))) (fun r18 => (some (.inr (r18)))) r16)) else ((sw_name.f k c.2.2.2.2.2.2.2.1 r15.1 r15.2).bind fun r19 => (some (.inl (r19.1, r19.2)))))))
  else (bif (c.1 == (6 : Int)) then ((F [wMerge]).bind fun r20 => ((sw_name.f k [c.2.1, c.2.2.1, c.2.2.2.1] r20.1 r20.2).bind fun r21 => (some (.inl (r21.1, r21.2)))))
  else no)))))) = if 1 ≤ c.1 ∧ c.1 ≤ 6 then some (.inl (sq st (chP c))) else no := by
 have nmw : ∀ (w : ByteArray) (l : List ByteArray), l.length ≤ 10 → sw_name.f k l (sq st (0, [w])).1 (sq st (0, [w])).2 = some (sq st (sq (0, [w]) (nmP l))) := fun w l hl => by
  rw [name_w l (by omega) _ (by simp [sq]; omega) k (by omega), sq_assoc]
 have len : ∀ (w : ByteArray) (l : List ByteArray), l.length ≤ 10 → (sq st (sq (0, [w]) (nmP l))).2.length ≤ 411 := fun w l hl => by
  simp only [sq, List.length_append, nmP_len, List.length_singleton]; omega
 unfold chP
 by_cases q1 : c.1 = 1
 ·have w1 := hF [wCreate] (by simp)
  have w2 := nmw wCreate [c.2.2.2.2.2.2.2.2.2.1.1] (by simp)
  have l2 := len wCreate [c.2.2.2.2.2.2.2.2.2.1.1] (by simp)
  have w3 := number_w c.2.2.2.2.2.2.2.2.2.1.2.1 hc.keys.1 hc.keys.2 (sq st (sq (0, [wCreate]) (nmP [c.2.2.2.2.2.2.2.2.2.1.1]))) (by omega) k (by omega)
  have l3 : (sq (sq st (sq (0, [wCreate]) (nmP [c.2.2.2.2.2.2.2.2.2.1.1]))) (numP c.2.2.2.2.2.2.2.2.2.1.2.1)).2.length ≤ 412 := by rw [sq, List.length_append]; simp only [numP, List.length_singleton]; omega
  rw [beq_iff_eq.2 q1, cond_true, if_pos (by omega), if_pos q1]
  simp only [w1, w2, w3, os]
  have fin : ∀ p, sq (sq (sq st (sq (0, [wCreate]) (nmP [c.2.2.2.2.2.2.2.2.2.1.1]))) (numP c.2.2.2.2.2.2.2.2.2.1.2.1)) p = sq st (sq (0, [wCreate]) (sq (nmP [c.2.2.2.2.2.2.2.2.2.1.1]) (sq (numP c.2.2.2.2.2.2.2.2.2.1.2.1) p))) := fun p => by rw [sq_assoc, sq_assoc, sq_assoc]
  unfold colsP
  by_cases q : 8 < c.2.2.2.2.2.2.2.2.2.1.2.2.1.length
  ·have q' : (c.2.2.2.2.2.2.2.2.2.1.2.2.1.length : Int) > 8 := by omega
   rw [decide_eq_true q', cond_true, if_pos q, fail0_eq, fin]; rfl
  ·have q' : ¬ (c.2.2.2.2.2.2.2.2.2.1.2.2.1.length : Int) > 8 := by omega
   rw [decide_eq_false q', cond_false, if_neg q, cols_w _ (by omega) hc.cols _ (by omega) k (by omega), fin]
 ·rw [beq_eq_false_iff_ne.2 q1, cond_false, if_neg q1]
  by_cases q2 : c.1 = 2
  ·have w1 := hF [wAdd] (by simp)
   have w2 := nmw wAdd [c.2.1] (by simp)
   have l2 := len wAdd [c.2.1] (by simp)
   have w3 := col_w hc.col (sq st (sq (0, [wAdd]) (nmP [c.2.1]))) (by omega) k (by omega)
   rw [beq_iff_eq.2 q2, cond_true, if_pos (by omega), if_pos q2]
   simp only [w1, w2, w3, os]
   rw [sq_assoc, sq_assoc]
  ·rw [beq_eq_false_iff_ne.2 q2, cond_false, if_neg q2]
   by_cases q3 : c.1 = 3
   ·rw [beq_iff_eq.2 q3, cond_true, if_pos (by omega), if_pos q3]
    simp only [hF [wDrop] (by simp), nmw wDrop [c.2.1, c.2.2.2.2.2.1] (by simp), os]
   ·rw [beq_eq_false_iff_ne.2 q3, cond_false, if_neg q3]
    by_cases q4 : c.1 = 4
    ·have l2 := len wRetype [c.2.1, c.2.2.2.2.2.1] (by simp)
     have w3 := kind_w c.2.2.2.2.2.2.1 (sq st (sq (0, [wRetype]) (nmP [c.2.1, c.2.2.2.2.2.1]))) (by omega) k
     rw [beq_iff_eq.2 q4, cond_true, if_pos (by omega), if_pos q4]
     simp only [hF [wRetype] (by simp), nmw wRetype [c.2.1, c.2.2.2.2.2.1] (by simp), w3, os]
     rw [sq_assoc, sq_assoc]
    ·rw [beq_eq_false_iff_ne.2 q4, cond_false, if_neg q4]
     by_cases q5 : c.1 = 5
     ·have l2 := len wSplit [c.2.1, c.2.2.2.1, c.2.2.2.2.1] (by simp)
      rw [beq_iff_eq.2 q5, cond_true, if_pos (by omega), if_pos q5]
      simp only [hF [wSplit] (by simp), nmw wSplit [c.2.1, c.2.2.2.1, c.2.2.2.2.1] (by simp), os]
      by_cases q : 8 < c.2.2.2.2.2.2.2.1.length
      ·have q' : (c.2.2.2.2.2.2.2.1.length : Int) > 8 := by omega
       rw [decide_eq_true q', cond_true, if_pos q, fail0_eq, sq_assoc, sq_assoc]; rfl
      ·have q' : ¬ (c.2.2.2.2.2.2.2.1.length : Int) > 8 := by omega
       rw [decide_eq_false q', cond_false, if_neg q, name_w _ (by omega) _ (by omega) k (by omega), sq_assoc, sq_assoc]; rfl
     ·rw [beq_eq_false_iff_ne.2 q5, cond_false, if_neg q5]
      by_cases q6 : c.1 = 6
      ·rw [beq_iff_eq.2 q6, cond_true, if_pos (by omega), if_pos q6]
       simp only [hF [wMerge] (by simp), nmw wMerge [c.2.1, c.2.2.1, c.2.2.2.1] (by simp), os]
      ·rw [beq_eq_false_iff_ne.2 q6, cond_false, if_neg (by omega)]
end
theorem change0_w (c : Ch) (hc : OkCh c) (st : P2) (h : st.2.length ≤ 400) (k : Nat) (hk : 900000 ≤ k) : sw_change.f0 k c st.1 st.2 = some (.inl (sq st (chP c))) := by
 have m := change_main c hc st h k hk (fun ws => sw_word.f0 k ws st.1 st.2) (fun ws hw => word0_eq ws st (by omega) k) ((sw_fail.f0 k (1 : Int) st.1 st.2).bind fun r => Sum.elim (fun r4 => (some (.inl (r4.1, r4.2)))) (fun r5 => (some (.inr (r5)))) r)
 simp only [sw_change.f0, sw_change.c0, ofs]
 refine Eq.trans m ?_
 by_cases q : 1 ≤ c.1 ∧ c.1 ≤ 6
 ·rw [if_pos q]
 ·rw [if_neg q, fail0_eq]
  unfold chP
  rw [if_neg (by omega), if_neg (by omega), if_neg (by omega), if_neg (by omega), if_neg (by omega), if_neg (by omega)]
  rfl
/-! ### what is asked -/
def verbW (k : Int) : Option ByteArray :=
 if k = 1 then some (mkW [103, 101, 116]) else if k = 3 then some (mkW [105, 110, 115, 101, 114, 116]) else if k = 4 then some (mkW [117, 112, 100, 97, 116, 101]) else if k = 5 then some (mkW [100, 101, 108, 101, 116, 101])
 else if k = 7 then some (mkW [98, 101, 103, 105, 110]) else if k = 8 then some (mkW [99, 111, 109, 109, 105, 116]) else if k = 9 then some (mkW [97, 98, 111, 114, 116]) else none
theorem findD_cons {a b : Int} {s : ByteArray} {l : List (Int × ByteArray)} : findD (kt := .int .i64) (et := .str) a ((b, s) :: l) = if a = b then some s else findD (kt := .int .i64) (et := .str) a l := by
 show (bif (keyEq (.int .i64) a b) then _ else _) = _
 by_cases h : a = b
 ·rw [if_pos h]
  have : keyEq (.int .i64) a b = true := by simp [keyEq, h]
  rw [this]; rfl
 ·rw [if_neg h]
  have : keyEq (.int .i64) a b = false := by simp [keyEq, h]
  rw [this]; rfl
def findL (a : Int) : List (Int × ByteArray) → Option ByteArray
 | [] => none
 | (b, s) :: l => if a = b then some s else findL a l
theorem findD_L (a : Int) (l : List (Int × ByteArray)) : findD (kt := .int .i64) (et := .str) a l = findL a l := by
 induction l with
 | nil => rfl
 | cons p l ih =>
  obtain ⟨b, s⟩ := p
  refine findD_cons.trans ?_
  rw [ih]; rfl
theorem verbs_eq (k : Nat) : ∃ l, story_verbs.f k = some l ∧ ∀ a : Int, findD (kt := .int .i64) (et := .str) a l = verbW a := by
 refine ⟨_, rfl, fun a => (findD_L a _).trans ?_⟩
 unfold verbW
 rfl
def plainW (k : Int) : Option ByteArray :=
 if k = 3 then some (mkW [109, 105, 103, 114, 97, 116, 101]) else if k = 4 then some (mkW [116, 105, 99, 107]) else if k = 5 then some (mkW [99, 111, 108, 108, 101, 99, 116]) else if k = 6 then some (mkW [102, 114, 101, 101]) else none
theorem plain_eq (k : Nat) : ∃ l, story_plain.f k = some l ∧ ∀ a : Int, findD (kt := .int .i64) (et := .str) a l = plainW a := by
 refine ⟨_, rfl, fun a => (findD_L a _).trans ?_⟩
 unfold plainW
 rfl
noncomputable def opP (o : Oq) : P2 :=
 if o.1 = 2 then sq (0, [wScan]) (sq (nmP [o.2.1]) (sq (numP o.2.2.2.2.2.1) (sq (vsP o.2.2.2.1) (sq (0, [wTo]) (vsP o.2.2.2.2.1)))))
 else if o.1 = 6 then sq (0, [wChange]) (chP o.2.2.2.2.2.2.1)
 else match verbW o.1 with
  | none => (1, [])
  | some w => if o.1 < 7 then sq (0, [w]) (sq (nmP [o.2.1]) (vsP o.2.2.1)) else (0, [w])
structure OkO (o : Oq) : Prop where
 max : -9223372036854775808 ≤ o.2.2.2.2.2.1 ∧ o.2.2.2.2.2.1 ≤ 9223372036854775807
 row : ∀ v ∈ o.2.2.1, OkV v
 lo : ∀ v ∈ o.2.2.2.1, OkV v
 hi : ∀ v ∈ o.2.2.2.2.1, OkV v
 ch : OkCh o.2.2.2.2.2.2.1
theorem op_w (o : Oq) (ho : OkO o) (st : P2) (h : st.2.length ≤ 300) (k : Nat) (hk : 900000 ≤ k) : sw_op.f k o st.1 st.2 = some (.inl (sq st (opP o))) := by
 have wd : ∀ w, sw_word.f0 k [w] st.1 st.2 = some (sq st (0, [w])) := fun w => word0_eq [w] st (by simp; omega) k
 have nmw : ∀ (w s : ByteArray), sw_name.f k [s] (sq st (0, [w])).1 (sq st (0, [w])).2 = some (sq st (sq (0, [w]) (nmP [s]))) := fun w s => by
  rw [name_w [s] (by simp) _ (by simp [sq]; omega) k (by omega), sq_assoc]
 have len : ∀ (w s : ByteArray), (sq st (sq (0, [w]) (nmP [s]))).2.length ≤ 302 := fun w s => by
  simp only [sq, List.length_append, nmP_len, List.length_singleton]; omega
 simp only [sw_op.f, sw_op.c, ofs]
 unfold opP
 by_cases q2 : o.1 = 2
 ·have l2 := len wScan o.2.1
  have w3 := number_w o.2.2.2.2.2.1 ho.max.1 ho.max.2 (sq st (sq (0, [wScan]) (nmP [o.2.1]))) (by omega) k (by omega)
  have l3 : (sq (sq st (sq (0, [wScan]) (nmP [o.2.1]))) (numP o.2.2.2.2.2.1)).2.length ≤ 303 := by rw [sq, List.length_append]; simp only [numP, List.length_singleton]; omega
  have w4 := values_w o.2.2.2.1 ho.lo (sq (sq st (sq (0, [wScan]) (nmP [o.2.1]))) (numP o.2.2.2.2.2.1)) (by omega) k (by omega)
  have v4 := vsP_len o.2.2.2.1
  have l4 : (sq (sq (sq st (sq (0, [wScan]) (nmP [o.2.1]))) (numP o.2.2.2.2.2.1)) (vsP o.2.2.2.1)).2.length ≤ 311 := by rw [sq, List.length_append]; omega
  have w5 := word0_eq [wTo] (sq (sq (sq st (sq (0, [wScan]) (nmP [o.2.1]))) (numP o.2.2.2.2.2.1)) (vsP o.2.2.2.1)) (by simp; omega) k
  have l5 : (sq (sq (sq (sq st (sq (0, [wScan]) (nmP [o.2.1]))) (numP o.2.2.2.2.2.1)) (vsP o.2.2.2.1)) (0, [wTo])).2.length ≤ 312 := by rw [sq, List.length_append]; simp only [List.length_singleton]; omega
  have w6 := values_w o.2.2.2.2.1 ho.hi (sq (sq (sq (sq st (sq (0, [wScan]) (nmP [o.2.1]))) (numP o.2.2.2.2.2.1)) (vsP o.2.2.2.1)) (0, [wTo])) (by omega) k (by omega)
  rw [beq_iff_eq.2 q2, cond_true, if_pos q2]
  simp only [wd, nmw, w3, w4, w5, w6, os, Sum.elim_inl]
  rw [sq_assoc, sq_assoc, sq_assoc, sq_assoc, sq_assoc]
 ·rw [beq_eq_false_iff_ne.2 q2, cond_false, if_neg q2]
  by_cases q6 : o.1 = 6
  ·have w2 := change0_w o.2.2.2.2.2.2.1 ho.ch (sq st (0, [wChange])) (by simp [sq]; omega) k (by omega)
   rw [beq_iff_eq.2 q6, cond_true, if_pos q6]
   simp only [wd, w2, os, Sum.elim_inl]
   rw [sq_assoc]
  ·rw [beq_eq_false_iff_ne.2 q6, cond_false, if_neg q6]
   obtain ⟨l, e1, e2⟩ := verbs_eq k
   simp only [e1, e2, os]
   cases hv : verbW o.1 with
   | none =>
    simp only [Option.isSome_none, Bool.not_false, cond_true, fail0_eq, os, Sum.elim_inl]
   | some w =>
    simp only [Option.isSome_some, Bool.not_true, cond_false, Option.getD_some, wd, os]
    by_cases q7 : o.1 < 7
    ·have l2 := len w o.2.1
     have w4 := values_w o.2.2.1 ho.row (sq st (sq (0, [w]) (nmP [o.2.1]))) (by omega) k (by omega)
     rw [decide_eq_true q7, cond_true, if_pos q7]
     simp only [nmw, w4, os, Sum.elim_inl]
     rw [sq_assoc, sq_assoc]
    ·rw [decide_eq_false q7, cond_false, if_neg q7]
end Go.Proofs.YtimadphjdkjgaaaDoor.Aev
