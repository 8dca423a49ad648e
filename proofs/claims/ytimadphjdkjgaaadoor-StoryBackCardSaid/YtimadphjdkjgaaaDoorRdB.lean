import Derived.Test.YtimadphjdkjgaaaDoorF5
import Derived.Test.YtimadphjdkjgaaaDoorF6
import Derived.Test.YtimadphjdkjgaaaDoorRdC

/- Words of a change, read as a change: the change's own. -/
namespace Go.Proofs.YtimadphjdkjgaaaDoor.Aev
open Go
set_option linter.unusedVariables false
set_option linter.unusedSimpArgs false
set_option maxRecDepth 100000
def smallC (c : Ch) : Prop := c.2.2.2.2.2.2.2.1.length ≤ 1000 ∧ c.2.2.2.2.2.2.2.2.2.1.2.2.1.length ≤ 1000
theorem chP_1 {c : Ch} (h : c.1 = 1) : chP c = sq (0, [wCreate]) (sq (nmP [c.2.2.2.2.2.2.2.2.2.1.1]) (sq (numP c.2.2.2.2.2.2.2.2.2.1.2.1) (colsP c.2.2.2.2.2.2.2.2.2.1.2.2.1))) := by
 unfold chP; rw [if_pos h]
theorem chP_2 {c : Ch} (h : c.1 = 2) : chP c = sq (0, [wAdd]) (sq (nmP [c.2.1]) (colP c.2.2.2.2.2.2.2.2.1)) := by
 unfold chP; rw [if_neg (by omega), if_pos h]
theorem chP_3 {c : Ch} (h : c.1 = 3) : chP c = sq (0, [wDrop]) (nmP [c.2.1, c.2.2.2.2.2.1]) := by
 unfold chP; rw [if_neg (by omega), if_neg (by omega), if_pos h]
theorem chP_4 {c : Ch} (h : c.1 = 4) : chP c = sq (0, [wRetype]) (sq (nmP [c.2.1, c.2.2.2.2.2.1]) (kdP c.2.2.2.2.2.2.1)) := by
 unfold chP; rw [if_neg (by omega), if_neg (by omega), if_neg (by omega), if_pos h]
theorem chP_5 {c : Ch} (h : c.1 = 5) : chP c = sq (0, [wSplit]) (sq (nmP [c.2.1, c.2.2.2.1, c.2.2.2.2.1]) (if 8 < c.2.2.2.2.2.2.2.1.length then (2, []) else nmP c.2.2.2.2.2.2.2.1)) := by
 unfold chP; rw [if_neg (by omega), if_neg (by omega), if_neg (by omega), if_neg (by omega), if_pos h]
theorem chP_6 {c : Ch} (h : c.1 = 6) : chP c = sq (0, [wMerge]) (nmP [c.2.1, c.2.2.1, c.2.2.2.1]) := by
 unfold chP; rw [if_neg (by omega), if_neg (by omega), if_neg (by omega), if_neg (by omega), if_neg (by omega), if_pos h]
theorem chP_0 {c : Ch} (h : (chP c).1 = 0) : c.1 = 1 ∨ c.1 = 2 ∨ c.1 = 3 ∨ c.1 = 4 ∨ c.1 = 5 ∨ c.1 = 6 := by
 unfold chP at h
 (repeat' split at h) <;> first | (simp at h; done) | omega
theorem colsP_0 {l : List C} (h : (colsP l).1 = 0) : colsP l = colsL l ∧ l.length ≤ 8 := by
 unfold colsP at h ⊢
 split at h
 ·cases h
 ·rename_i c; rw [if_neg c]; exact ⟨rfl, by omega⟩
theorem nmP_w : ∀ l : List ByteArray, (nmP l).2 = l
 | [] => rfl
 | s :: l => by
  show [s] ++ (nmP l).2 = _
  rw [nmP_w l]; rfl
theorem sm_gd {p : P2} (hg : Gd p) (h : p.1 = 0) : Sm p.2 := fun w hw => by
 have h4 := (hg h w hw).2.2.2
 have : w.size = w.data.toList.length := size_eq w
 omega
structure ChB (ws : List ByteArray) (t : Ch) : Prop where
 prog : ∀ k, 14000000 ≤ k → ∃ r : CR, sr_change.f k ws false = some r ∧ chOf r = t ∧ chBad r = false
theorem ch_back {c : Ch} (hc : OkCh c) (h : (chP c).1 = 0) : ∃ t, OkCh t ∧ chP t = chP c ∧ smallC t ∧ ChB (chP c).2 t := by
 have hs := sm_gd (gd_ch hc) h
 have hnil : decide ((0 : Int) ≤ 1) = true := rfl
 rcases chP_0 h with q | q | q | q | q | q
 ·rw [chP_1 q] at h hs ⊢
  replace h := (sq_0.1 h).2
  replace h := (sq_0.1 h).2
  have hn := (sq_0.1 h).1
  replace h := (sq_0.1 h).2
  obtain ⟨e, h8⟩ := colsP_0 h
  rw [e] at h hs ⊢
  generalize hN : c.2.2.2.2.2.2.2.2.2.1.1 = nm at *
  generalize hK : c.2.2.2.2.2.2.2.2.2.1.2.1 = ks at *
  have hcc := hc.cols
  generalize hL : c.2.2.2.2.2.2.2.2.2.1.2.2.1 = cs at *
  obtain ⟨w1, w2⟩ := wn_dig ks hn
  have hw : (sq (0, [wCreate]) (sq (nmP [nm]) (sq (numP ks) (colsL cs)))).2 = wCreate :: nm :: mkW (digL ks) :: (colsL cs).2 := rfl
  rw [hw] at hs ⊢
  have s1 := sm_tl hs
  have s2 := sm_tl s1
  have s3 : Sm (colsL cs).2 := sm_tl s2
  have hlen := colsL_len cs
  have w1 : wn (hdW (mkW (digL ks) :: (colsL cs).2)) = ks := w1
  have w2 : wne (hdW (mkW (digL ks) :: (colsL cs).2)) = 0 := w2
  refine ⟨chC nm ks cs, okC nm (by rw [← hK]; exact hc.keys) hcc, ?_, ⟨by simp, by show cs.length ≤ 1000; omega⟩, ⟨fun k hk => ?_⟩⟩
  ·rw [chP_1 rfl]
   show sq (0, [wCreate]) (sq (nmP [nm]) (sq (numP ks) (colsP cs))) = _
   rw [e]
  ·have n1 := rnumber_w (mkW (digL ks) :: (colsL cs).2) s2 false k (by omega)
   have b := cols_back nm ks cs [] hcc h s3 (by simp; omega) k (by omega)
   have nb : nB (mkW (digL ks) :: (colsL cs).2) false = false := by
    show (wne (hdW (mkW (digL ks) :: (colsL cs).2)) != 0) = false
    rw [w2]; rfl
   rw [w1, nb] at n1
   simp only [sr_change.f, sr_change.c, next_f, hdW, List.tail_cons, List.isEmpty_cons, Bool.or_false, os, wq, beq_self_eq_true, cond_true, n1, b, ofs]
   exact ⟨_, rfl, rfl, rfl⟩

 ·rw [chP_2 q] at h hs ⊢
  replace h := (sq_0.1 h).2
  replace h := (sq_0.1 h).2
  generalize hN : c.2.1 = nm at *
  have hcc := hc.col
  generalize hL : c.2.2.2.2.2.2.2.2.1 = co at *
  have hw : (sq (0, [wAdd]) (sq (nmP [nm]) (colP co))).2 = wAdd :: nm :: (colP co).2 := rfl
  rw [hw] at hs ⊢
  have s2 : Sm (colP co).2 := sm_tl (sm_tl hs)
  obtain ⟨b1, b2, b3, b4⟩ := col_back hcc h []
  rw [List.append_nil] at b1 b2 b3 b4
  refine ⟨(2, nm, mkW [], mkW [], mkW [], mkW [], 0, [], co, (mkW [], 0, [], ()), ()), okD rfl hcc, by rw [chP_2 rfl], ⟨by simp, by simp⟩, ⟨fun k hk => ?_⟩⟩
  ·have f := col_f (colP co).2 s2 false k (by omega)
   rw [b1, b2, b4] at f
   simp only [sr_change.f, sr_change.c, next_f, hdW, List.tail_cons, List.isEmpty_cons, Bool.or_false, os, wq, q_add_create, beq_self_eq_true, cond_true, cond_false, f, ofs]
   exact ⟨_, rfl, rfl, rfl⟩

 ·rw [chP_3 q] at h hs ⊢
  have hw : (sq (0, [wDrop]) (nmP [c.2.1, c.2.2.2.2.2.1])).2 = [wDrop, c.2.1, c.2.2.2.2.2.1] := rfl
  rw [hw]
  refine ⟨(3, c.2.1, mkW [], mkW [], mkW [], c.2.2.2.2.2.1, 0, [], zC, (mkW [], 0, [], ()), ()), okD rfl okv0, by rw [chP_3 rfl], ⟨by simp, by simp⟩, ⟨fun k hk => ?_⟩⟩
  ·simp only [sr_change.f, sr_change.c, next_f, hdW, List.tail_cons, List.isEmpty_cons, Bool.or_false, os, wq, q_drop_create, q_drop_add, beq_self_eq_true, cond_true, cond_false, ofs]
   exact ⟨_, rfl, rfl, rfl⟩

 ·rw [chP_4 q] at h hs ⊢
  replace h := (sq_0.1 h).2
  replace h := (sq_0.1 h).2
  have hk0 := kd_name _ h
  have hw : (sq (0, [wRetype]) (sq (nmP [c.2.1, c.2.2.2.2.2.1]) (kdP c.2.2.2.2.2.2.1))).2 = [wRetype, c.2.1, c.2.2.2.2.2.1, mkW (nameV c.2.2.2.2.2.2.1)] := rfl
  rw [hw]
  refine ⟨(4, c.2.1, mkW [], mkW [], mkW [], c.2.2.2.2.2.1, c.2.2.2.2.2.2.1, [], zC, (mkW [], 0, [], ()), ()), okD rfl okv0, by rw [chP_4 rfl], ⟨by simp, by simp⟩, ⟨fun k hk => ?_⟩⟩
  ·have kd := kind_f (mkW (nameV c.2.2.2.2.2.2.1)) k (by omega)
   rw [hk0] at kd
   simp only [sr_change.f, sr_change.c, next_f, hdW, List.tail_cons, List.isEmpty_cons, Bool.or_false, os, wq, q_retype_create, q_retype_add, q_retype_drop, beq_self_eq_true, cond_true, cond_false, kd, ofs]
   exact ⟨_, rfl, rfl, rfl⟩

 ·rw [chP_5 q] at h hs ⊢
  replace h := (sq_0.1 h).2
  replace h := (sq_0.1 h).2
  by_cases h8 : 8 < c.2.2.2.2.2.2.2.1.length
  ·rw [if_pos h8] at h; cases h
  ·rw [if_neg h8] at h hs ⊢
   have hw : (sq (0, [wSplit]) (sq (nmP [c.2.1, c.2.2.2.1, c.2.2.2.2.1]) (nmP c.2.2.2.2.2.2.2.1))).2 = wSplit :: c.2.1 :: c.2.2.2.1 :: c.2.2.2.2.1 :: c.2.2.2.2.2.2.2.1 := by
    show wSplit :: c.2.1 :: c.2.2.2.1 :: c.2.2.2.2.1 :: (nmP c.2.2.2.2.2.2.2.1).2 = _
    rw [nmP_w]
   rw [hw]
   refine ⟨(5, c.2.1, mkW [], c.2.2.2.1, c.2.2.2.2.1, mkW [], 0, c.2.2.2.2.2.2.2.1, zC, (mkW [], 0, [], ()), ()), okD rfl okv0, ?_, ⟨by show c.2.2.2.2.2.2.2.1.length ≤ 1000; omega, by simp⟩, ⟨fun k hk => ?_⟩⟩
   ·rw [chP_5 rfl]
    show sq (0, [wSplit]) (sq (nmP [c.2.1, c.2.2.2.1, c.2.2.2.2.1]) (if 8 < c.2.2.2.2.2.2.2.1.length then (2, []) else nmP c.2.2.2.2.2.2.2.1)) = _
    rw [if_neg h8]
   ·have cl : sCl.f k c.2.2.2.2.2.2.2.1 = some c.2.2.2.2.2.2.2.1 := by
     unfold sCl.f
     rw [if_pos (by omega)]
    simp only [sr_change.f, sr_change.c, next_f, hdW, List.tail_cons, List.isEmpty_cons, Bool.or_false, os, wq, q_split_create, q_split_add, q_split_drop, q_split_retype, beq_self_eq_true, cond_true, cond_false, rest_f, cl, ofs]
    exact ⟨_, rfl, rfl, rfl⟩

 ·rw [chP_6 q] at h hs ⊢
  have hw : (sq (0, [wMerge]) (nmP [c.2.1, c.2.2.1, c.2.2.2.1])).2 = [wMerge, c.2.1, c.2.2.1, c.2.2.2.1] := rfl
  rw [hw]
  refine ⟨(6, c.2.1, c.2.2.1, c.2.2.2.1, mkW [], mkW [], 0, [], zC, (mkW [], 0, [], ()), ()), okD rfl okv0, by rw [chP_6 rfl], ⟨by simp, by simp⟩, ⟨fun k hk => ?_⟩⟩
  ·simp only [sr_change.f, sr_change.c, next_f, hdW, List.tail_cons, List.isEmpty_cons, Bool.or_false, os, wq, q_merge_create, q_merge_add, q_merge_drop, q_merge_retype, q_merge_split, beq_self_eq_true, cond_true, cond_false, ofs]
   exact ⟨_, rfl, rfl, rfl⟩

end Go.Proofs.YtimadphjdkjgaaaDoor.Aev
