import Derived.Test.YtimadphjdkjgaaaDoorF0
import Derived.Test.YtimadphjdkjgaaaDoorF2
import Derived.Test.YtimadphjdkjgaaaDoorF6
import Derived.Test.YtimadphjdkjgaaaDoorRdO

/- Words of what is asked, and of a step, read again: their own. -/
namespace Go.Proofs.YtimadphjdkjgaaaDoor.Aev
open Go
set_option linter.unusedVariables false
set_option linter.unusedSimpArgs false
set_option maxRecDepth 100000
structure OpB (ws : List ByteArray) (t : Oq) : Prop where
 prog : ∀ k, 15000000 ≤ k → ∃ r : OR, sr_op.f k ws false = some r ∧ oOf r = t ∧ oBad r = false
theorem opP_2 {o : Oq} (h : o.1 = 2) : opP o = sq (0, [wScan]) (sq (nmP [o.2.1]) (sq (numP o.2.2.2.2.2.1) (sq (vsP o.2.2.2.1) (sq (0, [wTo]) (vsP o.2.2.2.2.1))))) := by
 unfold opP; rw [if_pos h]
theorem opP_6 {o : Oq} (h : o.1 = 6) : opP o = sq (0, [wChange]) (chP o.2.2.2.2.2.2.1) := by
 unfold opP; rw [if_neg (by omega), if_pos h]
theorem opP_v {o : Oq} {w : ByteArray} (h : verbW o.1 = some w) (h2 : ¬ o.1 = 2) (h6 : ¬ o.1 = 6) : opP o = if o.1 < 7 then sq (0, [w]) (sq (nmP [o.2.1]) (vsP o.2.2.1)) else (0, [w]) := by
 unfold opP; rw [if_neg h2, if_neg h6, h]
theorem scan_back {o : Oq} (ho : OkO o) (q : o.1 = 2) (h : (opP o).1 = 0) : ∃ t, OkO t ∧ opP t = opP o ∧ smallC t.2.2.2.2.2.2.1 ∧ t.2.2.1.length ≤ 8 ∧ t.2.2.2.1.length ≤ 8 ∧ t.2.2.2.2.1.length ≤ 8 ∧ OpB (opP o).2 t := by
 have hs := sm_gd (gd_op ho) h
 rw [opP_2 q] at h hs ⊢
 replace h := (sq_0.1 h).2
 replace h := (sq_0.1 h).2
 have hn := (sq_0.1 h).1
 replace h := (sq_0.1 h).2
 have hlo := (sq_0.1 h).1
 replace h := (sq_0.1 h).2
 have hhi := (sq_0.1 h).2
 clear h
 have okLo := ho.lo
 have okHi := ho.hi
 have okM := ho.max
 have ll := vsP_le hlo
 have lh := vsP_le hhi
 have el := vsP_0 hlo
 have eh := vsP_0 hhi
 generalize o.2.2.2.1 = lo at *
 generalize o.2.2.2.2.1 = hi at *
 generalize o.2.2.2.2.2.1 = mx at *
 generalize o.2.1 = nm at *
 rw [el] at hlo hs ⊢
 rw [eh] at hhi hs ⊢
 have hw : (sq (0, [wScan]) (sq (nmP [nm]) (sq (numP mx) (sq (vsL lo) (sq (0, [wTo]) (vsL hi)))))).2 = wScan :: nm :: mkW (digL mx) :: ((vsL lo).2 ++ wTo :: (vsL hi).2) := rfl
 rw [hw] at hs ⊢
 have s2 := sm_tl (sm_tl hs)
 have s3 : Sm ((vsL lo).2 ++ wTo :: (vsL hi).2) := sm_tl s2
 obtain ⟨w1, w2⟩ := wn_dig mx hn
 obtain ⟨l1, l2, l3⟩ := vs_back lo okLo hlo
 obtain ⟨r1, r2, r3⟩ := vs_back hi okHi hhi
 have lenl : (vsL lo).2.length = lo.length := by rw [vsL_words, List.length_map]
 have lenh : (vsL hi).2.length = hi.length := by rw [vsL_words, List.length_map]
 have hto : ∀ w ∈ (vsL lo).2, ¬ w = wTo := by
  intro w hw
  rw [vsL_words] at hw
  obtain ⟨v, hv, rfl⟩ := List.mem_map.1 hw
  refine shw_to (okLo v hv) ?_
  have : ∀ l : List V, (vsL l).1 = 0 → ∀ v ∈ l, (shw v).2 = 0 := by
   intro l
   induction l with
   | nil => intro _ v hv; cases hv
   | cons x l ih =>
    intro h v hv
    obtain ⟨a, b⟩ := vsL_cons.1 h
    cases List.mem_cons.1 hv with
    | inl e => rw [e]; exact a
    | inr e => exact ih b v e
  exact this lo hlo v hv
 have fx : place (findS wTo ((vsL lo).2 ++ wTo :: (vsL hi).2)) 0 = ((lo.length : Nat) : Int) := by
  rw [find_app _ _ hto 0, lenl, Nat.zero_add]
 have len : ((vsL lo).2 ++ wTo :: (vsL hi).2).length = lo.length + 1 + hi.length := by rw [List.length_append, List.length_cons, lenl, lenh]; omega
 have tk : ((vsL lo).2 ++ wTo :: (vsL hi).2).take lo.length = (vsL lo).2 := by rw [← lenl, List.take_left]
 have dr : ((vsL lo).2 ++ wTo :: (vsL hi).2).drop (lo.length + 1) = (vsL hi).2 := by
  rw [← lenl, ← List.drop_drop, List.drop_left]; rfl
 have ix := fun k hk => index_f ((vsL lo).2 ++ wTo :: (vsL hi).2) wTo (by omega) k hk
 rw [fx] at ix
 have e0 : ¬ ((lo.length : Nat) : Int) < 0 := by omega
 have e1 : (0 : Int) ≤ ((lo.length : Nat) : Int) := by omega
 have e2 : ((lo.length : Nat) : Int) ≤ (((vsL lo).2 ++ wTo :: (vsL hi).2).length : Int) := by omega
 have e5 : IntKind.wrap IntKind.i64 (((lo.length : Nat) : Int) + 1) = ((lo.length + 1 : Nat) : Int) := by rw [i64w (by omega) (by omega)]; omega
 have e3 : (0 : Int) ≤ ((lo.length + 1 : Nat) : Int) := by omega
 have e4 : ((lo.length + 1 : Nat) : Int) ≤ (((vsL lo).2 ++ wTo :: (vsL hi).2).length : Int) := by omega
 have e6 : (((vsL lo).2 ++ wTo :: (vsL hi).2).length : Int) ≤ (((vsL lo).2 ++ wTo :: (vsL hi).2).length : Int) := Int.le_refl _
 have sl : Sm (vsL lo).2 := fun w hw => s3 w (List.mem_append_left _ hw)
 have sh : Sm (vsL hi).2 := fun w hw => s3 w (List.mem_append_right _ (List.mem_cons_of_mem _ hw))
 refine ⟨(2, nm, [], lo, hi, mx, Z_api_Change, ()), { max := okM, row := no_v, lo := okLo, hi := okHi, ch := okCZ }, ?_, ⟨by simp, by simp⟩, by simp, ll, lh, ⟨fun k hk => ?_⟩⟩
 ·rw [opP_2 rfl]
  show sq (0, [wScan]) (sq (nmP [nm]) (sq (numP mx) (sq (vsP lo) (sq (0, [wTo]) (vsP hi))))) = _
  rw [el, eh]
 ·have n1 := rnumber_w (mkW (digL mx) :: ((vsL lo).2 ++ wTo :: (vsL hi).2)) s2 false k (by omega)
  have nb : nB (mkW (digL mx) :: ((vsL lo).2 ++ wTo :: (vsL hi).2)) false = false := by
   show (wne (mkW (digL mx)) != 0) = false
   rw [w2]; rfl
  have wh : wn (hdW (mkW (digL mx) :: ((vsL lo).2 ++ wTo :: (vsL hi).2))) = mx := w1
  rw [wh, nb] at n1
  have n1 : sr_number.f k (mkW (digL mx) :: ((vsL lo).2 ++ wTo :: (vsL hi).2)) false = some (mx, (vsL lo).2 ++ wTo :: (vsL hi).2, false) := n1
  have f1 := values1_f (vsL lo).2 (by omega) sl false k (by omega)
  have f0 := values0_f (vsL hi).2 [] (by omega) sh false k (by omega)
  rw [l1, l3] at f1
  rw [r1, r3] at f0
  simp only [sr_op.f, sr_op.c, next_f, hdW, List.tail_cons, List.isEmpty_cons, Bool.or_false, wq, beq_self_eq_true, n1, rest_f, ix k (by omega), e0, e1, e2, e3, e4, e5, tk0, tkE, tk, dr, f1, f0, Int.le_refl, decide_true, decide_false, Bool.and_self, cond_true, cond_false, os, ofs]
  exact ⟨_, rfl, rfl, rfl⟩

theorem verb_back {o : Oq} {w : ByteArray} (ho : OkO o) (hv : verbW o.1 = some w) (h : (opP o).1 = 0) : ∃ t, OkO t ∧ opP t = opP o ∧ smallC t.2.2.2.2.2.2.1 ∧ t.2.2.1.length ≤ 8 ∧ t.2.2.2.1.length ≤ 8 ∧ t.2.2.2.2.1.length ≤ 8 ∧ OpB (opP o).2 t := by
 have hs := sm_gd (gd_op ho) h
 obtain ⟨f1, f2, f3, f4, f5⟩ := verb_find hv
 have hin := verbW_in hv
 have n2 : ¬ o.1 = 2 := by omega
 have n6 : ¬ o.1 = 6 := by omega
 rw [opP_v hv n2 n6] at h hs ⊢
 by_cases c : o.1 < 7
 ·rw [if_pos c] at h hs ⊢
  replace h := (sq_0.1 h).2
  replace h := (sq_0.1 h).2
  have okr := ho.row
  have e := vsP_0 h
  have l8 := vsP_le h
  rw [e] at h hs ⊢
  obtain ⟨b1, b2, b3⟩ := vs_back o.2.2.1 okr h
  have hw : (sq (0, [w]) (sq (nmP [o.2.1]) (vsL o.2.2.1))).2 = w :: o.2.1 :: (vsL o.2.2.1).2 := rfl
  rw [hw] at hs ⊢
  have s2 : Sm (vsL o.2.2.1).2 := sm_tl (sm_tl hs)
  have len : (vsL o.2.2.1).2.length = o.2.2.1.length := by rw [vsL_words, List.length_map]
  refine ⟨(o.1, o.2.1, o.2.2.1, [], [], 0, Z_api_Change, ()), { max := ok0, row := okr, lo := no_v, hi := no_v, ch := okCZ }, ?_, ⟨by simp, by simp⟩, l8, by simp, by simp, ⟨fun k hk => ?_⟩⟩
  ·rw [opP_v (o := (o.1, o.2.1, o.2.2.1, [], [], 0, Z_api_Change, ())) hv n2 n6]
   show (if o.1 < 7 then sq (0, [w]) (sq (nmP [o.2.1]) (vsP o.2.2.1)) else (0, [w])) = _
   rw [if_pos c, e]
  ·have f := values1_f (vsL o.2.2.1).2 (by omega) s2 false k (by omega)
   rw [b1, b3] at f
   simp only [sr_op.f, sr_op.c, next_f, hdW, List.tail_cons, List.isEmpty_cons, Bool.or_false, f2, f3, verbs_f, verbs_one, f1, Option.isSome_some, Option.getD_some, c, rest_f, f, decide_true, cond_true, cond_false, os, ofs]
   exact ⟨_, rfl, rfl, rfl⟩

 ·rw [if_neg c] at h hs ⊢
  refine ⟨(o.1, mkW [], [], [], [], 0, Z_api_Change, ()), { max := ok0, row := no_v, lo := no_v, hi := no_v, ch := okCZ }, ?_, ⟨by simp, by simp⟩, by simp, by simp, by simp, ⟨fun k hk => ?_⟩⟩
  ·rw [opP_v (o := (o.1, mkW [], [], [], [], 0, Z_api_Change, ())) hv n2 n6]
   show (if o.1 < 7 then _ else (0, [w])) = _
   rw [if_neg c]
  ·simp only [sr_op.f, sr_op.c, next_f, hdW, List.tail_cons, List.isEmpty_cons, Bool.or_false, f2, f3, verbs_f, verbs_one, f1, Option.isSome_some, Option.getD_some, c, decide_false, cond_true, cond_false, os, ofs]
   exact ⟨_, rfl, rfl, rfl⟩

theorem op_back {o : Oq} (ho : OkO o) (h : (opP o).1 = 0) : ∃ t, OkO t ∧ opP t = opP o ∧ smallC t.2.2.2.2.2.2.1 ∧ t.2.2.1.length ≤ 8 ∧ t.2.2.2.1.length ≤ 8 ∧ t.2.2.2.2.1.length ≤ 8 ∧ OpB (opP o).2 t := by
 by_cases q2 : o.1 = 2
 ·exact scan_back ho q2 h
 ·by_cases q6 : o.1 = 6
  ·rw [opP_6 q6] at h ⊢
   have h := (sq_0.1 h).2
   obtain ⟨t, t1, t2, t3, t4⟩ := ch_back ho.ch h
   have hw : (sq (0, [wChange]) (chP o.2.2.2.2.2.2.1)).2 = wChange :: (chP o.2.2.2.2.2.2.1).2 := rfl
   rw [hw]
   refine ⟨(6, mkW [], [], [], [], 0, t, ()), { max := ok0, row := no_v, lo := no_v, hi := no_v, ch := t1 }, ?_, t3, by simp, by simp, by simp, ⟨fun k hk => ?_⟩⟩
   ·rw [opP_6 rfl]
    show sq (0, [wChange]) (chP t) = _
    rw [t2]
   ·obtain ⟨r, r1, r2, r3⟩ := t4.prog k (by omega)
    simp only [sr_op.f, sr_op.c, next_f, hdW, List.tail_cons, List.isEmpty_cons, Bool.or_false, wq, q_change_scan, beq_self_eq_true, r1, cond_true, cond_false, os, ofs]
    cases r with
    | inl r => obtain rfl := r2; exact ⟨_, rfl, rfl, r3⟩
    | inr r => obtain rfl := r2; exact ⟨_, rfl, rfl, r3⟩

  ·cases hv : verbW o.1 with
   | none =>
    exfalso
    unfold opP at h
    rw [if_neg q2, if_neg q6, hv] at h
    simp at h
   | some w => exact verb_back ho hv h
end Go.Proofs.YtimadphjdkjgaaaDoor.Aev
