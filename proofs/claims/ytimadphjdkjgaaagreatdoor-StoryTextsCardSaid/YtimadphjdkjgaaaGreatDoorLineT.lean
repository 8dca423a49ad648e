import Derived.Test.YtimadphjdkjgaaaGreatDoorF0
import Derived.Test.YtimadphjdkjgaaaGreatDoorF2
import Derived.Test.YtimadphjdkjgaaaGreatDoorF5
import Derived.Test.YtimadphjdkjgaaaGreatDoorF9
import Derived.Test.YtimadphjdkjgaaaGreatDoorF12
import Derived.Test.YtimadphjdkjgaaaGreatDoorF13
import Derived.Test.YtimadphjdkjgaaaGreatDoorRdO
import Derived.Test.YtimadphjdkjgaaaGreatDoorLineS
import Derived.Test.YtimadphjdkjgaaaGreatDoorWGood

/- Words of what is asked, and of a step, read again: their own. -/
namespace Go.Proofs.YtimadphjdkjgaaaGreatDoor.Aev
open Go
set_option linter.unusedVariables false
set_option linter.unusedSimpArgs false
set_option maxRecDepth 100000
structure OpB (ws : List ByteArray) (t : Oq) : Prop where
 prog : ∀ k, 15000000 ≤ k → ∃ r : OR, sr_op.f k ws false = some r ∧ oOf r = t ∧ oBad r = false
 ref : ∀ k, 15000000 ≤ k → r37_asked.f k ws = some (t, true)
theorem opP_2 {o : Oq} (h : o.1 = 2) : opP o = sq (0, [wScan]) (sq (nmP [o.2.1]) (sq (numP o.2.2.2.2.2.1) (sq (vsP o.2.2.2.1) (sq (0, [wTo]) (vsP o.2.2.2.2.1))))) := by
 unfold opP; rw [if_pos h]
theorem opP_6 {o : Oq} (h : o.1 = 6) : opP o = sq (0, [wChange]) (chP o.2.2.2.2.2.2.1) := by
 unfold opP; rw [if_neg (by omega), if_pos h]
theorem opP_v {o : Oq} {w : ByteArray} (h : verbW o.1 = some w) (h2 : ¬ o.1 = 2) (h6 : ¬ o.1 = 6) : opP o = if o.1 < 7 then sq (0, [w]) (sq (nmP [o.2.1]) (vsP o.2.2.1)) else (0, [w]) := by
 unfold opP; rw [if_neg h2, if_neg h6, h]
theorem tk0' (l : List ByteArray) (n : Nat) : List.take (Int.toNat (n : Int) - 0) l = l.take n := by rw [Int.toNat_natCast, Nat.sub_zero]
theorem scan_back {o : Oq} (ho : OkO o) (q : o.1 = 2) (h : (opP o).1 = 0) : ∃ t, OkO t ∧ opP t = opP o ∧ smallC t.2.2.2.2.2.2.1 ∧ t.2.2.1.length ≤ 8 ∧ t.2.2.2.1.length ≤ 8 ∧ t.2.2.2.2.1.length ≤ 8 ∧ OpB (opP o).2 t := by
 have hs := sm_gd (gd_op ho) h
 rw [opP_2 q] at h hs ⊢
 replace h := (sq_0.1 h).2
 replace h := (sq_0.1 h).2
 have hn := (sq_0.1 h).1
 replace h := (sq_0.1 h).2
 have hlo := (sq_0.1 h).1
 replace h := (sq_0.1 h).2
 have hhi := (sq_0.1 h).2
 clear h
 have okLo := ho.lo
 have okHi := ho.hi
 have okM := ho.max
 have ll := vsP_le hlo
 have lh := vsP_le hhi
 have el := vsP_0 hlo
 have eh := vsP_0 hhi
 generalize o.2.2.2.1 = lo at *
 generalize o.2.2.2.2.1 = hi at *
 generalize o.2.2.2.2.2.1 = mx at *
 generalize o.2.1 = nm at *
 rw [el] at hlo hs ⊢
 rw [eh] at hhi hs ⊢
 have hw : (sq (0, [wScan]) (sq (nmP [nm]) (sq (numP mx) (sq (vsL lo) (sq (0, [wTo]) (vsL hi)))))).2 = wScan :: nm :: mkW (digL mx) :: ((vsL lo).2 ++ wTo :: (vsL hi).2) := rfl
 rw [hw] at hs ⊢
 have s2 := sm_tl (sm_tl hs)
 have s3 : Sm ((vsL lo).2 ++ wTo :: (vsL hi).2) := sm_tl s2
 obtain ⟨w1, w2⟩ := wn_dig mx hn
 obtain ⟨l1, l2, l3⟩ := vs_back lo okLo hlo
 obtain ⟨r1, r2, r3⟩ := vs_back hi okHi hhi
 have lenl : (vsL lo).2.length = lo.length := by rw [vsL_words, List.length_map]
 have lenh : (vsL hi).2.length = hi.length := by rw [vsL_words, List.length_map]
 have hto : ∀ w ∈ (vsL lo).2, ¬ w = wTo := by
  intro w hw
  rw [vsL_words] at hw
  obtain ⟨v, hv, rfl⟩ := List.mem_map.1 hw
  refine shw_to (okLo v hv) ?_
  have : ∀ l : List V, (vsL l).1 = 0 → ∀ v ∈ l, (shw v).2 = 0 := by
   intro l
   induction l with
   | nil => intro _ v hv; cases hv
   | cons x l ih =>
    intro h v hv
    obtain ⟨a, b⟩ := vsL_cons.1 h
    cases List.mem_cons.1 hv with
    | inl e => rw [e]; exact a
    | inr e => exact ih b v e
  exact this lo hlo v hv
 have fx : place (findS wTo ((vsL lo).2 ++ wTo :: (vsL hi).2)) 0 = ((lo.length : Nat) : Int) := by
  rw [find_app _ _ hto 0, lenl, Nat.zero_add]
 have len : ((vsL lo).2 ++ wTo :: (vsL hi).2).length = lo.length + 1 + hi.length := by rw [List.length_append, List.length_cons, lenl, lenh]; omega
 have tk : ((vsL lo).2 ++ wTo :: (vsL hi).2).take lo.length = (vsL lo).2 := by rw [← lenl, List.take_left]
 have dr : ((vsL lo).2 ++ wTo :: (vsL hi).2).drop (lo.length + 1) = (vsL hi).2 := by
  rw [← lenl, ← List.drop_drop, List.drop_left]; rfl
 have ix := fun k hk => index_f ((vsL lo).2 ++ wTo :: (vsL hi).2) wTo (by omega) k hk
 have rx := fun k hk => rfind_f ((vsL lo).2 ++ wTo :: (vsL hi).2) wTo (by omega) k hk
 rw [fx] at rx
 rw [fx] at ix
 have e0 : ¬ ((lo.length : Nat) : Int) < 0 := by omega
 have e1 : (0 : Int) ≤ ((lo.length : Nat) : Int) := by omega
 have e2 : ((lo.length : Nat) : Int) ≤ (((vsL lo).2 ++ wTo :: (vsL hi).2).length : Int) := by omega
 have e5 : IntKind.wrap IntKind.i64 (((lo.length : Nat) : Int) + 1) = ((lo.length + 1 : Nat) : Int) := by rw [i64w (by omega) (by omega)]; omega
 have e3 : (0 : Int) ≤ ((lo.length + 1 : Nat) : Int) := by omega
 have e4 : ((lo.length + 1 : Nat) : Int) ≤ (((vsL lo).2 ++ wTo :: (vsL hi).2).length : Int) := by omega
 have e6 : (((vsL lo).2 ++ wTo :: (vsL hi).2).length : Int) ≤ (((vsL lo).2 ++ wTo :: (vsL hi).2).length : Int) := Int.le_refl _
 have sl : Sm (vsL lo).2 := fun w hw => s3 w (List.mem_append_left _ hw)
 have sh : Sm (vsL hi).2 := fun w hw => s3 w (List.mem_append_right _ (List.mem_cons_of_mem _ hw))
 refine ⟨(2, nm, [], lo, hi, mx, Z_api_Change, ()), { max := okM, row := no_v, lo := okLo, hi := okHi, ch := okCZ }, ?_, ⟨by simp, by simp⟩, by simp, ll, lh, ⟨fun k hk => ?_, fun k hk => ?_⟩⟩
 ·rw [opP_2 rfl]
  show sq (0, [wScan]) (sq (nmP [nm]) (sq (numP mx) (sq (vsP lo) (sq (0, [wTo]) (vsP hi))))) = _
  rw [el, eh]
 ·have n1 := rnumber_w (mkW (digL mx) :: ((vsL lo).2 ++ wTo :: (vsL hi).2)) s2 false k (by omega)
  have nb : nB (mkW (digL mx) :: ((vsL lo).2 ++ wTo :: (vsL hi).2)) false = false := by
   show (wne (mkW (digL mx)) != 0) = false
   rw [w2]; rfl
  have wh : wn (hdW (mkW (digL mx) :: ((vsL lo).2 ++ wTo :: (vsL hi).2))) = mx := w1
  rw [wh, nb] at n1
  have n1 : sr_number.f k (mkW (digL mx) :: ((vsL lo).2 ++ wTo :: (vsL hi).2)) false = some (mx, (vsL lo).2 ++ wTo :: (vsL hi).2, false) := n1
  have f1 := values1_f (vsL lo).2 (by omega) sl false k (by omega)
  have f0 := values0_f (vsL hi).2 [] (by omega) sh false k (by omega)
  rw [l1, l3] at f1
  rw [r1, r3] at f0
  simp only [sr_op.f, sr_op.c, next_f, hdW, List.tail_cons, List.isEmpty_cons, Bool.or_false, wq, beq_self_eq_true, n1, rest_f, ix k (by omega), e0, e1, e2, e3, e4, e5, tk0, tkE, tk, dr, f1, f0, Int.le_refl, decide_true, decide_false, Bool.and_self, cond_true, cond_false, os, ofs]
  exact ⟨_, rfl, rfl, rfl⟩
 ·obtain ⟨k, rfl⟩ : ∃ q, k = q + 3 := ⟨k - 3, by omega⟩
  have n1 := rnum_f (mkW (digL mx)) (s2 _ (by simp)) (k + 3) (by omega)
  rw [w1, w2] at n1
  have f1 := vals_f (vsL lo).2 (by omega) sl (k + 1) (by omega)
  have f0 := vals_f (vsL hi).2 (by omega) sh (k + 1) (by omega)
  rw [l1, l2] at f1
  rw [r1, r2] at f0
  simp only [r37_asked.f, r37_asked.c, r37_scanned.f, r37_scanned.c, r37_scanned.s0, r37_scanned.s0c, r37_scanned.s1, r37_scanned.s1c, at0_f, at1_f, at2_f, hdW, List.drop_succ_cons, List.drop_zero, wq, beq_self_eq_true, n1, mn3, mn_g, tk_min, rx (k + 3) (by omega), e0, e1, e2, e3, e4, e5, e6, tk0', tkE, tk, dr, f1, f0, decide_true, decide_false, Bool.and_self, Bool.not_true, cond_true, cond_false, os, ofs]

theorem asked_back (l : List ByteArray) (a : Int) (w : ByteArray) (hw : verbW a = some w) (h1 : 1 ≤ a) (h9 : a ≤ 9) (hl : l.length ≤ 1000) (hs : Sm l) (hb : a < 7 → vbad (l.drop 2) = false) : ∀ (m i : Nat), i + m = 10 → ∀ k, 3 * m + 14000000 < k →
  r37_asked.s0 k l w (i : Int) (0 : Int) (mkW []) (0 : Int) (0 : Int) (mkW []) (mkW []) (mkW []) (mkW []) (mkW []) (0 : Int) (mkW []) (0 : Int) false (0 : Int) (0 : Int) (0 : Int) (mkW []) (mkW []) (0 : Int) (if a < (i : Int) then a else 0) (mkW []) (0 : Int) (0 : Int) (mkW []) (mkW []) (mkW []) (mkW []) (mkW []) (0 : Int) (mkW []) (0 : Int) false (0 : Int) (0 : Int) (0 : Int) (mkW []) (mkW []) (0 : Int) = some (if a < 7 then (a, hdW (l.drop 1), (l.drop 2).map wv, [], [], 0, Z_api_Change, ()) else (a, mkW [], [], [], [], 0, Z_api_Change, ()), true) := by
 obtain ⟨_, _, _, hne, inj⟩ := verb_find hw
 intro m
 induction m with
 | zero =>
  intro i hi k hk
  obtain ⟨k, rfl⟩ : ∃ q, k = q + 3 := ⟨k - 3, by omega⟩
  obtain rfl : i = 10 := by omega
  have e : ¬ ((10 : Nat) : Int) ≤ 9 := by omega
  have ea : (a == (0 : Int)) = false := beq_eq_false_iff_ne.2 (by omega)
  have f0 := vals_f (l.drop 2) (by rw [List.length_drop]; omega) (sm_drop hs 2) k (by omega)
  rw [if_pos (show a < ((10 : Nat) : Int) by omega)]
  by_cases c : a ≥ 7
  ·have eb : (a != (0 : Int)) = true := bne_iff_ne.2 (by omega)
   simp only [r37_asked.s0, r37_asked.s0c, r37_asked.s3, r37_asked.s3c, e, c, eb, decide_true, decide_false, cond_true, cond_false, os, ofs]
   rw [if_neg (by omega)]

  ·rw [hb (by omega)] at f0
   simp only [r37_asked.s0, r37_asked.s0c, r37_asked.s3, r37_asked.s3c, r37_asked.s4, r37_asked.s4c, e, c, ea, at1_f, mn2, mn_g, tk_min, f0, decide_true, decide_false, cond_true, cond_false, os, ofs]
   rw [if_pos (by omega)]

 | succ m ih =>
  intro i hi k hk
  obtain ⟨k, rfl⟩ : ∃ q, k = q + 3 := ⟨k - 3, by omega⟩
  have e : (i : Int) ≤ 9 := by omega
  have e2 : IntKind.wrap IntKind.i64 ((i : Int) + 1) = ((i + 1 : Nat) : Int) := by rw [i64w (by omega) (by omega)]; omega
  have r1 := ih (i + 1) (by omega) k (by omega)
  by_cases c : (i : Int) = a
  ·have hv : (verbW (i : Int)).getD (mkW []) = w := by rw [c, hw]; rfl
   have hn : (w.toList == (mkW []).toList) = false := by rw [tl_eq]; exact decide_eq_false hne
   rw [if_pos (by omega), ← c] at r1
   simp only [r37_asked.s0, r37_asked.s0c, r37_asked.s1, r37_asked.s1c, r37_asked.s2, r37_asked.s2c, e, e2, rword, hv, hn, beq_self_eq_true, Bool.not_false, decide_true, cond_true, cond_false, os, ofs]
   rw [← c]
   exact r1

  ·have hz : (if a < (i : Int) then a else 0) = if a < ((i + 1 : Nat) : Int) then a else 0 := by
    by_cases d : a < (i : Int)
    ·rw [if_pos d, if_pos (by omega)]
    ·rw [if_neg d, if_neg (by omega)]
   rw [← hz] at r1
   simp only [r37_asked.s0, r37_asked.s0c, r37_asked.s1, r37_asked.s1c, r37_asked.s2, r37_asked.s2c, e, e2, rword, decide_true, cond_true, cond_false, os, ofs]
   cases hv : verbW (i : Int) with
   | none =>
    have hn : (((none : Option ByteArray).getD (mkW [])).toList == (mkW []).toList) = true := beq_self_eq_true _
    rw [hn]
    exact r1
   | some x =>
    have hx : (((some x : Option ByteArray).getD (mkW [])).toList == w.toList) = false := by
     rw [tl_eq]
     refine decide_eq_false fun q => c (inj _ ?_)
     rw [hv]; exact congrArg some q
    rw [hx]
    cases (!(((some x : Option ByteArray).getD (mkW [])).toList == (mkW []).toList)) with
    | true => exact r1
    | false => exact r1

theorem verb_back {o : Oq} {w : ByteArray} (ho : OkO o) (hv : verbW o.1 = some w) (h : (opP o).1 = 0) : ∃ t, OkO t ∧ opP t = opP o ∧ smallC t.2.2.2.2.2.2.1 ∧ t.2.2.1.length ≤ 8 ∧ t.2.2.2.1.length ≤ 8 ∧ t.2.2.2.2.1.length ≤ 8 ∧ OpB (opP o).2 t := by
 have hs := sm_gd (gd_op ho) h
 obtain ⟨f1, f2, f3, f4, f5⟩ := verb_find hv
 have hin := verbW_in hv
 have n2 : ¬ o.1 = 2 := by omega
 have n6 : ¬ o.1 = 6 := by omega
 rw [opP_v hv n2 n6] at h hs ⊢
 by_cases c : o.1 < 7
 ·rw [if_pos c] at h hs ⊢
  replace h := (sq_0.1 h).2
  replace h := (sq_0.1 h).2
  have okr := ho.row
  have e := vsP_0 h
  have l8 := vsP_le h
  rw [e] at h hs ⊢
  obtain ⟨b1, b2, b3⟩ := vs_back o.2.2.1 okr h
  have hw : (sq (0, [w]) (sq (nmP [o.2.1]) (vsL o.2.2.1))).2 = w :: o.2.1 :: (vsL o.2.2.1).2 := rfl
  rw [hw] at hs ⊢
  have s2 : Sm (vsL o.2.2.1).2 := sm_tl (sm_tl hs)
  have len : (vsL o.2.2.1).2.length = o.2.2.1.length := by rw [vsL_words, List.length_map]
  refine ⟨(o.1, o.2.1, o.2.2.1, [], [], 0, Z_api_Change, ()), { max := ok0, row := okr, lo := no_v, hi := no_v, ch := okCZ }, ?_, ⟨by simp, by simp⟩, l8, by simp, by simp, ⟨fun k hk => ?_, fun k hk => ?_⟩⟩
  ·rw [opP_v (o := (o.1, o.2.1, o.2.2.1, [], [], 0, Z_api_Change, ())) hv n2 n6]
   show (if o.1 < 7 then sq (0, [w]) (sq (nmP [o.2.1]) (vsP o.2.2.1)) else (0, [w])) = _
   rw [if_pos c, e]
  ·have f := values1_f (vsL o.2.2.1).2 (by omega) s2 false k (by omega)
   rw [b1, b3] at f
   simp only [sr_op.f, sr_op.c, next_f, hdW, List.tail_cons, List.isEmpty_cons, Bool.or_false, f2, f3, verbs_f, verbs_one, f1, Option.isSome_some, Option.getD_some, c, rest_f, f, decide_true, cond_true, cond_false, os, ofs]
   exact ⟨_, rfl, rfl, rfl⟩
  ·have r := asked_back (w :: o.2.1 :: (vsL o.2.2.1).2) o.1 w hv (by omega) (by omega) (by simp only [List.length_cons]; omega) hs (fun _ => b2) 9 1 rfl k (by omega)
   rw [if_neg (show ¬ o.1 < ((1 : Nat) : Int) by omega), if_pos c] at r
   have hr : ((w :: o.2.1 :: (vsL o.2.2.1).2).drop 2).map wv = o.2.2.1 := b1
   rw [hr] at r
   have r : r37_asked.s0 k (w :: o.2.1 :: (vsL o.2.2.1).2) w (1 : Int) _ _ _ _ _ _ _ _ _ _ _ _ _ _ _ _ _ _ _ _ _ _ _ _ _ _ _ _ _ _ _ _ _ _ _ _ _ _ = _ := r
   simp only [r37_asked.f, r37_asked.c, at0_f, hdW, f2, f3, r, cond_false, os, ofs]
   rfl

 ·rw [if_neg c] at h hs ⊢
  refine ⟨(o.1, mkW [], [], [], [], 0, Z_api_Change, ()), { max := ok0, row := no_v, lo := no_v, hi := no_v, ch := okCZ }, ?_, ⟨by simp, by simp⟩, by simp, by simp, by simp, ⟨fun k hk => ?_, fun k hk => ?_⟩⟩
  ·rw [opP_v (o := (o.1, mkW [], [], [], [], 0, Z_api_Change, ())) hv n2 n6]
   show (if o.1 < 7 then _ else (0, [w])) = _
   rw [if_neg c]
  ·simp only [sr_op.f, sr_op.c, next_f, hdW, List.tail_cons, List.isEmpty_cons, Bool.or_false, f2, f3, verbs_f, verbs_one, f1, Option.isSome_some, Option.getD_some, c, decide_false, cond_true, cond_false, os, ofs]
   exact ⟨_, rfl, rfl, rfl⟩
  ·have r := asked_back [w] o.1 w hv (by omega) (by omega) (by simp) hs (fun q => absurd q c) 9 1 rfl k (by omega)
   rw [if_neg (show ¬ o.1 < ((1 : Nat) : Int) by omega), if_neg c] at r
   have r : r37_asked.s0 k [w] w (1 : Int) _ _ _ _ _ _ _ _ _ _ _ _ _ _ _ _ _ _ _ _ _ _ _ _ _ _ _ _ _ _ _ _ _ _ _ _ _ _ = _ := r
   simp only [r37_asked.f, r37_asked.c, at0_f, hdW, f2, f3, r, cond_false, os, ofs]

theorem op_back {o : Oq} (ho : OkO o) (h : (opP o).1 = 0) : ∃ t, OkO t ∧ opP t = opP o ∧ smallC t.2.2.2.2.2.2.1 ∧ t.2.2.1.length ≤ 8 ∧ t.2.2.2.1.length ≤ 8 ∧ t.2.2.2.2.1.length ≤ 8 ∧ OpB (opP o).2 t := by
 by_cases q2 : o.1 = 2
 ·exact scan_back ho q2 h
 ·by_cases q6 : o.1 = 6
  ·rw [opP_6 q6] at h ⊢
   have h := (sq_0.1 h).2
   obtain ⟨t, t1, t2, t3, t4⟩ := ch_back ho.ch h
   have hw : (sq (0, [wChange]) (chP o.2.2.2.2.2.2.1)).2 = wChange :: (chP o.2.2.2.2.2.2.1).2 := rfl
   rw [hw]
   refine ⟨(6, mkW [], [], [], [], 0, t, ()), { max := ok0, row := no_v, lo := no_v, hi := no_v, ch := t1 }, ?_, t3, by simp, by simp, by simp, ⟨fun k hk => ?_, fun k hk => ?_⟩⟩
   ·rw [opP_6 rfl]
    show sq (0, [wChange]) (chP t) = _
    rw [t2]
   ·obtain ⟨r, r1, r2, r3⟩ := t4.prog k (by omega)
    simp only [sr_op.f, sr_op.c, next_f, hdW, List.tail_cons, List.isEmpty_cons, Bool.or_false, wq, q_change_scan, beq_self_eq_true, r1, cond_true, cond_false, os, ofs]
    cases r with
    | inl r => obtain rfl := r2; exact ⟨_, rfl, rfl, r3⟩
    | inr r => obtain rfl := r2; exact ⟨_, rfl, rfl, r3⟩
   ·have r := t4.ref k (by omega)
    have g1 : (1 : Int) ≤ ((wChange :: (chP o.2.2.2.2.2.2.1).2).length : Int) := by rw [List.length_cons]; omega
    have ht : List.take (Int.toNat ((wChange :: (chP o.2.2.2.2.2.2.1).2).length : Int) - 1) (List.drop 1 (wChange :: (chP o.2.2.2.2.2.2.1).2)) = (chP o.2.2.2.2.2.2.1).2 := by
     rw [Int.toNat_natCast, List.length_cons, Nat.add_sub_cancel]
     exact List.take_length
    simp only [r37_asked.f, r37_asked.c, at0_f, hdW, wq, q_change_scan, beq_self_eq_true, g1, ht, r, Int.le_refl, decide_true, Bool.and_self, cond_true, cond_false, os, ofs]

  ·cases hv : verbW o.1 with
   | none =>
    exfalso
    unfold opP at h
    rw [if_neg q2, if_neg q6, hv] at h
    simp at h
   | some w => exact verb_back ho hv h
end Go.Proofs.YtimadphjdkjgaaaGreatDoor.Aev

/- Steps as lines: the program's lines. -/
namespace Go.Proofs.YtimadphjdkjgaaaGreatDoor.Aev
open Go
set_option linter.unusedVariables false
set_option linter.unusedSimpArgs false
set_option maxRecDepth 100000
theorem jn_count : ∀ (l : List ByteArray), l.length ≤ (jn l).length + 1
 | [] => by simp
 | x :: r => by
  have : ∀ r : List ByteArray, r.length ≤ (jb r).length := by
   intro r
   induction r with
   | nil => simp
   | cons y r ih => rw [jb_cons]; simp; omega
  have := this r
  rw [jn]; simp; omega
theorem join_eq (l : List ByteArray) (h : (jn l).length ≤ 35184372088831) (k : Nat) : strings_Join.f k l (mkW [32]) = some (mkW (jn l)) := by
 have := jn_count l
 unfold strings_Join.f
 rw [joinL_jn, if_pos ⟨by omega, by omega⟩]
noncomputable def txtP (p : P2) : ByteArray × Int := if p.1 = 0 then (mkW (jn p.2), 0) else (mkW [], p.1)
theorem text0_eq (p : P2) (h : p.1 = 0 → (jn p.2).length ≤ 400000) (k : Nat) : sw_text.f0 k p.1 p.2 = some (.inl ((txtP p).1, (txtP p).2, p)) := by
 simp only [sw_text.f0, sw_text.c0, txtP]
 by_cases c : p.1 = 0
 ·rw [ne_beq c, cond_false, if_pos c, join_eq _ (by have := h c; omega)]; rfl
 ·rw [ne_bne c, cond_true, if_neg c]
theorem text1_eq (e : Int) (c : ¬ e = 0) (k : Nat) : sw_text.f1 k e = some (.inr (mkW [], e, e)) := by
 simp only [sw_text.f1, sw_text.c1]
 rw [ne_bne c, cond_true]
theorem refJ_txt {r : Option (ByteArray × Int)} {p : P2} {n : Nat} (h : RefJ r p n) : ∃ b, r = some (b, p.1) ∧ (p.1 = 0 → b = mkW (jn p.2)) ∧ (p.1 = 0 → (jn p.2).length ≤ n) := by
 obtain ⟨s, a, b, d⟩ := h
 exact ⟨_, a, fun z => by rw [b z], fun z => by rw [← b z]; exact d⟩
theorem line_eq (s : Sp) (hs : OkS s) (k : Nat) (hk : 900010 ≤ k) : story_Line.f k s = some (txtP (linP s)) := by
 have T0 := text0_eq (linP s) (line_len hs) k
 obtain ⟨l, e1, e2⟩ := plain_eq k
 simp only [story_Line.f, story_Line.c, e1, e2, os]
 revert T0
 unfold linP
 cases hv : plainW s.1 with
 | some w =>
  intro T0
  simp only [Option.isSome_some, cond_true, Option.getD_some]
  simp [txtP, jn, jb]
 | none =>
  simp only [Option.isSome_none, cond_false]
  by_cases c1 : s.1 = 1
  ·rw [if_pos c1]
   intro T0
   have w1 := word1_eq [mkW [97, 115, 107]] 0 (by simp) k
   have e0 : sq ((0, []) : P2) (0, [mkW [97, 115, 107]]) = (0, [mkW [97, 115, 107]]) := rfl
   rw [e0] at w1
   have w2 := number_w s.2.1 hs.at'.1 hs.at'.2 (0, [mkW [97, 115, 107]]) (by simp) k (by omega)
   have l2 : (sq (0, [mkW [97, 115, 107]]) (numP s.2.1)).2.length ≤ 300 := by simp [sq, numP]
   have w3 := op_w s.2.2.1 hs.op (sq (0, [mkW [97, 115, 107]]) (numP s.2.1)) l2 k (by omega)
   rw [sq_assoc] at w3
   rw [beq_iff_eq.2 c1, cond_true]
   simp only [w1, w2, w3, T0, os, Sum.elim_inl]
  ·rw [if_neg c1]
   by_cases c2 : s.1 = 2
   ·rw [if_pos c2]
    intro T0
    have w1 := word1_eq [mkW [114, 117, 110]] 0 (by simp) k
    have e0 : sq ((0, []) : P2) (0, [mkW [114, 117, 110]]) = (0, [mkW [114, 117, 110]]) := rfl
    rw [e0] at w1
    have w2 := number_w s.2.1 hs.at'.1 hs.at'.2 (0, [mkW [114, 117, 110]]) (by simp) k (by omega)
    rw [beq_eq_false_iff_ne.2 c1, cond_false, beq_iff_eq.2 c2, cond_true]
    simp only [w1, w2, T0, os, Sum.elim_inl]
   ·rw [if_neg c2]
    intro T0
    have w1 := fail1_eq 1 0 k
    have w1 : sw_fail.f1 k 1 0 = some (.inr 1) := w1
    rw [beq_eq_false_iff_ne.2 c1, cond_false, beq_eq_false_iff_ne.2 c2, cond_false]
    simp only [w1, text1_eq 1 (by omega) k, os, Sum.elim_inl, Sum.elim_inr]
    rfl
theorem ref_line (s : Sp) (hs : OkS s) (k : Nat) (hk : 900010 ≤ k) : ∃ b, r37_Line.f k s = some (b, (txtP (linP s)).2) ∧ ((txtP (linP s)).2 = 0 → b = (txtP (linP s)).1) ∧ ((txtP (linP s)).1.size ≤ 400000) := by
 obtain ⟨b, h1, h2, h3⟩ := refJ_txt (rLine s hs k hk)
 unfold txtP
 by_cases c : (linP s).1 = 0
 ·rw [if_pos c]
  exact ⟨b, by rw [h1, c], fun _ => h2 c, by rw [ba_size]; exact h3 c⟩
 ·rw [if_neg c]
  exact ⟨b, h1, fun z => absurd z c, by simp [ba_size]⟩
end Go.Proofs.YtimadphjdkjgaaaGreatDoor.Aev
