import Derived.Test.YtaehpfmnejeddaaGreatDoorF9
import Derived.Test.YtaehpfmnejeddaaGreatDoorF10
import Derived.Test.YtaehpfmnejeddaaGreatDoorChRead

/- A change, read: the document's way. -/
namespace Go.Proofs.YtaehpfmnejeddaaGreatDoor.Aev
open Go
set_option linter.unusedVariables false
set_option linter.unusedSimpArgs false
set_option maxRecDepth 100000
theorem below_f (hi : Nat) (hhi : hi ≤ 1000) (l : List UInt8) (hl : l.length ≤ 1000000) (k : Nat) (hk : 100 ≤ k) : transomref14_below.f k (mL l) ((hi + 1 : Nat) : Int) = some (((numS 0 hi l).1 : Int), mL (if (numS 0 hi l).2.2 = 0 then (numS 0 hi l).2.1 else []), (numS 0 hi l).2.2) := by
 have hr := refreaduint_f l (by omega) k (by omega)
 simp only [transomref14_below.f, transomref14_below.c, hr, rd3, Option.bind_some]
 by_cases he : (rdL l 0 0).2.2 = 0
 ·by_cases h2 : hi < (rdL l 0 0).1
  ·have h2' : ((rdL l 0 0).1 : Int) ≥ ((hi + 1 : Nat) : Int) := by omega
   rw [numS_out he (.inr h2)]
   simp only [he, bne_self_eq_false, cond_false, h2', decide_true, cond_true]; rfl
  ·have h2' : ¬ ((rdL l 0 0).1 : Int) ≥ ((hi + 1 : Nat) : Int) := by omega
   have w3 : IntKind.wrap .i64 ((rdL l 0 0).1 : Int) = ((rdL l 0 0).1 : Int) := i64w (by omega) (by omega)
   rw [numS_in he (by omega)]
   simp only [he, bne_self_eq_false, cond_false, h2', decide_false, w3, if_true]
 ·rw [numS_err he]
  simp only [bne_iff_ne.2 he, cond_true, he, if_false]; rfl
theorem rtexts_s0 (n : Nat) (hn : n ≤ 8) : ∀ (m i : Nat) (ts : List ByteArray) (r : List UInt8), i + m = n → ts.length ≤ i → r.length ≤ 1000000 → ∀ k, m + 100 < k →
  transomref14_texts.s0 k (mL r) (n : Int) (i : Int) ts = some (if (txR m r).2.2 ≠ 0 then ([], mL [], (txR m r).2.2) else (ts ++ (txR m r).1, mL (txR m r).2.1, 0)) := by
 intro m
 induction m with
 | zero =>
  intro i ts r hi hs hr k hk
  obtain ⟨k, rfl⟩ : ∃ q, k = q + 1 := ⟨k - 1, by omega⟩
  have e0 : ¬ (i : Int) < (n : Int) := by omega
  simp only [transomref14_texts.s0, transomref14_texts.s0c, e0, decide_false, cond_false, txR, ne_eq, not_true_eq_false, if_false, List.append_nil]
 | succ m ih =>
  intro i ts r hi hs hr k hk
  obtain ⟨k, rfl⟩ : ∃ q, k = q + 1 := ⟨k - 1, by omega⟩
  have e0 : (i : Int) < (n : Int) := by omega
  have e2 : IntKind.wrap IntKind.i64 ((i : Int) + 1) = ((i + 1 : Nat) : Int) := by rw [i64w (by omega) (by omega)]; omega
  have e3 : (ts.length + 1) * 16 ≤ 35184372088832 := by omega
  have hlen := rdT_lenT r
  have ht := refreadtext_f r (by omega) k (by omega)
  simp only [transomref14_texts.s0, transomref14_texts.s0c, e0, e2, e3, ht, rdt3, decide_true, cond_true, Option.bind_some, Option.bind_fun_some]
  by_cases h : (rdT r).2.2 = 0
  ·have h1 := ih (i + 1) (ts ++ [mL (rdT r).1]) (rdT r).2.1 (by omega) (by simp only [List.length_append, List.length_cons, List.length_nil]; omega) (by omega) k (by omega)
   have ht : txR (m + 1) r = (mL (rdT r).1 :: (txR m (rdT r).2.1).1, (txR m (rdT r).2.1).2.1, (txR m (rdT r).2.1).2.2) := by
    conv => lhs; unfold txR
    rw [if_neg (show ¬ (rdT r).2.2 ≠ 0 from fun g => g h)]
   rw [ht]
   simp only [h, bne_self_eq_false, cond_false, h1, List.append_assoc, List.singleton_append]
  ·have ht : txR (m + 1) r = ([], [], (rdT r).2.2) := by
    conv => lhs; unfold txR
    rw [if_pos h]
   rw [ht, if_pos h]
   simp only [bne_iff_ne.2 h, cond_true]
theorem rtexts_f (n : Nat) (hn : n ≤ 8) (r : List UInt8) (hr : r.length ≤ 1000000) (k : Nat) (hk : 200 ≤ k) : transomref14_texts.f k (mL r) (n : Int) = some (if (txR n r).2.2 ≠ 0 then ([], mL [], (txR n r).2.2) else ((txR n r).1, mL (txR n r).2.1, 0)) := by
 have h := rtexts_s0 n hn n 0 [] r (by omega) (by simp) hr k (by omega)
 have h' : transomref14_texts.s0 k (mL r) (n : Int) 0 [] = _ := h
 simp only [transomref14_texts.f, transomref14_texts.c, h', List.nil_append, Option.bind_some, Option.bind_fun_some]
theorem rr_s3 (l : List UInt8) (hl : l.length ≤ 1000000) (c : Ch) (hc : FewCh c) (r : List UInt8) (hr : r.length ≤ l.length) (k : Nat) (hk : 9000 ≤ k) :
  transomref14_ReadChange.s3 k (mL r) (mL l) 0 (mL []) (mL []) (mL []) (mL []) (mL []) 0 (mL []) 0 false 0 0 0 (mL []) (mL []) 0 c = some (finC l c r) := by
 obtain ⟨k, rfl⟩ : ∃ q, k = q + 1 := ⟨k - 1, by omega⟩
 have hw : IntKind.wrap .i64 ((l.length : Int) - (r.length : Int)) = ((l.length - r.length : Nat) : Int) := by rw [i64w (by omega) (by omega)]; omega
 have e1 : (0 : Int) ≤ ((l.length - r.length : Nat) : Int) := by omega
 have e2 : ((l.length - r.length : Nat) : Int) ≤ (l.length : Int) := by omega
 have tl : ∀ x y : ByteArray, (x.toList == y.toList) = decide (x = y) := fun x y => by rw [Bool.eq_iff_iff, beq_iff_eq, decide_eq_true_iff, toList_iff]
 simp only [transomref14_ReadChange.s3, transomref14_ReadChange.s3c, rputC_f hc k (by omega), ba_size, hw, e1, e2, take_pre, tl, decide_true, Bool.and_self, cond_true, Option.bind_some]
 unfold finC
 by_cases h1 : (putC c).2 = 0
 ·by_cases h2 : (putC c).1 = mL (l.take (l.length - r.length))
  ·rw [if_neg (show ¬ ((putC c).2 ≠ 0 ∨ (putC c).1 ≠ mL (l.take (l.length - r.length))) from fun g => g.elim (fun g => g h1) (fun g => g h2))]
   simp only [h1, bne_self_eq_false, cond_false, h2, decide_true, Bool.not_true]
  ·rw [if_pos (.inr h2)]
   simp only [h1, bne_self_eq_false, cond_false, h2, decide_false, Bool.not_false, cond_true]; rfl
 ·rw [if_pos (.inl h1)]
  simp only [bne_iff_ne.2 h1, cond_true]; rfl
theorem rr_s2 (l : List UInt8) (hl : l.length ≤ 90000) (kd : Int) (t1 t2 t3 t4 t5 : ByteArray) (ty : Int) (ns : List ByteArray) (r : List UInt8) (hr : r.length ≤ l.length) (k : Nat) (hk : 220000 ≤ k) (b : Bool) (hb : b = (decide (kd = 1) || decide (kd = 2))) :
  transomref14_ReadChange.s2 k (mL r) (mL l) kd b 0 (mL []) (mL []) (mL []) (mL []) (mL []) 0 (mL []) 0 false 0 0 0 (mL []) (mL []) 0 kd t1 t2 t3 t4 t5 ty ns (mL []) 0 false 0 0 0 (mL []) (mL []) 0 = some (tailC l kd t1 t2 t3 t4 t5 ty ns r) := by
 obtain ⟨k, rfl⟩ : ∃ q, k = q + 1 := ⟨k - 1, by omega⟩
 have hrd := rread_f r (by omega) k (by omega)
 subst hb
 simp only [transomref14_ReadChange.s2, transomref14_ReadChange.s2c, hrd, Option.bind_some, Option.bind_fun_some]
 unfold tailC
 by_cases h1 : kd = 1
 ·rw [if_pos h1]
  obtain rfl := h1
  have b11 : ((1 : Int) == 1) = true := rfl
  have b12 : (decide ((1 : Int) = 1) || decide ((1 : Int) = 2)) = true := rfl
  simp only [b11, b12, cond_true]
  by_cases h2 : (tabR r).2.2.2.2 = 0
  ·obtain ⟨g1, g2, r', g3, g4⟩ := tabR_ok h2
   rw [if_neg (show ¬ (tabR r).2.2.2.2 ≠ 0 from fun g => g h2), h2, g3]
   have hfew := few_1 1 t1 t2 t3 t4 t5 ty ns g1 g2
   simp only [bne_self_eq_false, cond_false]
   generalize (tabR r).1 = tn at hfew ⊢
   generalize (tabR r).2.1 = ta at hfew ⊢
   generalize (tabR r).2.2.1 = tc at hfew ⊢
   exact rr_s3 l (by omega) (chOf 1 t1 t2 t3 t4 t5 ty ns c0 (tn, ta, tc, ())) hfew r' (by omega) k (by omega)
  ·rw [if_pos h2]
   simp only [bne_iff_ne.2 h2, cond_true]; rfl
 ·rw [if_neg h1]
  by_cases h3 : kd = 2
  ·rw [if_pos h3]
   obtain rfl := h3
   have b21 : ((2 : Int) == 1) = false := rfl
   have b22 : (decide ((2 : Int) = 1) || decide ((2 : Int) = 2)) = true := rfl
   simp only [b21, b22, cond_true, cond_false]
   by_cases h2 : (tabR r).2.2.2.2 = 0
   ·obtain ⟨g1, g2, r', g3, g4⟩ := tabR_ok h2
    obtain ⟨s1, s2, s3, s4⟩ := tabS_sz g1 g2
    have s5 := s2.1
    have f1 : IntKind.wrap IntKind.i64 (((tabR r).2.2.1.length : Int) - 1) = (((tabR r).2.2.1.length - 1 : Nat) : Int) := by rw [i64w (by omega) (by omega)]; omega
    have f2 : (0 : Int) ≤ (((tabR r).2.2.1.length - 1 : Nat) : Int) := by omega
    have f3 : (((tabR r).2.2.1.length - 1 : Nat) : Int) < ((tabR r).2.2.1.length : Int) := by omega
    rw [if_neg (show ¬ (tabR r).2.2.2.2 ≠ 0 from fun g => g h2), h2, g3]
    have hfew := few_2 2 t1 t2 t3 t4 t5 ty ns g1 g2
    simp only [bne_self_eq_false, cond_false, f1, f2, f3, decide_true, Bool.and_self, cond_true]
    generalize elem T_api_Col (tabR r).2.2.1 (((tabR r).2.2.1.length - 1 : Nat) : Int) = ce at hfew ⊢
    exact rr_s3 l (by omega) (chOf 2 t1 t2 t3 t4 t5 ty ns ce (mL [], 0, [], ())) hfew r' (by omega) k (by omega)
   ·rw [if_pos h2]
    simp only [bne_iff_ne.2 h2, cond_true]; rfl
  ·rw [if_neg h3]
   simp only [h1, h3, decide_false, Bool.or_self, cond_false]
   exact rr_s3 l (by omega) (chOf kd t1 t2 t3 t4 t5 ty ns c0 (mL [], 0, [], ())) (few_z kd t1 t2 t3 t4 t5 ty ns) r hr k (by omega)
theorem num_kind (l : List UInt8) : (numS 1 6 l).2.2 = (if (numS 0 6 l).2.2 ≠ 0 then (numS 0 6 l).2.2 else if (numS 0 6 l).1 = 0 then 1 else 0) ∧ ((numS 1 6 l).2.2 = 0 → numS 0 6 l = numS 1 6 l) := by
 by_cases he : (rdL l 0 0).2.2 = 0
 ·by_cases h6 : 6 < (rdL l 0 0).1
  ·rw [numS_out he (.inr h6), numS_out he (.inr h6)]; simp
  ·by_cases h0 : (rdL l 0 0).1 = 0
   ·rw [numS_out (lo := 1) he (by omega), numS_in (lo := 0) he (by omega)]; simp [h0]
   ·rw [numS_in (lo := 1) he (by omega), numS_in (lo := 0) he (by omega)]; simp [h0]
 ·rw [numS_err he, numS_err he]; simp [he]
theorem txR_5 : ∀ (m : Nat) (l : List UInt8), (txR m l).2.2 = 0 → (txR m l).1.length = m
 | 0, _, _ => rfl
 | m + 1, l, h => by
  unfold txR at h ⊢
  by_cases c : (rdT l).2.2 = 0
  ·have n : ¬ (rdT l).2.2 ≠ 0 := fun g => g c
   rw [if_neg n] at h ⊢
   simp only [List.length_cons, txR_5 m _ h]
  ·rw [if_pos c] at h; exact absurd h c
theorem elem_get (l : List ByteArray) (i : Nat) (h : i < l.length) : elem Ty.str l (i : Int) = l.getD i (mL []) := by
 rw [elem_t h]; simp [List.getD, List.getElem?_eq_getElem h]
theorem rreadC_f (l : List UInt8) (hl : l.length ≤ 90000) (k : Nat) (hk : 230000 ≤ k) : transomref14_ReadChange.f k (mL l) = some (rdC l) := by
 obtain ⟨k, rfl⟩ : ∃ q, k = q + 1 + 1 := ⟨k - 2, by omega⟩
 have n1 : transomref14_below.f (k + 1 + 1) (mL l) 7 = some (((numS 0 6 l).1 : Int), mL (if (numS 0 6 l).2.2 = 0 then (numS 0 6 l).2.1 else []), (numS 0 6 l).2.2) := below_f 6 (by omega) l (by omega) _ (by omega)
 have n2 : ∀ r : List UInt8, r.length ≤ l.length → transomref14_below.f k (mL r) 101 = some (((numS 0 100 r).1 : Int), mL (if (numS 0 100 r).2.2 = 0 then (numS 0 100 r).2.1 else []), (numS 0 100 r).2.2) := fun r hr => below_f 100 (by omega) r (by omega) k (by omega)
 have n3 : ∀ r : List UInt8, r.length ≤ l.length → transomref14_below.f k (mL r) 9 = some (((numS 0 8 r).1 : Int), mL (if (numS 0 8 r).2.2 = 0 then (numS 0 8 r).2.1 else []), (numS 0 8 r).2.2) := fun r hr => below_f 8 (by omega) r (by omega) k (by omega)
 have t5 : ∀ r : List UInt8, r.length ≤ l.length → transomref14_texts.f k (mL r) 5 = some (if (txR 5 r).2.2 ≠ 0 then ([], mL [], (txR 5 r).2.2) else ((txR 5 r).1, mL (txR 5 r).2.1, 0)) := fun r hr => rtexts_f 5 (by omega) r (by omega) k (by omega)
 obtain ⟨q1, q2⟩ := num_kind l
 have l1 := numS_len 1 6 l
 have bad : ∀ (e : Int) (h : e ≠ 0) (r : ByteArray) (kd : Int), transomref14_ReadChange.s1 (k + 1) r (mL l) kd e 0 (mL []) (mL []) (mL []) (mL []) (mL []) 0 (mL []) 0 false 0 0 0 (mL []) (mL []) 0 = some (badC e) := fun e h r kd => by
  simp only [transomref14_ReadChange.s1, transomref14_ReadChange.s1c, bne_iff_ne.2 h, cond_true]; rfl
 simp only [transomref14_ReadChange.f, transomref14_ReadChange.c, n1, Option.bind_some, Option.bind_fun_some]
 unfold rdC
 by_cases h0 : (numS 0 6 l).2.2 = 0
 ·have h0' : ¬ (numS 0 6 l).2.2 ≠ 0 := fun g => g h0
  rw [if_neg h0'] at q1
  by_cases hk0 : (numS 0 6 l).1 = 0
  ·rw [if_pos hk0] at q1
   rw [q1, if_pos (show (1 : Int) ≠ 0 by decide)]
   have e1 : (((numS 0 6 l).1 : Int) == 0) = true := by rw [hk0]; rfl
   simp only [h0, beq_self_eq_true, cond_true, transomref14_ReadChange.s0, transomref14_ReadChange.s0c, e1]
   rw [bad 1 (by decide)]
   rfl
  ·rw [if_neg hk0] at q1
   have hq := q2 q1
   have e1 : (((numS 1 6 l).1 : Int) == 0) = false := by rw [← hq]; exact beq_eq_false_iff_ne.2 (by omega)
   rw [hq]
   generalize hr1 : (numS 1 6 l).2.1 = r1 at *
   simp only [q1, ne_eq, not_true_eq_false, if_false, if_true, beq_self_eq_true, cond_true, transomref14_ReadChange.s0, transomref14_ReadChange.s0c, e1, cond_false, transomref14_ReadChange.s1, transomref14_ReadChange.s1c, bne_self_eq_false, t5 r1 l1, Option.bind_some, Option.bind_fun_some]
   by_cases e5 : (txR 5 r1).2.2 = 0
   ·have hlen := txR_5 5 r1 e5
    have l2 := (txR_ok 5 r1).1
    have i0 : decide ((0 : Int) < ((txR 5 r1).1.length : Int)) = true := by rw [hlen]; rfl
    have i1 : decide ((1 : Int) < ((txR 5 r1).1.length : Int)) = true := by rw [hlen]; rfl
    have i2 : decide ((2 : Int) < ((txR 5 r1).1.length : Int)) = true := by rw [hlen]; rfl
    have i3 : decide ((3 : Int) < ((txR 5 r1).1.length : Int)) = true := by rw [hlen]; rfl
    have i4 : decide ((4 : Int) < ((txR 5 r1).1.length : Int)) = true := by rw [hlen]; rfl
    have g0 : elem Ty.str (txR 5 r1).1 0 = (txR 5 r1).1.getD 0 (mL []) := elem_get _ 0 (by omega)
    have g1 : elem Ty.str (txR 5 r1).1 1 = (txR 5 r1).1.getD 1 (mL []) := elem_get _ 1 (by omega)
    have g2 : elem Ty.str (txR 5 r1).1 2 = (txR 5 r1).1.getD 2 (mL []) := elem_get _ 2 (by omega)
    have g3 : elem Ty.str (txR 5 r1).1 3 = (txR 5 r1).1.getD 3 (mL []) := elem_get _ 3 (by omega)
    have g4 : elem Ty.str (txR 5 r1).1 4 = (txR 5 r1).1.getD 4 (mL []) := elem_get _ 4 (by omega)
    simp only [e5, ne_eq, not_true_eq_false, if_false, bne_self_eq_false, cond_false, i0, i1, i2, i3, i4, g0, g1, g2, g3, g4, Bool.and_self, cond_true, n2 (txR 5 r1).2.1 (by omega), Option.bind_some]
    generalize (txR 5 r1).2.1 = r2 at *
    have l3 := numS_len 0 100 r2
    by_cases e6 : (numS 0 100 r2).2.2 = 0
    ·simp only [e6, ne_eq, not_true_eq_false, if_false, if_true, bne_self_eq_false, cond_false, n3 (numS 0 100 r2).2.1 (by omega), Option.bind_some]
     generalize (numS 0 100 r2).2.1 = r3 at *
     have l4 := numS_len 0 8 r3
     by_cases e7 : (numS 0 8 r3).2.2 = 0
     ·have hn := numS_le 0 8 r3
      have tn := rtexts_f (numS 0 8 r3).1 hn (numS 0 8 r3).2.1 (by omega) k (by omega)
      simp only [e7, ne_eq, not_true_eq_false, if_false, if_true, bne_self_eq_false, cond_false, tn, Option.bind_some]
      by_cases e8 : (txR (numS 0 8 r3).1 (numS 0 8 r3).2.1).2.2 = 0
      ·have l5 := (txR_ok (numS 0 8 r3).1 (numS 0 8 r3).2.1).1
       have hs := fun b hb => rr_s2 l hl ((numS 1 6 l).1 : Int) ((txR 5 r1).1.getD 0 (mL [])) ((txR 5 r1).1.getD 1 (mL [])) ((txR 5 r1).1.getD 2 (mL [])) ((txR 5 r1).1.getD 3 (mL [])) ((txR 5 r1).1.getD 4 (mL [])) ((numS 0 100 r2).1 : Int) (txR (numS 0 8 r3).1 (numS 0 8 r3).2.1).1 (txR (numS 0 8 r3).1 (numS 0 8 r3).2.1).2.1 (by omega) k (by omega) b hb
       simp only [e8, ne_eq, not_true_eq_false, if_false, bne_self_eq_false, cond_false]
       by_cases d1 : ((numS 1 6 l).1 : Int) = 1
       ·have := hs true (by simp [d1])
        simp only [d1, beq_self_eq_true, cond_true] at this ⊢
        exact this
       ·have := hs (((numS 1 6 l).1 : Int) == 2) (by simp only [d1, decide_false, Bool.false_or]; rw [Bool.eq_iff_iff]; simp)
        simp only [beq_eq_false_iff_ne.2 d1, cond_false]
        exact this
      ·simp only [e8, ne_eq, not_false_eq_true, if_true, bne_iff_ne.2 e8, cond_true]; rfl
     ·simp only [e7, ne_eq, not_false_eq_true, if_true, if_false, bne_iff_ne.2 e7, cond_true]; rfl
    ·simp only [e6, ne_eq, not_false_eq_true, if_true, if_false, bne_iff_ne.2 e6, cond_true]; rfl
   ·simp only [e5, ne_eq, not_false_eq_true, if_true, bne_iff_ne.2 e5, cond_true]; rfl
 ·rw [if_pos h0] at q1
  rw [q1, if_pos h0]
  simp only [beq_eq_false_iff_ne.2 h0, cond_false, transomref14_ReadChange.s0, transomref14_ReadChange.s0c, Option.bind_fun_some]
  rw [bad _ h0]
end Go.Proofs.YtaehpfmnejeddaaGreatDoor.Aev
