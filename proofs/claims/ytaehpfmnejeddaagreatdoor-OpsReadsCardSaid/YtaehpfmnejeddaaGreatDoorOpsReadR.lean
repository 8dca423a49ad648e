import Derived.Test.YtaehpfmnejeddaaGreatDoorF11
import Derived.Test.YtaehpfmnejeddaaGreatDoorOpsRead

/- What is asked, read: the document's way. -/
namespace Go.Proofs.YtaehpfmnejeddaaGreatDoor.Aev
open Go
set_option linter.unusedVariables false
set_option linter.unusedSimpArgs false
set_option maxRecDepth 100000
theorem qr_s3 (l : List UInt8) (hl : l.length ≤ 1000000) (o : Oq) (ho : FewO o) (r : List UInt8) (hr : r.length ≤ l.length) (k : Nat) (hk : 20000 ≤ k) :
  transomref14_Read.s3 k (mL r) (mL l) 0 (mL []) 0 0 (mL []) (mL []) (mL []) (mL []) (mL []) 0 (mL []) 0 false 0 0 0 (mL []) (mL []) 0 o = some (finO l o r) := by
 obtain ⟨k, rfl⟩ : ∃ q, k = q + 1 := ⟨k - 1, by omega⟩
 have hp := rputO_f ho k (by omega)
 have hw : IntKind.wrap .i64 ((l.length : Int) - (r.length : Int)) = ((l.length - r.length : Nat) : Int) := by rw [i64w (by omega) (by omega)]; omega
 have e1 : (0 : Int) ≤ ((l.length - r.length : Nat) : Int) := by omega
 have e2 : ((l.length - r.length : Nat) : Int) ≤ (l.length : Int) := by omega
 simp only [transomref14_Read.s3, transomref14_Read.s3c, hp, ba_size, hw, e1, e2, take_pre, tl_dec, decide_true, Bool.and_self, cond_true, Option.bind_some]
 unfold finO
 by_cases h1 : (putO o).2 = 0
 ·by_cases h2 : (putO o).1 = mL (l.take (l.length - r.length))
  ·rw [if_neg (show ¬ ((putO o).2 ≠ 0 ∨ (putO o).1 ≠ mL (l.take (l.length - r.length))) from fun g => g.elim (fun g => g h1) (fun g => g h2))]
   simp only [h1, bne_self_eq_false, cond_false, h2, decide_true, Bool.not_true]
  ·rw [if_pos (.inr h2)]
   simp only [h1, bne_self_eq_false, cond_false, h2, decide_false, Bool.not_false, cond_true]; rfl
 ·rw [if_pos (.inl h1)]
  simp only [bne_iff_ne.2 h1, cond_true]; rfl
theorem num_kind9 (l : List UInt8) : (numS 1 9 l).2.2 = (if (numS 0 9 l).2.2 ≠ 0 then (numS 0 9 l).2.2 else if (numS 0 9 l).1 = 0 then 1 else 0) ∧ ((numS 1 9 l).2.2 = 0 → numS 0 9 l = numS 1 9 l) := by
 by_cases he : (rdL l 0 0).2.2 = 0
 ·by_cases h6 : 9 < (rdL l 0 0).1
  ·rw [numS_out he (.inr h6), numS_out he (.inr h6)]; simp
  ·by_cases h0 : (rdL l 0 0).1 = 0
   ·rw [numS_out (lo := 1) he (by omega), numS_in (lo := 0) he (by omega)]; simp [h0]
   ·rw [numS_in (lo := 1) he (by omega), numS_in (lo := 0) he (by omega)]; simp [h0]
 ·rw [numS_err he, numS_err he]; simp [he]
theorem qr_end (l : List UInt8) (hl : l.length ≤ 90000) (kd : Int) (t : ByteArray) (a b c : List V) (ha : FewW a) (hb : FewW b) (hc : FewW c) (r : List UInt8) (hr : r.length ≤ l.length) (k : Nat) (hk : 240000 ≤ k) :
  transomref14_Read.s2 k (mL r) (mL l) kd t 3 0 (mL []) 0 0 (mL []) (mL []) (mL []) (mL []) (mL []) 0 (mL []) 0 false 0 0 0 (mL []) (mL []) 0 [a, b, c] =
   some (if (numS 0 64 r).2.2 ≠ 0 then badQ (numS 0 64 r).2.2 else endQ l kd t a b c ((numS 0 64 r).1 : Int) (numS 0 64 r).2.1) := by
 obtain ⟨k, rfl⟩ : ∃ q, k = q + 1 := ⟨k - 1, by omega⟩
 have n2 : transomref14_below.f k (mL r) 65 = some (((numS 0 64 r).1 : Int), mL (if (numS 0 64 r).2.2 = 0 then (numS 0 64 r).2.1 else []), (numS 0 64 r).2.2) := below_f 64 (by omega) r (by omega) k (by omega)
 have e0 : decide ((3 : Int) < 3) = false := rfl
 have i0 : (true && decide ((0 : Int) < (([a, b, c].length : Nat) : Int))) = true := rfl
 have i1 : (true && decide ((1 : Int) < (([a, b, c].length : Nat) : Int))) = true := rfl
 have i2 : (true && decide ((2 : Int) < (([a, b, c].length : Nat) : Int))) = true := rfl
 have g0 : elem (Ty.sl T_api_Value) [a, b, c] 0 = a := rfl
 have g1 : elem (Ty.sl T_api_Value) [a, b, c] 1 = b := rfl
 have g2 : elem (Ty.sl T_api_Value) [a, b, c] 2 = c := rfl
 have hn := numS_len 0 64 r
 simp only [transomref14_Read.s2, transomref14_Read.s2c, e0, cond_false, n2, Option.bind_some]
 by_cases h : (numS 0 64 r).2.2 = 0
 ·have hR := rreadC_f (numS 0 64 r).2.1 (by omega) k (by omega)
  rw [if_neg (show ¬ (numS 0 64 r).2.2 ≠ 0 from fun g => g h)]
  simp only [h, bne_self_eq_false, cond_false, if_true, i0, i1, i2, g0, g1, g2, cond_true, hR, Option.bind_some]
  unfold endQ
  by_cases h6 : kd = 6
  ·rw [if_pos h6]
   obtain rfl := h6
   have b66 : ((6 : Int) == 6) = true := rfl
   simp only [b66, cond_true]
   obtain ⟨q, e, hs⟩ := rdC_suf (numS 0 64 r).2.1
   have hq := hs.length_le
   have hf := few_rd (numS 0 64 r).2.1
   by_cases h2 : (rdC (numS 0 64 r).2.1).2.2 = 0
   ·rw [if_neg (show ¬ (rdC (numS 0 64 r).2.1).2.2 ≠ 0 from fun g => g h2), h2, e]
    simp only [bne_self_eq_false, cond_false]
    generalize (rdC (numS 0 64 r).2.1).1 = ch at hf ⊢
    rw [qr_s3 l (by omega) (6, t, a, b, c, ((numS 0 64 r).1 : Int), ch, ()) (few_end ha hb hc hf) q (by omega) k (by omega)]; rfl
   ·rw [if_pos h2]
    simp only [bne_iff_ne.2 h2, cond_true]; rfl
  ·rw [if_neg h6, beq_eq_false_iff_ne.2 h6]
   simp only [cond_false]
   rw [qr_s3 l (by omega) (kd, t, a, b, c, ((numS 0 64 r).1 : Int), Z_api_Change, ()) (few_end ha hb hc few_z0) (numS 0 64 r).2.1 (by omega) k (by omega)]; rfl
 ·rw [if_pos h]
  simp only [bne_iff_ne.2 h, cond_true]; rfl
theorem qr_step (l : List UInt8) (kd : Int) (t : ByteArray) (i : Nat) (hi : i < 3) (rs : List (List V)) (hrs : rs.length = i) (r : List UInt8) (hr : r.length ≤ 90000) (k : Nat) (hk : 1000 ≤ k) :
  transomref14_Read.s2 (k + 1) (mL r) (mL l) kd t (i : Int) 0 (mL []) 0 0 (mL []) (mL []) (mL []) (mL []) (mL []) 0 (mL []) 0 false 0 0 0 (mL []) (mL []) 0 rs =
   if (rowS r).2.2 ≠ 0 then some (badQ (rowS r).2.2) else transomref14_Read.s2 k (mL (rowS r).2.1) (mL l) kd t ((i + 1 : Nat) : Int) 0 (mL []) 0 0 (mL []) (mL []) (mL []) (mL []) (mL []) 0 (mL []) 0 false 0 0 0 (mL []) (mL []) 0 (rs ++ [(rowS r).1]) := by
 have e0 : (i : Int) < 3 := by omega
 have e2 : IntKind.wrap IntKind.i64 ((i : Int) + 1) = ((i + 1 : Nat) : Int) := by rw [i64w (by omega) (by omega)]; omega
 have e3 : (rs.length + 1) * 24 ≤ 35184372088832 := by omega
 have hR := rrow_f r hr k hk
 conv => lhs; simp only [transomref14_Read.s2, transomref14_Read.s2c, e0, e2, e3, hR, decide_true, cond_true, Option.bind_some]
 by_cases h : (rowS r).2.2 = 0
 ·simp only [h, ne_eq, not_true_eq_false, if_false, bne_self_eq_false, cond_false, Option.bind_fun_some]
 ·simp only [h, ne_eq, not_false_eq_true, if_true, bne_iff_ne.2 h, cond_true]; rfl
theorem rreadO_f (l : List UInt8) (hl : l.length ≤ 90000) (k : Nat) (hk : 250000 ≤ k) : transomref14_Read.f k (mL l) = some (rdO l) := by
 obtain ⟨q, rfl⟩ : ∃ q, k = q + 1 + 1 + 1 + 1 + 1 := ⟨k - 5, by omega⟩
 have n1 : transomref14_below.f (q + 1 + 1 + 1 + 1 + 1) (mL l) 10 = some (((numS 0 9 l).1 : Int), mL (if (numS 0 9 l).2.2 = 0 then (numS 0 9 l).2.1 else []), (numS 0 9 l).2.2) := below_f 9 (by omega) l (by omega) _ (by omega)
 obtain ⟨q1, q2⟩ := num_kind9 l
 have l1 := numS_len 1 9 l
 have bad : ∀ (e : Int) (h : e ≠ 0) (r : ByteArray) (kd : Int), transomref14_Read.s1 (q + 1 + 1 + 1 + 1) r (mL l) kd e 0 (mL []) 0 0 (mL []) (mL []) (mL []) (mL []) (mL []) 0 (mL []) 0 false 0 0 0 (mL []) (mL []) 0 = some (badQ e) := fun e h r kd => by
  simp only [transomref14_Read.s1, transomref14_Read.s1c, bne_iff_ne.2 h, cond_true]; rfl
 simp only [transomref14_Read.f, transomref14_Read.c, n1, Option.bind_some, Option.bind_fun_some]
 unfold rdO
 by_cases h0 : (numS 0 9 l).2.2 = 0
 ·have h0' : ¬ (numS 0 9 l).2.2 ≠ 0 := fun g => g h0
  rw [if_neg h0'] at q1
  by_cases hk0 : (numS 0 9 l).1 = 0
  ·rw [if_pos hk0] at q1
   rw [q1, if_pos (show (1 : Int) ≠ 0 by decide)]
   have e1 : (((numS 0 9 l).1 : Int) == 0) = true := by rw [hk0]; rfl
   simp only [h0, beq_self_eq_true, cond_true, transomref14_Read.s0, transomref14_Read.s0c, e1, Option.bind_fun_some]
   rw [bad 1 (by decide)]
  ·rw [if_neg hk0] at q1
   have hq := q2 q1
   have e1 : (((numS 1 9 l).1 : Int) == 0) = false := by rw [← hq]; exact beq_eq_false_iff_ne.2 (by omega)
   rw [hq]
   generalize (numS 1 9 l).2.1 = r1 at *
   have s1 := rdT_lenT r1
   have tx := refreadtext_f r1 (by omega) (q + 1 + 1 + 1) (by omega)
   have tx' : transomref03_ReadText.f (q + 1 + 1 + 1) (mL r1) = some (mL (rdT r1).1, mL (rdT r1).2.1, (rdT r1).2.2) := tx
   simp only [q1, ne_eq, not_true_eq_false, if_false, if_true, beq_self_eq_true, cond_true, transomref14_Read.s0, transomref14_Read.s0c, e1, cond_false, transomref14_Read.s1, transomref14_Read.s1c, bne_self_eq_false, tx', Option.bind_some, Option.bind_fun_some]
   by_cases h2 : (rdT r1).2.2 = 0
   ·simp only [h2, not_true_eq_false, if_false, bne_self_eq_false, cond_false]
    generalize (rdT r1).2.1 = r2 at *
    have s2 := rowS_len r2
    have p0 := qr_step l ((numS 1 9 l).1 : Int) (mL (rdT r1).1) 0 (by omega) [] rfl r2 (by omega) (q + 1 + 1) (by omega)
    refine Eq.trans p0 ?_
    by_cases h3 : (rowS r2).2.2 = 0
    ·have w3 := rowS_few h3
     have s3 := rowS_len (rowS r2).2.1
     have p1 := qr_step l ((numS 1 9 l).1 : Int) (mL (rdT r1).1) 1 (by omega) [(rowS r2).1] rfl (rowS r2).2.1 (by omega) (q + 1) (by omega)
     rw [if_neg (show ¬ (rowS r2).2.2 ≠ 0 from fun g => g h3)]
     refine Eq.trans p1 ?_
     by_cases h4 : (rowS (rowS r2).2.1).2.2 = 0
     ·have w4 := rowS_few h4
      have s4 := rowS_len (rowS (rowS r2).2.1).2.1
      have p2 := qr_step l ((numS 1 9 l).1 : Int) (mL (rdT r1).1) 2 (by omega) [(rowS r2).1, (rowS (rowS r2).2.1).1] rfl (rowS (rowS r2).2.1).2.1 (by omega) q (by omega)
      rw [if_neg (show ¬ (rowS (rowS r2).2.1).2.2 ≠ 0 from fun g => g h4)]
      refine Eq.trans p2 ?_
      by_cases h5 : (rowS (rowS (rowS r2).2.1).2.1).2.2 = 0
      ·have w5 := rowS_few h5
       rw [if_neg (show ¬ (rowS (rowS (rowS r2).2.1).2.1).2.2 ≠ 0 from fun g => g h5)]
       refine Eq.trans (qr_end l hl ((numS 1 9 l).1 : Int) (mL (rdT r1).1) (rowS r2).1 (rowS (rowS r2).2.1).1 (rowS (rowS (rowS r2).2.1).2.1).1 w3 w4 w5 (rowS (rowS (rowS r2).2.1).2.1).2.1 (by omega) q (by omega)) ?_
       simp only [h3, h4, h5, ne_eq, not_true_eq_false, if_false]
      ·simp only [h3, h4, h5, ne_eq, not_true_eq_false, not_false_eq_true, if_false, if_true]
     ·simp only [h3, h4, ne_eq, not_true_eq_false, not_false_eq_true, if_false, if_true]
    ·simp only [h3, ne_eq, not_false_eq_true, if_true]
   ·simp only [h2, not_false_eq_true, if_true, bne_iff_ne.2 h2, cond_true]; rfl
 ·rw [if_pos h0] at q1
  rw [q1, if_pos h0]
  simp only [beq_eq_false_iff_ne.2 h0, cond_false, transomref14_Read.s0, transomref14_Read.s0c, Option.bind_fun_some]
  rw [bad _ h0]
end Go.Proofs.YtaehpfmnejeddaaGreatDoor.Aev
