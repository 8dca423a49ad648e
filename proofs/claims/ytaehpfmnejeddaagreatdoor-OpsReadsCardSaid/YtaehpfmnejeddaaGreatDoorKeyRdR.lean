import Derived.Test.YtaehpfmnejeddaaGreatDoorF4
import Derived.Test.YtaehpfmnejeddaaGreatDoorKeyRd
import Derived.Test.YtaehpfmnejeddaaGreatDoorF10

/- How long what is read is. -/
namespace Go.Proofs.YtaehpfmnejeddaaGreatDoor.Aev
open Go
set_option linter.unusedVariables false
set_option linter.unusedSimpArgs false
set_option maxRecDepth 100000
theorem plainS_len : ∀ (n : Nat) (t : List UInt8), t.length ≤ n → (plainS t).2.1.length ≤ t.length := by
 intro n
 induction n with
 | zero => intro t h; obtain rfl : t = [] := List.eq_nil_of_length_eq_zero (by omega); simp [plainS]
 | succ n ih =>
  intro t h
  cases t with
  | nil => simp [plainS]
  | cons c t =>
   have h' : t.length ≤ n := by simpa using h
   unfold plainS
   split
   ·split
    ·simp
    ·rename_i d r
     have hr := ih r (by simp at h'; omega)
     split
     ·simp; omega
     ·split
      ·generalize plainS r = q at hr
       obtain ⟨x, y, e⟩ := q
       simp only at hr ⊢
       split
       ·simp; omega
       ·simp
      ·simp
   ·have ht := ih t h'
    generalize plainS t = q at ht
    obtain ⟨x, y, e⟩ := q
    simp only at ht ⊢
    split
    ·simp; omega
    ·simp
theorem kread_len {l : List UInt8} (h : (kread l).2.2.2.2.2 = 0) : (kread l).2.2.2.2.1.length < l.length := by
 cases l with
 | nil => simp [kread] at h
 | cons c t =>
  have key : (kraw (c.toNat : Int) t).2.2.2.1.length ≤ t.length := by
   unfold kraw
   have hp := plainS_len t.length t (Nat.le_refl _)
   split
   ·split <;> simp
   ·split
    ·split <;> simp
    ·split
     ·split
      ·simp
      ·split <;> simp
     ·split
      ·exact hp
      ·simp
  simp only [kread] at h ⊢
  split at h
  ·simp at h
  ·rename_i h5
   rw [if_neg h5]
   unfold kdone at h ⊢
   split at h
   ·rename_i he; simp only at h; exact absurd h he
   ·rename_i he
    rw [if_neg he]
    split at h
    ·simp at h
    ·rename_i hc
     rw [if_neg hc]
     simp only [List.length_cons]; omega
theorem backS_lt' {m : Nat} (h : m < 18446744073709551616) : (backS m).1 < 18446744073709551616 := by
 have := backR_lt h
 unfold backS; split
 ·exact this
 ·simp
theorem kread_lt (l : List UInt8) : (kread l).2.2.1 < 18446744073709551616 := by
 cases l with
 | nil => simp [kread]
 | cons c t =>
  have key : (kraw (c.toNat : Int) t).2.1 < 18446744073709551616 := by
   unfold kraw
   split
   ·split <;> simp
   ·split
    ·split <;> simp
    ·split
     ·split
      ·simp
      ·rename_i h8
       have hn := numB_lt (t.take 8)
       have : (t.take 8).length = 8 := by simp; omega
       rw [this] at hn
       split
       ·exact backS_lt' (by omega)
       ·simp
     ·split <;> simp
  simp only [kread]
  split
  ·simp
  ·unfold kdone
   split
   ·simp
   ·split
    ·simp
    ·exact key
end Go.Proofs.YtaehpfmnejeddaaGreatDoor.Aev

/- Values read: the document's way. -/
namespace Go.Proofs.YtaehpfmnejeddaaGreatDoor.Aev
open Go
set_option linter.unusedVariables false
set_option linter.unusedSimpArgs false
set_option maxRecDepth 100000
theorem rread_s1 (rest x : List UInt8) (fine : Bool) (a n : Int) (b : Nat) (hb : b < 18446744073709551616) (k : Nat) (hk : 171 ≤ k) :
  transomref05_Read.s1 k (ByteArray.mk (List.toArray rest)) fine 0 0 0 (ByteArray.mk (List.toArray [])) a n (b : Int) (ByteArray.mk (List.toArray x)) = some (kenc (if fine = false then (0, 0, 0, [], [], 4) else kdone a (n, b, x, rest, 0))) := by
 obtain ⟨k, rfl⟩ : ∃ j, k = j + 1 := ⟨k - 1, by omega⟩
 simp only [transomref05_Read.s1, transomref05_Read.s1c, rcheck_eq hb (show 170 ≤ k by omega), cond_true, cond_false, if_b, decide_eq_true_eq, Bool.and_eq_true, Bool.or_eq_true, beq_iff_eq, bne_iff_ne, ne_eq, Bool.not_eq_true', Bool.not_eq_false', Bool.true_and, Bool.and_true, Bool.false_eq_true, if_false, if_true, true_and, and_true, Option.bind_some, Option.bind_none, Option.bind_fun_some, beq_eq_false_iff_ne, decide_eq_false_iff_not, toList_iff]
 cases fine
 ·rfl
 ·unfold kdone
  simp only [Bool.true_eq_false, if_false, not_true_eq_false]
  by_cases c0 : checkS a n b (ByteArray.mk (List.toArray x)) = 0
  ·simp [c0, kenc]
  ·simp [c0, kenc]
theorem backS_lt {m : Nat} (h : m < 18446744073709551616) : (backS m).1 < 18446744073709551616 := by
 have := backR_lt h
 unfold backS; split
 ·exact this
 ·simp
theorem rread_eq (l : List UInt8) (hs : l.length ≤ 100000) (k : Nat) (hk : 2 * l.length + 400 ≤ k) : transomref05_Read.f k (ByteArray.mk (List.toArray l)) = some (kenc (kread l)) := by
 obtain ⟨k, rfl⟩ : ∃ j, k = j + 1 := ⟨k - 1, by omega⟩
 cases l with
 | nil => rfl
 | cons c t =>
  have hc := c.toNat_lt
  have lz : ((((c :: t).length : Nat) : Int) == 0) = false := by rw [beq_eq_false_iff_ne, List.length_cons]; omega
  have l0 : (0 : Int) < (((c :: t).length : Nat) : Int) := by rw [List.length_cons]; omega
  have l1 : (1 : Int) ≤ (((c :: t).length : Nat) : Int) := by rw [List.length_cons]; omega
  have l2 : (((c :: t).length : Nat) : Int) ≤ (((c :: t).length : Nat) : Int) := Int.le_refl _
  have l3 : ((t.length : Nat) : Int) ≤ ((t.length : Nat) : Int) := Int.le_refl _
  have l4 : (0 : Int) ≤ ((t.length : Nat) : Int) := by omega
  have hw : IntKind.wrap IntKind.i64 (bt (ByteArray.mk (List.toArray (c :: t))) 0) = (c.toNat : Int) := by rw [ba_bt0]; exact i64w (by omega) (by omega)
  have hd : (c :: t).drop 1 = t := rfl
  have hlt : t.length + 1 ≤ 100000 := by simpa using hs
  simp only [List.length_cons] at hk
  simp only [transomref05_Read.f, transomref05_Read.c, ba_size, lz, cond_false, l0, l1, l2, hw, ba_dropl, hd, decide_true, Bool.true_and, Bool.and_true, cond_true, fixed_eq, Option.bind_some]
  simp only [kread]
  by_cases h5 : 5 < c.toNat
  ·have h5' : (c.toNat : Int) > 5 := by omega
   simp only [h5, h5', decide_true, cond_true, if_true]; rfl
  ·have h5' : ¬ (c.toNat : Int) > 5 := by omega
   simp only [h5, h5', decide_false, cond_false, if_false]
   generalize hcc : (c.toNat : Int) = cc at *
   have hcv : cc = 0 ∨ cc = 1 ∨ cc = 2 ∨ cc = 3 ∨ cc = 4 ∨ cc = 5 := by omega
   have zz : ((0 : Nat) : Int) = 0 := rfl
   rcases hcv with rfl | rfl | rfl | rfl | rfl | rfl
   ·have n0 : needN 0 = 0 := rfl
    have g1 : ¬ ((t.length : Nat) : Int) < 0 := by omega
    have vc := rread_s1 t [] true 0 0 0 (by omega) k (by omega)
    simp only [zz] at vc
    simp only [n0, g1, l3, l4, transomref05_Read.s0, transomref05_Read.s0c, cond_true, cond_false, if_b, decide_eq_true_eq, Bool.and_eq_true, Bool.or_eq_true, beq_iff_eq, bne_iff_ne, ne_eq, Bool.not_eq_true', Bool.not_eq_false', Bool.true_and, Bool.and_true, Bool.false_eq_true, if_false, if_true, true_and, and_true, Option.bind_some, Option.bind_none, Option.bind_fun_some, beq_eq_false_iff_ne, decide_eq_false_iff_not, toList_iff, Int.reduceEq, Int.reduceBEq, Int.le_refl, Int.toNat_zero, List.drop_zero, ba_dropl, vc]
    unfold kraw
    simp
   ·have n0 : needN 1 = 1 := rfl
    cases t with
    | nil => simp only [n0]; rfl
    | cons d r =>
     have hd8 := d.toNat_lt
     have g1 : ¬ (((d :: r).length : Nat) : Int) < 1 := by simp only [List.length_cons]; omega
     have g2 : (1 : Int) ≤ (((d :: r).length : Nat) : Int) := by simp only [List.length_cons]; omega
     have g3 : (0 : Int) < (((d :: r).length : Nat) : Int) := by simp only [List.length_cons]; omega
     have hw2 : IntKind.wrap IntKind.i64 (bt (ByteArray.mk (List.toArray (d :: r))) 0) = (d.toNat : Int) := by
      rw [ba_bt0]; exact i64w (by omega) (by omega)
     have vc := rread_s1 r [] true 1 (d.toNat : Int) 0 (by omega) (k + 1) (by omega)
     simp only [zz] at vc
     have d1 : (d :: r).drop 1 = r := rfl
     simp only [n0, g1, g2, l3, l4, Int.toNat_one, hw2, g3, d1, ba_size, cond_true, cond_false, if_b, decide_eq_true_eq, Bool.and_eq_true, Bool.or_eq_true, beq_iff_eq, bne_iff_ne, ne_eq, Bool.not_eq_true', Bool.not_eq_false', Bool.true_and, Bool.and_true, Bool.false_eq_true, if_false, if_true, true_and, and_true, Option.bind_some, Option.bind_none, Option.bind_fun_some, beq_eq_false_iff_ne, decide_eq_false_iff_not, toList_iff, Int.reduceEq, Int.reduceLE, ba_dropl, vc]
     unfold kraw
     simp
   ·have n0 : needN 2 = 8 := rfl
    by_cases h8 : t.length < 8
    ·have g1 : ((t.length : Nat) : Int) < 8 := by omega
     simp only [n0, g1, decide_true, cond_true]
     unfold kdone kraw
     simp [h8, kenc]
    ·have g1 : ¬ ((t.length : Nat) : Int) < 8 := by omega
     have g2 : (8 : Int) ≤ ((t.length : Nat) : Int) := by omega
     have hn := numB8_lt t
     have gt := number_eq t (by omega) (k + 1) (by omega)
     have hx := xTop hn
     have hsg := sgn_eq (turn_lt hn)
     have vc := rread_s1 (t.drop 8) [] true 2 (sgn (turn (numB (t.take 8)))) 0 (by omega) (k + 1) (by omega)
     simp only [zz] at vc
     have t8 : Int.toNat 8 = 8 := rfl
     simp only [n0, g1, g2, l3, l4, t8, gt, hx, hsg, cond_true, cond_false, if_b, decide_eq_true_eq, Bool.and_eq_true, Bool.or_eq_true, beq_iff_eq, bne_iff_ne, ne_eq, Bool.not_eq_true', Bool.not_eq_false', Bool.true_and, Bool.and_true, Bool.false_eq_true, if_false, if_true, true_and, and_true, Option.bind_some, Option.bind_none, Option.bind_fun_some, beq_eq_false_iff_ne, decide_eq_false_iff_not, toList_iff, Int.reduceEq, Int.reduceLE, ba_dropl, vc]
     unfold kraw
     simp [h8]
   ·have n0 : needN 3 = 8 := rfl
    by_cases h8 : t.length < 8
    ·have g1 : ((t.length : Nat) : Int) < 8 := by omega
     simp only [n0, g1, decide_true, cond_true]
     unfold kdone kraw
     simp [h8, kenc]
    ·have g1 : ¬ ((t.length : Nat) : Int) < 8 := by omega
     have g2 : (8 : Int) ≤ ((t.length : Nat) : Int) := by omega
     have hn := numB8_lt t
     have gt := number_eq t (by omega) (k + 1) (by omega)
     have hbk := refback_eq hn k
     have vc := fun fine => rread_s1 (t.drop 8) [] fine 3 0 (backS (numB (t.take 8))).1 (backS_lt hn) (k + 1) (by omega)
     have t8 : Int.toNat 8 = 8 := rfl
     simp only [n0, g1, g2, l3, l4, t8, gt, hbk, cond_true, cond_false, if_b, decide_eq_true_eq, Bool.and_eq_true, Bool.or_eq_true, beq_iff_eq, bne_iff_ne, ne_eq, Bool.not_eq_true', Bool.not_eq_false', Bool.true_and, Bool.and_true, Bool.false_eq_true, if_false, if_true, true_and, and_true, Option.bind_some, Option.bind_none, Option.bind_fun_some, beq_eq_false_iff_ne, decide_eq_false_iff_not, toList_iff, Int.reduceEq, Int.reduceLE, ba_dropl, vc]
     unfold kraw
     simp only [Int.reduceEq, if_true, if_false, h8]
     cases c1 : (backS (numB (t.take 8))).2
     ·simp [c1, kenc, kdone]
     ·simp [c1]
   ·have n0 : needN 4 = 0 := rfl
    have g1 : ¬ ((t.length : Nat) : Int) < 0 := by omega
    obtain ⟨k, rfl⟩ : ∃ j, k = j + 1 := ⟨k - 1, by omega⟩
    have pe := plain_eq t (by omega) (k + 1) (by omega)
    have vc := rread_s1 (plainS t).2.1 (plainS t).1 true 4 0 0 (by omega) (k + 1) (by omega)
    simp only [zz] at vc
    simp only [n0, g1, l3, l4, transomref05_Read.s0, transomref05_Read.s0c, refplain_f, pe, cond_true, cond_false, if_b, decide_eq_true_eq, Bool.and_eq_true, Bool.or_eq_true, beq_iff_eq, bne_iff_ne, ne_eq, Bool.not_eq_true', Bool.not_eq_false', Bool.true_and, Bool.and_true, Bool.false_eq_true, if_false, if_true, true_and, and_true, Option.bind_some, Option.bind_none, Option.bind_fun_some, beq_eq_false_iff_ne, decide_eq_false_iff_not, toList_iff, Int.reduceEq, Int.le_refl, Int.toNat_zero, List.drop_zero, ba_dropl, beq_self_eq_true]
    unfold kraw
    simp only [Int.reduceEq, if_true, if_false, true_or]
    by_cases c1 : (plainS t).2.2 = 0
    ·simp only [c1, if_true, not_true_eq_false, if_false, vc, Option.bind_some]
     simp
    ·simp [c1, kenc, kdone]
   ·have n0 : needN 5 = 0 := rfl
    have g1 : ¬ ((t.length : Nat) : Int) < 0 := by omega
    obtain ⟨k, rfl⟩ : ∃ j, k = j + 1 := ⟨k - 1, by omega⟩
    have pe := plain_eq t (by omega) (k + 1) (by omega)
    have vc := rread_s1 (plainS t).2.1 (plainS t).1 true 5 0 0 (by omega) (k + 1) (by omega)
    simp only [zz] at vc
    simp only [n0, g1, l3, l4, transomref05_Read.s0, transomref05_Read.s0c, refplain_f, pe, cond_true, cond_false, if_b, decide_eq_true_eq, Bool.and_eq_true, Bool.or_eq_true, beq_iff_eq, bne_iff_ne, ne_eq, Bool.not_eq_true', Bool.not_eq_false', Bool.true_and, Bool.and_true, Bool.false_eq_true, if_false, if_true, true_and, and_true, Option.bind_some, Option.bind_none, Option.bind_fun_some, beq_eq_false_iff_ne, decide_eq_false_iff_not, toList_iff, Int.reduceEq, Int.le_refl, Int.toNat_zero, List.drop_zero, ba_dropl, beq_self_eq_true]
    unfold kraw
    simp only [Int.reduceEq, if_true, if_false, or_true]
    by_cases c1 : (plainS t).2.2 = 0
    ·simp only [c1, if_true, not_true_eq_false, if_false, vc, Option.bind_some]
     simp
    ·simp [c1, kenc, kdone]
end Go.Proofs.YtaehpfmnejeddaaGreatDoor.Aev
