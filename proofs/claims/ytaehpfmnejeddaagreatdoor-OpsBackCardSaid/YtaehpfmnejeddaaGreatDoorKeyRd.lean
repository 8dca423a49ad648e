import Derived.Test.YtaehpfmnejeddaaGreatDoorF4
import Derived.Test.YtaehpfmnejeddaaGreatDoorF12
import Derived.Test.YtaehpfmnejeddaaGreatDoorKeyRead

/- Values read: the whole of it, the program's and the document's ways. -/
namespace Go.Proofs.YtaehpfmnejeddaaGreatDoor.Aev
open Go
set_option linter.unusedVariables false
set_option linter.unusedSimpArgs false
set_option maxRecDepth 100000
abbrev KR : Type := Int × Int × Nat × List UInt8 × List UInt8 × Int
def kraw (c : Int) (t : List UInt8) : Int × Nat × List UInt8 × List UInt8 × Int :=
 if c = 1 then (match t with | [] => (0, 0, [], [], 3) | d :: r => ((d.toNat : Int), 0, [], r, 0))
 else if c = 2 then (if t.length < 8 then (0, 0, [], [], 3) else (sgn (turn (numB (t.take 8))), 0, [], t.drop 8, 0))
 else if c = 3 then (if t.length < 8 then (0, 0, [], [], 3) else if (backS (numB (t.take 8))).2 = true then (0, (backS (numB (t.take 8))).1, [], t.drop 8, 0) else (0, 0, [], [], 4))
 else if c = 4 ∨ c = 5 then (0, 0, (plainS t).1, (plainS t).2.1, (plainS t).2.2)
 else (0, 0, [], t, 0)
noncomputable def kdone (c : Int) (q : Int × Nat × List UInt8 × List UInt8 × Int) : KR :=
 if q.2.2.2.2 ≠ 0 then (0, 0, 0, [], [], q.2.2.2.2) else if checkS c q.1 q.2.1 (ByteArray.mk (List.toArray q.2.2.1)) ≠ 0 then (0, 0, 0, [], [], 4) else (c, q.1, q.2.1, q.2.2.1, q.2.2.2.1, 0)
noncomputable def kread : List UInt8 → KR
 | [] => (0, 0, 0, [], [], 3)
 | c :: t => if 5 < c.toNat then (0, 0, 0, [], [], 4) else kdone (c.toNat : Int) (kraw (c.toNat : Int) t)
def kenc (q : KR) : Int × Int × Int × ByteArray × ByteArray × Int := (q.1, q.2.1, (q.2.2.1 : Int), ByteArray.mk (List.toArray q.2.2.2.1), ByteArray.mk (List.toArray q.2.2.2.2.1), q.2.2.2.2.2)
theorem kread_eq (l : List UInt8) (hs : l.length ≤ 100000) (k : Nat) (hk : 2 * l.length + 200 ≤ k) : keycode_Read.f k (ByteArray.mk (List.toArray l)) = some (kenc (kread l)) := by
 obtain ⟨k, rfl⟩ : ∃ j, k = j + 1 := ⟨k - 1, by omega⟩
 cases l with
 | nil => simp only [keycode_Read.f, keycode_Read.c, ba_toList, beq_self_eq_true, cond_true]; rfl
 | cons c t =>
  have hc := c.toNat_lt
  have hne : ((c :: t) == ([] : List UInt8)) = false := rfl
  have l0 : (0 : Int) < (((c :: t).length : Nat) : Int) := by rw [List.length_cons]; omega
  have l1 : (1 : Int) ≤ (((c :: t).length : Nat) : Int) := by rw [List.length_cons]; omega
  have l2 : (((c :: t).length : Nat) : Int) ≤ (((c :: t).length : Nat) : Int) := Int.le_refl _
  have l3 : ((t.length : Nat) : Int) ≤ ((t.length : Nat) : Int) := Int.le_refl _
  have l4 : (0 : Int) ≤ ((t.length : Nat) : Int) := by omega
  have hw : IntKind.wrap IntKind.i64 (bt (ByteArray.mk (List.toArray (c :: t))) 0) = (c.toNat : Int) := by rw [ba_bt0]; exact i64w (by omega) (by omega)
  have hd : (c :: t).drop 1 = t := rfl
  have hlt : t.length + 1 ≤ 100000 := by simpa using hs
  simp only [List.length_cons] at hk
  simp only [keycode_Read.f, keycode_Read.c, ba_toList, hne, cond_false, ba_size, l0, l1, l2, hw, ba_dropl, hd, decide_true, Bool.true_and, Bool.and_true, cond_true, need_eq, Option.bind_some]
  simp only [kread]
  by_cases h5 : 5 < c.toNat
  ·have h5' : (c.toNat : Int) > 5 := by omega
   simp only [h5, h5', decide_true, cond_true, if_true]; rfl
  ·have h5' : ¬ (c.toNat : Int) > 5 := by omega
   simp only [h5, h5', decide_false, cond_false, if_false]
   generalize hcc : (c.toNat : Int) = cc at *
   have hcv : cc = 0 ∨ cc = 1 ∨ cc = 2 ∨ cc = 3 ∨ cc = 4 ∨ cc = 5 := by omega
   rcases hcv with rfl | rfl | rfl | rfl | rfl | rfl
   ·have n0 : needN 0 = 0 := rfl
    have g1 : ¬ ((t.length : Nat) : Int) < 0 := by omega
    have vc := vcheck_eq (a0 := 0) (a1 := 0) (n := 0) (s := ByteArray.mk (List.toArray [])) (show 120 ≤ k by omega)
    simp only [n0, g1, l3, l4, keycode_Read.s0, keycode_Read.s0c, cond_true, cond_false, if_b, decide_eq_true_eq, Bool.and_eq_true, Bool.or_eq_true, beq_iff_eq, bne_iff_ne, ne_eq, Bool.not_eq_true', Bool.not_eq_false', Bool.true_and, Bool.and_true, Bool.false_eq_true, if_false, if_true, true_and, and_true, Option.bind_some, Option.bind_none, Option.bind_fun_some, beq_eq_false_iff_ne, decide_eq_false_iff_not, toList_iff, Int.reduceEq, Int.reduceBEq, Int.le_refl, Int.toNat_zero, List.drop_zero, ba_dropl, Int.natCast_zero] at vc ⊢
    simp only [vc, Option.bind_some]
    unfold kdone kraw
    simp only [Int.reduceEq, if_false, or_self]
    by_cases c0 : checkS 0 0 0 (ByteArray.mk (List.toArray [])) = 0
    ·rw [if_neg (by simpa using c0)]; simp [c0, kenc]
    ·rw [if_pos c0]; simp [c0, kenc]
   ·have n0 : needN 1 = 1 := rfl
    cases t with
    | nil => simp only [n0]; rfl
    | cons d r =>
     have hd8 := d.toNat_lt
     have g1 : ¬ (((d :: r).length : Nat) : Int) < 1 := by simp only [List.length_cons]; omega
     have g2 : (1 : Int) ≤ (((d :: r).length : Nat) : Int) := by simp only [List.length_cons]; omega
     have g3 : (0 : Int) < (((d :: r).take 1).length : Int) := by simp
     have hw2 : IntKind.wrap IntKind.i64 (bt (ByteArray.mk (List.toArray ((d :: r).take 1))) 0) = (d.toNat : Int) := by
      show IntKind.wrap IntKind.i64 (bt (ByteArray.mk (List.toArray [d])) 0) = _
      rw [ba_bt0]; exact i64w (by omega) (by omega)
     have vc := vcheck_eq (a0 := 1) (a1 := (d.toNat : Int)) (n := 0) (s := ByteArray.mk (List.toArray [])) (show 120 ≤ k + 1 by omega)
     simp only [Int.natCast_zero] at vc
     have d1 : (d :: r).drop 1 = r := rfl
     simp only [n0, g1, g2, l3, l4, ba_take, Int.toNat_one, hw2, g3, vc, d1, ba_size, cond_true, cond_false, if_b, decide_eq_true_eq, Bool.and_eq_true, Bool.or_eq_true, beq_iff_eq, bne_iff_ne, ne_eq, Bool.not_eq_true', Bool.not_eq_false', Bool.true_and, Bool.and_true, Bool.false_eq_true, if_false, if_true, true_and, and_true, Option.bind_some, Option.bind_none, Option.bind_fun_some, beq_eq_false_iff_ne, decide_eq_false_iff_not, toList_iff, Int.reduceEq, Int.reduceLE, ba_dropl]
     unfold kdone kraw
     simp only [Int.reduceEq, if_true, if_false]
     by_cases c0 : checkS 1 (d.toNat : Int) 0 (ByteArray.mk (List.toArray [])) = 0
     ·rw [if_neg (by simpa using c0)]; simp [c0, kenc]
     ·rw [if_pos c0]; simp [c0, kenc]
   ·have n0 : needN 2 = 8 := rfl
    by_cases h8 : t.length < 8
    ·have g1 : ((t.length : Nat) : Int) < 8 := by omega
     simp only [n0, g1, decide_true, cond_true]
     unfold kdone kraw
     simp [h8, kenc]
    ·have g1 : ¬ ((t.length : Nat) : Int) < 8 := by omega
     have g2 : (8 : Int) ≤ ((t.length : Nat) : Int) := by omega
     have hn := numB8_lt t
     have tt : (t.take 8).take 8 = t.take 8 := by rw [List.take_take]; rfl
     have gt := get8_eq (t.take 8) (by simp; omega) (k + 1) (by omega)
     rw [tt] at gt
     have hx := xTop hn
     have hsg := sgn_eq (turn_lt hn)
     have vc := vcheck_eq (a0 := 2) (a1 := sgn (turn (numB (t.take 8)))) (n := 0) (s := ByteArray.mk (List.toArray [])) (show 120 ≤ k + 1 by omega)
     simp only [Int.natCast_zero] at vc
     have t8 : Int.toNat 8 = 8 := rfl
     simp only [n0, g1, g2, l3, l4, ba_take, t8, gt, hx, hsg, vc, cond_true, cond_false, if_b, decide_eq_true_eq, Bool.and_eq_true, Bool.or_eq_true, beq_iff_eq, bne_iff_ne, ne_eq, Bool.not_eq_true', Bool.not_eq_false', Bool.true_and, Bool.and_true, Bool.false_eq_true, if_false, if_true, true_and, and_true, Option.bind_some, Option.bind_none, Option.bind_fun_some, beq_eq_false_iff_ne, decide_eq_false_iff_not, toList_iff, Int.reduceEq, Int.reduceLE, ba_dropl]
     unfold kdone kraw
     simp only [Int.reduceEq, if_true, if_false, h8]
     by_cases c0 : checkS 2 (sgn (turn (numB (t.take 8)))) 0 (ByteArray.mk (List.toArray [])) = 0
     ·rw [if_neg (by simpa using c0)]; simp [c0, kenc]
     ·rw [if_pos c0]; simp [c0, kenc]
   ·have n0 : needN 3 = 8 := rfl
    by_cases h8 : t.length < 8
    ·have g1 : ((t.length : Nat) : Int) < 8 := by omega
     simp only [n0, g1, decide_true, cond_true]
     unfold kdone kraw
     simp [h8, kenc]
    ·have g1 : ¬ ((t.length : Nat) : Int) < 8 := by omega
     have g2 : (8 : Int) ≤ ((t.length : Nat) : Int) := by omega
     have hn := numB8_lt t
     have tt : (t.take 8).take 8 = t.take 8 := by rw [List.take_take]; rfl
     have gt := get8_eq (t.take 8) (by simp; omega) (k + 1) (by omega)
     rw [tt] at gt
     have hbk := back_eq hn (k + 1)
     have vc := vcheck_eq (a0 := 3) (a1 := 0) (n := (backS (numB (t.take 8))).1) (s := ByteArray.mk (List.toArray [])) (show 120 ≤ k + 1 by omega)
     have t8 : Int.toNat 8 = 8 := rfl
     simp only [n0, g1, g2, l3, l4, ba_take, t8, gt, hbk, vc, cond_true, cond_false, if_b, decide_eq_true_eq, Bool.and_eq_true, Bool.or_eq_true, beq_iff_eq, bne_iff_ne, ne_eq, Bool.not_eq_true', Bool.not_eq_false', Bool.true_and, Bool.and_true, Bool.false_eq_true, if_false, if_true, true_and, and_true, Option.bind_some, Option.bind_none, Option.bind_fun_some, beq_eq_false_iff_ne, decide_eq_false_iff_not, toList_iff, Int.reduceEq, Int.reduceLE, ba_dropl]
     unfold kdone kraw
     simp only [Int.reduceEq, if_true, if_false, h8]
     by_cases c1 : (backS (numB (t.take 8))).2 = true
     ·rw [if_neg (by simp [c1])]
      by_cases c0 : checkS 3 0 (backS (numB (t.take 8))).1 (ByteArray.mk (List.toArray [])) = 0
      ·rw [if_neg (by simpa using c0)]; simp [c0, c1, kenc]
      ·rw [if_pos c0]; simp [c0, c1, kenc]
     ·rw [if_pos (by simpa using c1)]; simp [c1, kenc]
   ·have n0 : needN 4 = 0 := rfl
    have g1 : ¬ ((t.length : Nat) : Int) < 0 := by omega
    have pe := plain_eq t (by omega) k (by omega)
    have vc := vcheck_eq (a0 := 4) (a1 := 0) (n := 0) (s := ByteArray.mk (List.toArray (plainS t).1)) (show 120 ≤ k by omega)
    simp only [Int.natCast_zero] at vc
    simp only [n0, g1, l3, l4, keycode_Read.s0, keycode_Read.s0c, pe, cond_true, cond_false, if_b, decide_eq_true_eq, Bool.and_eq_true, Bool.or_eq_true, beq_iff_eq, bne_iff_ne, ne_eq, Bool.not_eq_true', Bool.not_eq_false', Bool.true_and, Bool.and_true, Bool.false_eq_true, if_false, if_true, true_and, and_true, Option.bind_some, Option.bind_none, Option.bind_fun_some, beq_eq_false_iff_ne, decide_eq_false_iff_not, toList_iff, Int.reduceEq, Int.le_refl, Int.toNat_zero, List.drop_zero, ba_dropl, beq_self_eq_true]
    unfold kdone kraw
    simp only [Int.reduceEq, if_true, if_false, true_or]
    by_cases c1 : (plainS t).2.2 = 0
    ·simp only [c1, if_true, not_true_eq_false, if_false, vc, Option.bind_some]
     by_cases c0 : checkS 4 0 0 (ByteArray.mk (List.toArray (plainS t).1)) = 0
     ·simp [c0, kenc]
     ·simp [c0, kenc]
    ·simp [c1, kenc]
   ·have n0 : needN 5 = 0 := rfl
    have g1 : ¬ ((t.length : Nat) : Int) < 0 := by omega
    have pe := plain_eq t (by omega) k (by omega)
    have vc := vcheck_eq (a0 := 5) (a1 := 0) (n := 0) (s := ByteArray.mk (List.toArray (plainS t).1)) (show 120 ≤ k by omega)
    simp only [Int.natCast_zero] at vc
    simp only [n0, g1, l3, l4, keycode_Read.s0, keycode_Read.s0c, pe, cond_true, cond_false, if_b, decide_eq_true_eq, Bool.and_eq_true, Bool.or_eq_true, beq_iff_eq, bne_iff_ne, ne_eq, Bool.not_eq_true', Bool.not_eq_false', Bool.true_and, Bool.and_true, Bool.false_eq_true, if_false, if_true, true_and, and_true, Option.bind_some, Option.bind_none, Option.bind_fun_some, beq_eq_false_iff_ne, decide_eq_false_iff_not, toList_iff, Int.reduceEq, Int.le_refl, Int.toNat_zero, List.drop_zero, ba_dropl, beq_self_eq_true]
    unfold kdone kraw
    simp only [Int.reduceEq, if_true, if_false, or_true]
    by_cases c1 : (plainS t).2.2 = 0
    ·simp only [c1, if_true, not_true_eq_false, if_false, vc, Option.bind_some]
     by_cases c0 : checkS 5 0 0 (ByteArray.mk (List.toArray (plainS t).1)) = 0
     ·simp [c0, kenc]
     ·simp [c0, kenc]
    ·simp [c1, kenc]
end Go.Proofs.YtaehpfmnejeddaaGreatDoor.Aev
