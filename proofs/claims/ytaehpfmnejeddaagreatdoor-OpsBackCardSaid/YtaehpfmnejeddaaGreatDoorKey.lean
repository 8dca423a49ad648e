import Derived.Test.YtaehpfmnejeddaaGreatDoorF2
import Derived.Test.YtaehpfmnejeddaaGreatDoorF8
import Derived.Test.YtaehpfmnejeddaaGreatDoorEight
import Derived.Test.YtaehpfmnejeddaaGreatDoorEsc

/- Values as bytes that keep their order: the program's and the document's ways, as one list of bytes. -/
namespace Go.Proofs.YtaehpfmnejeddaaGreatDoor.Aev
open Go
set_option linter.unusedVariables false
set_option linter.unusedSimpArgs false
set_option maxRecDepth 100000
theorem put8_step (n i : Nat) (hi : i ≤ 56) (xs : List Int) (hx : xs.length + 1 ≤ 35184372088832) (k : Nat) : keycode_put8.s0 (k + 1) (n : Int) (i : Int) xs = keycode_put8.s0 k (n : Int) ((i : Int) - 8) (xs ++ [byteAt n i]) := by
 have e1 : (i : Int) ≥ 0 := by omega
 have e2 : (0 : Int) ≤ (i : Int) := by omega
 have e3 : (xs.length + 1) * 1 ≤ 35184372088832 := by omega
 simp only [keycode_put8.s0, keycode_put8.s0c, e1, e2, e3, decide_true, cond_true, Option.bind_fun_some, byteAt_eq n i (by omega), i64w (n := (i : Int) - 8) (by omega) (by omega)]
theorem put8_end (n : Int) (xs : List Int) (k : Nat) : keycode_put8.s0 (k + 1) n (-8) xs = some xs := by
 simp only [keycode_put8.s0, keycode_put8.s0c]; rfl
theorem put8_eq (n : Nat) (xs : List Int) (hx : xs.length + 8 ≤ 35184372088832) (k : Nat) : keycode_put8.f (k + 9) (n : Int) xs = some (xs ++ eightI n) := by
 simp only [keycode_put8.f, keycode_put8.c, Option.bind_fun_some]
 have h56 := put8_step n 56 (by omega) xs (by omega) (k + 8)
 have h48 := put8_step n 48 (by omega) (xs ++ [byteAt n 56]) (by simp; omega) (k + 7)
 have h40 := put8_step n 40 (by omega) (xs ++ [byteAt n 56] ++ [byteAt n 48]) (by simp; omega) (k + 6)
 have h32 := put8_step n 32 (by omega) (xs ++ [byteAt n 56] ++ [byteAt n 48] ++ [byteAt n 40]) (by simp; omega) (k + 5)
 have h24 := put8_step n 24 (by omega) (xs ++ [byteAt n 56] ++ [byteAt n 48] ++ [byteAt n 40] ++ [byteAt n 32]) (by simp; omega) (k + 4)
 have h16 := put8_step n 16 (by omega) (xs ++ [byteAt n 56] ++ [byteAt n 48] ++ [byteAt n 40] ++ [byteAt n 32] ++ [byteAt n 24]) (by simp; omega) (k + 3)
 have h8 := put8_step n 8 (by omega) (xs ++ [byteAt n 56] ++ [byteAt n 48] ++ [byteAt n 40] ++ [byteAt n 32] ++ [byteAt n 24] ++ [byteAt n 16]) (by simp; omega) (k + 2)
 have h0 := put8_step n 0 (by omega) (xs ++ [byteAt n 56] ++ [byteAt n 48] ++ [byteAt n 40] ++ [byteAt n 32] ++ [byteAt n 24] ++ [byteAt n 16] ++ [byteAt n 8]) (by simp; omega) (k + 1)
 refine h56.trans (h48.trans (h40.trans (h32.trans (h24.trans (h16.trans (h8.trans (h0.trans ((put8_end _ _ _).trans ?_))))))))
 simp [eightI]
def escI (s : List UInt8) : List Int := s.flatMap escOne ++ [0, 0]
theorem escTo_all (s : ByteArray) : escTo s s.size = s.data.toList.flatMap escOne := by
 unfold escTo; rw [List.take_of_length_le (by rw [← size_eq]; exact Nat.le_refl _)]
theorem flat_len (l : List UInt8) : (l.flatMap escOne).length ≤ 2 * l.length := by
 rw [List.length_flatMap]
 induction l with
 | nil => simp
 | cons a l ih => simp only [List.map_cons, List.sum_cons, List.length_cons]; have : (escOne a).length ≤ 2 := by unfold escOne; split <;> simp
                  omega
theorem put_s0 (s : ByteArray) (xs : List Int) (h : xs.length + 2 * s.size + 2 ≤ 35184372088832) (k : Nat) : keycode_put.s0 k s xs = some (xs ++ escI s.data.toList) := by
 unfold keycode_put.s0
 rw [decide_eq_true (by simpa using h), escTo_all]; rfl
theorem refesc_eq (s : ByteArray) (hs : s.size ≤ 100000) (k : Nat) (hk : 2 * s.size + 2 ≤ k) : ∃ b, transomref05_escaped.f k s = some b ∧ b.data.toList = (escI s.data.toList).map b8 := by
 refine ⟨⟨((escI s.data.toList).map b8).toArray⟩, ?_, rfl⟩
 simp only [transomref05_escaped.f, transomref05_escaped.c, Option.bind_fun_some]
 have h : ∀ (m i : Nat) (xs : List Int), i + m = s.size → xs.length ≤ 2 * i → ∀ k, 2 * m + 1 ≤ k → transomref05_escaped.s0 k s (i : Int) xs = some ⟨((xs ++ escI (s.data.toList.drop i)).map b8).toArray⟩ := by
  intro m
  induction m with
  | zero =>
   intro i xs hi hx k hk
   obtain ⟨k, rfl⟩ : ∃ j, k = j + 1 := ⟨k - 1, by omega⟩
   have e : ¬ (i : Int) < (s.size : Int) := by omega
   have e2 : (xs.length + 2) * 1 ≤ 35184372088832 := by omega
   rw [List.drop_eq_nil_of_le (by rw [← size_eq]; omega)]
   simp only [transomref05_escaped.s0, transomref05_escaped.s0c, e, e2, decide_false, cond_false, decide_true, cond_true, escI, List.flatMap_nil, List.nil_append]
  | succ m ih =>
   intro i xs hi hx k hk
   obtain ⟨k, rfl⟩ : ∃ j, k = j + 2 := ⟨k - 2, by omega⟩
   have hl : i < s.data.toList.length := by rw [← size_eq]; omega
   have hd : s.data.toList.drop i = s.data.toList[i] :: s.data.toList.drop (i + 1) := List.drop_eq_getElem_cons hl
   have hb : bt s (i : Int) = ((s.data.toList[i]).toNat : Int) := bt_nat s i hl
   rw [hd]
   generalize s.data.toList[i] = c at hb
   have e0 : (i : Int) < (s.size : Int) := by omega
   have e1 : (0 : Int) ≤ (i : Int) := by omega
   have e2 : (xs.length + 1) * 1 ≤ 35184372088832 := by omega
   have e3 : ((xs ++ [(c.toNat : Int)]).length + 1) * 1 ≤ 35184372088832 := by simp; omega
   have e4 : IntKind.wrap IntKind.i64 ((i : Int) + 1) = ((i + 1 : Nat) : Int) := by rw [i64w (by omega) (by omega)]; omega
   by_cases hc : c = 0
   ·subst hc
    have := ih (i + 1) (xs ++ [((0 : UInt8).toNat : Int)] ++ [255]) (by omega) (by simp; omega) k (by omega)
    have e5 : ((0 : UInt8).toNat : Int) == 0 := rfl
    simp only [transomref05_escaped.s0, transomref05_escaped.s0c, transomref05_escaped.s1, transomref05_escaped.s1c, hb, e0, e1, e2, e3, e4, e5, decide_true, cond_true, Bool.and_true, Bool.and_self, Option.bind_fun_some, this]
    simp [escI, escOne]
   ·have := ih (i + 1) (xs ++ [(c.toNat : Int)]) (by omega) (by simp; omega) k (by omega)
    have e5 : ((c.toNat : Int) == 0) = false := by
     rw [beq_eq_false_iff_ne]; intro h; apply hc; apply UInt8.toNat_inj.1
     show c.toNat = 0; omega
    simp only [transomref05_escaped.s0, transomref05_escaped.s0c, transomref05_escaped.s1, transomref05_escaped.s1c, hb, e0, e1, e2, e3, e4, e5, decide_true, cond_true, cond_false, Bool.and_self, Option.bind_fun_some, this]
    simp [escI, escOne, hc]
 have := h s.size 0 [] (by omega) (by simp) k (by omega)
 simpa using this
def kputI (a0 a1 : Int) (n : Nat) (s : List UInt8) : List Int :=
 (a0 % 256) :: (if a0 = 1 then [a1 % 256] else if a0 = 2 then eightI (turn (a1 % 18446744073709551616).toNat) else if a0 = 3 then eightI (keyU n) else if a0 = 4 ∨ a0 = 5 then escI s else [])
theorem turn_int (a1 : Int) : IntKind.wrap IntKind.u64 ((BitVec.toNat ((BitVec.ofInt (64 : Nat) (IntKind.wrap IntKind.u64 a1)) ^^^ (BitVec.ofInt (64 : Nat) (9223372036854775808 : Int)))) : Int) = (turn (a1 % 18446744073709551616).toNat : Int) := by
 rw [u64m]
 have h := xTop (n := (a1 % 18446744073709551616).toNat) (by omega)
 rwa [show (((a1 % 18446744073709551616).toNat : Nat) : Int) = a1 % 18446744073709551616 by omega] at h
theorem kput_eq (a0 a1 : Int) (n : Nat) (hn : n < 18446744073709551616) (s : ByteArray) (hs : s.size ≤ 100000) (xs : List Int) (hx : xs.length ≤ 1000000000) (k : Nat) (hk : 10 ≤ k) :
  keycode_put.f k a0 a1 (n : Int) s xs = some (xs ++ kputI a0 a1 n s.data.toList) := by
 obtain ⟨k, rfl⟩ : ∃ j, k = j + 9 := ⟨k - 9, by omega⟩
 have e1 : (xs.length + 1) * 1 ≤ 35184372088832 := by omega
 have e2 : ((xs ++ [a0 % 256]).length + 1) * 1 ≤ 35184372088832 := by simp; omega
 have p8 := fun m : Nat => put8_eq m (xs ++ [a0 % 256]) (by simp; omega) k
 have ps := put_s0 s (xs ++ [a0 % 256]) (by simp; omega) (k + 9)
 simp only [keycode_put.f, keycode_put.c, keycode_escaped.f, keycode_escaped.c, u8m, e1, e2, turn_int, p8, ps, key_eq hn, cond_true, cond_false, if_b, decide_eq_true_eq, Bool.and_eq_true, Bool.or_eq_true, beq_iff_eq, bne_iff_ne, ne_eq, Bool.not_eq_true', Bool.not_eq_false', Bool.true_and, Bool.and_true, Bool.false_eq_true, if_false, if_true, true_and, and_true, Option.bind_some, Option.bind_none, Option.bind_fun_some, beq_eq_false_iff_ne, decide_eq_false_iff_not, toList_iff]
 unfold kputI
 by_cases h1 : a0 = 1
 ·subst h1; simp
 ·by_cases h2 : a0 = 2
  ·subst h2; simp
  ·by_cases h3 : a0 = 3
   ·subst h3; simp
   ·by_cases h4 : a0 = 4
    ·subst h4; simp
    ·by_cases h5 : a0 = 5
     ·subst h5; simp
     ·simp [h1, h2, h3, h4, h5]
theorem kPut_eq (a0 a1 : Int) (n : Nat) (hn : n < 18446744073709551616) (s : ByteArray) (hs : s.size ≤ 100000) (k : Nat) (hk : 120 ≤ k) :
  ∃ b, keycode_Put.f k a0 a1 (n : Int) s = some (b, checkS a0 a1 n s) ∧ b.data.toList = if checkS a0 a1 n s = 0 then (kputI a0 a1 n s.data.toList).map b8 else [] := by
 simp only [keycode_Put.f, keycode_Put.c, vcheck_eq hk, kput_eq a0 a1 n hn s hs [] (by simp) k (by omega), cond_true, cond_false, if_b, decide_eq_true_eq, Bool.and_eq_true, Bool.or_eq_true, beq_iff_eq, bne_iff_ne, ne_eq, Bool.not_eq_true', Bool.not_eq_false', Bool.true_and, Bool.and_true, Bool.false_eq_true, if_false, if_true, true_and, and_true, Option.bind_some, Option.bind_none, Option.bind_fun_some, beq_eq_false_iff_ne, decide_eq_false_iff_not, toList_iff]
 by_cases c : checkS a0 a1 n s = 0
 ·rw [c]; exact ⟨_, rfl, rfl⟩
 ·rw [if_pos c, if_neg c]; exact ⟨_, rfl, rfl⟩
theorem rPut_eq (a0 a1 : Int) (n : Nat) (hn : n < 18446744073709551616) (s : ByteArray) (hs : s.size ≤ 2000) (k : Nat) (hk : 5000 ≤ k) :
  ∃ b, transomref05_Put.f k a0 a1 (n : Int) s = some (b, checkS a0 a1 n s) ∧ b.data.toList = if checkS a0 a1 n s = 0 then (kputI a0 a1 n s.data.toList).map b8 else [] := by
 obtain ⟨k, rfl⟩ : ∃ j, k = j + 9 := ⟨k - 9, by omega⟩
 obtain ⟨q1, e1, d1⟩ := eight_eq (turn (a1 % 18446744073709551616).toNat) k
 obtain ⟨q2, e2, d2⟩ := eight_eq (keyU n) k
 obtain ⟨q3, e3, d3⟩ := refesc_eq s (by omega) (k + 9) (by omega)
 have ek := refkey_eq hn (k + 8)
 have l1 : q1.size ≤ 4611686018427387903 := by rw [size_eq, d1]; simp [eightI]
 have l2 : q2.size ≤ 4611686018427387903 := by rw [size_eq, d2]; simp [eightI]
 have l3 : q3.size ≤ 4611686018427387903 := by
  have := flat_len s.data.toList
  rw [← size_eq] at this
  rw [size_eq, d3, List.length_map]; unfold escI; rw [List.length_append]; simp only [List.length_cons, List.length_nil]; omega
 simp only [transomref05_Put.f, transomref05_Put.c, rcheck_eq hn (show 170 ≤ k + 9 by omega), turn_int, u8m, e1, e2, e3, ek, l1, l2, l3, cond_true, cond_false, if_b, decide_eq_true_eq, Bool.and_eq_true, Bool.or_eq_true, beq_iff_eq, bne_iff_ne, ne_eq, Bool.not_eq_true', Bool.not_eq_false', Bool.true_and, Bool.and_true, Bool.false_eq_true, if_false, if_true, true_and, and_true, Option.bind_some, Option.bind_none, Option.bind_fun_some, beq_eq_false_iff_ne, decide_eq_false_iff_not, toList_iff]
 by_cases c : checkS a0 a1 n s = 0
 ·rw [c, if_neg (by simp), if_pos rfl]
  unfold kputI
  by_cases h1 : a0 = 1
  ·subst h1; exact ⟨_, rfl, rfl⟩
  ·by_cases h2 : a0 = 2
   ·subst h2; exact ⟨_, rfl, by simp [d1]⟩
   ·by_cases h3 : a0 = 3
    ·subst h3; exact ⟨_, rfl, by simp [d2]⟩
    ·by_cases h4 : a0 = 4
     ·subst h4; exact ⟨_, rfl, by simp [d3]⟩
     ·by_cases h5 : a0 = 5
      ·subst h5; exact ⟨_, rfl, by simp [d3]⟩
      ·simp only [h1, h2, h3, h4, h5, if_false, or_self]; exact ⟨_, rfl, by simp⟩
 ·rw [if_pos c, if_neg c]; exact ⟨_, rfl, rfl⟩
theorem kput_len (a0 a1 : Int) (n : Nat) (s : List UInt8) : (kputI a0 a1 n s).length ≤ 12 + 2 * s.length := by
 have h := flat_len s
 unfold kputI
 rw [List.length_cons]
 split
 ·simp only [List.length_cons, List.length_nil]; omega
 ·split
  ·simp only [eightI, List.length_cons, List.length_nil]; omega
  ·split
   ·simp only [eightI, List.length_cons, List.length_nil]; omega
   ·split
    ·unfold escI; rw [List.length_append]; simp only [List.length_cons, List.length_nil]; omega
    ·simp only [List.length_nil]; omega
end Go.Proofs.YtaehpfmnejeddaaGreatDoor.Aev
