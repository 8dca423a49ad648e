import Derived.Test.YtaehpfmnejeddaaGreatDoorF3
import Derived.Test.YtaehpfmnejeddaaGreatDoorF9
import Derived.Test.YtaehpfmnejeddaaGreatDoorKey
import Derived.Test.YtaehpfmnejeddaaGreatDoorNumber

/- Values read: the program's and the document's ways. -/
namespace Go.Proofs.YtaehpfmnejeddaaGreatDoor.Aev
open Go
set_option linter.unusedVariables false
set_option linter.unusedSimpArgs false
set_option maxRecDepth 100000
def needN (c : Int) : Int := if c = 1 then 1 else if c = 2 ∨ c = 3 then 8 else 0
theorem need_eq (c : Int) (k : Nat) : keycode_need.f k c = some (needN c) := by
 simp only [keycode_need.f, keycode_need.c, cond_true, cond_false, if_b, decide_eq_true_eq, Bool.and_eq_true, Bool.or_eq_true, beq_iff_eq, bne_iff_ne, ne_eq, Bool.not_eq_true', Bool.not_eq_false', Bool.true_and, Bool.and_true, Bool.false_eq_true, if_false, if_true, true_and, and_true, Option.bind_some, Option.bind_none, Option.bind_fun_some, beq_eq_false_iff_ne, decide_eq_false_iff_not, toList_iff]
 unfold needN
 by_cases h1 : c = 1
 ·simp [h1]
 ·by_cases h2 : c = 2
  ·simp [h2]
  ·by_cases h3 : c = 3
   ·simp [h3]
   ·simp [h1, h2, h3]
theorem g8_s0 (l : List UInt8) (hl : 8 ≤ l.length) : ∀ (m i x : Nat), i + m = 8 → x < 256 ^ i → ∀ k, m < k → keycode_get8.s0 k (ByteArray.mk (List.toArray l)) (x : Int) (i : Int) = some (((((l.drop i).take m).foldl (fun n c => n * 256 + c.toNat) x : Nat)) : Int) := by
 intro m
 induction m with
 | zero =>
  intro i x hi hx k hk
  obtain ⟨k, rfl⟩ : ∃ j, k = j + 1 := ⟨k - 1, by omega⟩
  have e : ¬ (i : Int) < 8 := by omega
  simp only [keycode_get8.s0, keycode_get8.s0c, e, decide_false, cond_false, List.take_zero, List.foldl_nil]
 | succ m ih =>
  intro i x hi hx k hk
  obtain ⟨k, rfl⟩ : ∃ j, k = j + 1 := ⟨k - 1, by omega⟩
  have hlt : i < l.length := by omega
  have e0 : (i : Int) < 8 := by omega
  have e1 : (0 : Int) ≤ (i : Int) := by omega
  have e2 : (i : Int) < (l.length : Int) := by omega
  have e3 : IntKind.wrap IntKind.i64 ((i : Int) + 1) = ((i + 1 : Nat) : Int) := by rw [i64w (by omega) (by omega)]; omega
  have hp : 256 ^ i ≤ 256 ^ 7 := Nat.pow_le_pow_right (by omega) (by omega)
  have hx2 : x < 72057594037927936 := by omega
  have hd : l.drop i = l[i] :: l.drop (i + 1) := List.drop_eq_getElem_cons hlt
  have hc := (l[i]).toNat_lt
  have := ih (i + 1) (x * 256 + (l[i]).toNat) (by omega) (by
   have : (x + 1) * 256 ≤ 256 ^ i * 256 := Nat.mul_le_mul_right _ hx
   rw [Nat.pow_succ]; omega) k (by omega)
  simp only [keycode_get8.s0, keycode_get8.s0c, e0, e1, ba_size, e2, ba_bt l i hlt, or_step hx2, e3, decide_true, Bool.and_self, cond_true, Option.bind_fun_some, this, hd, List.take_succ_cons, List.foldl_cons]
theorem get8_eq (l : List UInt8) (hl : 8 ≤ l.length) (k : Nat) (hk : 9 ≤ k) : keycode_get8.f k (ByteArray.mk (List.toArray l)) = some (numB (l.take 8) : Int) := by
 simp only [keycode_get8.f, keycode_get8.c, Option.bind_fun_some]
 exact g8_s0 l hl 8 0 0 rfl (by simp) k (by omega)
def backR (m : Nat) : Nat := if m < 9223372036854775808 then 18446744073709551615 - m else m - 9223372036854775808
def backS (m : Nat) : Nat × Bool := if canon (backR m) = backR m then (backR m, true) else (0, false)
theorem backR_lt {m : Nat} (h : m < 18446744073709551616) : backR m < 18446744073709551616 := by unfold backR; split <;> omega
theorem bytes_inj {a b : Nat} (ha : a < 18446744073709551616) (hb : b < 18446744073709551616) (h : eightI a = eightI b) : a = b := by
 simp only [eightI, byteAt, List.cons.injEq, and_true] at h
 obtain ⟨h7, h6, h5, h4, h3, h2, h1, h0⟩ := h
 have a7 := byte_div a 56; have b7 := byte_div b 56
 have a6 := byte_div a 48; have b6 := byte_div b 48
 have a5 := byte_div a 40; have b5 := byte_div b 40
 have a4 := byte_div a 32; have b4 := byte_div b 32
 have a3 := byte_div a 24; have b3 := byte_div b 24
 have a2 := byte_div a 16; have b2 := byte_div b 16
 have a1 := byte_div a 8; have b1 := byte_div b 8
 have a0 := byte_div a 0; have b0 := byte_div b 0
 simp only [Nat.reduceAdd] at *
 have a8 : a / 2 ^ 64 = 0 := Nat.div_eq_of_lt (by omega)
 have b8 : b / 2 ^ 64 = 0 := Nat.div_eq_of_lt (by omega)
 have c7 : a / 2 ^ 56 = b / 2 ^ 56 := by omega
 have c6 : a / 2 ^ 48 = b / 2 ^ 48 := by omega
 have c5 : a / 2 ^ 40 = b / 2 ^ 40 := by omega
 have c4 : a / 2 ^ 32 = b / 2 ^ 32 := by omega
 have c3 : a / 2 ^ 24 = b / 2 ^ 24 := by omega
 have c2 : a / 2 ^ 16 = b / 2 ^ 16 := by omega
 have c1 : a / 2 ^ 8 = b / 2 ^ 8 := by omega
 have c0 : a / 2 ^ 0 = b / 2 ^ 0 := by omega
 simpa using c0
theorem bytes_eq (n : Nat) (k : Nat) : reals_bytes.f k (n : Int) = some (byteAt n 56, byteAt n 48, byteAt n 40, byteAt n 32, byteAt n 24, byteAt n 16, byteAt n 8, byteAt n 0) := by
 simp only [reals_bytes.f, reals_bytes.c]
 rw [fdiv_byte n 56 _ (by decide), fdiv_byte n 48 _ (by decide), fdiv_byte n 40 _ (by decide), fdiv_byte n 32 _ (by decide), fdiv_byte n 24 _ (by decide), fdiv_byte n 16 _ (by decide), fdiv_byte n 8 _ (by decide), fdiv_byte n 0 _ (by decide)]
 all_goals rfl
theorem bytes_beq {a b : Nat} (ha : a < 18446744073709551616) (hb : b < 18446744073709551616) :
  ((byteAt a 56 == byteAt b 56) && ((byteAt a 48 == byteAt b 48) && ((byteAt a 40 == byteAt b 40) && ((byteAt a 32 == byteAt b 32) && ((byteAt a 24 == byteAt b 24) && ((byteAt a 16 == byteAt b 16) && ((byteAt a 8 == byteAt b 8) && ((byteAt a 0 == byteAt b 0) && true)))))))) = decide (a = b) := by
 rw [Bool.eq_iff_iff, decide_eq_true_iff]
 simp only [Bool.and_eq_true, beq_iff_eq, and_true]
 constructor
 ·rintro ⟨h7, h6, h5, h4, h3, h2, h1, h0⟩
  exact bytes_inj ha hb (by simp only [eightI, h7, h6, h5, h4, h3, h2, h1, h0])
 ·rintro rfl; exact ⟨rfl, rfl, rfl, rfl, rfl, rfl, rfl, rfl⟩
theorem back_eq {m : Nat} (h : m < 18446744073709551616) (k : Nat) : reals_Back.f k (m : Int) = some (((backS m).1 : Int), (backS m).2) := by
 have hr := backR_lt h
 have hc := canon_lt hr
 have key : ∀ r : Nat, r = backR m → ((reals_Canon.f k (r : Int)).bind fun r0 => ((reals_bytes.f k r0).bind fun r1 => ((reals_bytes.f k (r : Int)).bind fun r2 => (bif (!((r1.1 == r2.1) && ((r1.2.1 == r2.2.1) && ((r1.2.2.1 == r2.2.2.1) && ((r1.2.2.2.1 == r2.2.2.2.1) && ((r1.2.2.2.2.1 == r2.2.2.2.2.1) && ((r1.2.2.2.2.2.1 == r2.2.2.2.2.2.1) && ((r1.2.2.2.2.2.2.1 == r2.2.2.2.2.2.2.1) && ((r1.2.2.2.2.2.2.2 == r2.2.2.2.2.2.2.2) && true))))))))) then (some ((0 : Int), false)) else (some ((r : Int), true)))))) = some (((backS m).1 : Int), (backS m).2) := by
  intro r e
  subst e
  simp only [canon_eq, Option.bind_some, bytes_eq, bytes_beq hc hr]
  unfold backS
  by_cases c : canon (backR m) = backR m
  ·rw [if_pos c, decide_eq_true c]; rfl
  ·rw [if_neg c, decide_eq_false c]; rfl
 simp only [reals_Back.f, reals_Back.c, aTop h, xNot h, aNTop h]
 by_cases c : m < 9223372036854775808
 ·rw [if_pos c]
  exact key _ (by unfold backR; rw [if_pos c])
 ·rw [if_neg c]
  exact key _ (by unfold backR; rw [if_neg c]; omega)
def plainS : List UInt8 → List UInt8 × List UInt8 × Int
 | [] => ([], [], 3)
 | c :: t => if c = 0 then (match t with
   | [] => ([], [], 3)
   | d :: r => if d = 0 then ([], r, 0) else if d = 255 then (match plainS r with | (x, y, e) => if e = 0 then (0 :: x, y, 0) else ([], [], e)) else ([], [], 4))
  else (match plainS t with | (x, y, e) => if e = 0 then (c :: x, y, 0) else ([], [], e))
theorem plainS_255 (r : List UInt8) : plainS (0 :: 255 :: r) = (match plainS r with | (x, y, e) => if e = 0 then (0 :: x, y, 0) else ([], [], e)) := by
 conv => lhs; rw [plainS]
 simp
theorem plainS_bad {d : UInt8} (r : List UInt8) (h0 : d ≠ 0) (h1 : d ≠ 255) : plainS (0 :: d :: r) = ([], [], 4) := by
 conv => lhs; rw [plainS]
 simp [h0, h1]
theorem plainS_c {c : UInt8} (t : List UInt8) (h0 : c ≠ 0) : plainS (c :: t) = (match plainS t with | (x, y, e) => if e = 0 then (c :: x, y, 0) else ([], [], e)) := by
 conv => lhs; unfold plainS
 rw [if_neg h0]
theorem plain_s0 (l : List UInt8) (hs : l.length ≤ 1000000000) : ∀ (m i : Nat) (xs : List Int), i + m = l.length → xs.length ≤ i → ∀ k, 2 * m + 1 ≤ k →
  keycode_plain.s0 k (ByteArray.mk (List.toArray l)) (i : Int) xs = some (if (plainS (l.drop i)).2.2 = 0 then (ByteArray.mk (List.toArray (xs.map b8 ++ (plainS (l.drop i)).1)), ByteArray.mk (List.toArray (plainS (l.drop i)).2.1), 0) else (ByteArray.mk (List.toArray []), ByteArray.mk (List.toArray []), (plainS (l.drop i)).2.2)) := by
 intro m
 induction m using Nat.strongRecOn with
 | _ m ih =>
 intro i xs hi hx k hk
 cases m with
 | zero =>
  obtain ⟨k, rfl⟩ : ∃ j, k = j + 1 := ⟨k - 1, by omega⟩
  have e : ¬ (i : Int) < (l.length : Int) := by omega
  rw [List.drop_eq_nil_of_le (by omega)]
  simp only [keycode_plain.s0, keycode_plain.s0c, ba_size, e, decide_false, cond_false]; rfl
 | succ m =>
  obtain ⟨k, rfl⟩ : ∃ j, k = j + 2 := ⟨k - 2, by omega⟩
  have hlt : i < l.length := by omega
  have hd : l.drop i = l[i] :: l.drop (i + 1) := List.drop_eq_getElem_cons hlt
  have hb := ba_bt l i hlt
  have e0 : (i : Int) < (l.length : Int) := by omega
  have e1 : (0 : Int) ≤ (i : Int) := by omega
  have e2 : (xs.length + 1) * 1 ≤ 35184372088832 := by omega
  have e4 : IntKind.wrap IntKind.i64 ((i : Int) + 1) = ((i + 1 : Nat) : Int) := by rw [i64w (by omega) (by omega)]; omega
  have e4' : IntKind.wrap IntKind.i64 (((i + 1 : Nat) : Int) + 1) = ((i + 2 : Nat) : Int) := by rw [i64w (by omega) (by omega)]; omega
  have e6 : IntKind.wrap IntKind.i64 ((i : Int) + 2) = ((i + 2 : Nat) : Int) := by rw [i64w (by omega) (by omega)]; omega
  rw [hd]
  generalize hc : l[i] = c at hb
  by_cases h0 : c = 0
  ·subst h0
   have z0 : (((0 : UInt8).toNat : Int) != 0) = false := rfl
   cases m with
   | zero =>
    have e5 : (((i + 1 : Nat) : Int) == (l.length : Int)) = true := by rw [beq_iff_eq]; omega
    rw [List.drop_eq_nil_of_le (show l.length ≤ i + 1 by omega)]
    simp only [keycode_plain.s0, keycode_plain.s0c, ba_size, e0, e1, hb, z0, e4, e5, decide_true, Bool.and_self, cond_true, cond_false]; rfl
   | succ m =>
    have hlt2 : i + 1 < l.length := by omega
    have hd2 : l.drop (i + 1) = l[i + 1] :: l.drop (i + 2) := List.drop_eq_getElem_cons hlt2
    have hb2 := ba_bt l (i + 1) hlt2
    have e5 : (((i + 1 : Nat) : Int) == (l.length : Int)) = false := by rw [beq_eq_false_iff_ne]; omega
    have e7 : ((i + 1 : Nat) : Int) < (l.length : Int) := by omega
    have e8 : (0 : Int) ≤ ((i + 1 : Nat) : Int) := by omega
    have e9 : (0 : Int) ≤ ((i + 2 : Nat) : Int) := by omega
    have e10 : ((i + 2 : Nat) : Int) ≤ (l.length : Int) := by omega
    have e11 : (l.length : Int) ≤ (l.length : Int) := Int.le_refl _
    rw [hd2]
    generalize l[i + 1] = d at hb2
    have := ih m (by omega) (i + 2) (xs ++ [0]) (by omega) (by simp; omega) k (by omega)
    by_cases hd0 : d = 0
    ·subst hd0
     have z1 : (((0 : UInt8).toNat : Int) == 0) = true := rfl
     simp only [keycode_plain.s0, keycode_plain.s0c, ba_size, e0, e1, hb, z0, e4, e5, e6, e7, e8, e9, e10, e11, hb2, z1, decide_true, Bool.and_self, cond_true, cond_false, Int.toNat_natCast (n := i + 2), ba_dropl]
     simp [plainS]
    ·have z1 : ((d.toNat : Int) == 0) = false := by
      rw [beq_eq_false_iff_ne]; intro h; apply hd0; apply UInt8.toNat_inj.1; show d.toNat = 0; omega
     by_cases hd1 : d = 255
     ·subst hd1
      have z2 : (((255 : UInt8).toNat : Int) != 255) = false := rfl
      simp only [keycode_plain.s0, keycode_plain.s0c, keycode_plain.s1, keycode_plain.s1c, ba_size, e0, e1, e2, hb, z0, e4, e4', e5, e6, e7, e8, e9, e10, e11, hb2, z1, z2, decide_true, Bool.and_self, cond_true, cond_false, Option.bind_fun_some, this]
      rw [plainS_255]
      generalize plainS (l.drop (i + 2)) = q
      obtain ⟨x, y, e⟩ := q
      by_cases he : e = 0
      ·simp [he]
      ·simp [he]
     ·have z2 : ((d.toNat : Int) != 255) = true := by
       rw [bne_iff_ne]; intro h; apply hd1; apply UInt8.toNat_inj.1; show d.toNat = 255; omega
      simp only [keycode_plain.s0, keycode_plain.s0c, ba_size, e0, e1, hb, z0, e4, e5, e7, e8, hb2, z1, z2, decide_true, Bool.and_self, cond_true, cond_false]
      rw [plainS_bad _ hd0 hd1]; rfl
  ·have z0 : ((c.toNat : Int) != 0) = true := by
    rw [bne_iff_ne]; intro h; apply h0; apply UInt8.toNat_inj.1; show c.toNat = 0; omega
   have := ih m (by omega) (i + 1) (xs ++ [(c.toNat : Int)]) (by omega) (by simp; omega) k (by omega)
   simp only [keycode_plain.s0, keycode_plain.s0c, keycode_plain.s1, keycode_plain.s1c, ba_size, e0, e1, e2, hb, z0, e4, decide_true, Bool.and_self, cond_true, Option.bind_fun_some, this]
   rw [plainS_c _ h0]
   generalize plainS (l.drop (i + 1)) = q
   obtain ⟨x, y, e⟩ := q
   by_cases he : e = 0
   ·simp [he, b8_eta]
   ·simp [he]
theorem plain_eq (l : List UInt8) (hs : l.length ≤ 1000000000) (k : Nat) (hk : 2 * l.length + 1 ≤ k) : keycode_plain.f k (ByteArray.mk (List.toArray l)) = some (if (plainS l).2.2 = 0 then (ByteArray.mk (List.toArray (plainS l).1), ByteArray.mk (List.toArray (plainS l).2.1), 0) else (ByteArray.mk (List.toArray []), ByteArray.mk (List.toArray []), (plainS l).2.2)) := by
 have := plain_s0 l hs l.length 0 [] (by omega) (by simp) k (by omega)
 simp only [keycode_plain.f, keycode_plain.c, Option.bind_fun_some]
 simpa using this
end Go.Proofs.YtaehpfmnejeddaaGreatDoor.Aev
