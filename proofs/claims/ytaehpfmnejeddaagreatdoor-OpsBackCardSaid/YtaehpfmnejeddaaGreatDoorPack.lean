import Derived.Test.YtaehpfmnejeddaaGreatDoorF0
import Derived.Test.YtaehpfmnejeddaaGreatDoorF3
import Derived.Test.YtaehpfmnejeddaaGreatDoorF4
import Derived.Test.YtaehpfmnejeddaaGreatDoorF5
import Derived.Test.YtaehpfmnejeddaaGreatDoorF6
import Derived.Test.YtaehpfmnejeddaaGreatDoorF9
import Derived.Test.YtaehpfmnejeddaaGreatDoorF12
import Derived.Test.YtaehpfmnejeddaaGreatDoorBa

/- Package pack as plain functions on lists of bytes: how numbers and texts are written and read; the document's, too. -/
namespace Go.Proofs.YtaehpfmnejeddaaGreatDoor.Aev
open Go
set_option linter.unusedVariables false
set_option linter.unusedSimpArgs false
set_option maxRecDepth 100000
def enc (m : Nat) : List Nat := if h : 127 < m then (m % 128 + 128) :: enc (m / 128) else [m]
termination_by m
decreasing_by omega
theorem enc_big {m : Nat} (h : 127 < m) : enc m = (m % 128 + 128) :: enc (m / 128) := by rw [enc, dif_pos h]
theorem enc_small {m : Nat} (h : ¬ 127 < m) : enc m = [m] := by rw [enc, dif_neg h]
theorem enc_len : ∀ (j m : Nat), m < 128 ^ (j + 1) → (enc m).length ≤ j + 1 := by
 intro j
 induction j with
 | zero => intro m h; rw [enc_small (by omega)]; simp
 | succ j ih =>
  intro m h
  by_cases hm : 127 < m
  ·rw [enc_big hm, List.length_cons]
   have := ih (m / 128) (by rw [Nat.pow_succ] at h; omega)
   omega
  ·rw [enc_small hm]; simp
theorem enc_ne (m : Nat) : 1 ≤ (enc m).length := by
 by_cases hm : 127 < m
 ·rw [enc_big hm]; simp
 ·rw [enc_small hm]; simp
theorem enc_len64 {m : Nat} (h : m < 18446744073709551616) : (enc m).length ≤ 10 := enc_len 9 m (by omega)
abbrev bN (n : Nat) : UInt8 := UInt8.ofNat n
theorem bN_toNat {n : Nat} (h : n < 256) : (bN n).toNat = n := by simp [bN]; omega
theorem bN_eta (c : UInt8) : bN c.toNat = c := by simp [bN]
theorem b8_bN (n : Nat) : b8 (n : Int) = bN n := by simp [b8, bN]
def encL (m : Nat) : List UInt8 := (enc m).map bN
theorem encL_len {m : Nat} (h : m < 18446744073709551616) : (encL m).length ≤ 10 := by unfold encL; rw [List.length_map]; exact enc_len64 h
theorem or128 : ∀ b : Fin 256, Go.bits .or .u8 (b.val : Int) 128 = ((b.val % 128 + 128 : Nat) : Int) := by decide +kernel
theorem or128' (m : Nat) : IntKind.wrap IntKind.u8 ((BitVec.toNat ((BitVec.ofInt (8 : Nat) (IntKind.wrap IntKind.u8 (m : Int))) ||| (BitVec.ofInt (8 : Nat) (128 : Int)))) : Int) = ((m % 128 + 128 : Nat) : Int) := by
 have := or128 ⟨m % 256, by omega⟩
 have e : ((m % 256 : Nat) : Int) = (m : Int) % 256 := by omega
 have e2 : m % 256 % 128 = m % 128 := by omega
 simp only [e, e2] at this
 rw [u8m]
 exact this
theorem uint_s0 (m : Nat) : ∀ (k : Nat) (acc : List Int), (enc m).length ≤ k → acc.length + (enc m).length < 35184372088832 →
  pack_Uint.s0 k m acc = some (ByteArray.mk (List.toArray (acc.map b8 ++ encL m))) := by
 induction m using Nat.strongRecOn with
 | _ m ih =>
  intro k acc hk ha
  have h1 := enc_ne m
  obtain ⟨k, rfl⟩ : ∃ j, k = j + 1 := ⟨k - 1, by omega⟩
  have g : (acc.length + 1) * 1 ≤ 35184372088832 := by omega
  simp only [pack_Uint.s0, pack_Uint.s0c, g, decide_true, cond_true, Option.bind_fun_some]
  by_cases hm : 127 < m
  ·rw [enc_big hm, List.length_cons] at hk ha
   have e : Int.fdiv (m : Int) 128 = ((m / 128 : Nat) : Int) := by rw [Int.fdiv_eq_ediv_of_nonneg _ (by omega)]; omega
   have g2 : (m : Int) > 127 := by omega
   rw [decide_eq_true g2, e, ih (m / 128) (by omega) k _ (by omega) (by simp; omega), or128']
   simp only [encL, enc_big hm, List.map_cons, List.map_append, List.map_nil, b8_bN, List.append_assoc, List.cons_append, List.nil_append, cond_true]
  ·have g2 : ¬ (m : Int) > 127 := by omega
   have e : IntKind.wrap IntKind.u8 (m : Int) = (m : Int) := u8w (by omega) (by omega)
   rw [decide_eq_false g2, cond_false, e]
   simp only [encL, enc_small hm, List.map_cons, List.map_append, List.map_nil, b8_bN]
theorem uint_f {m k : Nat} (h : m < 18446744073709551616) (hk : 10 ≤ k) : pack_Uint.f k m = some (ByteArray.mk (List.toArray (encL m))) := by
 have := enc_len64 h
 simp only [pack_Uint.f, pack_Uint.c, Option.bind_fun_some]
 rw [uint_s0 m k [] (by omega) (by simp; omega)]; rfl
theorem refuint_s0 (m : Nat) (hm : m < 18446744073709551616) : ∀ (k : Nat) (acc : List Int), (enc m).length ≤ k → acc.length + (enc m).length < 35184372088832 →
  transomref03_Uint.s0 k m acc = some (ByteArray.mk (List.toArray (acc.map b8 ++ encL m))) := by
 induction m using Nat.strongRecOn with
 | _ m ih =>
  intro k acc hk ha
  have h1 := enc_ne m
  obtain ⟨k, rfl⟩ : ∃ j, k = j + 1 := ⟨k - 1, by omega⟩
  have g : (acc.length + 1) * 1 ≤ 35184372088832 := by omega
  simp only [transomref03_Uint.s0, transomref03_Uint.s0c, g, decide_true, cond_true, Option.bind_fun_some]
  by_cases hm2 : 127 < m
  ·rw [enc_big hm2, List.length_cons] at hk ha
   have e : IntKind.wrap IntKind.u64 (Int.tdiv (m : Int) 128) = ((m / 128 : Nat) : Int) := by rw [Int.tdiv_eq_ediv_of_nonneg (by omega), u64w (by omega) (by omega)]; omega
   have e2 : IntKind.wrap IntKind.u8 (IntKind.wrap IntKind.u64 (Int.tmod (m : Int) 128 + 128)) = ((m % 128 + 128 : Nat) : Int) := by
    rw [Int.tmod_eq_emod_of_nonneg (by omega), u64w (by omega) (by omega), u8w (by omega) (by omega)]; omega
   have g2 : (m : Int) ≥ 128 := by omega
   rw [decide_eq_true g2, e, e2, ih (m / 128) (by omega) (by omega) k _ (by omega) (by simp; omega)]
   simp only [encL, enc_big hm2, List.map_cons, List.map_append, List.map_nil, b8_bN, List.append_assoc, List.cons_append, List.nil_append, cond_true]
  ·have g2 : ¬ (m : Int) ≥ 128 := by omega
   have e : IntKind.wrap IntKind.u8 (m : Int) = (m : Int) := u8w (by omega) (by omega)
   rw [decide_eq_false g2, cond_false, e]
   simp only [encL, enc_small hm2, List.map_cons, List.map_append, List.map_nil, b8_bN]
theorem refuint_f {m k : Nat} (h : m < 18446744073709551616) (hk : 10 ≤ k) : transomref03_Uint.f k m = some (ByteArray.mk (List.toArray (encL m))) := by
 have := enc_len64 h
 simp only [transomref03_Uint.f, transomref03_Uint.c, Option.bind_fun_some]
 rw [refuint_s0 m h k [] (by omega) (by simp; omega)]; rfl
def zig (n : Int) : Nat := if 0 ≤ n then (2 * n).toNat else (-2 * n - 1).toNat
theorem zig_lt {n : Int} (h0 : -9223372036854775808 ≤ n) (h1 : n ≤ 9223372036854775807) : zig n < 18446744073709551616 := by
 unfold zig; split <;> omega
theorem xor_zero {a : Nat} (h : a < 18446744073709551616) : Go.bits .xor .u64 (a : Int) 0 = (a : Int) := by
 have := Go.u64_xor_nat a 0 h (by omega)
 simpa using this
theorem xor_ones {a : Nat} (h : a < 18446744073709551616) : Go.bits .xor .u64 (a : Int) 18446744073709551615 = ((18446744073709551615 - a : Nat) : Int) := by
 have := Go.u64_xor_nat a 18446744073709551615 h (by omega)
 have e : a ^^^ 18446744073709551615 = 18446744073709551615 - a := by
  have := congrArg BitVec.toNat (BitVec.xor_allOnes (x := BitVec.ofNat 64 a))
  rw [BitVec.toNat_xor, BitVec.toNat_not, BitVec.toNat_allOnes, BitVec.toNat_ofNat, Nat.mod_eq_of_lt h] at this
  exact this
 rw [e] at this
 exact this
theorem int_arg {n : Int} (h0 : -9223372036854775808 ≤ n) (h1 : n ≤ 9223372036854775807) :
  IntKind.wrap IntKind.u64 ((BitVec.toNat ((BitVec.ofInt (64 : Nat) (IntKind.wrap IntKind.u64 ((IntKind.wrap IntKind.u64 n) * (2 : Int)))) ^^^ (BitVec.ofInt (64 : Nat) (IntKind.wrap IntKind.u64 (Int.fdiv n (9223372036854775808 : Int)))))) : Int) = (zig n : Int) := by
 have ed : Int.fdiv n 9223372036854775808 = n / 9223372036854775808 := Int.fdiv_eq_ediv_of_nonneg _ (by omega)
 rw [ed]
 by_cases hn : 0 ≤ n
 ·have e1 : IntKind.u64.wrap (n / 9223372036854775808) = 0 := by rw [u64m]; omega
  have e2 : IntKind.u64.wrap ((IntKind.u64.wrap n) * 2) = (((2 * n).toNat : Nat) : Int) := by rw [u64m, u64m]; omega
  rw [e1, e2]
  refine (xor_zero (by omega)).trans ?_
  unfold zig; rw [if_pos hn]
 ·have e1 : IntKind.u64.wrap (n / 9223372036854775808) = 18446744073709551615 := by rw [u64m]; omega
  have e2 : IntKind.u64.wrap ((IntKind.u64.wrap n) * 2) = (((2 * n + 18446744073709551616).toNat : Nat) : Int) := by rw [u64m, u64m]; omega
  rw [e1, e2]
  refine (xor_ones (by omega)).trans ?_
  unfold zig; rw [if_neg hn]; omega
theorem int_f {n : Int} {k : Nat} (h0 : -9223372036854775808 ≤ n) (h1 : n ≤ 9223372036854775807) (hk : 10 ≤ k) : pack_Int.f k n = some (ByteArray.mk (List.toArray (encL (zig n)))) := by
 simp only [pack_Int.f, pack_Int.c, int_arg h0 h1, uint_f (zig_lt h0 h1) hk, Option.bind_some]
theorem text_f {l : List UInt8} {k : Nat} (h : l.length ≤ 4611686018427387903) (hk : 10 ≤ k) : pack_Text.f k (ByteArray.mk (List.toArray l)) = some (ByteArray.mk (List.toArray (encL l.length ++ l))) := by
 have h1 := encL_len (m := l.length) (by omega)
 have g1 : (encL l.length).length ≤ 4611686018427387903 := by omega
 simp only [pack_Text.f, pack_Text.c, ba_size, u64w (n := (l.length : Int)) (by omega) (by omega), uint_f (m := l.length) (by omega) hk, Option.bind_some, g1, h, decide_true, Bool.and_self, cond_true, ba_append]
theorem reftext_f {l : List UInt8} {k : Nat} (h : l.length ≤ 4611686018427387903) (hk : 10 ≤ k) : transomref03_Text.f k (ByteArray.mk (List.toArray l)) = some (ByteArray.mk (List.toArray (encL l.length ++ l))) := by
 have h1 := encL_len (m := l.length) (by omega)
 have g1 : (encL l.length).length ≤ 4611686018427387903 := by omega
 simp only [transomref03_Text.f, transomref03_Text.c, ba_size, u64w (n := (l.length : Int)) (by omega) (by omega), refuint_f (m := l.length) (by omega) hk, Option.bind_some, g1, h, decide_true, Bool.and_self, cond_true, ba_append]
/-! ### reading -/
theorem and127 : ∀ b : Fin 256, Go.bits .and .u8 (b.val : Int) 127 = ((b.val % 128 : Nat) : Int) := by decide +kernel
theorem and127' (c : UInt8) : IntKind.wrap IntKind.u8 ((BitVec.toNat ((BitVec.ofInt (8 : Nat) (c.toNat : Int)) &&& (BitVec.ofInt (8 : Nat) (127 : Int)))) : Int) = ((c.toNat % 128 : Nat) : Int) := and127 ⟨c.toNat, c.toNat_lt⟩
theorem or_add {v c j : Nat} (hv : v < 2 ^ j) (h : v + c * 2 ^ j < 18446744073709551616) : IntKind.wrap IntKind.u64 ((BitVec.toNat ((BitVec.ofInt (64 : Nat) (v : Int)) ||| (BitVec.ofInt (64 : Nat) ((c * 2 ^ j : Nat) : Int)))) : Int) = ((v + c * 2 ^ j : Nat) : Int) := by
 have h1 := Go.u64_or_nat v (c * 2 ^ j) (by omega) (by omega)
 have := Nat.two_pow_add_eq_or_of_lt hv c
 rw [Nat.or_comm, Nat.mul_comm c, ← this, Nat.add_comm] at h1
 rw [Nat.mul_comm c]
 refine Eq.trans ?_ (h1.trans ?_)
 ·rw [Nat.mul_comm (2 ^ j) c]; rfl
 ·rfl
theorem fits {v i c : Nat} (hi : i ≤ 9) (hv : v < 2 ^ (7 * i)) (hc : c < 128) (h9 : i = 9 → c ≤ 1) : v + c * 2 ^ (7 * i) < 18446744073709551616 := by
 rcases Nat.lt_or_ge i 9 with h | h
 ·have h1 : 2 ^ (7 * i) ≤ 2 ^ 56 := Nat.pow_le_pow_right (by omega) (by omega)
  have h2 : c * 2 ^ (7 * i) ≤ 127 * 2 ^ 56 := Nat.mul_le_mul (by omega) h1
  omega
 ·obtain rfl : i = 9 := by omega
  have := h9 rfl
  have e : 2 ^ (7 * 9) = 9223372036854775808 := rfl
  rw [e] at hv ⊢
  have : c * 9223372036854775808 ≤ 1 * 9223372036854775808 := Nat.mul_le_mul_right _ this
  omega
theorem shift_eq {i : Nat} (hi : i ≤ 9) (c : Nat) : ((c : Nat) : Int) * ((2 : Int) ^ (Min.min (Int.toNat ((7 * i : Nat) : Int)) (64 : Nat))) = ((c * 2 ^ (7 * i) : Nat) : Int) := by
 have e : Min.min (Int.toNat ((7 * i : Nat) : Int)) (64 : Nat) = 7 * i := by rw [Int.toNat_natCast]; omega
 rw [e, Int.natCast_mul, Int.natCast_pow]; rfl
theorem N_eq {i v : Nat} {c : UInt8} (hi : i ≤ 9) (hv : v < 2 ^ (7 * i)) (h9 : i = 9 → c.toNat ≤ 1) :
  IntKind.wrap IntKind.u64 ((BitVec.toNat ((BitVec.ofInt (64 : Nat) (v : Int)) ||| (BitVec.ofInt (64 : Nat) (IntKind.wrap IntKind.u64 ((IntKind.wrap IntKind.u64 ((c.toNat % 128 : Nat) : Int)) * ((2 : Int) ^ (Min.min (Int.toNat ((7 * i : Nat) : Int)) (64 : Nat)))))))) : Int) = ((v + c.toNat % 128 * 2 ^ (7 * i) : Nat) : Int) := by
 have h := fits hi hv (Nat.mod_lt c.toNat (show 0 < 128 by omega)) (fun e => by have := h9 e; omega)
 rw [u64w (n := ((c.toNat % 128 : Nat) : Int)) (by omega) (by omega), shift_eq hi, u64w (n := ((c.toNat % 128 * 2 ^ (7 * i) : Nat) : Int)) (by omega) (by omega)]
 exact or_add hv h
def rdL : List UInt8 → Nat → Nat → Nat × List UInt8 × Int
 | [], _, _ => (0, [], 3)
 | c :: t, i, v => if i = 9 ∧ 1 < c.toNat then (0, [], 4) else if 127 < c.toNat then rdL t (i + 1) (v + c.toNat % 128 * 2 ^ (7 * i)) else if c.toNat = 0 ∧ 0 < i then (0, [], 4) else (v + c.toNat % 128 * 2 ^ (7 * i), t, 0)
def rd3 (q : Nat × List UInt8 × Int) : Int × ByteArray × Int := ((q.1 : Int), ByteArray.mk (List.toArray q.2.1), q.2.2)
theorem pow_step {v i : Nat} (c : Nat) (hv : v < 2 ^ (7 * i)) : v + c % 128 * 2 ^ (7 * i) < 2 ^ (7 * (i + 1)) := by
 have hp : 2 ^ (7 * (i + 1)) = 128 * 2 ^ (7 * i) := by rw [Nat.mul_add, Nat.pow_add]; omega
 have : c % 128 * 2 ^ (7 * i) ≤ 127 * 2 ^ (7 * i) := Nat.mul_le_mul_right _ (by omega)
 omega
theorem rd_s4 (l : List UInt8) (hl : l.length ≤ 4611686018427387903) (i v k : Nat) (hi : i < l.length) (hi9 : i ≤ 9) (hv : v < 2 ^ (7 * i)) (h9 : i = 9 → (l[i]).toNat ≤ 1)
  (IH : i ≠ 9 → pack_ReadUint.s2 k (ByteArray.mk (List.toArray l)) ((v + (l[i]).toNat % 128 * 2 ^ (7 * i) : Nat) : Int) ((i + 1 : Nat) : Int) = some (rd3 (rdL (l.drop (i + 1)) (i + 1) (v + (l[i]).toNat % 128 * 2 ^ (7 * i))))) :
  pack_ReadUint.s4 (k + 1) (ByteArray.mk (List.toArray l)) (v : Int) (i : Int) = some (rd3 (rdL (l.drop i) i v)) := by
 have hd : l.drop i = l[i] :: l.drop (i + 1) := List.drop_eq_getElem_cons hi
 have hb := ba_bt l i hi
 rw [hd]
 generalize l[i] = c at *
 have hc := c.toNat_lt
 have e0 : (0 : Int) ≤ (i : Int) := by omega
 have e1 : (i : Int) < (l.length : Int) := by omega
 have e2 : IntKind.wrap IntKind.i64 ((7 : Int) * (i : Int)) = ((7 * i : Nat) : Int) := by rw [i64w (by omega) (by omega)]; omega
 have e3 : (0 : Int) ≤ ((7 * i : Nat) : Int) := by omega
 have e4 : IntKind.wrap IntKind.i64 ((i : Int) + 1) = ((i + 1 : Nat) : Int) := by rw [i64w (by omega) (by omega)]; omega
 have e5 : (0 : Int) ≤ ((i + 1 : Nat) : Int) := by omega
 have e6 : ((i + 1 : Nat) : Int) ≤ (l.length : Int) := by omega
 have e7 : (l.length : Int) ≤ (l.length : Int) := Int.le_refl _
 have hN := N_eq (c := c) hi9 hv h9
 simp only [pack_ReadUint.s4, pack_ReadUint.s4c, ba_size, e0, e1, e2, e3, e4, e5, e6, e7, hb, and127', hN, decide_true, Bool.and_self, cond_true, Option.bind_fun_some, Int.toNat_natCast (n := i + 1), ba_dropl, rdL]
 rw [if_neg (show ¬ (i = 9 ∧ 1 < c.toNat) from fun h => by have := h9 h.1; omega)]
 by_cases c1 : 127 < c.toNat
 ·have g : (c.toNat : Int) > 127 := by omega
  rw [if_pos c1, decide_eq_true g, cond_true]
  exact IH (fun h => by have := h9 h; omega)
 ·have g : ¬ (c.toNat : Int) > 127 := by omega
  rw [if_neg c1, decide_eq_false g, cond_false]
  by_cases c2 : c.toNat = 0
  ·have g2 : ((c.toNat : Int) == 0) = true := by rw [beq_iff_eq]; omega
   rw [g2, cond_true]
   by_cases c3 : 0 < i
   ·have g3 : ((i + 1 : Nat) : Int) > 1 := by omega
    rw [if_pos ⟨c2, c3⟩, decide_eq_true g3]; rfl
   ·have g3 : ¬ ((i + 1 : Nat) : Int) > 1 := by omega
    rw [if_neg (fun h => c3 h.2), decide_eq_false g3]; rfl
  ·have g2 : ((c.toNat : Int) == 0) = false := by rw [beq_eq_false_iff_ne]; omega
   rw [g2, if_neg (fun h => c2 h.1)]; rfl
theorem rd_s2 (l : List UInt8) (hl : l.length ≤ 4611686018427387903) : ∀ (d i v k : Nat), i + d = 9 → i ≤ l.length → v < 2 ^ (7 * i) → 3 * d + 4 ≤ k →
  pack_ReadUint.s2 k (ByteArray.mk (List.toArray l)) (v : Int) (i : Int) = some (rd3 (rdL (l.drop i) i v)) := by
 intro d
 induction d with
 | zero =>
  intro i v k h1 h2 h3 h4
  obtain rfl : i = 9 := by omega
  obtain ⟨k, rfl⟩ : ∃ j, k = j + 3 := ⟨k - 3, by omega⟩
  by_cases hz : l.length = 9
  ·have g : (((9 : Nat) : Int) == (l.length : Int)) = true := by rw [beq_iff_eq]; omega
   rw [List.drop_eq_nil_of_le (by omega)]
   simp only [pack_ReadUint.s2, pack_ReadUint.s2c, ba_size, g, cond_true, rdL]; rfl
  ·have hlt : 9 < l.length := by omega
   have g : (((9 : Nat) : Int) == (l.length : Int)) = false := by rw [beq_eq_false_iff_ne]; omega
   have g2 : ((9 : Nat) : Int) < (l.length : Int) := by omega
   have hb := ba_bt l 9 hlt
   have hg : (((9 : Nat) : Int) == 9) = true := rfl
   have hp : (0 : Int) ≤ ((9 : Nat) : Int) := by omega
   simp only [pack_ReadUint.s2, pack_ReadUint.s2c, pack_ReadUint.s3, pack_ReadUint.s3c, ba_size, g, g2, hg, hp, hb, decide_true, Bool.and_self, cond_true, cond_false, Option.bind_fun_some]
   by_cases c1 : 1 < (l[9]).toNat
   ·have g3 : ((l[9]).toNat : Int) > 1 := by omega
    rw [decide_eq_true g3, List.drop_eq_getElem_cons hlt]
    simp only [rdL]
    rw [if_pos ⟨trivial, c1⟩]; rfl
   ·have g3 : ¬ ((l[9]).toNat : Int) > 1 := by omega
    rw [decide_eq_false g3, cond_false]
    exact rd_s4 l hl 9 v k hlt (by omega) h3 (fun _ => by omega) (fun h => absurd rfl h)
 | succ d ih =>
  intro i v k h1 h2 h3 h4
  obtain ⟨k, rfl⟩ : ∃ j, k = j + 3 := ⟨k - 3, by omega⟩
  by_cases hz : l.length = i
  ·have g : ((i : Int) == (l.length : Int)) = true := by rw [beq_iff_eq]; omega
   rw [List.drop_eq_nil_of_le (by omega)]
   simp only [pack_ReadUint.s2, pack_ReadUint.s2c, ba_size, g, cond_true, rdL]; rfl
  ·have hlt : i < l.length := by omega
   have g : ((i : Int) == (l.length : Int)) = false := by rw [beq_eq_false_iff_ne]; omega
   have hg : ((i : Int) == 9) = false := by rw [beq_eq_false_iff_ne]; omega
   simp only [pack_ReadUint.s2, pack_ReadUint.s2c, pack_ReadUint.s3, pack_ReadUint.s3c, ba_size, g, hg, cond_false, Option.bind_fun_some]
   exact rd_s4 l hl i v k hlt (by omega) h3 (fun h => by omega) (fun _ => ih (i + 1) _ k (by omega) (by omega) (pow_step _ h3) (by omega))
theorem s1_s4 (k : Nat) (x : ByteArray) (y z : Int) : pack_ReadUint.s1 (k + 1) x y z = pack_ReadUint.s4 (k + 1) x y z := by
 simp only [pack_ReadUint.s1, pack_ReadUint.s4, pack_ReadUint.s1c, pack_ReadUint.s4c]
theorem readuint_f (l : List UInt8) (hl : l.length ≤ 4611686018427387903) (k : Nat) (hk : 40 ≤ k) : pack_ReadUint.f k (ByteArray.mk (List.toArray l)) = some (rd3 (rdL l 0 0)) := by
 obtain ⟨k, rfl⟩ : ∃ j, k = j + 2 := ⟨k - 2, by omega⟩
 simp only [pack_ReadUint.f, pack_ReadUint.c, ba_size, Option.bind_fun_some]
 cases l with
 | nil => rfl
 | cons c t =>
  have g : ((0 : Int) == (((c :: t).length : Nat) : Int)) = false := by rw [beq_eq_false_iff_ne, List.length_cons]; omega
  simp only [g, cond_false, pack_ReadUint.s0, pack_ReadUint.s0c, Option.bind_fun_some, s1_s4]
  exact rd_s4 (c :: t) hl 0 0 k (by simp) (by omega) (by simp) (fun h => by omega) (fun _ => rd_s2 (c :: t) hl 8 1 _ k (by omega) (by simp) (pow_step (v := 0) (i := 0) _ (by simp)) (by omega))
def unzig (z : Nat) : Int := if z % 2 = 0 then ((z / 2 : Nat) : Int) else -((z / 2 : Nat) : Int) - 1
theorem unzig_zig {n : Int} : unzig (zig n) = n := by
 unfold unzig zig
 split <;> split <;> omega
theorem zig_unzig (z : Nat) : zig (unzig z) = z := by
 unfold unzig zig
 split <;> split <;> omega
theorem unzig_in {z : Nat} (h : z < 18446744073709551616) : -9223372036854775808 ≤ unzig z ∧ unzig z ≤ 9223372036854775807 := by
 unfold unzig; split <;> omega
theorem xor_i64_zero {x : Int} (h0 : -9223372036854775808 ≤ x) (h1 : x ≤ 9223372036854775807) : Go.bits .xor .i64 x 0 = x := by
 have e : Go.bits .xor .i64 x 0 = IntKind.i64.wrap (((BitVec.ofInt 64 x) ^^^ (BitVec.ofInt 64 0)).toNat : Int) := rfl
 have e0 : BitVec.ofInt 64 0 = 0#64 := rfl
 rw [e, e0, BitVec.xor_zero, BitVec.toNat_ofInt]
 simp [IntKind.wrap, IntKind.bits, IntKind.signed]
 omega
theorem xor_i64_ones {x : Int} (h0 : -9223372036854775808 ≤ x) (h1 : x ≤ 9223372036854775807) : Go.bits .xor .i64 x (-1) = -x - 1 := by
 have e : Go.bits .xor .i64 x (-1) = IntKind.i64.wrap (((BitVec.ofInt 64 x) ^^^ (BitVec.ofInt 64 (-1))).toNat : Int) := rfl
 have e0 : BitVec.ofInt 64 (-1) = BitVec.allOnes 64 := by decide
 rw [e, e0, BitVec.xor_allOnes, BitVec.toNat_not, BitVec.toNat_ofInt]
 simp [IntKind.wrap, IntKind.bits, IntKind.signed]
 omega
theorem and_one {z : Nat} (h : z < 18446744073709551616) : Go.bits .and .u64 (z : Int) 1 = ((z % 2 : Nat) : Int) := by
 have := Go.u64_and_nat z 1 h (by omega)
 rw [Nat.and_one_is_mod] at this
 exact this
theorem unzig_eq {z : Nat} (h : z < 18446744073709551616) : IntKind.wrap IntKind.i64 ((BitVec.toNat ((BitVec.ofInt (64 : Nat) (IntKind.wrap IntKind.i64 (Int.fdiv (z : Int) (2 : Int)))) ^^^ (BitVec.ofInt (64 : Nat) (IntKind.wrap IntKind.i64 ((0 : Int) - (IntKind.wrap IntKind.i64 (IntKind.wrap IntKind.u64 ((BitVec.toNat ((BitVec.ofInt (64 : Nat) (z : Int)) &&& (BitVec.ofInt (64 : Nat) (1 : Int)))) : Int)))))))) : Int) = unzig z := by
 have ed : Int.fdiv (z : Int) 2 = (z : Int) / 2 := Int.fdiv_eq_ediv_of_nonneg _ (by omega)
 have e1 : IntKind.wrap IntKind.u64 ((BitVec.toNat ((BitVec.ofInt (64 : Nat) (z : Int)) &&& (BitVec.ofInt (64 : Nat) (1 : Int)))) : Int) = ((z % 2 : Nat) : Int) := and_one h
 rw [ed, e1, i64w (n := (z : Int) / 2) (by omega) (by omega), i64w (n := ((z % 2 : Nat) : Int)) (by omega) (by omega), i64w (n := (0 : Int) - ((z % 2 : Nat) : Int)) (by omega) (by omega)]
 unfold unzig
 rcases Nat.mod_two_eq_zero_or_one z with e | e
 ·rw [e, if_pos rfl]
  show Go.bits .xor .i64 ((z : Int) / 2) 0 = _
  rw [xor_i64_zero (by omega) (by omega)]; omega
 ·rw [e, if_neg (by omega)]
  show Go.bits .xor .i64 ((z : Int) / 2) (-1) = _
  rw [xor_i64_ones (by omega) (by omega)]; omega
theorem rdL_lt : ∀ (l : List UInt8) (i v : Nat), i ≤ 9 → v < 2 ^ (7 * i) → (rdL l i v).1 < 18446744073709551616
 | [], _, _, _, _ => by simp [rdL]
 | c :: t, i, v, hi, hv => by
  have hc := c.toNat_lt
  simp only [rdL]
  split
  ·simp
  ·rename_i c9
   split
   ·rename_i c1
    have : i ≠ 9 := fun q => c9 ⟨q, by omega⟩
    exact rdL_lt t (i + 1) _ (by omega) (pow_step _ hv)
   ·split
    ·simp
    ·exact fits hi hv (Nat.mod_lt _ (by omega)) (fun q => by have : ¬ 1 < c.toNat := fun z => c9 ⟨q, z⟩; omega)
theorem rdL_len : ∀ (l : List UInt8) (i v : Nat), (rdL l i v).2.1.length ≤ l.length
 | [], _, _ => by simp [rdL]
 | c :: t, i, v => by
  simp only [rdL]
  split
  ·simp
  ·split
   ·have := rdL_len t (i + 1) (v + c.toNat % 128 * 2 ^ (7 * i)); simp; omega
   ·split
    ·simp
    ·simp
def rdI (l : List UInt8) : Int × List UInt8 × Int := if (rdL l 0 0).2.2 ≠ 0 then (0, [], (rdL l 0 0).2.2) else (unzig (rdL l 0 0).1, (rdL l 0 0).2.1, 0)
def rdi3 (q : Int × List UInt8 × Int) : Int × ByteArray × Int := (q.1, ByteArray.mk (List.toArray q.2.1), q.2.2)
theorem readint_f (l : List UInt8) (hl : l.length ≤ 4611686018427387903) (k : Nat) (hk : 40 ≤ k) : pack_ReadInt.f k (ByteArray.mk (List.toArray l)) = some (rdi3 (rdI l)) := by
 have hlt := rdL_lt l 0 0 (by omega) (by simp)
 simp only [pack_ReadInt.f, pack_ReadInt.c, readuint_f l hl k hk, Option.bind_some, rd3, rdI]
 by_cases h : (rdL l 0 0).2.2 = 0
 ·simp only [h, bne_self_eq_false, cond_false, unzig_eq hlt]; rfl
 ·have hb : ((rdL l 0 0).2.2 != 0) = true := by rw [bne_iff_ne]; exact h
  simp only [hb, cond_true]
  rw [if_pos h]; rfl
def rdT (l : List UInt8) : List UInt8 × List UInt8 × Int :=
 if (rdL l 0 0).2.2 ≠ 0 then ([], [], (rdL l 0 0).2.2) else if (rdL l 0 0).2.1.length < (rdL l 0 0).1 then ([], [], 3) else ((rdL l 0 0).2.1.take (rdL l 0 0).1, (rdL l 0 0).2.1.drop (rdL l 0 0).1, 0)
def rdt3 (q : List UInt8 × List UInt8 × Int) : ByteArray × ByteArray × Int := (ByteArray.mk (List.toArray q.1), ByteArray.mk (List.toArray q.2.1), q.2.2)
theorem readtext_f (l : List UInt8) (hl : l.length ≤ 4611686018427387903) (k : Nat) (hk : 40 ≤ k) : pack_ReadText.f k (ByteArray.mk (List.toArray l)) = some (rdt3 (rdT l)) := by
 have hlt := rdL_lt l 0 0 (by omega) (by simp)
 have hln := rdL_len l 0 0
 simp only [pack_ReadText.f, pack_ReadText.c, readuint_f l hl k hk, Option.bind_some, rd3, rdT]
 by_cases h : (rdL l 0 0).2.2 = 0
 ·generalize rdL l 0 0 = q at *
  obtain ⟨z, r, e⟩ := q
  simp only at h hlt hln
  subst h
  simp only [bne_self_eq_false, cond_false, ba_size, u64w (n := (r.length : Int)) (by omega) (by omega)]
  by_cases c : r.length < z
  ·have g : (z : Int) > (r.length : Int) := by omega
   rw [decide_eq_true g, cond_true, if_neg (by simp), if_pos c]; rfl
  ·have g : ¬ (z : Int) > (r.length : Int) := by omega
   have g1 : (0 : Int) ≤ (z : Int) := by omega
   have g2 : (z : Int) ≤ (r.length : Int) := by omega
   have g3 : (r.length : Int) ≤ (r.length : Int) := Int.le_refl _
   simp only [g, g1, g2, g3, decide_true, decide_false, Bool.and_self, cond_true, cond_false, Int.toNat_natCast (n := z), ba_take, ba_dropl, c, if_false, ne_eq, not_true_eq_false]; rfl
 ·have hb : ((rdL l 0 0).2.2 != 0) = true := by rw [bne_iff_ne]; exact h
  simp only [hb, cond_true]
  rw [if_pos h]; rfl
/-! ### what is written is read; what is read was written so -/
theorem rd_enc (m : Nat) : ∀ (i v : Nat) (r : List UInt8), i ≤ 9 → v < 2 ^ (7 * i) → v + m * 2 ^ (7 * i) < 18446744073709551616 → (i = 0 ∨ 0 < m) → rdL (encL m ++ r) i v = (v + m * 2 ^ (7 * i), r, 0) := by
 induction m using Nat.strongRecOn with
 | _ m ih =>
  intro i v r hi hv ht hz
  by_cases hm : 127 < m
  ·have e : encL m = bN (m % 128 + 128) :: encL (m / 128) := by unfold encL; rw [enc_big hm]; rfl
   have hb : (bN (m % 128 + 128)).toNat = m % 128 + 128 := bN_toNat (by omega)
   have hi8 : i ≤ 8 := by
    rcases Nat.lt_or_ge i 9 with h | h
    ·omega
    ·obtain rfl : i = 9 := by omega
     have e : 2 ^ (7 * 9) = 9223372036854775808 := rfl
     rw [e] at ht
     omega
   rw [e, List.cons_append]
   simp only [rdL]
   rw [hb, if_neg (by omega), if_pos (by omega)]
   have e0 : (m % 128 + 128) % 128 = m % 128 := by omega
   rw [e0]
   have hp : 2 ^ (7 * (i + 1)) = 128 * 2 ^ (7 * i) := by rw [Nat.mul_add, Nat.pow_add]; omega
   have hmul : m * 2 ^ (7 * i) = m % 128 * 2 ^ (7 * i) + m / 128 * 2 ^ (7 * (i + 1)) := by
    rw [hp, ← Nat.mul_assoc, ← Nat.add_mul]; congr 1; omega
   have hlt := pow_step (v := v) (i := i) m hv
   rw [ih (m / 128) (by omega) (i + 1) _ r (by omega) hlt (by omega) (.inr (by omega))]
   rw [show v + m % 128 * 2 ^ (7 * i) + m / 128 * 2 ^ (7 * (i + 1)) = v + m * 2 ^ (7 * i) by omega]
  ·have e : encL m = [bN m] := by unfold encL; rw [enc_small hm]; rfl
   have hb : (bN m).toNat = m := bN_toNat (by omega)
   have hi9 : i = 9 → m ≤ 1 := by
    rintro rfl
    have e : 2 ^ (7 * 9) = 9223372036854775808 := rfl
    rw [e] at ht
    omega
   rw [e, List.cons_append, List.nil_append]
   simp only [rdL]
   rw [hb, if_neg (by intro q; have := hi9 q.1; omega), if_neg hm, if_neg (by omega), Nat.mod_eq_of_lt (by omega)]
theorem rdL_enc {m : Nat} (h : m < 18446744073709551616) (r : List UInt8) : rdL (encL m ++ r) 0 0 = (m, r, 0) := by
 rw [rd_enc m 0 0 r (by omega) (by simp) (by simpa using h) (.inl rfl)]; simp
theorem rdI_enc {n : Int} (h0 : -9223372036854775808 ≤ n) (h1 : n ≤ 9223372036854775807) (r : List UInt8) : rdI (encL (zig n) ++ r) = (n, r, 0) := by
 unfold rdI; rw [rdL_enc (zig_lt h0 h1), if_neg (by simp), unzig_zig]
theorem rdT_enc {s : List UInt8} (h : s.length < 18446744073709551616) (r : List UInt8) : rdT (encL s.length ++ s ++ r) = (s, r, 0) := by
 unfold rdT; rw [List.append_assoc, rdL_enc h, if_neg (by simp), if_neg (by simp)]; simp
theorem rd_back : ∀ (l : List UInt8) (i v n : Nat) (r : List UInt8), i ≤ 9 → v < 2 ^ (7 * i) → rdL l i v = (n, r, 0) →
  ∃ m : Nat, n = v + m * 2 ^ (7 * i) ∧ (i = 0 ∨ 0 < m) ∧ l = encL m ++ r
 | [], i, v, n, r, _, _, h => by simp [rdL] at h
 | c :: t, i, v, n, r, hi, hv, h => by
  have hc := c.toNat_lt
  simp only [rdL] at h
  split at h
  ·simp at h
  ·rename_i c9
   split at h
   ·rename_i c1
    have h9 : i ≠ 9 := fun q => c9 ⟨q, by omega⟩
    obtain ⟨m, hn, hz, hd⟩ := rd_back t (i + 1) _ n r (by omega) (pow_step _ hv) h
    have hm : 0 < m := by omega
    have hp : 2 ^ (7 * (i + 1)) = 128 * 2 ^ (7 * i) := by rw [Nat.mul_add, Nat.pow_add]; omega
    refine ⟨c.toNat % 128 + 128 * m, ?_, .inr (by omega), ?_⟩
    ·rw [hn, hp, Nat.add_mul]
     have : m * (128 * 2 ^ (7 * i)) = 128 * m * 2 ^ (7 * i) := by rw [← Nat.mul_assoc, Nat.mul_comm m]
     omega
    ·have e2 : (c.toNat % 128 + 128 * m) % 128 + 128 = c.toNat := by omega
     have e3 : (c.toNat % 128 + 128 * m) / 128 = m := by omega
     have e : encL (c.toNat % 128 + 128 * m) = bN c.toNat :: encL m := by
      unfold encL
      conv => lhs; rw [enc_big (m := c.toNat % 128 + 128 * m) (by omega), e2, e3]
      rfl
     rw [e, bN_eta, hd]; rfl
   ·split at h
    ·simp at h
    ·rename_i c1 c5
     have e0 : c.toNat % 128 = c.toNat := by omega
     rw [e0] at h
     simp only [Prod.mk.injEq, and_true] at h
     obtain ⟨rfl, rfl⟩ := h
     refine ⟨c.toNat, rfl, ?_, ?_⟩
     ·rcases Nat.eq_zero_or_pos i with h | h
      ·exact .inl h
      ·refine .inr ?_
       rcases Nat.eq_zero_or_pos c.toNat with h' | h'
       ·exact absurd ⟨h', h⟩ c5
       ·exact h'
     ·have e : encL c.toNat = [c] := by unfold encL; rw [enc_small (by omega)]; simp only [List.map_cons, List.map_nil, bN_eta]
      rw [e]; rfl
theorem rdL_once {l : List UInt8} {n : Nat} {r : List UInt8} (h : rdL l 0 0 = (n, r, 0)) : n < 18446744073709551616 ∧ l = encL n ++ r := by
 have hlt := rdL_lt l 0 0 (by omega) (by simp)
 rw [h] at hlt
 obtain ⟨m, hn, _, hd⟩ := rd_back l 0 0 n r (by omega) (by simp) h
 have : n = m := by simpa using hn
 subst this
 exact ⟨hlt, hd⟩
end Go.Proofs.YtaehpfmnejeddaaGreatDoor.Aev
