
/- Package pack as plain functions on lists of bytes: how numbers and texts are written and read; the document's, too. -/
import Derived.Test.YtaehpfmnejeddaaGreatDoorF0
import Derived.Test.YtaehpfmnejeddaaGreatDoorF3
import Derived.Test.YtaehpfmnejeddaaGreatDoorF4
import Derived.Test.YtaehpfmnejeddaaGreatDoorF5
import Derived.Test.YtaehpfmnejeddaaGreatDoorF6
import Derived.Test.YtaehpfmnejeddaaGreatDoorF7
import Derived.Test.YtaehpfmnejeddaaGreatDoorF9
import Derived.Test.YtaehpfmnejeddaaGreatDoorF13
import Derived.Test.YtaehpfmnejeddaaGreatDoorF15
import Derived.Test.YtaehpfmnejeddaaGreatDoorBa
namespace Go.Proofs.YtaehpfmnejeddaaGreatDoor.Aev
open Go
set_option linter.unusedVariables false
set_option linter.unusedSimpArgs false
set_option maxRecDepth 100000
def enc (m : Nat) : List Nat := if h : 127 < m then (m % 128 + 128) :: enc (m / 128) else [m]
termination_by m
decreasing_by omega
theorem enc_big {m : Nat} (h : 127 < m) : enc m = (m % 128 + 128) :: enc (m / 128) := by rw [enc, dif_pos h]
theorem enc_small {m : Nat} (h : ¬ 127 < m) : enc m = [m] := by rw [enc, dif_neg h]
theorem enc_len : ∀ (j m : Nat), m < 128 ^ (j + 1) → (enc m).length ≤ j + 1 := by
  intro j
  induction j with
  | zero => intro m h; rw [enc_small (by omega)]; simp
  | succ j ih =>
    intro m h
    by_cases hm : 127 < m
    · rw [enc_big hm, List.length_cons]
      have := ih (m / 128) (by rw [Nat.pow_succ] at h; omega)
      omega
    · rw [enc_small hm]; simp
theorem enc_ne (m : Nat) : 1 ≤ (enc m).length := by
  by_cases hm : 127 < m
  · rw [enc_big hm]; simp
  · rw [enc_small hm]; simp
theorem enc_len64 {m : Nat} (h : m < 18446744073709551616) : (enc m).length ≤ 10 := enc_len 9 m (by omega)
abbrev bN (n : Nat) : UInt8 := UInt8.ofNat n
theorem b8_bN (n : Nat) : b8 (n : Int) = bN n := by simp [b8, bN]
def encL (m : Nat) : List UInt8 := (enc m).map bN
theorem encL_len {m : Nat} (h : m < 18446744073709551616) : (encL m).length ≤ 10 := by unfold encL; rw [List.length_map]; exact enc_len64 h
theorem or128 : ∀ b : Fin 256, Go.bits .or .u8 (b.val : Int) 128 = ((b.val % 128 + 128 : Nat) : Int) := by decide +kernel
theorem or128' (m : Nat) : IntKind.wrap IntKind.u8 ((BitVec.toNat ((BitVec.ofInt (8 : Nat) (IntKind.wrap IntKind.u8 (m : Int))) ||| (BitVec.ofInt (8 : Nat) (128 : Int)))) : Int) = ((m % 128 + 128 : Nat) : Int) := by
  have := or128 ⟨m % 256, by omega⟩
  have e : ((m % 256 : Nat) : Int) = (m : Int) % 256 := by omega
  have e2 : m % 256 % 128 = m % 128 := by omega
  simp only [e, e2] at this
  rw [u8m]
  exact this
theorem uint_s0 (m : Nat) : ∀ (k : Nat) (acc : List Int), (enc m).length ≤ k → acc.length + (enc m).length < 35184372088832 →
    pack_Uint.s0 k m acc = some (ByteArray.mk (List.toArray (acc.map b8 ++ encL m))) := by
  induction m using Nat.strongRecOn with
  | _ m ih =>
    intro k acc hk ha
    have h1 := enc_ne m
    obtain ⟨k, rfl⟩ : ∃ j, k = j + 1 := ⟨k - 1, by omega⟩
    have g : (acc.length + 1) * 1 ≤ 35184372088832 := by omega
    simp only [pack_Uint.s0, pack_Uint.s0c, g, decide_true, cond_true, Option.bind_fun_some]
    by_cases hm : 127 < m
    · rw [enc_big hm, List.length_cons] at hk ha
      have e : Int.fdiv (m : Int) 128 = ((m / 128 : Nat) : Int) := by rw [Int.fdiv_eq_ediv_of_nonneg _ (by omega)]; omega
      have g2 : (m : Int) > 127 := by omega
      rw [decide_eq_true g2, e, ih (m / 128) (by omega) k _ (by omega) (by simp; omega), or128']
      simp only [encL, enc_big hm, List.map_cons, List.map_append, List.map_nil, b8_bN, List.append_assoc, List.cons_append, List.nil_append, cond_true]
    · have g2 : ¬ (m : Int) > 127 := by omega
      have e : IntKind.wrap IntKind.u8 (m : Int) = (m : Int) := u8w (by omega) (by omega)
      rw [decide_eq_false g2, cond_false, e]
      simp only [encL, enc_small hm, List.map_cons, List.map_append, List.map_nil, b8_bN]
theorem uint_f {m k : Nat} (h : m < 18446744073709551616) (hk : 10 ≤ k) : pack_Uint.f k m = some (ByteArray.mk (List.toArray (encL m))) := by
  have := enc_len64 h
  simp only [pack_Uint.f, pack_Uint.c, Option.bind_fun_some]
  rw [uint_s0 m k [] (by omega) (by simp; omega)]; rfl
theorem refuint_s0 (m : Nat) (hm : m < 18446744073709551616) : ∀ (k : Nat) (acc : List Int), (enc m).length ≤ k → acc.length + (enc m).length < 35184372088832 →
    transomref03_Uint.s0 k m acc = some (ByteArray.mk (List.toArray (acc.map b8 ++ encL m))) := by
  induction m using Nat.strongRecOn with
  | _ m ih =>
    intro k acc hk ha
    have h1 := enc_ne m
    obtain ⟨k, rfl⟩ : ∃ j, k = j + 1 := ⟨k - 1, by omega⟩
    have g : (acc.length + 1) * 1 ≤ 35184372088832 := by omega
    simp only [transomref03_Uint.s0, transomref03_Uint.s0c, g, decide_true, cond_true, Option.bind_fun_some]
    by_cases hm2 : 127 < m
    · rw [enc_big hm2, List.length_cons] at hk ha
      have e : IntKind.wrap IntKind.u64 (Int.tdiv (m : Int) 128) = ((m / 128 : Nat) : Int) := by rw [Int.tdiv_eq_ediv_of_nonneg (by omega), u64w (by omega) (by omega)]; omega
      have e2 : IntKind.wrap IntKind.u8 (IntKind.wrap IntKind.u64 (Int.tmod (m : Int) 128 + 128)) = ((m % 128 + 128 : Nat) : Int) := by
        rw [Int.tmod_eq_emod_of_nonneg (by omega), u64w (by omega) (by omega), u8w (by omega) (by omega)]; omega
      have g2 : (m : Int) ≥ 128 := by omega
      rw [decide_eq_true g2, e, e2, ih (m / 128) (by omega) (by omega) k _ (by omega) (by simp; omega)]
      simp only [encL, enc_big hm2, List.map_cons, List.map_append, List.map_nil, b8_bN, List.append_assoc, List.cons_append, List.nil_append, cond_true]
    · have g2 : ¬ (m : Int) ≥ 128 := by omega
      have e : IntKind.wrap IntKind.u8 (m : Int) = (m : Int) := u8w (by omega) (by omega)
      rw [decide_eq_false g2, cond_false, e]
      simp only [encL, enc_small hm2, List.map_cons, List.map_append, List.map_nil, b8_bN]
theorem refuint_f {m k : Nat} (h : m < 18446744073709551616) (hk : 10 ≤ k) : transomref03_Uint.f k m = some (ByteArray.mk (List.toArray (encL m))) := by
  have := enc_len64 h
  simp only [transomref03_Uint.f, transomref03_Uint.c, Option.bind_fun_some]
  rw [refuint_s0 m h k [] (by omega) (by simp; omega)]; rfl
def zig (n : Int) : Nat := if 0 ≤ n then (2 * n).toNat else (-2 * n - 1).toNat
theorem zig_lt {n : Int} (h0 : -9223372036854775808 ≤ n) (h1 : n ≤ 9223372036854775807) : zig n < 18446744073709551616 := by
  unfold zig; split <;> omega
theorem xor_zero {a : Nat} (h : a < 18446744073709551616) : Go.bits .xor .u64 (a : Int) 0 = (a : Int) := by
  have := Go.u64_xor_nat a 0 h (by omega)
  simpa using this
theorem xor_ones {a : Nat} (h : a < 18446744073709551616) : Go.bits .xor .u64 (a : Int) 18446744073709551615 = ((18446744073709551615 - a : Nat) : Int) := by
  have := Go.u64_xor_nat a 18446744073709551615 h (by omega)
  have e : a ^^^ 18446744073709551615 = 18446744073709551615 - a := by
    have := congrArg BitVec.toNat (BitVec.xor_allOnes (x := BitVec.ofNat 64 a))
    rw [BitVec.toNat_xor, BitVec.toNat_not, BitVec.toNat_allOnes, BitVec.toNat_ofNat, Nat.mod_eq_of_lt h] at this
    exact this
  rw [e] at this
  exact this
theorem int_arg {n : Int} (h0 : -9223372036854775808 ≤ n) (h1 : n ≤ 9223372036854775807) :
    IntKind.wrap IntKind.u64 ((BitVec.toNat ((BitVec.ofInt (64 : Nat) (IntKind.wrap IntKind.u64 ((IntKind.wrap IntKind.u64 n) * (2 : Int)))) ^^^ (BitVec.ofInt (64 : Nat) (IntKind.wrap IntKind.u64 (Int.fdiv n (9223372036854775808 : Int)))))) : Int) = (zig n : Int) := by
  have ed : Int.fdiv n 9223372036854775808 = n / 9223372036854775808 := Int.fdiv_eq_ediv_of_nonneg _ (by omega)
  rw [ed]
  by_cases hn : 0 ≤ n
  · have e1 : IntKind.u64.wrap (n / 9223372036854775808) = 0 := by rw [u64m]; omega
    have e2 : IntKind.u64.wrap ((IntKind.u64.wrap n) * 2) = (((2 * n).toNat : Nat) : Int) := by rw [u64m, u64m]; omega
    rw [e1, e2]
    refine (xor_zero (by omega)).trans ?_
    unfold zig; rw [if_pos hn]
  · have e1 : IntKind.u64.wrap (n / 9223372036854775808) = 18446744073709551615 := by rw [u64m]; omega
    have e2 : IntKind.u64.wrap ((IntKind.u64.wrap n) * 2) = (((2 * n + 18446744073709551616).toNat : Nat) : Int) := by rw [u64m, u64m]; omega
    rw [e1, e2]
    refine (xor_ones (by omega)).trans ?_
    unfold zig; rw [if_neg hn]; omega
theorem int_f {n : Int} {k : Nat} (h0 : -9223372036854775808 ≤ n) (h1 : n ≤ 9223372036854775807) (hk : 10 ≤ k) : pack_Int.f k n = some (ByteArray.mk (List.toArray (encL (zig n)))) := by
  simp only [pack_Int.f, pack_Int.c, int_arg h0 h1, uint_f (zig_lt h0 h1) hk, Option.bind_some]
theorem refint_f {n : Int} {k : Nat} (h0 : -9223372036854775808 ≤ n) (h1 : n ≤ 9223372036854775807) (hk : 10 ≤ k) : transomref03_Int.f k n = some (ByteArray.mk (List.toArray (encL (zig n)))) := by
  simp only [transomref03_Int.f, transomref03_Int.c, Option.bind_fun_some]
  by_cases hn : n < 0
  · have e : IntKind.wrap IntKind.u64 (IntKind.wrap IntKind.u64 ((2 : Int) * IntKind.wrap IntKind.u64 (IntKind.wrap IntKind.i64 ((0 : Int) - IntKind.wrap IntKind.i64 (n + 1)))) + 1) = (zig n : Int) := by
      rw [i64w (n := n + 1) (by omega) (by omega), i64w (n := (0 : Int) - (n + 1)) (by omega) (by omega), u64w (n := (0 : Int) - (n + 1)) (by omega) (by omega), u64w (n := (2 : Int) * ((0 : Int) - (n + 1))) (by omega) (by omega), u64w (by omega) (by omega)]
      unfold zig; rw [if_neg (by omega)]; omega
    rw [decide_eq_true hn, e, refuint_f (zig_lt h0 h1) hk]; rfl
  · have e : IntKind.wrap IntKind.u64 ((2 : Int) * IntKind.wrap IntKind.u64 n) = (zig n : Int) := by
      rw [u64w (n := n) (by omega) (by omega), u64w (by omega) (by omega)]
      unfold zig; rw [if_pos (by omega)]; omega
    rw [decide_eq_false hn, e, refuint_f (zig_lt h0 h1) hk]; rfl
theorem text_f {l : List UInt8} {k : Nat} (h : l.length ≤ 4611686018427387903) (hk : 10 ≤ k) : pack_Text.f k (ByteArray.mk (List.toArray l)) = some (ByteArray.mk (List.toArray (encL l.length ++ l))) := by
  have h1 := encL_len (m := l.length) (by omega)
  have g1 : (encL l.length).length ≤ 4611686018427387903 := by omega
  simp only [pack_Text.f, pack_Text.c, ba_size, u64w (n := (l.length : Int)) (by omega) (by omega), uint_f (m := l.length) (by omega) hk, Option.bind_some, g1, h, decide_true, Bool.and_self, cond_true, ba_append]
theorem reftext_f {l : List UInt8} {k : Nat} (h : l.length ≤ 4611686018427387903) (hk : 10 ≤ k) : transomref03_Text.f k (ByteArray.mk (List.toArray l)) = some (ByteArray.mk (List.toArray (encL l.length ++ l))) := by
  have h1 := encL_len (m := l.length) (by omega)
  have g1 : (encL l.length).length ≤ 4611686018427387903 := by omega
  simp only [transomref03_Text.f, transomref03_Text.c, ba_size, u64w (n := (l.length : Int)) (by omega) (by omega), refuint_f (m := l.length) (by omega) hk, Option.bind_some, g1, h, decide_true, Bool.and_self, cond_true, ba_append]
/-! ### reading -/
def rdL : List UInt8 → Nat → Nat → Nat × List UInt8 × Int
  | [], _, _ => (0, [], 3)
  | c :: t, i, v => if i = 9 ∧ 1 < c.toNat then (0, [], 4) else if 127 < c.toNat then rdL t (i + 1) (v + c.toNat % 128 * 2 ^ (7 * i)) else if c.toNat = 0 ∧ 0 < i then (0, [], 4) else (v + c.toNat % 128 * 2 ^ (7 * i), t, 0)
def rdT (l : List UInt8) : List UInt8 × List UInt8 × Int :=
  if (rdL l 0 0).2.2 ≠ 0 then ([], [], (rdL l 0 0).2.2) else if (rdL l 0 0).2.1.length < (rdL l 0 0).1 then ([], [], 3) else ((rdL l 0 0).2.1.take (rdL l 0 0).1, (rdL l 0 0).2.1.drop (rdL l 0 0).1, 0)
/-! ### what is written is read; what is read was written so -/
end Go.Proofs.YtaehpfmnejeddaaGreatDoor.Aev
