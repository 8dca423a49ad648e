/- Package pack as plain functions: how numbers are written and read. No program here but the printed functions. -/
import Derived.Test.YtoojmoefkdobpaaPPackBackx
import Derived.Test.YtoojmoefkdobpaaPlain
namespace Go.Proofs.Ytoojmoefkdobpaa.PPackBack
set_option linter.unusedVariables false
set_option linter.unusedSimpArgs false
open Go.RowKit Go.Proofs.YtoojmoefkdobpaaW.PrintWords Go.Proofs.Ytoojmoefkdobpaa.Plain

/-- The bytes of a number, as numbers. -/
def enc (m : Nat) : List Nat := if h : 127 < m then (m % 128 + 128) :: enc (m / 128) else [m]
termination_by m
decreasing_by omega
theorem enc_big {m : Nat} (h : 127 < m) : enc m = (m % 128 + 128) :: enc (m / 128) := by rw [enc, dif_pos h]
theorem enc_small {m : Nat} (h : ¬ 127 < m) : enc m = [m] := by rw [enc, dif_neg h]
theorem enc_len : ∀ (j m : Nat), m < 128 ^ (j + 1) → (enc m).length ≤ j + 1 := by
  intro j
  induction j with
  | zero => intro m h; rw [enc_small (by omega)]; simp
  | succ j ih =>
    intro m h
    by_cases hm : 127 < m
    · rw [enc_big hm, List.length_cons]
      have := ih (m / 128) (by rw [Nat.pow_succ] at h; omega)
      omega
    · rw [enc_small hm]; simp
theorem enc_ne (m : Nat) : 1 ≤ (enc m).length := by
  by_cases hm : 127 < m
  · rw [enc_big hm]; simp
  · rw [enc_small hm]; simp
theorem enc_len64 {m : Nat} (h : m < 18446744073709551616) : (enc m).length ≤ 10 := enc_len 9 m (by omega)
theorem enc_lt (m : Nat) : ∀ x ∈ enc m, x < 256 := by
  induction m using Nat.strongRecOn with
  | _ m ih =>
    by_cases hm : 127 < m
    · rw [enc_big hm]
      intro x hx
      rcases List.mem_cons.1 hx with rfl | hx
      · omega
      · exact ih _ (by omega) x hx
    · rw [enc_small hm]; intro x hx; simp at hx; omega
theorem or128 : ∀ b : Fin 256, Go.bits .or .u8 (b.val : Int) 128 = ((b.val % 128 + 128 : Nat) : Int) := by decide +kernel
theorem or128' (m : Nat) : Go.bits .or .u8 ((m : Int) % 256) 128 = ((m % 128 + 128 : Nat) : Int) := by
  have := or128 ⟨m % 256, by omega⟩
  have e : ((m % 256 : Nat) : Int) = (m : Int) % 256 := by omega
  have e2 : m % 256 % 128 = m % 128 := by omega
  simp only [e, e2] at this
  exact this

theorem uint_l0 (m : Nat) : ∀ (k : Nat) (acc : List Int), (enc m).length ≤ k → acc.length + (enc m).length < 140737488355328 →
    pack_Uint.l0 k m acc = some (strOfNums (acc ++ (enc m).map fun n : Nat => (n : Int))) := by
  induction m using Nat.strongRecOn with
  | _ m ih =>
    intro k acc hk ha
    have h1 := enc_ne m
    obtain ⟨k, rfl⟩ : ∃ j, k = j + 1 := ⟨k - 1, by omega⟩
    simp only [pack_Uint.l0]
    by_cases hm : 127 < m
    · rw [enc_big hm, List.length_cons] at hk ha
      rw [if_pos (by omega), if_pos (by omega)]
      have e : (m : Int) / 128 = ((m / 128 : Nat) : Int) := by omega
      rw [e, ih (m / 128) (by omega) k _ (by omega) (by simp; omega), or128', enc_big hm]
      simp
    · rw [if_neg (by omega), if_pos (by omega), enc_small hm]
      have e : (m : Int) % 256 = (m : Int) := by omega
      rw [e]; rfl
/-- The bytes of a number. -/
def encB (m : Nat) : ByteArray := ⟨((enc m).map b8).toArray⟩
theorem encB_data (m : Nat) : (encB m).data.toList = (enc m).map b8 := by simp [encB]
theorem strOf_enc (m : Nat) : strOfNums ((enc m).map fun n : Nat => (n : Int)) = encB m := ba_ext (by rw [strOf_nat, encB_data])
theorem uint_f {m k : Nat} (h : m < 18446744073709551616) (hk : 10 ≤ k) : pack_Uint.f k m = some (encB m) := by
  have := enc_len64 h
  unfold pack_Uint.f
  rw [uint_l0 m k [] (by omega) (by simp; omega), List.nil_append, strOf_enc]

/-- A number of either sign as one without. -/
def zig (n : Int) : Nat := if 0 ≤ n then (2 * n).toNat else (-2 * n - 1).toNat
theorem zig_lt {n : Int} (h0 : -9223372036854775808 ≤ n) (h1 : n ≤ 9223372036854775807) : zig n < 18446744073709551616 := by
  unfold zig; split <;> omega
theorem xor_zero {a : Nat} (h : a < 18446744073709551616) : Go.bits .xor .u64 (a : Int) 0 = (a : Int) := by
  have := Go.u64_xor_nat a 0 h (by omega)
  simpa using this
theorem xor_ones {a : Nat} (h : a < 18446744073709551616) : Go.bits .xor .u64 (a : Int) 18446744073709551615 = ((18446744073709551615 - a : Nat) : Int) := by
  have := Go.u64_xor_nat a 18446744073709551615 h (by omega)
  have e : a ^^^ 18446744073709551615 = 18446744073709551615 - a := by
    have := congrArg BitVec.toNat (BitVec.xor_allOnes (x := BitVec.ofNat 64 a))
    rw [BitVec.toNat_xor, BitVec.toNat_not, BitVec.toNat_allOnes, BitVec.toNat_ofNat, Nat.mod_eq_of_lt h] at this
    exact this
  rw [e] at this
  exact this
theorem int_arg {n : Int} (h0 : -9223372036854775808 ≤ n) (h1 : n ≤ 9223372036854775807) :
    Go.bits .xor .u64 (IntKind.u64.wrap ((IntKind.u64.wrap n) * 2)) (IntKind.u64.wrap (n / 9223372036854775808)) = (zig n : Int) := by
  by_cases hn : 0 ≤ n
  · have e1 : IntKind.u64.wrap (n / 9223372036854775808) = 0 := by rw [u64w]; omega
    have e2 : IntKind.u64.wrap ((IntKind.u64.wrap n) * 2) = (((2 * n).toNat : Nat) : Int) := by rw [u64w, u64w]; omega
    rw [e1, e2, xor_zero (by omega)]
    unfold zig; rw [if_pos hn]
  · have e1 : IntKind.u64.wrap (n / 9223372036854775808) = 18446744073709551615 := by rw [u64w]; omega
    have e2 : IntKind.u64.wrap ((IntKind.u64.wrap n) * 2) = (((2 * n + 18446744073709551616).toNat : Nat) : Int) := by rw [u64w, u64w]; omega
    rw [e1, e2, xor_ones (by omega)]
    unfold zig; rw [if_neg hn]; omega
theorem int_f {n : Int} {k : Nat} (h0 : -9223372036854775808 ≤ n) (h1 : n ≤ 9223372036854775807) (hk : 10 ≤ k) : pack_Int.f k n = some (encB (zig n)) := by
  unfold pack_Int.f
  rw [int_arg h0 h1, uint_f (zig_lt h0 h1) hk]; rfl
theorem encB_size {m : Nat} (h : m < 18446744073709551616) : (encB m).size ≤ 10 := by rw [sz, encB_data]; simpa using enc_len64 h
theorem text_f {s : ByteArray} {k : Nat} (h : s.size ≤ 140737488351232) (hk : 10 ≤ k) : pack_Text.f k s = some (encB s.size ++ s) := by
  unfold pack_Text.f
  rw [u64id (by omega) (by omega), uint_f (by omega) hk]
  simp only [Option.bind_some]
  rw [if_pos]
  have := encB_size (m := s.size) (by omega)
  omega
end Go.Proofs.Ytoojmoefkdobpaa.PPackBack
