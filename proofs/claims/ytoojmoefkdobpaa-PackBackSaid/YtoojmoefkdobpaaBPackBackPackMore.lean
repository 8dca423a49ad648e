/- Package pack: numbers of either sign, texts, and that reading always ends. -/
import Derived.Test.YtoojmoefkdobpaaBPackBackPackRead
namespace Go.Proofs.Ytoojmoefkdobpaa.PPackBack
set_option linter.unusedVariables false
set_option linter.unusedSimpArgs false
open Go.RowKit Go.Proofs.YtoojmoefkdobpaaW.PrintWords Go.Proofs.Ytoojmoefkdobpaa.Plain

theorem awake_30 : transomlaw03_awake.f 30 = some true := by decide +kernel
theorem awake_true {k : Nat} (h : 30 ≤ k) : transomlaw03_awake.f k = some true := by
  obtain ⟨j, rfl⟩ : ∃ j, k = 30 + j := ⟨k - 30, by omega⟩
  induction j with
  | zero => exact awake_30
  | succ j ih => exact transomlaw03_awake.mono _ _ (ih (by omega))

/-- The number of either sign that a number stands for. -/
def unzig (z : Nat) : Int := if z % 2 = 0 then ((z / 2 : Nat) : Int) else -((z / 2 : Nat) : Int) - 1
theorem unzig_zig {n : Int} : unzig (zig n) = n := by
  unfold unzig zig
  split <;> split <;> omega
theorem zig_unzig (z : Nat) : zig (unzig z) = z := by
  unfold unzig zig
  split <;> split <;> omega
theorem unzig_in {z : Nat} (h : z < 18446744073709551616) : -9223372036854775808 ≤ unzig z ∧ unzig z ≤ 9223372036854775807 := by
  unfold unzig; split <;> omega
theorem xor_i64_zero {x : Int} (h0 : -9223372036854775808 ≤ x) (h1 : x ≤ 9223372036854775807) : Go.bits .xor .i64 x 0 = x := by
  have e : Go.bits .xor .i64 x 0 = IntKind.i64.wrap (((BitVec.ofInt 64 x) ^^^ (BitVec.ofInt 64 0)).toNat : Int) := rfl
  have e0 : BitVec.ofInt 64 0 = 0#64 := rfl
  rw [e, e0, BitVec.xor_zero, BitVec.toNat_ofInt]
  simp [IntKind.wrap, IntKind.bits, IntKind.signed]
  omega
theorem xor_i64_ones {x : Int} (h0 : -9223372036854775808 ≤ x) (h1 : x ≤ 9223372036854775807) : Go.bits .xor .i64 x (-1) = -x - 1 := by
  have e : Go.bits .xor .i64 x (-1) = IntKind.i64.wrap (((BitVec.ofInt 64 x) ^^^ (BitVec.ofInt 64 (-1))).toNat : Int) := rfl
  have e0 : BitVec.ofInt 64 (-1) = BitVec.allOnes 64 := by decide
  rw [e, e0, BitVec.xor_allOnes, BitVec.toNat_not, BitVec.toNat_ofInt]
  simp [IntKind.wrap, IntKind.bits, IntKind.signed]
  omega
theorem and_one {z : Nat} (h : z < 18446744073709551616) : Go.bits .and .u64 (z : Int) 1 = ((z % 2 : Nat) : Int) := by
  have := Go.u64_and_nat z 1 h (by omega)
  rw [Nat.and_one_is_mod] at this
  exact this
theorem unzig_eq {z : Nat} (h : z < 18446744073709551616) : Go.bits .xor .i64 (wrap64 ((z : Int) / 2)) (wrap64 (-(wrap64 (Go.bits .and .u64 (z : Int) 1)))) = unzig z := by
  rw [and_one h, w64id (n := (z : Int) / 2) (by omega) (by omega), w64id (n := ((z % 2 : Nat) : Int)) (by omega) (by omega), w64id (by omega) (by omega)]
  unfold unzig
  rcases Nat.mod_two_eq_zero_or_one z with e | e
  · rw [e, if_pos rfl]
    show Go.bits .xor .i64 ((z : Int) / 2) 0 = _
    rw [xor_i64_zero (by omega) (by omega)]; omega
  · rw [e, if_neg (by omega)]
    show Go.bits .xor .i64 ((z : Int) / 2) (-1) = _
    rw [xor_i64_ones (by omega) (by omega)]; omega

theorem readInt_of {s rest : ByteArray} {z : Nat} (hz : z < 18446744073709551616) (h : pack_ReadUint.f s = some ((z : Int), rest, 0)) : pack_ReadInt.f s = some (unzig z, rest, 0) := by
  unfold pack_ReadInt.f
  rw [h]; simp only [Option.bind_some]
  rw [if_pos trivial, unzig_eq hz]
theorem read_int {n : Int} (h0 : -9223372036854775808 ≤ n) (h1 : n ≤ 9223372036854775807) (b : ByteArray) : pack_ReadInt.f (encB (zig n) ++ b) = some (n, b, 0) := by
  rw [readInt_of (zig_lt h0 h1) (read_f _ (zig_lt h0 h1) b), unzig_zig]
theorem readText_of {s rest : ByteArray} {n : Nat} (hn : n < 18446744073709551616) (hr : rest.size < 18446744073709551616) (h : pack_ReadUint.f s = some ((n : Int), rest, 0)) :
    pack_ReadText.f s = if n ≤ rest.size then some (rest.extract 0 n, rest.extract n rest.size, 0) else some ((⟨#[]⟩ : ByteArray), (⟨#[]⟩ : ByteArray), 3) := by
  unfold pack_ReadText.f
  rw [h]; simp only [Option.bind_some]
  rw [if_pos trivial, u64id (by omega) (by omega)]
  by_cases c : n ≤ rest.size
  · rw [if_neg (by omega), if_pos (by omega), if_pos (by omega), if_pos c]; rfl
  · rw [if_pos (by omega), if_neg c]
theorem read_text {s b : ByteArray} (h : s.size + b.size < 18446744073709551616) : pack_ReadText.f (encB s.size ++ s ++ b) = some (s, b, 0) := by
  have e : encB s.size ++ s ++ b = encB s.size ++ (s ++ b) := ba_ext (by simp)
  have hs : (s ++ b).size = s.size + b.size := by simp
  rw [readText_of (n := s.size) (rest := s ++ b) (by omega) (by omega) (by rw [e]; exact read_f _ (by omega) _), if_pos (by omega)]
  have e1 : (s ++ b).extract 0 s.size = s := ba_ext (by rw [extract_data, append_data, List.drop_zero, Nat.sub_zero, sz, List.take_left])
  have e2 : (s ++ b).extract s.size (s ++ b).size = b := ba_ext (by rw [drop_data, append_data, sz, List.drop_left])
  rw [e1, e2]
theorem read_empty : pack_ReadUint.f (⟨#[]⟩ : ByteArray) = some (0, (⟨#[]⟩ : ByteArray), 3) := by decide +kernel
theorem enc_two {m : Nat} (h : m < 16384) : (enc m).length ≤ 2 := enc_len 1 m h
theorem short_text {s : ByteArray} (h : s.size ≤ 2000) {j : Nat} (hj : j = (encB s.size ++ s).size / 2) :
    pack_ReadText.f ((encB s.size ++ s).extract 0 j) = some ((⟨#[]⟩ : ByteArray), (⟨#[]⟩ : ByteArray), 3) := by
  have hl : (encB s.size).size = (enc s.size).length := by rw [sz, encB_data]; simp
  have ht : (encB s.size ++ s).size = (enc s.size).length + s.size := by rw [← hl]; simp
  have h1 := enc_ne s.size
  have h2 := enc_two (m := s.size) (by omega)
  rw [ht] at hj
  by_cases hlen : (enc s.size).length ≤ j
  · have e : (encB s.size ++ s).extract 0 j = encB s.size ++ s.extract 0 (j - (enc s.size).length) := by
      apply ba_ext
      rw [extract_data, append_data, append_data, extract_data, List.drop_zero, List.drop_zero, Nat.sub_zero, Nat.sub_zero, List.take_append]
      have : (encB s.size).data.toList.length = (enc s.size).length := by rw [encB_data]; simp
      rw [this, List.take_of_length_le (by omega)]
    have hr : (s.extract 0 (j - (enc s.size).length)).size = j - (enc s.size).length := by
      rw [sz, extract_data]; simp; omega
    rw [e, readText_of (n := s.size) (rest := s.extract 0 (j - (enc s.size).length)) (by omega) (by omega) (read_f _ (by omega) _), if_neg (by omega)]
  · have hm : ¬ 127 < s.size := by
      intro hm
      omega
    rw [enc_small hm] at hj hlen
    simp at hj hlen
    subst hlen
    have e : (encB s.size ++ s).extract 0 0 = ⟨#[]⟩ := ba_ext (by rw [extract_data]; simp)
    rw [e]
    unfold pack_ReadText.f
    rw [read_empty]; simp

/-- Reading always ends. -/
theorem read_total (s : ByteArray) : ∀ (d i : Nat) (v : Int), i + d = 10 → 1 ≤ d → i ≤ s.size → ∃ r, pack_ReadUint.l0 (d + 1) s v i = some r := by
  intro d
  induction d with
  | zero => intro i v h h1; omega
  | succ d ih =>
    intro i v h h1 hi
    rw [pack_ReadUint.l0]
    by_cases c1 : (i : Int) = (s.size : Int)
    · rw [if_pos c1]; exact ⟨_, rfl⟩
    · rw [if_neg c1, if_pos (by omega)]
      by_cases c3 : (i : Int) = 9 ∧ bt s i > 1
      · rw [if_pos c3]; exact ⟨_, rfl⟩
      · rw [if_neg c3]
        by_cases c4 : bt s i > 127
        · rw [if_pos c4]
          have hd : 1 ≤ d := by
            rcases Nat.eq_zero_or_pos d with h0 | h0
            · exact absurd ⟨by omega, by omega⟩ c3
            · exact h0
          have e1 : (i : Int) + 1 = ((i + 1 : Nat) : Int) := by omega
          rw [e1]
          exact ih (i + 1) _ (by omega) hd (by omega)
        · rw [if_neg c4]
          by_cases c5 : bt s i = 0 ∧ (i : Int) > 0
          · rw [if_pos c5]; exact ⟨_, rfl⟩
          · rw [if_neg c5]; exact ⟨_, rfl⟩
theorem read_some (s : ByteArray) : ∃ n rest e, pack_ReadUint.f s = some (n, rest, e) := by
  obtain ⟨⟨n, rest, e⟩, h⟩ := read_total s 10 0 0 (by omega) (by omega) (by omega)
  exact ⟨n, rest, e, h⟩
end Go.Proofs.Ytoojmoefkdobpaa.PPackBack
