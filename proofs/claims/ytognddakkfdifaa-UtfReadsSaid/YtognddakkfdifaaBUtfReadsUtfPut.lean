/- Package utf as plain functions: how a character is written. -/
import Derived.Test.YtognddakkfdifaaPUtfReadsx
import Derived.Test.YtognddakkfdifaaNatBits
namespace Go.Proofs.Ytognddakkfdifaa.PUtfReads
set_option linter.unusedVariables false
set_option linter.unusedSimpArgs false
open Go.RowKit Go.Proofs.YtognddakkfdifaaW.PrintWords Go.Proofs.Ytognddakkfdifaa.Plain

theorem awake_40 : transomlaw01_awake.f 40 = some true := by decide +kernel
theorem awake_true {k : Nat} (h : 40 ≤ k) : transomlaw01_awake.f k = some true := by
  obtain ⟨j, rfl⟩ : ∃ j, k = 40 + j := ⟨k - 40, by omega⟩
  induction j with
  | zero => exact awake_40
  | succ j ih => exact transomlaw01_awake.mono _ _ (ih (by omega))

/-- Is it a character? -/
def okR (r : Int) : Prop := 0 ≤ r ∧ r ≤ 1114111 ∧ ¬ (55296 ≤ r ∧ r ≤ 57343)
instance (r : Int) : Decidable (okR r) := by unfold okR; infer_instance
def widthS (r : Int) : Int := if okR r then (if r ≤ 127 then 1 else if r ≤ 2047 then 2 else if r ≤ 65535 then 3 else 4) else 0
/-- A character's bytes, as numbers. -/
def putS (r : Nat) : List Nat :=
  if r ≤ 127 then [r] else if r ≤ 2047 then [192 + r / 64, 128 + r % 64] else if r ≤ 65535 then [224 + r / 4096, 128 + r / 64 % 64, 128 + r % 64] else
    [240 + r / 262144, 128 + r / 4096 % 64, 128 + r / 64 % 64, 128 + r % 64]
def putB (r : Nat) : ByteArray := ⟨((putS r).map b8).toArray⟩
theorem putB_data (r : Nat) : (putB r).data.toList = (putS r).map b8 := by simp [putB]
theorem width_eq (r : Int) (k : Nat) : utf_Width.f (k + 1) r = some (widthS r) := by
  have hj : ∀ f : Bool, utf_Width.j0 (k + 1) r f = some (if f = true then 0 else if r ≤ 127 then 1 else if r ≤ 2047 then 2 else if r ≤ 65535 then 3 else 4) := by
    intro f
    rw [utf_Width.j0]
    cases f
    · simp only [Bool.false_eq_true, if_false]
      split
      · rfl
      · split
        · rfl
        · split <;> rfl
    · simp only [if_true]
  unfold utf_Width.f
  simp only [hj]
  unfold widthS
  by_cases h1 : r < 0
  · rw [if_pos h1, if_pos (decide_eq_true h1), if_neg (by unfold okR; omega)]
  · rw [if_neg h1]
    by_cases h2 : r > 1114111
    · rw [if_pos h2, if_pos (decide_eq_true h2), if_neg (by unfold okR; omega)]
    · rw [if_neg h2]
      by_cases h3 : r ≥ 55296
      · rw [if_pos h3]
        by_cases h4 : r ≤ 57343
        · rw [if_pos (decide_eq_true h4), if_neg (by unfold okR; omega)]
        · rw [if_neg (by rw [decide_eq_true_eq]; exact h4), if_pos (show okR r by unfold okR; omega)]
      · rw [if_neg h3, if_neg (show ¬ (false = true) by simp), if_pos (show okR r by unfold okR; omega)]
theorem wraps_i64 (n : Int) (h0 : 0 ≤ n) (h1 : n < 2 ^ 63) : IntKind.i64.wrap n = n := by
  have : (2 : Int) ^ 63 = 9223372036854775808 := by decide
  simp [IntKind.wrap, IntKind.bits, IntKind.signed]; omega
theorem and63_i64 {n : Nat} (h : n < 9223372036854775808) : Go.bits .and .i64 (n : Int) 63 = ((n % 64 : Nat) : Int) := by
  have := Go.bits_mask .i64 63 (by decide) wraps_i64 6 (by decide) (n : Int) (by omega) (by omega)
  have e : ((2 : Int) ^ 6 - 1) = 63 := by decide
  rw [e] at this
  rw [this]
  omega
theorem or128_i64 : ∀ b : Fin 64, Go.bits .or .i64 128 (b.val : Int) = ((128 + b.val : Nat) : Int) := by decide +kernel
/-- A byte behind the first. -/
theorem tail_byte {n : Nat} (h : n < 9223372036854775808) : (Go.bits .or .i64 128 (Go.bits .and .i64 (n : Int) 63)) % 256 = ((128 + n % 64 : Nat) : Int) := by
  rw [and63_i64 h, or128_i64 ⟨n % 64, by omega⟩]
  show ((128 + n % 64 : Nat) : Int) % 256 = _
  omega
theorem or192 : ∀ b : Fin 32, Go.bits .or .u8 (b.val : Int) 192 = ((192 + b.val : Nat) : Int) := by decide +kernel
theorem or224 : ∀ b : Fin 16, Go.bits .or .u8 (b.val : Int) 224 = ((224 + b.val : Nat) : Int) := by decide +kernel
theorem or240 : ∀ b : Fin 8, Go.bits .or .u8 (b.val : Int) 240 = ((240 + b.val : Nat) : Int) := by decide +kernel
theorem strOf_put {l : List Int} {m : List Nat} (h : l = m.map fun n : Nat => (n : Int)) : strOfNums l = ⟨(m.map b8).toArray⟩ := by
  subst h; exact ba_ext (by rw [strOf_nat])
theorem put_bad {r : Int} (h : ¬ okR r) (k : Nat) : utf_Put.f (k + 1) r = some ((⟨#[]⟩ : ByteArray), 1) := by
  unfold utf_Put.f
  rw [width_eq, Option.bind_some]
  unfold widthS
  rw [if_neg h, if_pos rfl]
theorem put_ok {r : Nat} (h : okR r) (k : Nat) : utf_Put.f (k + 5) r = some (putB r, 0) := by
  have hr : r ≤ 1114111 := by unfold okR at h; omega
  unfold utf_Put.f
  rw [width_eq (r : Int) (k + 4), Option.bind_some]
  unfold widthS putB putS
  rw [if_pos h]
  have w0 : wrap64 (1 - 1) = 0 := by decide +kernel
  have w1 : wrap64 (2 - 1) = 1 := by decide +kernel
  have w2 : wrap64 (3 - 1) = 2 := by decide +kernel
  have w3 : wrap64 (4 - 1) = 3 := by decide +kernel
  have d1 : (r : Int) / 64 = ((r / 64 : Nat) : Int) := by omega
  have d2 : ((r / 64 : Nat) : Int) / 64 = ((r / 4096 : Nat) : Int) := by omega
  have d3 : ((r / 4096 : Nat) : Int) / 64 = ((r / 262144 : Nat) : Int) := by omega
  by_cases c1 : r ≤ 127
  · rw [if_pos (show (r : Int) ≤ 127 by omega), if_pos c1, if_neg (by omega), if_pos (by omega), if_pos (by decide), w0]
    rw [utf_Put.l0, if_neg (by omega), if_pos (by decide)]
    rw [Option.bind_some, if_neg (by omega), if_neg (by omega), if_neg (by omega)]
    rw [strOf_put (m := [r]) (by show [(r : Int) % 256] = [(r : Int)]; rw [show (r : Int) % 256 = (r : Int) by omega])]
  · rw [if_neg (show ¬ (r : Int) ≤ 127 by omega), if_neg c1]
    by_cases c2 : r ≤ 2047
    · rw [if_pos (show (r : Int) ≤ 2047 by omega), if_pos c2, if_neg (by omega), if_pos (by omega), if_pos (by decide), w1]
      rw [utf_Put.l0, if_pos (by omega), if_pos (by omega), if_pos (by decide), w0, d1, tail_byte (by omega)]
      rw [utf_Put.l0, if_neg (by omega), if_pos (by simp)]
      rw [Option.bind_some, if_pos rfl]
      rw [strOf_put (m := [192 + r / 64, 128 + r % 64])]
      show [Go.bits .or .u8 (((r / 64 : Nat) : Int) % 256) 192, ((128 + r % 64 : Nat) : Int)] = _
      rw [show ((r / 64 : Nat) : Int) % 256 = ((r / 64 : Nat) : Int) by omega, or192 ⟨r / 64, by omega⟩]; rfl
    · rw [if_neg (show ¬ (r : Int) ≤ 2047 by omega), if_neg c2]
      by_cases c3 : r ≤ 65535
      · rw [if_pos (show (r : Int) ≤ 65535 by omega), if_pos c3, if_neg (by omega), if_pos (by omega), if_pos (by decide), w2]
        rw [utf_Put.l0, if_pos (by omega), if_pos (by omega), if_pos (by decide), w1, d1, tail_byte (by omega)]
        rw [utf_Put.l0, if_pos (by omega), if_pos (by omega), if_pos (by simp), w0, d2, tail_byte (by omega)]
        rw [utf_Put.l0, if_neg (by omega), if_pos (by simp)]
        rw [Option.bind_some, if_neg (by omega), if_pos rfl]
        rw [strOf_put (m := [224 + r / 4096, 128 + r / 64 % 64, 128 + r % 64])]
        show [Go.bits .or .u8 (((r / 4096 : Nat) : Int) % 256) 224, ((128 + r / 64 % 64 : Nat) : Int), ((128 + r % 64 : Nat) : Int)] = _
        rw [show ((r / 4096 : Nat) : Int) % 256 = ((r / 4096 : Nat) : Int) by omega, or224 ⟨r / 4096, by omega⟩]; rfl
      · rw [if_neg (show ¬ (r : Int) ≤ 65535 by omega), if_neg c3, if_neg (by omega), if_pos (by omega), if_pos (by decide), w3]
        rw [utf_Put.l0, if_pos (by omega), if_pos (by omega), if_pos (by decide), w2, d1, tail_byte (by omega)]
        rw [utf_Put.l0, if_pos (by omega), if_pos (by omega), if_pos (by simp), w1, d2, tail_byte (by omega)]
        rw [utf_Put.l0, if_pos (by omega), if_pos (by omega), if_pos (by simp), w0, d3, tail_byte (by omega)]
        rw [utf_Put.l0, if_neg (by omega), if_pos (by simp)]
        rw [Option.bind_some, if_neg (by omega), if_neg (by omega), if_pos rfl]
        rw [strOf_put (m := [240 + r / 262144, 128 + r / 4096 % 64, 128 + r / 64 % 64, 128 + r % 64])]
        show [Go.bits .or .u8 (((r / 262144 : Nat) : Int) % 256) 240, ((128 + r / 4096 % 64 : Nat) : Int), ((128 + r / 64 % 64 : Nat) : Int), ((128 + r % 64 : Nat) : Int)] = _
        rw [show ((r / 262144 : Nat) : Int) % 256 = ((r / 262144 : Nat) : Int) by omega, or240 ⟨r / 262144, by omega⟩]; rfl
theorem put_total (r : Int) (k : Nat) : (okR r ∧ utf_Put.f (k + 5) r = some (putB r.toNat, 0)) ∨ (¬ okR r ∧ utf_Put.f (k + 5) r = some ((⟨#[]⟩ : ByteArray), 1)) := by
  by_cases h : okR r
  · obtain ⟨n, rfl⟩ : ∃ n : Nat, r = (n : Int) := ⟨r.toNat, by unfold okR at h; omega⟩
    exact .inl ⟨h, by rw [put_ok h k]; rfl⟩
  · exact .inr ⟨h, put_bad h (k + 4)⟩
end Go.Proofs.Ytognddakkfdifaa.PUtfReads
