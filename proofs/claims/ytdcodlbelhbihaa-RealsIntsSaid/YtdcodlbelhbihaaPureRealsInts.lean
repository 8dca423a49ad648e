/- RealsInts: the real that any number is, and the number that any real is, or that there is none, are what the document says. For every input; no conditions. -/
import Derived.Test.YtdcodlbelhbihaaPRealsIntsx3
import Derived.Test.YtdcodlbelhbihaaBRealsIntsRealsInt
import Derived.Test.YtdcodlbelhbihaaBRealsIntsRealsClass
namespace Go.Proofs.Ytdcodlbelhbihaa.Pure
set_option linter.unusedVariables false
set_option linter.unusedSimpArgs false
open Go.RowKit Go.Proofs.Ytdcodlbelhbihaa.PRealsInts Go.Proofs.YtdcodlbelhbihaaW.PrintWords Go.Proofs.YtdcodlbelhbihaaW.PrintLast Go.Proofs.YtdcodlbelhbihaaW.PrintMore
open Go.Proofs.Ytdcodlbelhbihaa.Plain

theorem shr_nat {m i : Nat} (h : i ≤ 64) : shr .u64 (m : Int) (i : Int) = ((m / 2 ^ i : Nat) : Int) := by
  unfold shr
  rw [Int.toNat_natCast, Nat.min_eq_left (show i ≤ IntKind.u64.bits from h), Int.natCast_ediv, Int.natCast_pow]; rfl
theorem shl_nat {m i : Nat} (h : i ≤ 64) (hm : m * 2 ^ i < 18446744073709551616) : shl .u64 (m : Int) (i : Int) = ((m * 2 ^ i : Nat) : Int) := by
  unfold shl
  have e : (m : Int) * 2 ^ i = ((m * 2 ^ i : Nat) : Int) := by rw [Int.natCast_mul, Int.natCast_pow]; rfl
  rw [Int.toNat_natCast, Nat.min_eq_left (show i ≤ IntKind.u64.bits from h), e, u64id (by omega) (by omega)]
/-- The bits of a sign, an exponent and a significand. -/
theorem parts (s : Bool) {e f : Nat} (he : e < 2048) (hf : f < 4503599627370496) :
    Go.bits .or .u64 (Go.bits .or .u64 ((if s = true then 9223372036854775808 else 0 : Nat) : Int) ((e * 4503599627370496 : Nat) : Int)) (f : Int) = (((if s = true then 9223372036854775808 else 0) + e * 4503599627370496 + f : Nat) : Int) := by
  have h1 : Go.bits .or .u64 ((if s = true then 9223372036854775808 else 0 : Nat) : Int) ((e * 4503599627370496 : Nat) : Int) = (((if s = true then 2048 else 0) + e) * 2 ^ 52 : Nat) := by
    cases s
    · simp only [Bool.false_eq_true, if_false]
      rw [Go.u64_or_nat 0 (e * 4503599627370496) (by omega) (by omega), Nat.zero_or, Nat.zero_add]
    · simp only [if_true]
      have := or_sum (a := 1) (b := e * 4503599627370496) (j := 63) (by omega) (by omega)
      have e1 : (1 * 2 ^ 63 : Nat) = 9223372036854775808 := by omega
      rw [e1] at this
      rw [this]
      omega
  rw [h1, or_sum (a := (if s = true then 2048 else 0) + e) (b := f) (j := 52) hf (by split <;> omega)]
  congr 1
  split <;> omega

def fin (s : Bool) (m : Nat) : Option (Int × Bool) := some (if Fl.exact m = true then ((((if s = true then 9223372036854775808 else 0) + Fl.near m : Nat) : Int), true) else (0, false))
theorem fin_eq (s : Bool) {m : Nat} (h0 : m ≠ 0) (h : m < 18446744073709551616) (k i : Nat) (hi : 64 ≤ i) :
    transomref02_FromInt.l0 (k + 1) ((if s = true then 9223372036854775808 else 0 : Nat) : Int) (m : Int) (m.log2 : Int) (i : Int) = fin s m := by
  have hl := Fl.log2_64 h h0
  have hk := Fl.kept_range h0
  have hn : Fl.near m = (m.log2 + 1022) * 4503599627370496 + Fl.kept m := by unfold Fl.near; rw [if_neg h0]
  have hexp : IntKind.u64.wrap ((IntKind.u64.wrap (wrap64 ((m.log2 : Int) + 1023))) * 4503599627370496) = (((m.log2 + 1023) * 4503599627370496 : Nat) : Int) := by
    rw [w64id (n := (m.log2 : Int) + 1023) (by omega) (by omega), u64id (n := (m.log2 : Int) + 1023) (by omega) (by omega), u64id (by omega) (by omega)]; omega
  rw [transomref02_FromInt.l0, if_neg (by omega)]
  by_cases c : m.log2 ≤ 52
  · have e1 : wrap64 (52 - (m.log2 : Int)) = ((52 - m.log2 : Nat) : Int) := by rw [w64id (by omega) (by omega)]; omega
    have hx : Fl.exact m = true := by unfold Fl.exact; simp [c]
    have hkp : Fl.kept m = m * 2 ^ (52 - m.log2) := by unfold Fl.kept; rw [if_pos c]
    have hlt : m * 2 ^ (52 - m.log2) < 9007199254740992 := by
      have h2 := Fl.log2_hi m
      have e2 : 2 ^ (m.log2 + 1) * 2 ^ (52 - m.log2) = 9007199254740992 := by rw [← Nat.pow_add]; rw [show m.log2 + 1 + (52 - m.log2) = 53 by omega]
      have := Nat.mul_lt_mul_of_pos_right h2 (Nat.two_pow_pos (52 - m.log2))
      omega
    rw [if_neg (by omega), e1, u64id (by omega) (by omega), if_pos (by omega), shl_nat (by omega) (by omega), and_52 (by omega), hexp, parts s (by omega) (by omega)]
    unfold fin
    rw [if_pos hx, hn]
    have : m * 2 ^ (52 - m.log2) % 4503599627370496 = Fl.kept m - 4503599627370496 := by rw [← hkp]; omega
    generalize (if s = true then 9223372036854775808 else 0 : Nat) = A
    have e9 : A + (m.log2 + 1023) * 4503599627370496 + m * 2 ^ (52 - m.log2) % 4503599627370496 = A + ((m.log2 + 1022) * 4503599627370496 + Fl.kept m) := by omega
    rw [e9]
  · have e1 : wrap64 ((m.log2 : Int) - 52) = ((m.log2 - 52 : Nat) : Int) := by rw [w64id (by omega) (by omega)]; omega
    have hp : 0 < 2 ^ (m.log2 - 52) := Nat.two_pow_pos _
    have hp11 : 2 ^ (m.log2 - 52) ≤ 2 ^ 11 := Nat.pow_le_pow_right (by omega) (by omega)
    have es : shl .u64 1 ((m.log2 - 52 : Nat) : Int) = ((2 ^ (m.log2 - 52) : Nat) : Int) := by
      have := shl_nat (m := 1) (i := m.log2 - 52) (by omega) (by omega)
      rw [Nat.one_mul] at this
      exact this
    have em : IntKind.u64.wrap ((((2 ^ (m.log2 - 52) : Nat) : Int)) - 1) = ((2 ^ (m.log2 - 52) - 1 : Nat) : Int) := by rw [u64id (by omega) (by omega)]; omega
    rw [if_pos (by omega), e1, u64id (by omega) (by omega), if_pos (by omega), es, em, and_mask (j := m.log2 - 52) rfl h (by omega), shr_nat (by omega), and_52 (by have := Nat.div_le_self m (2 ^ (m.log2 - 52)); omega), hexp, parts s (by omega) (by omega)]
    unfold fin
    by_cases r : m % 2 ^ (m.log2 - 52) = 0
    · have hx : Fl.exact m = true := by unfold Fl.exact; simp [r]
      have hkp : Fl.kept m = m / 2 ^ (m.log2 - 52) := by unfold Fl.kept; rw [if_neg c, if_neg (by omega)]; omega
      have hlt : m / 2 ^ (m.log2 - 52) < 9007199254740992 := by
        have h2 := Fl.log2_hi m
        have e2 : 2 ^ (m.log2 + 1) = 9007199254740992 * 2 ^ (m.log2 - 52) := by
          rw [show (9007199254740992 : Nat) = 2 ^ 53 from rfl, ← Nat.pow_add]; congr 1; omega
        exact (Nat.div_lt_iff_lt_mul hp).2 (by omega)
      have : m / 2 ^ (m.log2 - 52) % 4503599627370496 = Fl.kept m - 4503599627370496 := by rw [← hkp]; omega
      generalize (if s = true then 9223372036854775808 else 0 : Nat) = A
      have e9 : A + (m.log2 + 1023) * 4503599627370496 + m / 2 ^ (m.log2 - 52) % 4503599627370496 = A + ((m.log2 + 1022) * 4503599627370496 + Fl.kept m) := by omega
      rw [r, if_pos (by omega), if_pos hx, hn, e9]
    · have hx : ¬ Fl.exact m = true := by unfold Fl.exact; simp [c, r]
      rw [if_neg (by omega), if_neg hx]
theorem bit_at {m i : Nat} (h : m < 18446744073709551616) (hi : i ≤ 63) : Go.bits .and .u64 (shr .u64 (m : Int) (i : Int)) 1 = ((m / 2 ^ i % 2 : Nat) : Int) := by
  rw [shr_nat (by omega), and_1 (by have := Nat.div_le_self m (2 ^ i); omega)]
theorem above (s : Bool) {m : Nat} (h0 : m ≠ 0) (h : m < 18446744073709551616) : ∀ (d i k : Nat), i + d = 64 → m.log2 < i → d < k →
    transomref02_FromInt.l0 k ((if s = true then 9223372036854775808 else 0 : Nat) : Int) (m : Int) (m.log2 : Int) (i : Int) = fin s m := by
  intro d
  induction d with
  | zero =>
    intro i k hi hl hk
    obtain ⟨k, rfl⟩ : ∃ j, k = j + 1 := ⟨k - 1, by omega⟩
    exact fin_eq s h0 h k i (by omega)
  | succ d ih =>
    intro i k hi hl hk
    obtain ⟨k, rfl⟩ : ∃ j, k = j + 1 := ⟨k - 1, by omega⟩
    have hz : m / 2 ^ i = 0 := Nat.div_eq_of_lt (Nat.lt_of_lt_of_le (Fl.log2_hi m) (Nat.pow_le_pow_right (by omega) (by omega)))
    have e1 : wrap64 ((i : Int) + 1) = ((i + 1 : Nat) : Int) := by rw [w64id (by omega) (by omega)]; omega
    rw [transomref02_FromInt.l0, if_pos (by omega), u64id (by omega) (by omega), if_pos (by omega), bit_at h (by omega), hz, if_neg (by omega), e1]
    exact ih (i + 1) k (by omega) (by omega) (by omega)
theorem upto (s : Bool) {m : Nat} (h0 : m ≠ 0) (h : m < 18446744073709551616) : ∀ (d i k : Nat) (t : Int), i + d = m.log2 → 66 + d ≤ k →
    transomref02_FromInt.l0 k ((if s = true then 9223372036854775808 else 0 : Nat) : Int) (m : Int) t (i : Int) = fin s m := by
  have hl := Fl.log2_64 h h0
  intro d
  induction d with
  | zero =>
    intro i k t hi hk
    obtain ⟨k, rfl⟩ : ∃ j, k = j + 1 := ⟨k - 1, by omega⟩
    obtain rfl : i = m.log2 := by omega
    have ho : m / 2 ^ m.log2 = 1 := by
      have h1 := Fl.log2_lo h0
      have h2 := Fl.log2_hi m
      rw [Nat.pow_succ] at h2
      have hp : 0 < 2 ^ m.log2 := Nat.two_pow_pos _
      have a : 1 ≤ m / 2 ^ m.log2 := (Nat.le_div_iff_mul_le hp).2 (by omega)
      have b : m / 2 ^ m.log2 < 2 := (Nat.div_lt_iff_lt_mul hp).2 (by omega)
      omega
    have e1 : wrap64 ((m.log2 : Int) + 1) = ((m.log2 + 1 : Nat) : Int) := by rw [w64id (by omega) (by omega)]; omega
    rw [transomref02_FromInt.l0, if_pos (by omega), u64id (by omega) (by omega), if_pos (by omega), bit_at h (by omega), ho, if_pos (by omega), e1]
    exact above s h0 h (63 - m.log2) (m.log2 + 1) k (by omega) (by omega) (by omega)
  | succ d ih =>
    intro i k t hi hk
    obtain ⟨k, rfl⟩ : ∃ j, k = j + 1 := ⟨k - 1, by omega⟩
    have e1 : wrap64 ((i : Int) + 1) = ((i + 1 : Nat) : Int) := by rw [w64id (by omega) (by omega)]; omega
    rw [transomref02_FromInt.l0, if_pos (by omega), u64id (by omega) (by omega), if_pos (by omega), bit_at h (by omega), e1]
    split
    · exact ih (i + 1) k _ (by omega) (by omega)
    · exact ih (i + 1) k _ (by omega) (by omega)
theorem reffrom_eq {n : Int} (h0 : -9223372036854775808 ≤ n) (h1 : n ≤ 9223372036854775807) (k : Nat) : transomref02_FromInt.f (k + 140) n = reals_FromInt.f n := by
  rw [from_eq h0 h1]
  unfold transomref02_FromInt.f
  by_cases z : n = 0
  · subst z
    rw [if_pos rfl]; rfl
  · have hm : n.natAbs < 18446744073709551616 := by omega
    have hm0 : n.natAbs ≠ 0 := by omega
    have hl := Fl.log2_64 hm hm0
    have hw := wd_eq hm
    rw [if_neg z]
    have key : ∀ s : Bool, (s = true ↔ n < 0) → fin s n.natAbs = some (if Fl.exact n.natAbs = true then ((wd n : Int), true) else (0, false)) := by
      intro s hs
      unfold fin
      rw [hw]
      cases s
      · rw [if_neg (show ¬ n < 0 by intro q; exact absurd (hs.2 q) (by simp))]; simp
      · rw [if_pos (hs.1 rfl)]; simp
    by_cases c : n < 0
    · have e : IntKind.u64.wrap (-(IntKind.u64.wrap n)) = (n.natAbs : Int) := by rw [u64w, u64w]; omega
      rw [if_pos c, e, transomref02_FromInt.j0]
      have := upto true hm0 hm n.natAbs.log2 0 (k + 139) 0 (by omega) (by omega)
      rw [← key true (by simp [c])]
      exact this
    · have e : IntKind.u64.wrap n = (n.natAbs : Int) := by rw [u64w]; omega
      rw [if_neg c, e, transomref02_FromInt.j0]
      have := upto false hm0 hm n.natAbs.log2 0 (k + 139) 0 (by omega) (by omega)
      rw [← key false (by simp [c])]
      exact this

/-- A normal word's magnitude without its fraction. -/
theorem T_normal {r : Nat} (h : 4503599627370496 ≤ r) : Fl.T r = (if 1075 ≤ r / 4503599627370496 then (4503599627370496 + r % 4503599627370496) * 2 ^ (r / 4503599627370496 - 1075) else (4503599627370496 + r % 4503599627370496) / 2 ^ (1075 - r / 4503599627370496))
    ∧ (Fl.V r = Fl.T r * 2 ^ Fl.Z ↔ (1075 ≤ r / 4503599627370496 ∨ (4503599627370496 + r % 4503599627370496) % 2 ^ (1075 - r / 4503599627370496) = 0)) := by
  have hq : 1 ≤ r / 4503599627370496 := by omega
  have hZ := Fl.Z_eq
  have hV : Fl.V r = (4503599627370496 + r % 4503599627370496) * 2 ^ (r / 4503599627370496 - 1) := by unfold Fl.V; rw [if_neg (by omega)]
  generalize 4503599627370496 + r % 4503599627370496 = M at hV
  generalize r / 4503599627370496 = q at hq hV
  unfold Fl.T
  rw [hV]
  by_cases c : 1075 ≤ q
  · have e : 2 ^ (q - 1) = 2 ^ (q - 1075) * 2 ^ Fl.Z := by rw [← Nat.pow_add]; congr 1; omega
    rw [if_pos c, e, ← Nat.mul_assoc, Nat.mul_div_cancel _ (Nat.two_pow_pos _)]
    exact ⟨rfl, ⟨fun _ => .inl c, fun _ => rfl⟩⟩
  · have e : 2 ^ Fl.Z = 2 ^ (1075 - q) * 2 ^ (q - 1) := by rw [← Nat.pow_add]; congr 1; omega
    have hp : 0 < 2 ^ (q - 1) := Nat.two_pow_pos _
    rw [if_neg c, e, Nat.mul_div_mul_right _ _ hp]
    refine ⟨rfl, ?_⟩
    rw [← Nat.mul_assoc]
    constructor
    · intro h
      right
      have := Nat.eq_of_mul_eq_mul_right hp h
      rw [this]
      exact Nat.mul_mod_left _ _
    · rintro (h | h)
      · exact absurd h c
      · rw [Nat.div_mul_cancel (Nat.dvd_of_mod_eq_zero h)]
theorem or_lead {f : Nat} (hf : f < 4503599627370496) : Go.bits .or .u64 (f : Int) 4503599627370496 = ((4503599627370496 + f : Nat) : Int) := by
  have h1 := Go.u64_or_nat f 4503599627370496 (by omega) (by omega)
  have h2 := Nat.two_pow_add_eq_or_of_lt (i := 52) hf 1
  have h3 : f ||| 4503599627370496 = 4503599627370496 + f := by rw [Nat.or_comm]; exact h2.symm
  rw [h3] at h1
  exact h1
/-- When is a word a number? -/
theorem is_eq (n : Nat) : reals_ToInt.is n = true ↔ Fl.rung n ≤ Fl.inf ∧ -4890909195324358656 ≤ Fl.key n ∧ Fl.key n < 4890909195324358656 ∧ Fl.V (Fl.rung n) = Fl.T (Fl.rung n) * 2 ^ Fl.Z := by
  unfold reals_ToInt.is
  simp only [Bool.and_eq_true, decide_eq_true_eq]
  constructor
  · rintro ⟨⟨⟨a, b⟩, c⟩, d⟩
    have hk := Fl.rung_key n
    have hx := Fl.T_whole (r := Fl.rung n) (by unfold Fl.inf; omega)
    refine ⟨a, b, c, ?_⟩
    rw [← Fl.V_exact hx, d]
  · rintro ⟨a, b, c, d⟩
    have hk := Fl.rung_key n
    have hx := Fl.T_whole (r := Fl.rung n) (by unfold Fl.inf; omega)
    refine ⟨⟨⟨a, b⟩, c⟩, ?_⟩
    rw [← Fl.V_inj, Fl.V_exact hx, d]
theorem j1_eq {n m : Nat} (h : n < 18446744073709551616) (hm : m < 18446744073709551616) (k : Nat) : transomref02_ToInt.j1 (k + 1) (n : Int) (m : Int) =
    if m ≤ (if 9223372036854775808 ≤ n then 9223372036854775808 else 9223372036854775807) then some (Fl.sg (Fl.neg n) m, true) else some (0, false) := by
  have hneg : Fl.neg n = decide (9223372036854775808 ≤ n) := by
    unfold Fl.neg
    by_cases c : 9223372036854775808 ≤ n
    · rw [decide_eq_true c, beq_iff_eq]; omega
    · rw [decide_eq_false c, beq_eq_false_iff_ne]; omega
  rw [transomref02_ToInt.j1, hneg]
  unfold Fl.sg
  by_cases c : 9223372036854775808 ≤ n
  · rw [if_pos (by omega), decide_eq_true c, if_pos rfl, if_pos c]
    by_cases d : m ≤ 9223372036854775808
    · rw [if_neg (by omega), if_pos d]
      congr 2
      rw [u64w]; unfold wrap64; omega
    · rw [if_pos (by omega), if_neg d]
  · rw [if_neg (by omega), decide_eq_false c, if_neg c]
    simp only [Bool.false_eq_true, if_false]
    by_cases d : m ≤ 9223372036854775807
    · rw [if_neg (by omega), if_pos d, w64id (by omega) (by omega)]
    · rw [if_pos (by omega), if_neg d]
theorem refto_eq {n : Nat} (h : n < 18446744073709551616) (k : Nat) : transomref02_ToInt.f (k + 5) (n : Int) = reals_ToInt.f (n : Int) := by
  have hr := rung_lt n
  have hi : Fl.inf = 9218868437227405312 := rfl
  have his := is_eq n
  have hk := Fl.rung_key n
  have hneg : Fl.neg n = decide (9223372036854775808 ≤ n) := by
    unfold Fl.neg
    by_cases c : 9223372036854775808 ≤ n
    · rw [decide_eq_true c, beq_iff_eq]; omega
    · rw [decide_eq_false c, beq_eq_false_iff_ne]; omega
  have hkey : Fl.key n = if 9223372036854775808 ≤ n then -(Fl.rung n : Int) else (Fl.rung n : Int) := by
    unfold Fl.key; rw [hneg]
    by_cases c : 9223372036854775808 ≤ n
    · rw [decide_eq_true c, if_pos rfl, if_pos c]
    · rw [decide_eq_false c, if_neg (by simp), if_neg c]
  have no : ¬ (reals_ToInt.is n = true) → reals_ToInt.f (n : Int) = some (0, false) := by
    intro q
    unfold reals_ToInt.f
    rw [if_pos (by omega), Int.toNat_natCast, if_neg q]
  have yes : reals_ToInt.is n = true → reals_ToInt.f (n : Int) = some (Fl.sg (Fl.neg n) (Fl.T (Fl.rung n)), true) := by
    intro q
    unfold reals_ToInt.f
    rw [if_pos (by omega), Int.toNat_natCast, if_pos q]
  have T0 : Fl.T 0 = 0 := by unfold Fl.T; rw [Fl.V_zero]; exact Nat.zero_div _
  unfold transomref02_ToInt.f
  rw [refclass_eq h, Option.bind_some]
  unfold classOf
  by_cases c1 : Fl.inf < Fl.rung n
  · rw [if_pos c1, if_neg (by omega), if_neg (by omega), no (fun q => by have := (his.1 q).1; omega)]
  rw [if_neg c1]
  by_cases c2 : Fl.rung n = Fl.inf
  · rw [if_pos c2, if_neg (by omega), if_neg (by omega), no (fun q => by have := his.1 q; omega)]
  rw [if_neg c2]
  by_cases c3 : Fl.rung n = 0
  · rw [if_pos c3, if_pos rfl, yes (his.2 (by rw [c3, T0, Fl.V_zero, Nat.zero_mul]; omega)), c3, T0]
    unfold Fl.sg
    split <;> rfl
  rw [if_neg c3]
  by_cases c4 : Fl.rung n < 4503599627370496
  · rw [if_pos c4, if_neg (by omega), if_neg (by omega), no]
    intro q
    have hv := (his.1 q).2.2.2
    have h2 : Fl.V (Fl.rung n) = Fl.rung n := by unfold Fl.V; rw [if_pos c4]
    have hT : Fl.T (Fl.rung n) = 0 := by
      unfold Fl.T; rw [h2]
      have : 2 ^ 52 ≤ 2 ^ Fl.Z := Nat.pow_le_pow_right (by omega) (by rw [Fl.Z_eq]; omega)
      exact Nat.div_eq_of_lt (by omega)
    rw [hT, Nat.zero_mul, h2] at hv
    exact c3 hv
  rw [if_neg c4, if_neg (by omega), if_pos rfl, frac_eq h, Option.bind_some, exp_eq h, Option.bind_some]
  obtain ⟨hT, hV⟩ := T_normal (r := Fl.rung n) (by omega)
  have hfl : Fl.rung n % 4503599627370496 < 4503599627370496 := Nat.mod_lt _ (by omega)
  rw [or_lead hfl]
  have hM : 4503599627370496 ≤ 4503599627370496 + Fl.rung n % 4503599627370496 ∧ 4503599627370496 + Fl.rung n % 4503599627370496 < 9007199254740992 := by omega
  have hrq : Fl.rung n = Fl.rung n / 4503599627370496 * 4503599627370496 + Fl.rung n % 4503599627370496 := by omega
  have hq1 : 1 ≤ Fl.rung n / 4503599627370496 := by omega
  have hq2 : Fl.rung n / 4503599627370496 ≤ 2046 := by omega
  generalize hMe : 4503599627370496 + Fl.rung n % 4503599627370496 = M at hT hV hM ⊢
  generalize hqe : Fl.rung n / 4503599627370496 = q at hT hV hrq hq1 hq2 ⊢
  have ew : wrap64 (wrap64 ((q : Int) - 1023) - 52) = (q : Int) - 1075 := by rw [w64id (n := (q : Int) - 1023) (by omega) (by omega), w64id (by omega) (by omega)]; omega
  rw [ew]
  by_cases lo : (q : Int) - 1075 < -52
  · rw [if_pos lo, transomref02_ToInt.j0, if_pos rfl, no]
    intro z
    have hv := (his.1 z).2.2.2
    rcases hV.1 hv with e | e
    · omega
    · have : 2 ^ 53 ≤ 2 ^ (1075 - q) := Nat.pow_le_pow_right (by omega) (by omega)
      rw [Nat.mod_eq_of_lt (by omega)] at e
      omega
  rw [if_neg lo]
  by_cases up : (q : Int) - 1075 > 11
  · rw [decide_eq_true up, transomref02_ToInt.j0, if_pos rfl, no]
    intro z
    have := his.1 z
    omega
  rw [decide_eq_false up, transomref02_ToInt.j0, if_neg (by simp)]
  by_cases sg : (q : Int) - 1075 < 0
  · have e1 : wrap64 (-((q : Int) - 1075)) = ((1075 - q : Nat) : Int) := by rw [w64id (by omega) (by omega)]; omega
    have hp : 0 < 2 ^ (1075 - q) := Nat.two_pow_pos _
    have hp52 : 2 ^ (1075 - q) ≤ 2 ^ 52 := Nat.pow_le_pow_right (by omega) (by omega)
    have es : shl .u64 1 ((1075 - q : Nat) : Int) = ((2 ^ (1075 - q) : Nat) : Int) := by
      have := shl_nat (m := 1) (i := 1075 - q) (by omega) (by omega)
      rw [Nat.one_mul] at this
      exact this
    have em : IntKind.u64.wrap ((((2 ^ (1075 - q) : Nat) : Int)) - 1) = ((2 ^ (1075 - q) - 1 : Nat) : Int) := by rw [u64id (by omega) (by omega)]; omega
    rw [if_pos sg, e1, u64id (by omega) (by omega), if_pos (by omega), es, em, and_mask (j := 1075 - q) rfl (by omega) (by omega), shr_nat (by omega)]
    rw [if_neg (by omega)] at hT
    by_cases r : M % 2 ^ (1075 - q) = 0
    · have hd := Nat.div_le_self M (2 ^ (1075 - q))
      rw [r, if_pos (by omega), j1_eq h (by omega), if_pos (by split <;> omega), yes (his.2 ⟨by omega, by omega, by rw [hkey]; split <;> omega, hV.2 (.inr r)⟩), hT]
    · rw [if_neg (by omega), no]
      intro z
      have hv := (his.1 z).2.2.2
      rcases hV.1 hv with e | e
      · omega
      · exact r e
  · have e1 : (q : Int) - 1075 = ((q - 1075 : Nat) : Int) := by omega
    have hp : 0 < 2 ^ (q - 1075) := Nat.two_pow_pos _
    rw [if_neg sg, e1, u64id (by omega) (by omega), if_pos (by omega)]
    rw [if_pos (by omega)] at hT
    have hb : M * 2 ^ (q - 1075) < 18446744073709551616 := by
      have : 2 ^ (q - 1075) ≤ 2 ^ 11 := Nat.pow_le_pow_right (by omega) (by omega)
      calc M * 2 ^ (q - 1075) ≤ M * 2 ^ 11 := Nat.mul_le_mul_left _ this
        _ < 18446744073709551616 := by omega
    rw [shl_nat (by omega) hb, j1_eq h hb, ← hT]
    have fits : Fl.T (Fl.rung n) ≤ (if 9223372036854775808 ≤ n then 9223372036854775808 else 9223372036854775807) ↔ -4890909195324358656 ≤ Fl.key n ∧ Fl.key n < 4890909195324358656 := by
      rw [hkey, hT]
      rcases Nat.lt_or_ge q 1086 with d | d
      · have h10 : 2 ^ (q - 1075) ≤ 2 ^ 10 := Nat.pow_le_pow_right (by omega) (by omega)
        have hle : M * 2 ^ (q - 1075) ≤ M * 2 ^ 10 := Nat.mul_le_mul_left _ h10
        split <;> constructor <;> intro <;> omega
      · obtain rfl : q = 1086 := by omega
        rw [show 2 ^ (1086 - 1075) = 2048 from rfl]
        split <;> constructor <;> intro <;> omega
    by_cases f : Fl.T (Fl.rung n) ≤ (if 9223372036854775808 ≤ n then 9223372036854775808 else 9223372036854775807)
    · rw [if_pos f, yes (his.2 ⟨by omega, (fits.1 f).1, (fits.1 f).2, hV.2 (.inl (by omega))⟩)]
    · rw [if_neg f, no]
      intro z
      have := his.1 z
      exact f (fits.2 ⟨this.2.1, this.2.2.1⟩)
theorem to_total {n : Nat} (h : n < 18446744073709551616) : ∃ r, reals_ToInt.f (n : Int) = some r := by
  unfold reals_ToInt.f
  rw [if_pos (by omega)]
  split <;> exact ⟨_, rfl⟩
theorem RealsInts : transomlaw02_RealsInts.Pure := by
  intro n b wn wb
  obtain ⟨n0, n1⟩ := wf_i64 wn
  obtain ⟨b, rfl, h⟩ := nat_of wb
  obtain ⟨k, hk⟩ : ∃ k : Nat, 0 ≤ k := ⟨0, by omega⟩
  refine ⟨k + 140, ?_⟩
  unfold transomlaw02_RealsInts.f
  obtain ⟨r, hr⟩ := to_total h
  rw [reffrom_eq n0 n1, from_eq n0 n1, Option.bind_some, Option.bind_some, show k + 140 = k + 135 + 5 by omega, refto_eq h, hr, Option.bind_some, Option.bind_some, if_pos rfl, if_pos (by simp), if_pos rfl, if_pos (by simp), awake_true]; rfl
end Go.Proofs.Ytdcodlbelhbihaa.Pure
