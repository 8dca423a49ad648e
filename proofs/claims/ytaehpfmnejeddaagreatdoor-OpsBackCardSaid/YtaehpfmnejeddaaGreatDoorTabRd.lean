import Derived.Test.YtaehpfmnejeddaaGreatDoorF3
import Derived.Test.YtaehpfmnejeddaaGreatDoorF4
import Derived.Test.YtaehpfmnejeddaaGreatDoorF9
import Derived.Test.YtaehpfmnejeddaaGreatDoorF12
import Derived.Test.YtaehpfmnejeddaaGreatDoorTab
import Derived.Test.YtaehpfmnejeddaaGreatDoorKeyRdR

/- Tables as bytes, read: the program's and the document's ways. -/
namespace Go.Proofs.YtaehpfmnejeddaaGreatDoor.Aev
open Go
set_option linter.unusedVariables false
set_option linter.unusedSimpArgs false
set_option maxRecDepth 100000
def c0 : C := (mL [], 0, false, (0, 0, 0, mL [], ()), ())
def colV (nm : List UInt8) (n : Nat) (b : UInt8) (q : KR) : C := (mL nm, (n : Int), (b.toNat : Int) == 1, (q.1, q.2.1, (q.2.2.1 : Int), mL q.2.2.2.1, ()), ())
noncomputable def colR3 (nm : List UInt8) (n : Nat) : List UInt8 → C × List UInt8 × Int
 | [] => (c0, [], 3)
 | b :: r => if 1 < b.toNat then (c0, [], 4) else if (kread r).2.2.2.2.2 ≠ 0 then (c0, [], (kread r).2.2.2.2.2) else (colV nm n b (kread r), (kread r).2.2.2.2.1, 0)
noncomputable def colR2 (nm : List UInt8) (l : List UInt8) : C × List UInt8 × Int :=
 if (rdL l 0 0).2.2 ≠ 0 then (c0, [], (rdL l 0 0).2.2) else if 100 < (rdL l 0 0).1 then (c0, [], 1) else colR3 nm (rdL l 0 0).1 (rdL l 0 0).2.1
noncomputable def colR (l : List UInt8) : C × List UInt8 × Int := if (rdT l).2.2 ≠ 0 then (c0, [], (rdT l).2.2) else colR2 (rdT l).1 (rdT l).2.1
noncomputable def colsR : Nat → List UInt8 → List C × List UInt8 × Int
 | 0, l => ([], l, 0)
 | m + 1, l => if (colR l).2.2 ≠ 0 then ([], [], (colR l).2.2) else ((colR l).1 :: (colsR m (colR l).2.1).1, (colsR m (colR l).2.1).2.1, (colsR m (colR l).2.1).2.2)
abbrev TR : Type := ByteArray × Int × List C × ByteArray × Int
def tbad (e : Int) : TR := (mL [], 0, [], mL [], e)
noncomputable def fin (nm : ByteArray) (a : Int) (cols : List C) (q : List C × List UInt8 × Int) : TR :=
 if q.2.2 ≠ 0 then tbad q.2.2 else if tabS nm a (cols ++ q.1) ≠ 0 then tbad (tabS nm a (cols ++ q.1)) else (nm, a, cols ++ q.1, mL q.2.1, 0)
noncomputable def tabR (l : List UInt8) : TR :=
 if (rdT l).2.2 ≠ 0 then tbad (rdT l).2.2 else
 if (rdL (rdT l).2.1 0 0).2.2 ≠ 0 then tbad (rdL (rdT l).2.1 0 0).2.2 else if 100 < (rdL (rdT l).2.1 0 0).1 then tbad 1 else
 if (rdL (rdL (rdT l).2.1 0 0).2.1 0 0).2.2 ≠ 0 then tbad (rdL (rdL (rdT l).2.1 0 0).2.1 0 0).2.2 else if 8 < (rdL (rdL (rdT l).2.1 0 0).2.1 0 0).1 then tbad 2 else
 fin (mL (rdT l).1) ((rdL (rdT l).2.1 0 0).1 : Int) [] (colsR (rdL (rdL (rdT l).2.1 0 0).2.1 0 0).1 (rdL (rdL (rdT l).2.1 0 0).2.1 0 0).2.1)
theorem nn {x : Int} (h : x = 0) : ¬ x ≠ 0 := fun g => g h
/-! how long -/
theorem rdT_lenT (l : List UInt8) : (rdT l).2.1.length ≤ l.length := by
 have := rdL_len l 0 0
 unfold rdT
 split
 ·simp
 ·split
  ·simp
  ·simp only [List.length_drop]; omega
theorem colR_len {l : List UInt8} (h : (colR l).2.2 = 0) : (colR l).2.1.length ≤ l.length ∧ FewC (colR l).1 := by
 have h1 := rdT_lenT l
 have h2 := rdL_len (rdT l).2.1 0 0
 unfold colR at h ⊢
 split at h
 ·rename_i h3; exact absurd h h3
 ·rename_i h3
  rw [if_neg h3]
  unfold colR2 at h ⊢
  split at h
  ·rename_i h3; exact absurd h h3
  ·rename_i h3
   rw [if_neg h3]
   split at h
   ·simp at h
   ·rename_i h4
    rw [if_neg h4]
    generalize (rdL (rdT l).2.1 0 0).1 = n at *
    generalize (rdL (rdT l).2.1 0 0).2.1 = r at *
    cases r with
    | nil => simp [colR3] at h
    | cons b r =>
     simp only [colR3] at h ⊢
     split at h
     ·simp at h
     ·rename_i h5
      rw [if_neg h5]
      split at h
      ·rename_i h6; exact absurd h h6
      ·rename_i h6
       rw [if_neg h6]
       have := kread_len (l := r) (by simpa using h6)
       simp only [List.length_cons] at h2
       exact ⟨by simp only; omega, (kread r).2.2.1, rfl, kread_lt r⟩
/-! the program's reader -/
theorem fail_0 (c : Int) (s : ByteArray) (k : Nat) : schema_reader_fail.f k c s 0 = some (s, c) := rfl
theorem fail_e {e : Int} (h : e ≠ 0) (c : Int) (s : ByteArray) (k : Nat) : schema_reader_fail.f k c s e = some (s, e) := by
 simp only [schema_reader_fail.f, schema_reader_fail.c, beq_eq_false_iff_ne.2 h, cond_false]
theorem text_0 (l : List UInt8) (hl : l.length ≤ 100000) {k : Nat} (hk : 40 ≤ k) : schema_reader_text.f k (mL l) 0 = some (mL (rdT l).1, mL (rdT l).2.1, (rdT l).2.2) := by
 simp only [schema_reader_text.f, schema_reader_text.c, bne_self_eq_false, cond_false, mL, readtext_f l (by omega) k hk, Option.bind_some, rdt3]
theorem text_e {e : Int} (h : e ≠ 0) (s : ByteArray) (k : Nat) : schema_reader_text.f k s e = some (mL [], s, e) := by
 simp only [schema_reader_text.f, schema_reader_text.c, bne_iff_ne.2 h, cond_true]
theorem uint_0 (M : Nat) (ab : Int) (l : List UInt8) (hl : l.length ≤ 100000) {k : Nat} (hk : 40 ≤ k) (hM : M ≤ 1000) : schema_reader_uint.f k (M : Int) ab (mL l) 0 =
  some (if M < (rdL l 0 0).1 then (0, mL (rdL l 0 0).2.1, if (rdL l 0 0).2.2 = 0 then ab else (rdL l 0 0).2.2) else (((rdL l 0 0).1 : Int), mL (rdL l 0 0).2.1, (rdL l 0 0).2.2)) := by
 simp only [schema_reader_uint.f, schema_reader_uint.c, bne_self_eq_false, cond_false, mL, readuint_f l (by omega) k hk, Option.bind_some, rd3]
 by_cases c : M < (rdL l 0 0).1
 ·have c' : ((rdL l 0 0).1 : Int) > (M : Int) := by omega
  rw [if_pos c]
  by_cases c2 : (rdL l 0 0).2.2 = 0
  ·simp only [c', c2, fail_0, decide_true, cond_true, if_true, Option.bind_some]
  ·simp only [c', c2, fail_e c2, decide_true, cond_true, if_false, Option.bind_some]
 ·have c' : ¬ ((rdL l 0 0).1 : Int) > (M : Int) := by omega
  rw [if_neg c]
  simp only [c', decide_false, cond_false]
  rw [i64w (by omega) (by omega)]
theorem uint_e {e : Int} (h : e ≠ 0) (M ab : Int) (s : ByteArray) (k : Nat) : schema_reader_uint.f k M ab s e = some (0, s, e) := by
 simp only [schema_reader_uint.f, schema_reader_uint.c, bne_iff_ne.2 h, cond_true]
theorem flag_e {e : Int} (h : e ≠ 0) (s : ByteArray) (k : Nat) : schema_reader_flag.f k s e = some (false, s, e) := by
 simp only [schema_reader_flag.f, schema_reader_flag.c, bne_iff_ne.2 h, cond_true]
theorem flag_nil (k : Nat) : schema_reader_flag.f k (mL []) 0 = some (false, mL [], 3) := by
 simp only [schema_reader_flag.f, schema_reader_flag.c, bne_self_eq_false, cond_false, mL, ba_toList, beq_self_eq_true, cond_true, fail_0, Option.bind_some]
theorem flag_cons (b : UInt8) (r : List UInt8) (k : Nat) : schema_reader_flag.f k (mL (b :: r)) 0 = some (if 1 < b.toNat then (false, mL (b :: r), 4) else ((b.toNat : Int) == 1, mL r, 0)) := by
 have hne : ((b :: r) == ([] : List UInt8)) = false := rfl
 have l0 : (0 : Int) < (((b :: r).length : Nat) : Int) := by rw [List.length_cons]; omega
 have l1 : (1 : Int) ≤ (((b :: r).length : Nat) : Int) := by rw [List.length_cons]; omega
 have l2 : (((b :: r).length : Nat) : Int) ≤ (((b :: r).length : Nat) : Int) := Int.le_refl _
 have hd : (b :: r).drop 1 = r := rfl
 simp only [schema_reader_flag.f, schema_reader_flag.c, bne_self_eq_false, cond_false, mL, ba_toList, hne, ba_size, l0, l1, l2, ba_bt0, ba_dropl, hd, decide_true, Bool.and_self, cond_true]
 by_cases c : 1 < b.toNat
 ·have c' : (b.toNat : Int) > 1 := by omega
  rw [if_pos c]
  simp only [c', decide_true, cond_true, fail_0, Option.bind_some]
 ·have c' : ¬ (b.toNat : Int) > 1 := by omega
  rw [if_neg c]
  simp only [c', decide_false, cond_false]
theorem value_e {e : Int} (h : e ≠ 0) (s : ByteArray) (k : Nat) : schema_reader_value.f k s e = some (0, 0, 0, mL [], s, e) := by
 simp only [schema_reader_value.f, schema_reader_value.c, bne_iff_ne.2 h, cond_true]
theorem value_0 (l : List UInt8) (hl : l.length ≤ 95000) {k : Nat} (hk : 200000 ≤ k) : schema_reader_value.f k (mL l) 0 = some (kenc (kread l)) := by
 simp only [schema_reader_value.f, schema_reader_value.c, bne_self_eq_false, cond_false, mL, kread_eq l (by omega) k (by omega), Option.bind_some]
theorem sread_step (n i : Int) (hi : i < n) (x2 : ByteArray) (x3 : Int) (nm : ByteArray) (a : Int) (cols : List C) (hc : cols.length ≤ 100) (l : List UInt8) (hl : l.length ≤ 95000) {k : Nat} (hk : 200000 ≤ k) :
  ((colR l).2.2 = 0 → schema_Read.s0 (k + 1) n i x2 x3 (mL l) 0 nm a cols = schema_Read.s0 k n (IntKind.wrap IntKind.i64 (i + 1)) x2 x3 (mL (colR l).2.1) 0 nm a (cols ++ [(colR l).1])) ∧
  ((colR l).2.2 ≠ 0 → ∃ c r, schema_Read.s0 (k + 1) n i x2 x3 (mL l) 0 nm a cols = schema_Read.s0 k n (IntKind.wrap IntKind.i64 (i + 1)) x2 x3 r (colR l).2.2 nm a (cols ++ [c])) := by
 have g : (cols.length + 1) * 72 ≤ 35184372088832 := by omega
 have hl1 := rdT_lenT l
 have hl2 := rdL_len (rdT l).2.1 0 0
 have hM := uint_0 100 1 (rdT l).2.1 (by omega) (k := k) (by omega) (by omega)
 have hM' : schema_reader_uint.f k 100 1 (mL (rdT l).2.1) 0 = _ := hM
 have e100 : ((100 : Nat) : Int) = 100 := rfl
 simp only [schema_Read.s0, schema_Read.s0c, hi, g, decide_true, cond_true, text_0 l (by omega) (k := k) (by omega), Option.bind_some, Option.bind_fun_some]
 unfold colR
 by_cases c1 : (rdT l).2.2 = 0
 ·rw [if_neg (nn c1)]
  rw [c1]
  simp only [hM', Option.bind_some]
  unfold colR2
  by_cases c2 : (rdL (rdT l).2.1 0 0).2.2 = 0
  ·rw [if_neg (nn c2)]
   by_cases c3 : 100 < (rdL (rdT l).2.1 0 0).1
   ·rw [if_pos c3]
    have e1 : (1 : Int) ≠ 0 := by decide
    simp only [c2, c3, if_true, flag_e e1, value_e e1, Option.bind_some]
    exact ⟨fun h => absurd h e1, fun _ => ⟨_, _, rfl⟩⟩
   ·rw [if_neg c3]
    simp only [c2, c3, if_false]
    generalize (rdL (rdT l).2.1 0 0).1 = N at *
    generalize (rdL (rdT l).2.1 0 0).2.1 = R at *
    cases R with
    | nil =>
     have e1 : (3 : Int) ≠ 0 := by decide
     simp only [flag_nil, value_e e1, Option.bind_some, colR3]
     exact ⟨fun h => absurd h e1, fun _ => ⟨_, _, rfl⟩⟩
    | cons b r =>
     simp only [flag_cons, Option.bind_some, colR3]
     by_cases c4 : 1 < b.toNat
     ·have e1 : (4 : Int) ≠ 0 := by decide
      simp only [c4, if_true, value_e e1, Option.bind_some]
      exact ⟨fun h => absurd h e1, fun _ => ⟨_, _, rfl⟩⟩
     ·simp only [List.length_cons] at hl2
      simp only [c4, if_false, value_0 r (by omega) hk, Option.bind_some, kenc]
      by_cases c5 : (kread r).2.2.2.2.2 = 0
      ·rw [if_neg (nn c5)]
       rw [c5]
       exact ⟨fun _ => rfl, fun h => absurd rfl h⟩
      ·rw [if_pos c5]
       exact ⟨fun h => absurd h c5, fun _ => ⟨_, _, rfl⟩⟩
  ·rw [if_pos c2]
   by_cases c3 : 100 < (rdL (rdT l).2.1 0 0).1
   ·simp only [c2, c3, if_true, if_false, flag_e c2, value_e c2, Option.bind_some]
    exact ⟨fun h => h.elim, fun _ => ⟨_, _, rfl⟩⟩
   ·simp only [c2, c3, if_false, flag_e c2, value_e c2, Option.bind_some]
    exact ⟨fun h => h.elim, fun _ => ⟨_, _, rfl⟩⟩
 ·rw [if_pos c1]
  simp only [uint_e c1, flag_e c1, value_e c1, Option.bind_some]
  exact ⟨fun h => absurd h c1, fun _ => ⟨_, _, rfl⟩⟩
theorem sread_bad {e : Int} (h : e ≠ 0) (x2 : ByteArray) (x3 : Int) (nm : ByteArray) (a : Int) (n : Nat) (hn : n ≤ 8) : ∀ (m i : Nat) (cols : List C) (r : ByteArray), i + m = n → cols.length ≤ i → ∀ k, m + 2 ≤ k → schema_Read.s0 k (n : Int) (i : Int) x2 x3 r e nm a cols = some (x2, x3, [], x2, e) ∨ schema_Read.s0 k (n : Int) (i : Int) x2 x3 r e nm a cols = some (tbad e) := by
 intro m
 induction m with
 | zero =>
  intro i cols r hi hc k hk
  obtain ⟨k, rfl⟩ : ∃ j, k = j + 1 + 1 := ⟨k - 2, by omega⟩
  have e0 : ¬ (i : Int) < (n : Int) := by omega
  right
  simp only [schema_Read.s0, schema_Read.s0c, schema_Read.s1, schema_Read.s1c, e0, decide_false, cond_false, beq_eq_false_iff_ne.2 h, bne_iff_ne.2 h, cond_true, Option.bind_fun_some]; rfl
 | succ m ih =>
  intro i cols r hi hc k hk
  obtain ⟨k, rfl⟩ : ∃ j, k = j + 1 := ⟨k - 1, by omega⟩
  have e0 : (i : Int) < (n : Int) := by omega
  have e2 : IntKind.wrap IntKind.i64 ((i : Int) + 1) = ((i + 1 : Nat) : Int) := by rw [i64w (by omega) (by omega)]; omega
  have g : (cols.length + 1) * 72 ≤ 35184372088832 := by omega
  simp only [schema_Read.s0, schema_Read.s0c, e0, e2, g, decide_true, cond_true, text_e h, uint_e h, flag_e h, value_e h, Option.bind_some, Option.bind_fun_some]
  exact ih (i + 1) _ _ (by omega) (by rw [List.length_append, List.length_singleton]; omega) k (by omega)
theorem fin_cons (nm : ByteArray) (a : Int) (cols : List C) (c : C) (q : List C × List UInt8 × Int) : fin nm a cols (c :: q.1, q.2.1, q.2.2) = fin nm a (cols ++ [c]) q := by
 unfold fin
 simp only [List.append_assoc, List.cons_append, List.nil_append]
theorem fin_bad (nm : ByteArray) (a : Int) (cols : List C) {e : Int} (h : e ≠ 0) : fin nm a cols ([], [], e) = tbad e := by
 unfold fin; rw [if_pos h]
theorem sread_s0 (nm : ByteArray) (a : Int) (n : Nat) (hn : n ≤ 8) : ∀ (m i : Nat) (cols : List C) (l : List UInt8), i + m = n → cols.length = i → (∀ c ∈ cols, FewC c) → l.length ≤ 95000 → ∀ k, m + 200010 ≤ k →
  schema_Read.s0 k (n : Int) (i : Int) (mL []) 0 (mL l) 0 nm a cols = some (fin nm a cols (colsR m l)) := by
 intro m
 induction m with
 | zero =>
  intro i cols l hi hc hf hl k hk
  obtain ⟨k, rfl⟩ : ∃ j, k = j + 1 + 1 := ⟨k - 2, by omega⟩
  have e0 : ¬ (i : Int) < (n : Int) := by omega
  simp only [schema_Read.s0, schema_Read.s0c, schema_Read.s1, schema_Read.s1c, e0, decide_false, cond_false, beq_self_eq_true, cond_true, scheck_f nm a (l := cols) ⟨by omega, hf⟩ (k := k + 1) (by omega), fail_0, Option.bind_some, Option.bind_fun_some, colsR, fin, List.append_nil, ne_eq, not_true, if_false, bne_dec]
  by_cases c : tabS nm a cols = 0
  ·simp only [c, decide_true, Bool.not_true, cond_false, not_true, if_false]
  ·simp only [c, decide_false, Bool.not_false, cond_true, not_false_iff, if_true]; rfl
 | succ m ih =>
  intro i cols l hi hc hf hl k hk
  obtain ⟨k, rfl⟩ : ∃ j, k = j + 1 := ⟨k - 1, by omega⟩
  have e2 : IntKind.wrap IntKind.i64 ((i : Int) + 1) = ((i + 1 : Nat) : Int) := by rw [i64w (by omega) (by omega)]; omega
  obtain ⟨h1, h2⟩ := sread_step (n : Int) (i : Int) (by omega) (mL []) 0 nm a cols (by omega) l hl (k := k) (by omega)
  rw [e2] at h1 h2
  simp only [colsR]
  by_cases c : (colR l).2.2 = 0
  ·obtain ⟨f1, f2⟩ := colR_len c
   rw [if_neg (nn c), h1 c, fin_cons]
   exact ih (i + 1) _ _ (by omega) (by rw [List.length_append, List.length_singleton]; omega) (fun d hd => by
    rcases List.mem_append.1 hd with hd | hd
    ·exact hf d hd
    ·rw [List.mem_singleton.1 hd]; exact f2) (by omega) k (by omega)
  ·obtain ⟨d, r, h3⟩ := h2 c
   rw [if_pos c, h3, fin_bad nm a cols c]
   rcases sread_bad c (mL []) 0 nm a n hn m (i + 1) (cols ++ [d]) r (by omega) (by rw [List.length_append, List.length_singleton]; omega) k (by omega) with h4 | h4
   ·exact h4
   ·exact h4
theorem sread_f (l : List UInt8) (hl : l.length ≤ 95000) (k : Nat) (hk : 210000 ≤ k) : schema_Read.f k (mL l) = some (tabR l) := by
 have hl1 := rdT_lenT l
 have hl2 := rdL_len (rdT l).2.1 0 0
 have hl3 := rdL_len (rdL (rdT l).2.1 0 0).2.1 0 0
 have hM : schema_reader_uint.f k 100 1 (mL (rdT l).2.1) 0 = _ := uint_0 100 1 (rdT l).2.1 (by omega) (k := k) (by omega) (by omega)
 have hM2 : schema_reader_uint.f k 8 2 (mL (rdL (rdT l).2.1 0 0).2.1) 0 = _ := uint_0 8 2 (rdL (rdT l).2.1 0 0).2.1 (by omega) (k := k) (by omega) (by omega)
 have bad : ∀ (e : Int), e ≠ 0 → ∀ (n : Nat), n ≤ 8 → ∀ nm a r, schema_Read.s0 k (n : Int) 0 (mL []) 0 r e nm a [] = some (tbad e) := fun e he n hn nm a r => by
  rcases sread_bad he (mL []) 0 nm a n hn n 0 [] r (by omega) (by simp) k (by omega) with h | h
  ·exact h
  ·exact h
 simp only [schema_Read.f, schema_Read.c, text_0 l (by omega) (k := k) (by omega), Option.bind_some, Option.bind_fun_some]
 unfold tabR
 by_cases c1 : (rdT l).2.2 = 0
 ·rw [if_neg (nn c1), c1]
  simp only [hM, Option.bind_some]
  by_cases c2 : (rdL (rdT l).2.1 0 0).2.2 = 0
  ·rw [if_neg (nn c2)]
   by_cases c3 : 100 < (rdL (rdT l).2.1 0 0).1
   ·rw [if_pos c3]
    simp only [c2, c3, if_true, uint_e (show (1 : Int) ≠ 0 by decide), Option.bind_some]
    exact bad 1 (by decide) 0 (by omega) _ _ _
   ·rw [if_neg c3]
    simp only [c2, c3, if_false, hM2, Option.bind_some]
    by_cases c4 : (rdL (rdL (rdT l).2.1 0 0).2.1 0 0).2.2 = 0
    ·rw [if_neg (nn c4)]
     by_cases c5 : 8 < (rdL (rdL (rdT l).2.1 0 0).2.1 0 0).1
     ·rw [if_pos c5]
      simp only [c4, c5, if_true]
      exact bad 2 (by decide) 0 (by omega) _ _ _
     ·rw [if_neg c5]
      simp only [c4, c5, if_false]
      exact sread_s0 _ _ _ (by omega) _ 0 [] _ (by omega) rfl (by simp) (by omega) k (by omega)
    ·rw [if_pos c4]
     by_cases c5 : 8 < (rdL (rdL (rdT l).2.1 0 0).2.1 0 0).1
     ·simp only [c4, c5, if_true, if_false]
      exact bad _ c4 0 (by omega) _ _ _
     ·simp only [c4, c5, if_false]
      exact bad _ c4 _ (by omega) _ _ _
  ·rw [if_pos c2]
   by_cases c3 : 100 < (rdL (rdT l).2.1 0 0).1
   ·simp only [c2, c3, if_true, if_false, uint_e c2, Option.bind_some]
    exact bad _ c2 0 (by omega) _ _ _
   ·simp only [c2, c3, if_false, uint_e c2, Option.bind_some]
    exact bad _ c2 0 (by omega) _ _ _
 ·rw [if_pos c1]
  simp only [uint_e c1, Option.bind_some]
  exact bad _ c1 0 (by omega) _ _ _
/-! the document's -/
end Go.Proofs.YtaehpfmnejeddaaGreatDoor.Aev
