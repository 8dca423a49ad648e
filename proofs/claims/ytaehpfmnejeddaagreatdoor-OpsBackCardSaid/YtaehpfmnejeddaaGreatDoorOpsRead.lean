import Derived.Test.YtaehpfmnejeddaaGreatDoorF4
import Derived.Test.YtaehpfmnejeddaaGreatDoorF5
import Derived.Test.YtaehpfmnejeddaaGreatDoorF12
import Derived.Test.YtaehpfmnejeddaaGreatDoorOpsSame
import Derived.Test.YtaehpfmnejeddaaGreatDoorSuf

/- What is asked, read: the program's and the document's ways. -/
namespace Go.Proofs.YtaehpfmnejeddaaGreatDoor.Aev
open Go
set_option linter.unusedVariables false
set_option linter.unusedSimpArgs false
set_option maxRecDepth 100000
noncomputable def rowS (l : List UInt8) : List V × List UInt8 × Int :=
 if (rdT l).2.2 ≠ 0 then ([], (rdT l).2.1, (rdT l).2.2) else ((readRow (rdT l).1).1, (rdT l).2.1, (readRow (rdT l).1).2)
theorem rdT_len1 (l : List UInt8) : (rdT l).1.length ≤ l.length := by
 have := rdL_len l 0 0
 unfold rdT
 split
 ·simp
 ·split
  ·simp
  ·simp only [List.length_take]; omega
theorem rowS_len (l : List UInt8) : (rowS l).2.1.length ≤ l.length := by
 have := rdT_lenT l
 unfold rowS
 split <;> simpa only using this
theorem rowS_few {l : List UInt8} (h : (rowS l).2.2 = 0) : FewW (rowS l).1 := by
 unfold rowS at h ⊢
 split at h
 ·rename_i h1; exact absurd h h1
 ·rename_i h1
  rw [if_neg h1]
  exact (readRow_once (Prod.ext rfl h)).1
theorem orow_0 (l : List UInt8) (hl : l.length ≤ 90000) (k : Nat) (hk : 1000 ≤ k) : ops_reader_row.f k (mL l) 0 = some ((rowS l).1, mL (rowS l).2.1, (rowS l).2.2) := by
 have hr := otext_0 l (by omega) k (by omega)
 have h1 := rdT_len1 l
 have hR := rowsRead_eq (rdT l).1 (by omega) k (by omega)
 simp only [ops_reader_row.f, ops_reader_row.c, hr, Option.bind_some]
 unfold rowS
 by_cases h : (rdT l).2.2 = 0
 ·rw [if_neg (show ¬ (rdT l).2.2 ≠ 0 from fun g => g h), h]
  simp only [bne_self_eq_false, cond_false]
  rw [show rows_Read.f k (mL (rdT l).1) = some (readRow (rdT l).1) from hR]; rfl
 ·rw [if_pos h]
  simp only [bne_iff_ne.2 h, cond_true]
theorem orow_e {e : Int} (h : e ≠ 0) (s : ByteArray) (k : Nat) : ops_reader_row.f k s e = some ([], s, e) := by
 simp only [ops_reader_row.f, ops_reader_row.c, otext_e h, bne_iff_ne.2 h, cond_true, Option.bind_some]
abbrev QR3 : Type := Oq × ByteArray × Int
def badQ (e : Int) : QR3 := (Z_api_Op, mL [], e)
noncomputable def finO (l : List UInt8) (o : Oq) (r : List UInt8) : QR3 := if (putO o).2 ≠ 0 ∨ (putO o).1 ≠ mL (l.take (l.length - r.length)) then badQ 4 else (o, mL r, 0)
theorem or_s1 (l : List UInt8) (hl : l.length ≤ 1000000) (o : Oq) (ho : FewO o) (r : List UInt8) (hr : r.length ≤ l.length) (k : Nat) (hk : 20000 ≤ k) :
  ops_Read.s1 k (mL l) 0 (mL []) 0 0 (mL []) (mL []) (mL []) (mL []) (mL []) 0 (mL []) 0 false 0 0 0 (mL []) (mL []) 0 (mL r) 0 o = some (finO l o r) := by
 obtain ⟨k, rfl⟩ : ∃ q, k = q + 3 := ⟨k - 3, by omega⟩
 have hp := putO_f ho (k + 2) (by omega)
 have hw : IntKind.wrap .i64 ((l.length : Int) - (r.length : Int)) = ((l.length - r.length : Nat) : Int) := by rw [i64w (by omega) (by omega)]; omega
 have e1 : (0 : Int) ≤ ((l.length - r.length : Nat) : Int) := by omega
 have e2 : ((l.length - r.length : Nat) : Int) ≤ (l.length : Int) := by omega
 have z4 : ((4 : Int) != 0) = true := rfl
 simp only [ops_Read.s1, ops_Read.s1c, ops_Read.s2, ops_Read.s2c, ops_Read.s3, ops_Read.s3c, beq_self_eq_true, cond_true, hp, ba_size, hw, e1, e2, take_pre, tl_dec, ofail_f, if_true, z4, bne_self_eq_false, cond_false, decide_true, Bool.and_self, Option.bind_some, Option.bind_fun_some]
 unfold finO
 by_cases h1 : (putO o).2 = 0
 ·by_cases h2 : (putO o).1 = mL (l.take (l.length - r.length))
  ·rw [if_neg (show ¬ ((putO o).2 ≠ 0 ∨ (putO o).1 ≠ mL (l.take (l.length - r.length))) from fun g => g.elim (fun g => g h1) (fun g => g h2))]
   simp only [h1, bne_self_eq_false, cond_false, h2, decide_true, Bool.not_true]
  ·rw [if_pos (.inr h2)]
   simp only [h1, bne_self_eq_false, cond_false, h2, decide_false, Bool.not_false, cond_true]; rfl
 ·rw [if_pos (.inl h1)]
  simp only [bne_iff_ne.2 h1, cond_true]; rfl
theorem or_bad {e : Int} (h : e ≠ 0) (l s : ByteArray) (o : Oq) (k : Nat) (hk : 3 ≤ k) :
  ops_Read.s1 k l 0 (mL []) 0 0 (mL []) (mL []) (mL []) (mL []) (mL []) 0 (mL []) 0 false 0 0 0 (mL []) (mL []) 0 s e o = some (badQ e) := by
 obtain ⟨k, rfl⟩ : ∃ q, k = q + 3 := ⟨k - 3, by omega⟩
 simp only [ops_Read.s1, ops_Read.s1c, ops_Read.s3, ops_Read.s3c, beq_eq_false_iff_ne.2 h, cond_false, bne_iff_ne.2 h, cond_true, Option.bind_some]
 rfl
noncomputable def endQ (l : List UInt8) (kd : Int) (t : ByteArray) (a b c : List V) (m : Int) (r : List UInt8) : QR3 :=
 if kd = 6 then (if (rdC r).2.2 ≠ 0 then badQ (rdC r).2.2 else finO l (kd, t, a, b, c, m, (rdC r).1, ()) (rdC r).2.1.data.toList) else finO l (kd, t, a, b, c, m, Z_api_Change, ()) r
theorem few_end {kd : Int} {t : ByteArray} {a b c : List V} {m : Int} {ch : Ch} (ha : FewW a) (hb : FewW b) (hc : FewW c) (hh : FewCh ch) : FewO (kd, t, a, b, c, m, ch, ()) := { r1 := ha, r2 := hb, r3 := hc, ch := hh }
theorem few_z0 : FewCh Z_api_Change := few_z 0 (mL []) (mL []) (mL []) (mL []) (mL []) 0 []
theorem or_s0 (l : List UInt8) (hl : l.length ≤ 90000) (kd : Int) (t : ByteArray) (a b c : List V) (ha : FewW a) (hb : FewW b) (hc : FewW c) (m : Int) (r : List UInt8) (hr : r.length ≤ l.length) (k : Nat) (hk : 240000 ≤ k) :
  ops_Read.s0 k (mL l) (kd == 6) 0 (mL []) 0 0 (mL []) (mL []) (mL []) (mL []) (mL []) 0 (mL []) 0 false 0 0 0 (mL []) (mL []) 0 (mL r) 0 kd t a b c m 0 (mL []) (mL []) (mL []) (mL []) (mL []) 0 (mL []) 0 false 0 0 0 (mL []) (mL []) 0 = some (endQ l kd t a b c m r) := by
 obtain ⟨k, rfl⟩ : ∃ q, k = q + 1 := ⟨k - 1, by omega⟩
 have hR := readC_f r (by omega) k (by omega)
 simp only [ops_Read.s0, ops_Read.s0c, hR, Option.bind_some, Option.bind_fun_some]
 unfold endQ
 by_cases h6 : kd = 6
 ·rw [if_pos h6]
  obtain rfl := h6
  have b66 : ((6 : Int) == 6) = true := rfl
  simp only [b66, cond_true]
  obtain ⟨q, e, hs⟩ := rdC_suf r
  have hq := hs.length_le
  have hf := few_rd r
  by_cases h : (rdC r).2.2 = 0
  ·rw [if_neg (show ¬ (rdC r).2.2 ≠ 0 from fun g => g h), h, e]
   generalize (rdC r).1 = ch at hf ⊢
   exact or_s1 l (by omega) (6, t, a, b, c, m, ch, ()) (few_end ha hb hc hf) q (by omega) k (by omega)
  ·rw [if_pos h]
   exact or_bad h _ _ _ k (by omega)
 ·rw [if_neg h6, beq_eq_false_iff_ne.2 h6]
  simp only [cond_false]
  exact or_s1 l (by omega) (kd, t, a, b, c, m, Z_api_Change, ()) (few_end ha hb hc few_z0) r hr k (by omega)
theorem or_s0_bad {e : Int} (h : e ≠ 0) (l s : ByteArray) (kd : Int) (t : ByteArray) (a b c : List V) (m : Int) (k : Nat) (hk : 10 ≤ k) :
  ops_Read.s0 k l false 0 (mL []) 0 0 (mL []) (mL []) (mL []) (mL []) (mL []) 0 (mL []) 0 false 0 0 0 (mL []) (mL []) 0 s e kd t a b c m 0 (mL []) (mL []) (mL []) (mL []) (mL []) 0 (mL []) 0 false 0 0 0 (mL []) (mL []) 0 = some (badQ e) := by
 obtain ⟨k, rfl⟩ : ∃ q, k = q + 1 := ⟨k - 1, by omega⟩
 have hb := or_bad h l s (kd, t, a, b, c, m, Z_api_Change, ()) k (by omega)
 simp only [ops_Read.s0, ops_Read.s0c, cond_false, Option.bind_fun_some]
 exact hb
noncomputable def rdO (l : List UInt8) : QR3 :=
 if (numS 1 9 l).2.2 ≠ 0 then badQ (numS 1 9 l).2.2 else
 if (rdT (numS 1 9 l).2.1).2.2 ≠ 0 then badQ (rdT (numS 1 9 l).2.1).2.2 else
 if (rowS (rdT (numS 1 9 l).2.1).2.1).2.2 ≠ 0 then badQ (rowS (rdT (numS 1 9 l).2.1).2.1).2.2 else
 if (rowS (rowS (rdT (numS 1 9 l).2.1).2.1).2.1).2.2 ≠ 0 then badQ (rowS (rowS (rdT (numS 1 9 l).2.1).2.1).2.1).2.2 else
 if (rowS (rowS (rowS (rdT (numS 1 9 l).2.1).2.1).2.1).2.1).2.2 ≠ 0 then badQ (rowS (rowS (rowS (rdT (numS 1 9 l).2.1).2.1).2.1).2.1).2.2 else
 if (numS 0 64 (rowS (rowS (rowS (rdT (numS 1 9 l).2.1).2.1).2.1).2.1).2.1).2.2 ≠ 0 then badQ (numS 0 64 (rowS (rowS (rowS (rdT (numS 1 9 l).2.1).2.1).2.1).2.1).2.1).2.2 else
 endQ l ((numS 1 9 l).1 : Int) (mL (rdT (numS 1 9 l).2.1).1) (rowS (rdT (numS 1 9 l).2.1).2.1).1 (rowS (rowS (rdT (numS 1 9 l).2.1).2.1).2.1).1 (rowS (rowS (rowS (rdT (numS 1 9 l).2.1).2.1).2.1).2.1).1
  ((numS 0 64 (rowS (rowS (rowS (rdT (numS 1 9 l).2.1).2.1).2.1).2.1).2.1).1 : Int) (numS 0 64 (rowS (rowS (rowS (rdT (numS 1 9 l).2.1).2.1).2.1).2.1).2.1).2.1
theorem readO_f (l : List UInt8) (hl : l.length ≤ 90000) (k : Nat) (hk : 250000 ≤ k) : ops_Read.f k (mL l) = some (rdO l) := by
 have n1 : ops_reader_number.f k 1 9 (mL l) 0 = some (((numS 1 9 l).1 : Int), mL (numS 1 9 l).2.1, (numS 1 9 l).2.2) := num_0 1 9 (by omega) (by omega) l (by omega) k (by omega)
 have n2 : ∀ r : List UInt8, r.length ≤ l.length → ops_reader_number.f k 0 64 (mL r) 0 = some (((numS 0 64 r).1 : Int), mL (numS 0 64 r).2.1, (numS 0 64 r).2.2) := fun r hr => num_0 0 64 (by omega) (by omega) r (by omega) k (by omega)
 have tx : ∀ r : List UInt8, r.length ≤ l.length → ops_reader_text.f k (mL r) 0 = some (mL (rdT r).1, mL (rdT r).2.1, (rdT r).2.2) := fun r hr => otext_0 r (by omega) k (by omega)
 have rw' : ∀ r : List UInt8, r.length ≤ l.length → ops_reader_row.f k (mL r) 0 = some ((rowS r).1, mL (rowS r).2.1, (rowS r).2.2) := fun r hr => orow_0 r (by omega) k (by omega)
 have lf : ∀ a0 a1 a2 a3 a4 a5 a6 a7 a8 a9 a10 a11 a12 a13 a14 a15 a16 a17 a18, ops_lists.f1 k a0 a1 a2 a3 a4 a5 a6 a7 a8 a9 a10 a11 a12 a13 a14 a15 a16 a17 a18 = some (a0, a1, a2, a3, a4, a5, a6, a7, a8, a9, a10, a11, a12, a13, a14, a15, a16, a17, a18) := fun _ _ _ _ _ _ _ _ _ _ _ _ _ _ _ _ _ _ _ => rfl
 have bad : ∀ (e : Int) (h : e ≠ 0) (s : ByteArray) (kd : Int) (t : ByteArray) (a b c : List V) (m : Int), ops_Read.s0 k (mL l) false 0 (mL []) 0 0 (mL []) (mL []) (mL []) (mL []) (mL []) 0 (mL []) 0 false 0 0 0 (mL []) (mL []) 0 s e kd t a b c m 0 (mL []) (mL []) (mL []) (mL []) (mL []) 0 (mL []) 0 false 0 0 0 (mL []) (mL []) 0 = some (badQ e) := fun e h s kd t a b c m => or_s0_bad h (mL l) s kd t a b c m k (by omega)
 have l1 := numS_len 1 9 l
 simp only [ops_Read.f, ops_Read.c, n1, lf, Option.bind_some, Option.bind_fun_some]
 unfold rdO
 by_cases h1 : (numS 1 9 l).2.2 = 0
 ·rw [if_neg (show ¬ (numS 1 9 l).2.2 ≠ 0 from fun g => g h1), h1]
  generalize (numS 1 9 l).2.1 = r1 at *
  have s1 := rdT_lenT r1
  simp only [tx r1 l1, Option.bind_some]
  by_cases h2 : (rdT r1).2.2 = 0
  ·rw [if_neg (show ¬ (rdT r1).2.2 ≠ 0 from fun g => g h2), h2]
   generalize (rdT r1).2.1 = r2 at *
   have s2 := rowS_len r2
   simp only [rw' r2 (by omega), Option.bind_some]
   by_cases h3 : (rowS r2).2.2 = 0
   ·have w3 := rowS_few h3
    rw [if_neg (show ¬ (rowS r2).2.2 ≠ 0 from fun g => g h3), h3]
    have s3 := rowS_len (rowS r2).2.1
    simp only [rw' (rowS r2).2.1 (by omega), Option.bind_some]
    by_cases h4 : (rowS (rowS r2).2.1).2.2 = 0
    ·have w4 := rowS_few h4
     rw [if_neg (show ¬ (rowS (rowS r2).2.1).2.2 ≠ 0 from fun g => g h4), h4]
     have s4 := rowS_len (rowS (rowS r2).2.1).2.1
     simp only [rw' (rowS (rowS r2).2.1).2.1 (by omega), Option.bind_some]
     by_cases h5 : (rowS (rowS (rowS r2).2.1).2.1).2.2 = 0
     ·have w5 := rowS_few h5
      rw [if_neg (show ¬ (rowS (rowS (rowS r2).2.1).2.1).2.2 ≠ 0 from fun g => g h5), h5]
      generalize (rowS (rowS (rowS r2).2.1).2.1).2.1 = r5 at *
      have s5 := numS_len 0 64 r5
      simp only [n2 r5 (by omega), Option.bind_some]
      by_cases h6 : (numS 0 64 r5).2.2 = 0
      ·rw [if_neg (show ¬ (numS 0 64 r5).2.2 ≠ 0 from fun g => g h6)]
       simp only [h6, beq_self_eq_true, cond_true]
       exact or_s0 l hl _ _ _ _ _ w3 w4 w5 _ _ (by omega) k (by omega)
      ·rw [if_pos h6]
       simp only [beq_eq_false_iff_ne.2 h6, cond_false]
       exact bad _ h6 _ _ _ _ _ _ _
     ·rw [if_pos h5]
      simp only [num_e h5, beq_eq_false_iff_ne.2 h5, cond_false, Option.bind_some]
      exact bad _ h5 _ _ _ _ _ _ _
    ·rw [if_pos h4]
     simp only [orow_e h4, num_e h4, beq_eq_false_iff_ne.2 h4, cond_false, Option.bind_some]
     exact bad _ h4 _ _ _ _ _ _ _
   ·rw [if_pos h3]
    simp only [orow_e h3, num_e h3, beq_eq_false_iff_ne.2 h3, cond_false, Option.bind_some]
    exact bad _ h3 _ _ _ _ _ _ _
  ·rw [if_pos h2]
   simp only [orow_e h2, num_e h2, beq_eq_false_iff_ne.2 h2, cond_false, Option.bind_some]
   exact bad _ h2 _ _ _ _ _ _ _
 ·rw [if_pos h1]
  simp only [otext_e h1, orow_e h1, num_e h1, beq_eq_false_iff_ne.2 h1, cond_false, Option.bind_some]
  exact bad _ h1 _ _ _ _ _ _ _
end Go.Proofs.YtaehpfmnejeddaaGreatDoor.Aev
