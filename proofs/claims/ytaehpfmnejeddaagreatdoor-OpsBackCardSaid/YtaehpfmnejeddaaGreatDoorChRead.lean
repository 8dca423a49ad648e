import Derived.Test.YtaehpfmnejeddaaGreatDoorF0
import Derived.Test.YtaehpfmnejeddaaGreatDoorF3
import Derived.Test.YtaehpfmnejeddaaGreatDoorF4
import Derived.Test.YtaehpfmnejeddaaGreatDoorOps
import Derived.Test.YtaehpfmnejeddaaGreatDoorTabRd

/- A change, read: the program's way. -/
namespace Go.Proofs.YtaehpfmnejeddaaGreatDoor.Aev
open Go
set_option linter.unusedVariables false
set_option linter.unusedSimpArgs false
set_option maxRecDepth 100000
theorem rdL_zero : ∀ (l : List UInt8) (i v : Nat), (rdL l i v).2.2 ≠ 0 → (rdL l i v).1 = 0 ∧ (rdL l i v).2.1 = []
 | [], i, v, _ => ⟨rfl, rfl⟩
 | c :: t, i, v, h => by
  unfold rdL at h ⊢
  by_cases h1 : i = 9 ∧ 1 < c.toNat
  ·simp only [h1, and_self, if_true]
  ·rw [if_neg h1] at h ⊢
   by_cases h2 : 127 < c.toNat
   ·rw [if_pos h2] at h ⊢; exact rdL_zero t _ _ h
   ·rw [if_neg h2] at h ⊢
    by_cases h3 : c.toNat = 0 ∧ 0 < i
    ·simp only [h3, and_self, if_true]
    ·rw [if_neg h3] at h; exact absurd rfl h
def numS (lo hi : Nat) (l : List UInt8) : Nat × List UInt8 × Int :=
 if (rdL l 0 0).2.2 ≠ 0 then (0, [], (rdL l 0 0).2.2) else if (rdL l 0 0).1 < lo ∨ hi < (rdL l 0 0).1 then (0, (rdL l 0 0).2.1, 1) else ((rdL l 0 0).1, (rdL l 0 0).2.1, 0)
theorem numS_len (lo hi : Nat) (l : List UInt8) : (numS lo hi l).2.1.length ≤ l.length := by
 have := rdL_len l 0 0
 unfold numS
 split
 ·simp
 ·split <;> simp only <;> omega
theorem numS_le (lo hi : Nat) (l : List UInt8) : (numS lo hi l).1 ≤ hi := by
 unfold numS
 split
 ·simp
 ·split
  ·simp
  ·simp only; omega
theorem ofail_f (a : Int) (s : ByteArray) (e : Int) (k : Nat) : ops_reader_fail.f k a s e = some (s, if e = 0 then a else e) := by
 simp only [ops_reader_fail.f, ops_reader_fail.c]
 by_cases h : e = 0
 ·simp [h]
 ·simp only [beq_eq_false_iff_ne.2 h, cond_false, h, if_false]
theorem numS_err {lo hi : Nat} {l : List UInt8} (h : (rdL l 0 0).2.2 ≠ 0) : numS lo hi l = (0, [], (rdL l 0 0).2.2) := by unfold numS; rw [if_pos h]
theorem numS_out {lo hi : Nat} {l : List UInt8} (h : (rdL l 0 0).2.2 = 0) (h' : (rdL l 0 0).1 < lo ∨ hi < (rdL l 0 0).1) : numS lo hi l = (0, (rdL l 0 0).2.1, 1) := by
 unfold numS; rw [if_neg (show ¬ (rdL l 0 0).2.2 ≠ 0 from fun g => g h), if_pos h']
theorem numS_in {lo hi : Nat} {l : List UInt8} (h : (rdL l 0 0).2.2 = 0) (h' : ¬ ((rdL l 0 0).1 < lo ∨ hi < (rdL l 0 0).1)) : numS lo hi l = ((rdL l 0 0).1, (rdL l 0 0).2.1, 0) := by
 unfold numS; rw [if_neg (show ¬ (rdL l 0 0).2.2 ≠ 0 from fun g => g h), if_neg h']
theorem num_0 (lo hi : Nat) (hlo : lo ≤ 1) (hhi : hi ≤ 1000) (l : List UInt8) (hl : l.length ≤ 1000000) (k : Nat) (hk : 100 ≤ k) : ops_reader_number.f k (lo : Int) (hi : Int) (mL l) 0 = some (((numS lo hi l).1 : Int), mL (numS lo hi l).2.1, (numS lo hi l).2.2) := by
 have hr := readuint_f l (by omega) k (by omega)
 have w1 : IntKind.wrap .u64 (lo : Int) = (lo : Int) := u64w (by omega) (by omega)
 have w2 : IntKind.wrap .u64 (hi : Int) = (hi : Int) := u64w (by omega) (by omega)
 have z := rdL_zero l 0 0
 simp only [ops_reader_number.f, ops_reader_number.c, bne_self_eq_false, cond_false, hr, rd3, w1, w2, ofail_f, Option.bind_some]
 by_cases he : (rdL l 0 0).2.2 = 0
 ·by_cases h1 : (rdL l 0 0).1 < lo
  ·have h1' : ((rdL l 0 0).1 : Int) < (lo : Int) := by omega
   rw [numS_out he (.inl h1)]
   simp only [h1', decide_true, cond_true, he, if_true]; rfl
  ·have h1' : ¬ ((rdL l 0 0).1 : Int) < (lo : Int) := by omega
   by_cases h2 : hi < (rdL l 0 0).1
   ·have h2' : ((rdL l 0 0).1 : Int) > (hi : Int) := by omega
    rw [numS_out he (.inr h2)]
    simp only [h1', h2', decide_true, decide_false, cond_true, cond_false, he, if_true]; rfl
   ·have h2' : ¬ ((rdL l 0 0).1 : Int) > (hi : Int) := by omega
    have w3 : IntKind.wrap .i64 ((rdL l 0 0).1 : Int) = ((rdL l 0 0).1 : Int) := i64w (by omega) (by omega)
    rw [numS_in he (fun g => g.elim h1 h2)]
    simp only [h1', h2', decide_false, cond_false, he, w3]
 ·rw [numS_err he]
  obtain ⟨z1, z2⟩ := z he
  rw [z1, z2]
  by_cases h1 : 0 < lo
  ·have h1' : ((0 : Nat) : Int) < (lo : Int) := by omega
   simp only [h1', decide_true, cond_true, he, if_false]; rfl
  ·have h1' : ¬ ((0 : Nat) : Int) < (lo : Int) := by omega
   have h2' : ¬ ((0 : Nat) : Int) > (hi : Int) := by omega
   have w3 : IntKind.wrap .i64 ((0 : Nat) : Int) = ((0 : Nat) : Int) := by decide
   simp only [h1', h2', decide_false, cond_false, w3]
theorem num_e {e : Int} (h : e ≠ 0) (lo hi : Int) (s : ByteArray) (k : Nat) : ops_reader_number.f k lo hi s e = some (0, s, e) := by
 simp only [ops_reader_number.f, ops_reader_number.c, bne_iff_ne.2 h, cond_true]
theorem otext_0 (l : List UInt8) (hl : l.length ≤ 1000000) (k : Nat) (hk : 100 ≤ k) : ops_reader_text.f k (mL l) 0 = some (mL (rdT l).1, mL (rdT l).2.1, (rdT l).2.2) := by
 have hr := readtext_f l (by omega) k (by omega)
 simp only [ops_reader_text.f, ops_reader_text.c, bne_self_eq_false, cond_false, hr, rdt3, Option.bind_some]
theorem otext_e {e : Int} (h : e ≠ 0) (s : ByteArray) (k : Nat) : ops_reader_text.f k s e = some (mL [], s, e) := by
 simp only [ops_reader_text.f, ops_reader_text.c, bne_iff_ne.2 h, cond_true]
theorem otable_0 (l : List UInt8) (hl : l.length ≤ 95000) (k : Nat) (hk : 210000 ≤ k) : ops_reader_table.f k (mL l) 0 = some (tabR l) := by
 simp only [ops_reader_table.f, ops_reader_table.c, bne_self_eq_false, cond_false, sread_f l hl k hk, Option.bind_some]
theorem otable_e {e : Int} (h : e ≠ 0) (s : ByteArray) (k : Nat) : ops_reader_table.f k s e = some (mL [], 0, [], s, e) := by
 simp only [ops_reader_table.f, ops_reader_table.c, bne_iff_ne.2 h, cond_true]
/-! tables that were read -/
theorem colsR_few : ∀ (n : Nat) (l : List UInt8), (colsR n l).2.2 = 0 → (∀ c ∈ (colsR n l).1, FewC c) ∧ (colsR n l).2.1.length ≤ l.length ∧ (colsR n l).1.length = n
 | 0, l, _ => ⟨by simp [colsR], Nat.le_refl _, rfl⟩
 | n + 1, l, h => by
  unfold colsR at h ⊢
  by_cases h1 : (colR l).2.2 = 0
  ·have n1 : ¬ (colR l).2.2 ≠ 0 := fun g => g h1
   rw [if_neg n1] at h ⊢
   obtain ⟨g1, g2⟩ := colR_len h1
   obtain ⟨i1, i2, i3⟩ := colsR_few n (colR l).2.1 h
   refine ⟨?_, by simp only; omega, by simp only [List.length_cons, i3]⟩
   intro c hc
   rcases List.mem_cons.1 hc with rfl | hc
   ·exact g2
   ·exact i1 c hc
  ·rw [if_pos h1] at h; exact absurd h h1
theorem fin_few' (nm : ByteArray) (a : Int) (q : List C × List UInt8 × Int) : (fin nm a [] q).2.2.1.length ≤ 8 := by
 unfold fin
 split
 ·exact Nat.zero_le _
 ·split
  ·exact Nat.zero_le _
  ·rename_i h
   exact (tabS_0 (by simpa using h)).2.2.2
theorem tabR_few8 (l : List UInt8) : (tabR l).2.2.1.length ≤ 8 := by
 unfold tabR
 split
 ·exact Nat.zero_le _
 ·split
  ·exact Nat.zero_le _
  ·split
   ·exact Nat.zero_le _
   ·split
    ·exact Nat.zero_le _
    ·split
     ·exact Nat.zero_le _
     ·exact fin_few' _ _ _
theorem tabR_few' (l : List UInt8) : (tabR l).2.2.1.length ≤ 1000 := by have := tabR_few8 l; omega
theorem tabR_ok {l : List UInt8} (h : (tabR l).2.2.2.2 = 0) : tabS (tabR l).1 (tabR l).2.1 (tabR l).2.2.1 = 0 ∧ (∀ c ∈ (tabR l).2.2.1, FewC c) ∧ ∃ r, (tabR l).2.2.2.1 = mL r ∧ r.length ≤ l.length := by
 have h1 := rdT_lenT l
 have h2 := rdL_len (rdT l).2.1 0 0
 have h3 := rdL_len (rdL (rdT l).2.1 0 0).2.1 0 0
 unfold tabR at h ⊢
 split at h
 ·rename_i g; exact absurd h g
 ·rename_i g; rw [if_neg g]
  split at h
  ·rename_i g; exact absurd h g
  ·rename_i g; rw [if_neg g]
   split at h
   ·exact absurd h (by decide)
   ·rename_i g; rw [if_neg g]
    split at h
    ·rename_i g; exact absurd h g
    ·rename_i g; rw [if_neg g]
     split at h
     ·exact absurd h (by decide)
     ·rename_i g; rw [if_neg g]
      unfold fin at h ⊢
      split at h
      ·rename_i g; exact absurd h g
      ·rename_i g
       rw [if_neg g]
       obtain ⟨c1, c2, c3⟩ := colsR_few _ _ (by simpa using g)
       split at h
       ·rename_i g; exact absurd h g
       ·rename_i g
        rw [if_neg g]
        exact ⟨by simpa using g, by simpa using c1, _, rfl, by omega⟩
theorem colS_sz {c : C} (h : colS c = 0) : c.1.size ≤ 16 ∧ c.2.2.2.1.2.2.2.1.size ≤ 2000 := by
 have h3 := (colS_0 h).2.2
 refine ⟨?_, ?_⟩
 ·unfold colS at h
  split at h
  ·rename_i h1; exact absurd h h1
  ·rename_i h1
   have h1 : nameS c.1.data.toList = 0 := by simpa using h1
   unfold nameS at h1
   split at h1
   ·cases h1
   ·rename_i h2; rw [size_eq]; omega
 ·unfold vchk at h3
  have := (check_0.1 h3).2.2.2.2.1
  omega
theorem tab_lenC {nm : ByteArray} {a : Int} {cols : List C} (h : tabS nm a cols = 0) : 1 ≤ a ∧ a ≤ 3 ∧ a ≤ (cols.length : Int) ∧ 1 ≤ cols.length ∧ cols.length ≤ 8 := by
 unfold tabS at h
 split at h
 ·rename_i h1; exact absurd h h1
 ·split at h
  ·simp at h
  ·split at h
   ·simp at h
   ·omega
theorem tabS_sz {nm : ByteArray} {a : Int} {l : List C} (h : tabS nm a l = 0) (hc : ∀ c ∈ l, FewC c) : nm.size ≤ 16 ∧ FewL l ∧ fewB l ∧ 1 ≤ l.length := by
 obtain ⟨h1, h2, h3, h4⟩ := tabS_0 h
 refine ⟨?_, ⟨by omega, hc⟩, fun c hc => ?_, (tab_lenC h).2.2.2.1⟩
 ·unfold tabS at h
  split at h
  ·rename_i h1; exact absurd h h1
  ·rename_i h1
   have h1 : nameS nm.data.toList = 0 := by simpa using h1
   unfold nameS at h1
   split at h1
   ·cases h1
   ·rename_i h2; rw [size_eq]; omega
 ·have := colS_sz (colsS_0 h1 c hc); omega
abbrev CR3 : Type := Ch × ByteArray × Int
def badC (e : Int) : CR3 := (Z_api_Change, mL [], e)
noncomputable def finC (l : List UInt8) (c : Ch) (r : List UInt8) : CR3 := if (putC c).2 ≠ 0 ∨ (putC c).1 ≠ mL (l.take (l.length - r.length)) then badC 4 else (c, mL r, 0)
theorem take_pre (l : List UInt8) (n : Nat) : ByteArray.extract (mL l) 0 (Int.toNat (n : Int)) = mL (l.take n) := by rw [Int.toNat_natCast, ba_take]
theorem rc_s1 (l : List UInt8) (hl : l.length ≤ 1000000) (c : Ch) (hc : FewCh c) (r : List UInt8) (hr : r.length ≤ l.length) (k : Nat) (hk : 9000 ≤ k) :
  ops_ReadChange.s1 k (mL l) 0 (mL []) (mL []) (mL []) (mL []) (mL []) 0 (mL []) 0 false 0 0 0 (mL []) (mL []) 0 (mL r) 0 c.1 c.2.1 c.2.2.1 c.2.2.2.1 c.2.2.2.2.1 c.2.2.2.2.2.1 c.2.2.2.2.2.2.1
   c.2.2.2.2.2.2.2.2.1.1 c.2.2.2.2.2.2.2.2.1.2.1 c.2.2.2.2.2.2.2.2.1.2.2.1 c.2.2.2.2.2.2.2.2.1.2.2.2.1.1 c.2.2.2.2.2.2.2.2.1.2.2.2.1.2.1 c.2.2.2.2.2.2.2.2.1.2.2.2.1.2.2.1 c.2.2.2.2.2.2.2.2.1.2.2.2.1.2.2.2.1
   c.2.2.2.2.2.2.2.2.2.1.1 c.2.2.2.2.2.2.2.2.2.1.2.1 c.2.2.2.2.2.2.2.2.2.1.2.2.1 c.2.2.2.2.2.2.2.1 = some (finC l c r) := by
 obtain ⟨k, rfl⟩ : ∃ q, k = q + 3 := ⟨k - 3, by omega⟩
 have hp : ∀ j, 8000 ≤ j → ops_PutChange.f j (c.1, (c.2.1, (c.2.2.1, (c.2.2.2.1, (c.2.2.2.2.1, (c.2.2.2.2.2.1, (c.2.2.2.2.2.2.1, (c.2.2.2.2.2.2.2.1, ((c.2.2.2.2.2.2.2.2.1.1, (c.2.2.2.2.2.2.2.2.1.2.1, (c.2.2.2.2.2.2.2.2.1.2.2.1, ((c.2.2.2.2.2.2.2.2.1.2.2.2.1.1, (c.2.2.2.2.2.2.2.2.1.2.2.2.1.2.1, (c.2.2.2.2.2.2.2.2.1.2.2.2.1.2.2.1, (c.2.2.2.2.2.2.2.2.1.2.2.2.1.2.2.2.1, ())))), ())))), ((c.2.2.2.2.2.2.2.2.2.1.1, (c.2.2.2.2.2.2.2.2.2.1.2.1, (c.2.2.2.2.2.2.2.2.2.1.2.2.1, ()))), ())))))))))) = some (putC c) := fun j hj => putC_f hc j hj
 have hw : IntKind.wrap .i64 ((l.length : Int) - (r.length : Int)) = ((l.length - r.length : Nat) : Int) := by rw [i64w (by omega) (by omega)]; omega
 have e1 : (0 : Int) ≤ ((l.length - r.length : Nat) : Int) := by omega
 have e2 : ((l.length - r.length : Nat) : Int) ≤ (l.length : Int) := by omega
 have tl : ∀ x y : ByteArray, (x.toList == y.toList) = decide (x = y) := fun x y => by rw [Bool.eq_iff_iff, beq_iff_eq, decide_eq_true_iff, toList_iff]
 have z4 : ((4 : Int) != 0) = true := rfl
 simp only [ops_ReadChange.s1, ops_ReadChange.s1c, ops_ReadChange.s2, ops_ReadChange.s2c, ops_ReadChange.s3, ops_ReadChange.s3c, beq_self_eq_true, cond_true, hp (k + 2) (by omega), ba_size, hw, e1, e2, take_pre, tl, ofail_f, if_true, z4, bne_self_eq_false, cond_false, decide_true, Bool.and_self, Option.bind_some, Option.bind_fun_some]
 unfold finC
 by_cases h1 : (putC c).2 = 0
 ·by_cases h2 : (putC c).1 = mL (l.take (l.length - r.length))
  ·rw [if_neg (show ¬ ((putC c).2 ≠ 0 ∨ (putC c).1 ≠ mL (l.take (l.length - r.length))) from fun g => g.elim (fun g => g h1) (fun g => g h2))]
   simp only [h1, bne_self_eq_false, cond_false, h2, decide_true, Bool.not_true]
  ·rw [if_pos (.inr h2)]
   simp only [h1, bne_self_eq_false, cond_false, h2, decide_false, Bool.not_false, cond_true]; rfl
 ·rw [if_pos (.inl h1)]
  simp only [bne_iff_ne.2 h1, cond_true]; rfl
theorem rc_bad {e : Int} (h : e ≠ 0) (l s : ByteArray) (kd : Int) (t1 t2 t3 t4 t5 : ByteArray) (ty : Int) (cn : ByteArray) (ck : Int) (cu : Bool) (v0 v1 v2 : Int) (v3 dn : ByteArray) (da : Int) (dc : List C) (ns : List ByteArray) (k : Nat) (hk : 3 ≤ k) :
  ops_ReadChange.s1 k l 0 (mL []) (mL []) (mL []) (mL []) (mL []) 0 (mL []) 0 false 0 0 0 (mL []) (mL []) 0 s e kd t1 t2 t3 t4 t5 ty cn ck cu v0 v1 v2 v3 dn da dc ns = some (badC e) := by
 obtain ⟨k, rfl⟩ : ∃ q, k = q + 3 := ⟨k - 3, by omega⟩
 simp only [ops_ReadChange.s1, ops_ReadChange.s1c, ops_ReadChange.s3, ops_ReadChange.s3c, beq_eq_false_iff_ne.2 h, cond_false, bne_iff_ne.2 h, cond_true, Option.bind_some]
 rfl
def txR : Nat → List UInt8 → List ByteArray × List UInt8 × Int
 | 0, l => ([], l, 0)
 | m + 1, l => if (rdT l).2.2 ≠ 0 then ([], [], (rdT l).2.2) else (mL (rdT l).1 :: (txR m (rdT l).2.1).1, (txR m (rdT l).2.1).2.1, (txR m (rdT l).2.1).2.2)
abbrev chOf (kd : Int) (t1 t2 t3 t4 t5 : ByteArray) (ty : Int) (ns : List ByteArray) (col : C) (t : D_api_Table) : Ch := (kd, t1, t2, t3, t4, t5, ty, ns, col, t, ())
noncomputable def tailC (l : List UInt8) (kd : Int) (t1 t2 t3 t4 t5 : ByteArray) (ty : Int) (ns : List ByteArray) (r : List UInt8) : CR3 :=
 if kd = 1 then (if (tabR r).2.2.2.2 ≠ 0 then badC (tabR r).2.2.2.2 else finC l (chOf kd t1 t2 t3 t4 t5 ty ns c0 ((tabR r).1, (tabR r).2.1, (tabR r).2.2.1, ())) (tabR r).2.2.2.1.data.toList)
 else if kd = 2 then (if (tabR r).2.2.2.2 ≠ 0 then badC (tabR r).2.2.2.2 else finC l (chOf kd t1 t2 t3 t4 t5 ty ns (elem T_api_Col (tabR r).2.2.1 (((tabR r).2.2.1.length - 1 : Nat) : Int)) (mL [], 0, [], ())) (tabR r).2.2.2.1.data.toList)
 else finC l (chOf kd t1 t2 t3 t4 t5 ty ns c0 (mL [], 0, [], ())) r
theorem few_z (kd : Int) (t1 t2 t3 t4 t5 : ByteArray) (ty : Int) (ns : List ByteArray) : FewCh (chOf kd t1 t2 t3 t4 t5 ty ns c0 (mL [], 0, [], ())) :=
 { cn := by show (mL []).size ≤ 500; rw [ba_size]; decide, col := ⟨⟨0, rfl, by decide⟩, by show (mL []).size ≤ 2000; rw [ba_size]; decide⟩, dn := by show (mL []).size ≤ 500; rw [ba_size]; decide, dc := ⟨⟨by simp, by simp⟩, by simp [fewB]⟩ }
theorem few_1 (kd : Int) (t1 t2 t3 t4 t5 : ByteArray) (ty : Int) (ns : List ByteArray) {nm : ByteArray} {a : Int} {cs : List C} (h : tabS nm a cs = 0) (hc : ∀ c ∈ cs, FewC c) : FewCh (chOf kd t1 t2 t3 t4 t5 ty ns c0 (nm, a, cs, ())) := by
 obtain ⟨h1, h2, h3, h4⟩ := tabS_sz h hc
 exact { cn := by show (mL []).size ≤ 500; rw [ba_size]; decide, col := ⟨⟨0, rfl, by decide⟩, by show (mL []).size ≤ 2000; rw [ba_size]; decide⟩, dn := by show nm.size ≤ 500; omega, dc := ⟨h2, h3⟩ }
theorem few_2 (kd : Int) (t1 t2 t3 t4 t5 : ByteArray) (ty : Int) (ns : List ByteArray) {nm : ByteArray} {a : Int} {cs : List C} (h : tabS nm a cs = 0) (hc : ∀ c ∈ cs, FewC c) : FewCh (chOf kd t1 t2 t3 t4 t5 ty ns (elem T_api_Col cs ((cs.length - 1 : Nat) : Int)) (mL [], 0, [], ())) := by
 obtain ⟨h1, h2, h3, h4⟩ := tabS_sz h hc
 have hi : cs.length - 1 < cs.length := by omega
 have hm : cs[cs.length - 1] ∈ cs := List.getElem_mem hi
 rw [elem_c hi]
 have h5 := colS_sz (colsS_0 (tabS_0 h).1 _ hm)
 exact { cn := by show (cs[cs.length - 1]).1.size ≤ 500; omega, col := ⟨hc _ hm, h5.2⟩, dn := by show (mL []).size ≤ 500; rw [ba_size]; decide, dc := ⟨⟨by simp, by simp⟩, by simp [fewB]⟩ }
theorem defS_has (kd : Int) (t1 t2 t3 t4 t5 : ByteArray) (ty : Int) (ns : List ByteArray) (col : C) (t : D_api_Table) : (defS (chOf kd t1 t2 t3 t4 t5 ty ns col t)).2.2.2 = (decide (kd = 1) || decide (kd = 2)) := by
 unfold defS
 by_cases h1 : kd = 1
 ·simp [h1]
 ·by_cases h2 : kd = 2
  ·simp [h2]
  ·simp [h1, h2]
theorem rc_s0_bad {e : Int} (h : e ≠ 0) (l s : ByteArray) (kd : Int) (t1 t2 t3 t4 t5 : ByteArray) (ty : Int) (n : Nat) (hn : n ≤ 8) : ∀ (m i : Nat) (ns : List ByteArray), i + m = n → ns.length ≤ i → ∀ k, m + 10 ≤ k →
  ops_ReadChange.s0 k l (n : Int) (i : Int) 0 (mL []) (mL []) (mL []) (mL []) (mL []) 0 (mL []) 0 false 0 0 0 (mL []) (mL []) 0 s e kd t1 t2 t3 t4 t5 ty (mL []) 0 false 0 0 0 (mL []) (mL []) 0 ns = some (badC e) := by
 intro m
 induction m with
 | zero =>
  intro i ns hi hs k hk
  obtain ⟨k, rfl⟩ : ∃ q, k = q + 1 := ⟨k - 1, by omega⟩
  have e0 : ¬ (i : Int) < (n : Int) := by omega
  have e1 : ¬ ((([] : List C).length : Nat) : Int) > 0 := by simp
  have hb := fun dn da dc => rc_bad h l s kd t1 t2 t3 t4 t5 ty (mL []) 0 false 0 0 0 (mL []) dn da dc ns k (by omega)
  have z : ∀ t : D_api_Table, (defS (kd, t1, t2, t3, t4, t5, ty, ns, (mL [], 0, false, (0, 0, 0, mL [], ()), ()), t, ())).2.2.2 = (decide (kd = 1) || decide (kd = 2)) := fun t => defS_has kd t1 t2 t3 t4 t5 ty ns c0 t
  simp only [ops_ReadChange.s0, ops_ReadChange.s0c, e0, decide_false, cond_false, def_eq, z, otable_e h, e1, hb, Option.bind_some, Option.bind_fun_some]
  cases decide (kd = 1) <;> cases decide (kd = 2) <;> cases (kd == 1) <;> rfl
 | succ m ih =>
  intro i ns hi hs k hk
  obtain ⟨k, rfl⟩ : ∃ q, k = q + 1 := ⟨k - 1, by omega⟩
  have e0 : (i : Int) < (n : Int) := by omega
  have e2 : IntKind.wrap IntKind.i64 ((i : Int) + 1) = ((i + 1 : Nat) : Int) := by rw [i64w (by omega) (by omega)]; omega
  have e3 : (ns.length + 1) * 16 ≤ 35184372088832 := by omega
  have h1 := ih (i + 1) (ns ++ [mL []]) (by omega) (by simp only [List.length_append, List.length_cons, List.length_nil]; omega) k (by omega)
  simp only [ops_ReadChange.s0, ops_ReadChange.s0c, e0, e2, e3, otext_e h, h1, decide_true, cond_true, Option.bind_some, Option.bind_fun_some]
theorem rc_s0 (l : List UInt8) (hl : l.length ≤ 90000) (kd : Int) (t1 t2 t3 t4 t5 : ByteArray) (ty : Int) (n : Nat) (hn : n ≤ 8) : ∀ (m i : Nat) (ns : List ByteArray) (r : List UInt8), i + m = n → ns.length ≤ i → r.length ≤ l.length → ∀ k, m + 220000 ≤ k →
  ops_ReadChange.s0 k (mL l) (n : Int) (i : Int) 0 (mL []) (mL []) (mL []) (mL []) (mL []) 0 (mL []) 0 false 0 0 0 (mL []) (mL []) 0 (mL r) 0 kd t1 t2 t3 t4 t5 ty (mL []) 0 false 0 0 0 (mL []) (mL []) 0 ns =
   some (if (txR m r).2.2 ≠ 0 then badC (txR m r).2.2 else tailC l kd t1 t2 t3 t4 t5 ty (ns ++ (txR m r).1) (txR m r).2.1) := by
 intro m
 induction m with
 | zero =>
  intro i ns r hi hs hr k hk
  obtain ⟨k, rfl⟩ : ∃ q, k = q + 1 := ⟨k - 1, by omega⟩
  have e0 : ¬ (i : Int) < (n : Int) := by omega
  have htx : txR 0 r = ([], r, 0) := rfl
  have z : ∀ t : D_api_Table, (defS (kd, t1, t2, t3, t4, t5, ty, ns, (mL [], 0, false, (0, 0, 0, mL [], ()), ()), t, ())).2.2.2 = (decide (kd = 1) || decide (kd = 2)) := fun t => defS_has kd t1 t2 t3 t4 t5 ty ns c0 t
  rw [htx]
  simp only [ne_eq, not_true_eq_false, if_false, List.append_nil]
  simp only [ops_ReadChange.s0, ops_ReadChange.s0c, e0, decide_false, cond_false, def_eq, z, Option.bind_some, Option.bind_fun_some]
  unfold tailC
  by_cases h1 : kd = 1
  ·rw [if_pos h1, h1]
   simp only [decide_true, Bool.true_or, cond_true, otable_0 r (by omega) k (by omega), beq_self_eq_true, Option.bind_some]
   by_cases h2 : (tabR r).2.2.2.2 = 0
   ·obtain ⟨g1, g2, r', g3, g4⟩ := tabR_ok h2
    rw [if_neg (show ¬ (tabR r).2.2.2.2 ≠ 0 from fun g => g h2), h2, g3]
    exact rc_s1 l (by omega) (chOf 1 t1 t2 t3 t4 t5 ty ns c0 ((tabR r).1, (tabR r).2.1, (tabR r).2.2.1, ())) (few_1 1 t1 t2 t3 t4 t5 ty ns g1 g2) r' (by omega) k (by omega)
   ·rw [if_pos h2]
    exact rc_bad h2 _ _ _ _ _ _ _ _ _ _ _ _ _ _ _ _ _ _ _ _ k (by omega)
  ·rw [if_neg h1]
   by_cases h3 : kd = 2
   ·rw [if_pos h3, h3]
    have b21 : ((2 : Int) == 1) = false := rfl
    have b22 : (decide ((2 : Int) = 1) || decide ((2 : Int) = 2)) = true := rfl
    simp only [b21, b22, cond_true, cond_false, otable_0 r (by omega) k (by omega), Option.bind_some]
    by_cases h2 : (tabR r).2.2.2.2 = 0
    ·obtain ⟨g1, g2, r', g3, g4⟩ := tabR_ok h2
     obtain ⟨s1, s2, s3, s4⟩ := tabS_sz g1 g2
     have s5 := s2.1
     have f0 : (((tabR r).2.2.1.length : Nat) : Int) > 0 := by omega
     have f1 : IntKind.wrap IntKind.i64 (((tabR r).2.2.1.length : Int) - 1) = (((tabR r).2.2.1.length - 1 : Nat) : Int) := by rw [i64w (by omega) (by omega)]; omega
     have f2 : (0 : Int) ≤ (((tabR r).2.2.1.length - 1 : Nat) : Int) := by omega
     have f3 : (((tabR r).2.2.1.length - 1 : Nat) : Int) < ((tabR r).2.2.1.length : Int) := by omega
     rw [if_neg (show ¬ (tabR r).2.2.2.2 ≠ 0 from fun g => g h2), h2, g3]
     simp only [f0, f1, f2, f3, decide_true, Bool.and_self, cond_true]
     exact rc_s1 l (by omega) (chOf 2 t1 t2 t3 t4 t5 ty ns (elem T_api_Col (tabR r).2.2.1 (((tabR r).2.2.1.length - 1 : Nat) : Int)) (mL [], 0, [], ())) (few_2 2 t1 t2 t3 t4 t5 ty ns g1 g2) r' (by omega) k (by omega)
    ·rw [if_pos h2]
     have hb := fun cn ck cu v0 v1 v2 v3 dn da dc => rc_bad h2 (mL l) (tabR r).2.2.2.1 2 t1 t2 t3 t4 t5 ty cn ck cu v0 v1 v2 v3 dn da dc ns k (by omega)
     simp only [hb]
     by_cases f0 : (((tabR r).2.2.1.length : Nat) : Int) > 0
     ·by_cases hlen : (tabR r).2.2.1.length ≤ 1000
      ·have f1 : IntKind.wrap IntKind.i64 (((tabR r).2.2.1.length : Int) - 1) = (((tabR r).2.2.1.length - 1 : Nat) : Int) := by rw [i64w (by omega) (by omega)]; omega
       have f2 : (0 : Int) ≤ (((tabR r).2.2.1.length - 1 : Nat) : Int) := by omega
       have f3 : (((tabR r).2.2.1.length - 1 : Nat) : Int) < ((tabR r).2.2.1.length : Int) := by omega
       simp only [f0, f1, f2, f3, decide_true, Bool.and_self, cond_true]
       rfl
      ·exact absurd (tabR_few' r) hlen
     ·simp only [f0, decide_false, cond_false]
      rfl
   ·rw [if_neg h3]
    have b1 : (kd == 1) = false := beq_eq_false_iff_ne.2 h1
    simp only [h1, h3, decide_false, Bool.or_self, cond_false]
    exact rc_s1 l (by omega) (chOf kd t1 t2 t3 t4 t5 ty ns c0 (mL [], 0, [], ())) (few_z kd t1 t2 t3 t4 t5 ty ns) r hr k (by omega)
 | succ m ih =>
  intro i ns r hi hs hr k hk
  obtain ⟨k, rfl⟩ : ∃ q, k = q + 1 := ⟨k - 1, by omega⟩
  have e0 : (i : Int) < (n : Int) := by omega
  have e2 : IntKind.wrap IntKind.i64 ((i : Int) + 1) = ((i + 1 : Nat) : Int) := by rw [i64w (by omega) (by omega)]; omega
  have e3 : (ns.length + 1) * 16 ≤ 35184372088832 := by omega
  have hlen := rdT_lenT r
  simp only [ops_ReadChange.s0, ops_ReadChange.s0c, e0, e2, e3, otext_0 r (by omega) k (by omega), decide_true, cond_true, Option.bind_some, Option.bind_fun_some]
  by_cases h : (rdT r).2.2 = 0
  ·have h1 := ih (i + 1) (ns ++ [mL (rdT r).1]) (rdT r).2.1 (by omega) (by simp only [List.length_append, List.length_cons, List.length_nil]; omega) (by omega) k (by omega)
   rw [h, h1]
   have ht : txR (m + 1) r = (mL (rdT r).1 :: (txR m (rdT r).2.1).1, (txR m (rdT r).2.1).2.1, (txR m (rdT r).2.1).2.2) := by
    conv => lhs; unfold txR
    rw [if_neg (show ¬ (rdT r).2.2 ≠ 0 from fun g => g h)]
   rw [ht]
   simp only [List.append_assoc, List.singleton_append]
  ·have h1 := rc_s0_bad h (mL l) (mL (rdT r).2.1) kd t1 t2 t3 t4 t5 ty n hn m (i + 1) (ns ++ [mL (rdT r).1]) (by omega) (by simp only [List.length_append, List.length_cons, List.length_nil]; omega) k (by omega)
   rw [h1]
   have ht : txR (m + 1) r = ([], [], (rdT r).2.2) := by
    conv => lhs; unfold txR
    rw [if_pos h]
   rw [ht, if_pos h]
noncomputable def rdC (l : List UInt8) : CR3 :=
 if (numS 1 6 l).2.2 ≠ 0 then badC (numS 1 6 l).2.2 else
 if (txR 5 (numS 1 6 l).2.1).2.2 ≠ 0 then badC (txR 5 (numS 1 6 l).2.1).2.2 else
 if (numS 0 100 (txR 5 (numS 1 6 l).2.1).2.1).2.2 ≠ 0 then badC (numS 0 100 (txR 5 (numS 1 6 l).2.1).2.1).2.2 else
 if (numS 0 8 (numS 0 100 (txR 5 (numS 1 6 l).2.1).2.1).2.1).2.2 ≠ 0 then badC (numS 0 8 (numS 0 100 (txR 5 (numS 1 6 l).2.1).2.1).2.1).2.2 else
 if (txR (numS 0 8 (numS 0 100 (txR 5 (numS 1 6 l).2.1).2.1).2.1).1 (numS 0 8 (numS 0 100 (txR 5 (numS 1 6 l).2.1).2.1).2.1).2.1).2.2 ≠ 0 then badC (txR (numS 0 8 (numS 0 100 (txR 5 (numS 1 6 l).2.1).2.1).2.1).1 (numS 0 8 (numS 0 100 (txR 5 (numS 1 6 l).2.1).2.1).2.1).2.1).2.2 else
 tailC l ((numS 1 6 l).1 : Int) ((txR 5 (numS 1 6 l).2.1).1.getD 0 (mL [])) ((txR 5 (numS 1 6 l).2.1).1.getD 1 (mL [])) ((txR 5 (numS 1 6 l).2.1).1.getD 2 (mL [])) ((txR 5 (numS 1 6 l).2.1).1.getD 3 (mL [])) ((txR 5 (numS 1 6 l).2.1).1.getD 4 (mL [])) ((numS 0 100 (txR 5 (numS 1 6 l).2.1).2.1).1 : Int)
  (txR (numS 0 8 (numS 0 100 (txR 5 (numS 1 6 l).2.1).2.1).2.1).1 (numS 0 8 (numS 0 100 (txR 5 (numS 1 6 l).2.1).2.1).2.1).2.1).1
  (txR (numS 0 8 (numS 0 100 (txR 5 (numS 1 6 l).2.1).2.1).2.1).1 (numS 0 8 (numS 0 100 (txR 5 (numS 1 6 l).2.1).2.1).2.1).2.1).2.1
theorem readC_f (l : List UInt8) (hl : l.length ≤ 90000) (k : Nat) (hk : 230000 ≤ k) : ops_ReadChange.f k (mL l) = some (rdC l) := by
 have n1 : ops_reader_number.f k 1 6 (mL l) 0 = some (((numS 1 6 l).1 : Int), mL (numS 1 6 l).2.1, (numS 1 6 l).2.2) := num_0 1 6 (by omega) (by omega) l (by omega) k (by omega)
 have n2 : ∀ r : List UInt8, r.length ≤ l.length → ops_reader_number.f k 0 100 (mL r) 0 = some (((numS 0 100 r).1 : Int), mL (numS 0 100 r).2.1, (numS 0 100 r).2.2) := fun r hr => num_0 0 100 (by omega) (by omega) r (by omega) k (by omega)
 have n3 : ∀ r : List UInt8, r.length ≤ l.length → ops_reader_number.f k 0 8 (mL r) 0 = some (((numS 0 8 r).1 : Int), mL (numS 0 8 r).2.1, (numS 0 8 r).2.2) := fun r hr => num_0 0 8 (by omega) (by omega) r (by omega) k (by omega)
 have tx : ∀ r : List UInt8, r.length ≤ l.length → ops_reader_text.f k (mL r) 0 = some (mL (rdT r).1, mL (rdT r).2.1, (rdT r).2.2) := fun r hr => otext_0 r (by omega) k (by omega)
 have b0 : ∀ (e : Int) (h : e ≠ 0) (s : ByteArray) (kd : Int) (t1 t2 t3 t4 t5 : ByteArray) (ty : Int), ops_ReadChange.s0 k (mL l) 0 0 0 (mL []) (mL []) (mL []) (mL []) (mL []) 0 (mL []) 0 false 0 0 0 (mL []) (mL []) 0 s e kd t1 t2 t3 t4 t5 ty (mL []) 0 false 0 0 0 (mL []) (mL []) 0 [] = some (badC e) := fun e h s kd t1 t2 t3 t4 t5 ty => rc_s0_bad h (mL l) s kd t1 t2 t3 t4 t5 ty 0 (by omega) 0 0 [] (by omega) (by simp) k (by omega)
 have tf : ∀ a0 a1 a2 a3 a4 a5 a6 a7 a8 a9 a10 a11 a12 a13 a14 a15, ops_texts.f1 k a0 a1 a2 a3 a4 a5 a6 a7 a8 a9 a10 a11 a12 a13 a14 a15 = some (a0, a1, a2, a3, a4, a5, a6, a7, a8, a9, a10, a11, a12, a13, a14, a15) := fun _ _ _ _ _ _ _ _ _ _ _ _ _ _ _ _ => rfl
 have l1 := numS_len 1 6 l
 simp only [ops_ReadChange.f, ops_ReadChange.c, n1, tf, Option.bind_some, Option.bind_fun_some]
 unfold rdC
 by_cases h1 : (numS 1 6 l).2.2 = 0
 ·rw [if_neg (show ¬ (numS 1 6 l).2.2 ≠ 0 from fun g => g h1), h1]
  generalize hr1 : (numS 1 6 l).2.1 = r1 at *
  have s1 := rdT_lenT r1
  by_cases e1 : (rdT r1).2.2 = 0
  ·have s2 := rdT_lenT (rdT r1).2.1
   by_cases e2 : (rdT (rdT r1).2.1).2.2 = 0
   ·have s3 := rdT_lenT (rdT (rdT r1).2.1).2.1
    by_cases e3 : (rdT (rdT (rdT r1).2.1).2.1).2.2 = 0
    ·have s4 := rdT_lenT (rdT (rdT (rdT r1).2.1).2.1).2.1
     by_cases e4 : (rdT (rdT (rdT (rdT r1).2.1).2.1).2.1).2.2 = 0
     ·have s5 := rdT_lenT (rdT (rdT (rdT (rdT r1).2.1).2.1).2.1).2.1
      by_cases e5 : (rdT (rdT (rdT (rdT (rdT r1).2.1).2.1).2.1).2.1).2.2 = 0
      ·have ht : txR 5 r1 = ([mL (rdT r1).1, mL (rdT (rdT r1).2.1).1, mL (rdT (rdT (rdT r1).2.1).2.1).1, mL (rdT (rdT (rdT (rdT r1).2.1).2.1).2.1).1, mL (rdT (rdT (rdT (rdT (rdT r1).2.1).2.1).2.1).2.1).1], (rdT (rdT (rdT (rdT (rdT r1).2.1).2.1).2.1).2.1).2.1, 0) := by
        simp only [txR, e1, e2, e3, e4, e5, ne_eq, not_true_eq_false, if_false]
       rw [ht]
       simp only [tx r1 l1, e1, tx _ (show (rdT r1).2.1.length ≤ l.length by omega), e2, tx _ (show (rdT (rdT r1).2.1).2.1.length ≤ l.length by omega), e3, tx _ (show (rdT (rdT (rdT r1).2.1).2.1).2.1.length ≤ l.length by omega), e4, tx _ (show (rdT (rdT (rdT (rdT r1).2.1).2.1).2.1).2.1.length ≤ l.length by omega), e5, ne_eq, not_true_eq_false, if_false, Option.bind_some]
       generalize hr6 : (rdT (rdT (rdT (rdT (rdT r1).2.1).2.1).2.1).2.1).2.1 = r6 at *
       have l6 : r6.length ≤ l.length := by omega
       have l7 := numS_len 0 100 r6
       simp only [n2 r6 l6, Option.bind_some]
       by_cases e6 : (numS 0 100 r6).2.2 = 0
       ·have l8 := numS_len 0 8 (numS 0 100 r6).2.1
        simp only [e6, n3 _ (show (numS 0 100 r6).2.1.length ≤ l.length by omega), not_true_eq_false, if_false, Option.bind_some]
        by_cases e7 : (numS 0 8 (numS 0 100 r6).2.1).2.2 = 0
        ·have hn := numS_le 0 8 (numS 0 100 r6).2.1
         have hs := rc_s0 l hl ((numS 1 6 l).1 : Int) (mL (rdT r1).1) (mL (rdT (rdT r1).2.1).1) (mL (rdT (rdT (rdT r1).2.1).2.1).1) (mL (rdT (rdT (rdT (rdT r1).2.1).2.1).2.1).1) (mL (rdT (rdT (rdT (rdT (rdT r1).2.1).2.1).2.1).2.1).1) ((numS 0 100 r6).1 : Int) (numS 0 8 (numS 0 100 r6).2.1).1 hn (numS 0 8 (numS 0 100 r6).2.1).1 0 [] (numS 0 8 (numS 0 100 r6).2.1).2.1 (by omega) (by simp) (by omega) k (by omega)
         simp only [e7, not_true_eq_false, if_false]
         refine Eq.trans hs ?_
         simp only [List.nil_append, ne_eq, List.getD_cons_zero, List.getD_cons_succ]
        ·simp only [e7, not_false_eq_true, if_true]
         have hz : (numS 0 8 (numS 0 100 r6).2.1).1 ≤ 8 := numS_le 0 8 _
         exact rc_s0_bad e7 (mL l) _ _ _ _ _ _ _ _ (numS 0 8 (numS 0 100 r6).2.1).1 hz (numS 0 8 (numS 0 100 r6).2.1).1 0 [] (by omega) (by simp) k (by omega)
       ·simp only [num_e e6, e6, not_false_eq_true, if_true, Option.bind_some]
        exact b0 _ e6 _ _ _ _ _ _ _ _
      ·have ht : (txR 5 r1).2.2 = (rdT (rdT (rdT (rdT (rdT r1).2.1).2.1).2.1).2.1).2.2 := by simp only [txR, e1, e2, e3, e4, e5, ne_eq, not_true_eq_false, not_false_eq_true, if_false, if_true]
       rw [ht, if_pos e5]
       simp only [tx r1 l1, e1, tx _ (show (rdT r1).2.1.length ≤ l.length by omega), e2, tx _ (show (rdT (rdT r1).2.1).2.1.length ≤ l.length by omega), e3, tx _ (show (rdT (rdT (rdT r1).2.1).2.1).2.1.length ≤ l.length by omega), e4, tx _ (show (rdT (rdT (rdT (rdT r1).2.1).2.1).2.1).2.1.length ≤ l.length by omega), num_e e5, Option.bind_some]
       exact b0 _ e5 _ _ _ _ _ _ _ _
     ·have ht : (txR 5 r1).2.2 = (rdT (rdT (rdT (rdT r1).2.1).2.1).2.1).2.2 := by simp only [txR, e1, e2, e3, e4, ne_eq, not_true_eq_false, not_false_eq_true, if_false, if_true]
      rw [ht, if_pos e4]
      simp only [tx r1 l1, e1, tx _ (show (rdT r1).2.1.length ≤ l.length by omega), e2, tx _ (show (rdT (rdT r1).2.1).2.1.length ≤ l.length by omega), e3, tx _ (show (rdT (rdT (rdT r1).2.1).2.1).2.1.length ≤ l.length by omega), otext_e e4, num_e e4, Option.bind_some]
      exact b0 _ e4 _ _ _ _ _ _ _ _
    ·have ht : (txR 5 r1).2.2 = (rdT (rdT (rdT r1).2.1).2.1).2.2 := by simp only [txR, e1, e2, e3, ne_eq, not_true_eq_false, not_false_eq_true, if_false, if_true]
     rw [ht, if_pos e3]
     simp only [tx r1 l1, e1, tx _ (show (rdT r1).2.1.length ≤ l.length by omega), e2, tx _ (show (rdT (rdT r1).2.1).2.1.length ≤ l.length by omega), otext_e e3, num_e e3, Option.bind_some]
     exact b0 _ e3 _ _ _ _ _ _ _ _
   ·have ht : (txR 5 r1).2.2 = (rdT (rdT r1).2.1).2.2 := by simp only [txR, e1, e2, ne_eq, not_true_eq_false, not_false_eq_true, if_false, if_true]
    rw [ht, if_pos e2]
    simp only [tx r1 l1, e1, tx _ (show (rdT r1).2.1.length ≤ l.length by omega), otext_e e2, num_e e2, Option.bind_some]
    exact b0 _ e2 _ _ _ _ _ _ _ _
  ·have ht : (txR 5 r1).2.2 = (rdT r1).2.2 := by simp only [txR, e1, ne_eq, not_false_eq_true, if_true]
   rw [ht, if_pos e1]
   simp only [tx r1 l1, otext_e e1, num_e e1, Option.bind_some]
   exact b0 _ e1 _ _ _ _ _ _ _ _
 ·rw [if_pos h1]
  simp only [otext_e h1, num_e h1, Option.bind_some]
  exact b0 _ h1 _ _ _ _ _ _ _ _
end Go.Proofs.YtaehpfmnejeddaaGreatDoor.Aev
