import Derived.Test.YtaehpfmnejeddaaGreatDoorF5
import Derived.Test.YtaehpfmnejeddaaGreatDoorF12
import Derived.Test.YtaehpfmnejeddaaGreatDoorNumber

/- Rows read: the program's and the document's ways. -/
namespace Go.Proofs.YtaehpfmnejeddaaGreatDoor.Aev
open Go
set_option linter.unusedVariables false
set_option linter.unusedSimpArgs false
set_option maxRecDepth 100000
abbrev nilB : ByteArray := ByteArray.mk (List.toArray [])
abbrev mkB (l : List UInt8) : ByteArray := ByteArray.mk (List.toArray l)
def failE (c e : Int) : Int := if e = 0 then c else e
def rraw (c : Int) (t : List UInt8) : Int × Nat × List UInt8 × List UInt8 × Int :=
 if c = 0 then (0, 0, [], t, 0)
 else if c = 1 then (match t with | [] => (0, 0, [], [], 3) | d :: r => ((d.toNat : Int), 0, [], r, if 1 < d.toNat then 6 else 0))
 else if c = 2 then ((rdI t).1, 0, [], (rdI t).2.1, (rdI t).2.2)
 else if c = 3 then (if t.length < 8 then (0, 0, [], [], 3) else (0, numB (t.take 8), [], t.drop 8, 0))
 else if c = 4 ∨ c = 5 then (0, 0, (rdT t).1, (rdT t).2.1, (rdT t).2.2)
 else (0, 0, [], t, 5)
theorem rraw_3a {t : List UInt8} (h : t.length < 8) : rraw ((3 : Nat) : Int) t = (0, 0, [], [], 3) := by
 show (if t.length < 8 then _ else _) = _
 rw [if_pos h]
abbrev RR : Type := Int × Int × Nat × List UInt8 × List UInt8 × Int
noncomputable def rread : List UInt8 → RR
 | [] => (0, 0, 0, [], [], 3)
 | c :: t => ((c.toNat : Int), (rraw c.toNat t).1, (rraw c.toNat t).2.1, (rraw c.toNat t).2.2.1, (rraw c.toNat t).2.2.2.1, failE (checkS c.toNat (rraw c.toNat t).1 (rraw c.toNat t).2.1 (mkB (rraw c.toNat t).2.2.1)) (rraw c.toNat t).2.2.2.2)
def renc (q : RR) (r : List UInt8) : Int × Int × Int × ByteArray × ByteArray × Int := (q.1, q.2.1, (q.2.2.1 : Int), mkB q.2.2.2.1, mkB r, q.2.2.2.2.2)
theorem fail_eq (a0 : Int) (a1 : ByteArray) (a2 : Int) (k : Nat) : rows_reader_fail.f k a0 a1 a2 = some (a1, failE a0 a2) := by
 simp only [rows_reader_fail.f, rows_reader_fail.c, failE]
 by_cases h : a2 = 0
 ·subst h; rfl
 ·rw [beq_eq_false_iff_ne.2 h, if_neg h]; rfl
theorem failE_0 (a : Int) : failE a 0 = a := rfl
theorem take_eq (n : Nat) (hn : n ≤ 8) (l : List UInt8) (hl : l.length ≤ 1000000000) (k : Nat) : rows_reader_take.f (k + 2) (n : Int) (mkB l) 0 = some (if l.length < n then (nilB, mkB l, 3) else (mkB (l.take n), mkB (l.drop n), 0)) := by
 simp only [rows_reader_take.f, rows_reader_take.c, rows_reader_take.s0, rows_reader_take.s0c, rows_reader_take.s1, rows_reader_take.s1c, fail_eq, bne_self_eq_false, cond_false, ba_size, Option.bind_some, Option.bind_fun_some]
 by_cases h : l.length < n
 ·have e : (l.length : Int) < (n : Int) := by omega
  simp only [e, decide_true, cond_true, h, if_true]; rfl
 ·have e : ¬ (l.length : Int) < (n : Int) := by omega
  have e1 : (0 : Int) ≤ (n : Int) := by omega
  have e2 : (n : Int) ≤ (l.length : Int) := by omega
  have e3 : (l.length : Int) ≤ (l.length : Int) := by omega
  simp only [e, e1, e2, e3, decide_true, decide_false, cond_true, cond_false, Bool.and_self, h, if_false, ba_take, ba_dropl, Int.toNat_natCast (n := n)]
theorem vc (a0 a1 : Int) (n : Nat) (s : ByteArray) {k : Nat} (hk : 120 ≤ k) {a2 : Int} (e : a2 = (n : Int)) : values_Check.f k a0 a1 a2 s = some (checkS a0 a1 n s) := by rw [e]; exact vcheck_eq hk
theorem val_s1 (l r : List UInt8) (hl : l.length ≤ 8) : ∀ (m i x : Nat), i + m = l.length → x < 256 ^ i → ∀ k, m + 130 < k → ∀ (y1 y2 y3 y4 : Int) (y5 : ByteArray),
  rows_reader_value.s1 k (mkB l) (l.length : Int) (i : Int) (mkB r) y1 y2 y3 y4 y5 3 0 (x : Int) nilB =
   some (3, 0, (((l.drop i).foldl (fun n c => n * 256 + c.toNat) x : Nat) : Int), nilB, mkB r, failE (checkS 3 0 ((l.drop i).foldl (fun n c => n * 256 + c.toNat) x) nilB) y1) := by
 intro m
 induction m with
 | zero =>
  intro i x hi hx k hk y1 y2 y3 y4 y5
  obtain ⟨k, rfl⟩ : ∃ j, k = j + 1 := ⟨k - 1, by omega⟩
  have e : ¬ (i : Int) < (l.length : Int) := by omega
  rw [List.drop_eq_nil_of_le (by omega)]
  simp only [rows_reader_value.s1, rows_reader_value.s1c, e, decide_false, cond_false, List.foldl_nil, vc 3 0 x nilB (show 120 ≤ k by omega) rfl, fail_eq, Option.bind_some]
 | succ m ih =>
  intro i x hi hx k hk y1 y2 y3 y4 y5
  obtain ⟨k, rfl⟩ : ∃ j, k = j + 1 := ⟨k - 1, by omega⟩
  have hlt : i < l.length := by omega
  have e0 : (i : Int) < (l.length : Int) := by omega
  have e1 : (0 : Int) ≤ (i : Int) := by omega
  have e3 : IntKind.wrap IntKind.i64 ((i : Int) + 1) = ((i + 1 : Nat) : Int) := by rw [i64w (by omega) (by omega)]; omega
  have hp : 256 ^ i ≤ 256 ^ 7 := Nat.pow_le_pow_right (by omega) (by omega)
  have hx2 : x < 72057594037927936 := by omega
  have hd : l.drop i = l[i] :: l.drop (i + 1) := List.drop_eq_getElem_cons hlt
  have hc := (l[i]).toNat_lt
  have := ih (i + 1) (x * 256 + (l[i]).toNat) (by omega) (by
   have : (x + 1) * 256 ≤ 256 ^ i * 256 := Nat.mul_le_mul_right _ hx
   rw [Nat.pow_succ]; omega) k (by omega) y1 y2 y3 y4 y5
  simp only [rows_reader_value.s1, rows_reader_value.s1c, e0, e1, ba_size, ba_bt l i hlt, or_step hx2, e3, decide_true, Bool.and_self, cond_true, Option.bind_fun_some, this, hd, List.foldl_cons]
theorem ne_nil_b (c : UInt8) (t : List UInt8) : (!((mkB (c :: t)).toList == (nilB).toList)) = true := by
 rw [ba_toList, ba_toList]; rfl
theorem eq_nil_b : (!((nilB).toList == (nilB).toList)) = false := by
 rw [ba_toList]; rfl
theorem pval_s0 (c : Nat) (hc : c < 256) (t : List UInt8) (ht : t.length ≤ 1000000000) (k : Nat) (hk : 300 ≤ k) :
  ∃ r, rows_reader_value.s0 k (mkB t) 0 0 0 0 nilB (c : Int) 0 0 nilB = some (renc ((c : Int), (rraw c t).1, (rraw c t).2.1, (rraw c t).2.2.1, (rraw c t).2.2.2.1, failE (checkS c (rraw c t).1 (rraw c t).2.1 (mkB (rraw c t).2.2.1)) (rraw c t).2.2.2.2) r) ∧ ((rraw c t).2.2.2.2 = 0 → r = (rraw c t).2.2.2.1) := by
 obtain ⟨k, rfl⟩ : ∃ j, k = j + 3 := ⟨k - 3, by omega⟩
 simp only [rows_reader_value.s0, rows_reader_value.s0c]
 by_cases c0 : c = 0
 ·subst c0
  have v : values_Check.f (k + 2) ((0 : Nat) : Int) 0 0 nilB = some (checkS 0 0 0 nilB) := vc 0 0 0 nilB (by omega) rfl
  have g : (((0 : Nat) : Int) == 0) = true := rfl
  refine ⟨t, ?_, fun _ => rfl⟩
  simp only [g, cond_true, fail_eq, v, Option.bind_some]; rfl
 ·have g0 : ((c : Int) == 0) = false := beq_eq_false_iff_ne.2 (by omega)
  have g0' : ¬ (c : Int) = 0 := by omega
  simp only [g0, cond_false]
  by_cases c1 : c = 1
  ·subst c1
   have w : (((1 : Nat) : Int) == 1) = true := rfl
   have tk := take_eq 1 (by omega) t ht k
   simp only [w, cond_true]
   cases t with
   | nil =>
    have v := vc 1 0 0 nilB (k := k + 2) (by omega) rfl
    refine ⟨[], ?_, fun _ => rfl⟩
    have tk' : rows_reader_take.f (k + 2) 1 (mkB []) 0 = some (nilB, mkB [], 3) := tk
    have h10 : ¬ ((0 : Int) > 1) := by omega
    simp only [tk', Option.bind_some, eq_nil_b, cond_false, h10, decide_false, fail_eq]
    have v' : values_Check.f (k + 2) ((1 : Nat) : Int) 0 0 nilB = some (checkS 1 0 0 nilB) := v
    rw [v']; rfl
   | cons d u =>
    have hd := d.toNat_lt
    have tk' : rows_reader_take.f (k + 2) 1 (mkB (d :: u)) 0 = some (mkB [d], mkB u, 0) := by
     refine tk.trans ?_
     rw [if_neg (by simp)]; rfl
    have w1 : (true && decide ((0 : Int) < (((mkB [d]).size : Nat) : Int))) = true := rfl
    have w2 : IntKind.wrap IntKind.i64 (bt (mkB [d]) 0) = (d.toNat : Int) := by rw [ba_bt0, i64w (by omega) (by omega)]
    have v := vc 1 d.toNat 0 nilB (k := k + 2) (by omega) rfl
    have v' : values_Check.f (k + 2) ((1 : Nat) : Int) (d.toNat : Int) 0 nilB = some (checkS 1 d.toNat 0 nilB) := v
    refine ⟨u, ?_, fun _ => rfl⟩
    simp only [tk', Option.bind_some, ne_nil_b, cond_true, w1, w2, fail_eq, v', failE_0]
    by_cases h1 : 1 < d.toNat
    ·have : (d.toNat : Int) > 1 := by omega
     simp only [this, decide_true, cond_true, renc, rraw, Int.natCast_one, show ¬ (1 : Int) = 0 by omega, if_false, if_true, h1]; rfl
    ·have : ¬ (d.toNat : Int) > 1 := by omega
     simp only [this, decide_false, cond_false, renc, rraw, Int.natCast_one, show ¬ (1 : Int) = 0 by omega, if_false, if_true, h1]; rfl
  ·have g1 : ((c : Int) == 1) = false := beq_eq_false_iff_ne.2 (by omega)
   simp only [g1, cond_false]
   by_cases c2 : c = 2
   ·subst c2
    have w : (((2 : Nat) : Int) == 2) = true := rfl
    have rd := readint_f t (by omega) (k + 2) (by omega)
    have v : values_Check.f (k + 2) ((2 : Nat) : Int) (rdI t).1 0 nilB = some (checkS 2 (rdI t).1 0 nilB) := vc 2 (rdI t).1 0 nilB (by omega) rfl
    refine ⟨(rdI t).2.1, ?_, fun _ => rfl⟩
    simp only [w, cond_true, rd, Option.bind_some, rdi3, fail_eq, v]
    have : failE (rdI t).2.2 0 = (rdI t).2.2 := rfl
    rw [this]; rfl
   ·have g2 : ((c : Int) == 2) = false := beq_eq_false_iff_ne.2 (by omega)
    simp only [g2, cond_false]
    by_cases c3 : c = 3
    ·subst c3
     have w : (((3 : Nat) : Int) == 3) = true := rfl
     have tk := take_eq 8 (by omega) t ht k
     have tk' : rows_reader_take.f (k + 2) 8 (mkB t) 0 = some (if t.length < 8 then (nilB, mkB t, 3) else (mkB (t.take 8), mkB (t.drop 8), 0)) := tk
     simp only [w, cond_true, tk', Option.bind_some]
     by_cases h8 : t.length < 8
     ·refine ⟨t, ?_, fun h => absurd h ?_⟩
      ·have := val_s1 [] t (by simp) 0 0 0 rfl (by simp) (k + 2) (by omega) 3 0 0 0 nilB
       rw [if_pos h8]
       refine (congrArg (fun o => o.bind some) this).trans ?_
       simp only [Option.bind_some, List.drop_nil, List.foldl_nil, renc, rraw, h8, if_true]; rfl
      ·rw [rraw_3a h8]; decide
     ·refine ⟨t.drop 8, ?_, fun _ => ?_⟩
      ·have hl8 : (t.take 8).length = 8 := by simp; omega
       have := val_s1 (t.take 8) (t.drop 8) (by omega) 8 0 0 (by omega) (by simp) (k + 2) (by omega) 0 0 0 0 nilB
       rw [if_neg h8]
       refine (congrArg (fun o => o.bind some) this).trans ?_
       simp only [Option.bind_some, List.drop_zero, renc, rraw, h8, if_false]; rfl
      ·simp only [rraw, h8, if_false]; rfl
    ·have g3 : ((c : Int) == 3) = false := beq_eq_false_iff_ne.2 (by omega)
     simp only [g3, cond_false]
     have g01 : ¬ (c : Int) = 1 := by omega
     have g02 : ¬ (c : Int) = 2 := by omega
     have g03 : ¬ (c : Int) = 3 := by omega
     have rd := readtext_f t (by omega) (k + 1) (by omega)
     have S2 : ∀ b : Bool, (b = true ↔ (c : Int) = 4 ∨ (c : Int) = 5) → ∃ r, (rows_reader_value.s2 (k + 2) b (mkB t) 0 0 0 0 nilB (c : Int) 0 0 nilB) = some (renc ((c : Int), (rraw c t).1, (rraw c t).2.1, (rraw c t).2.2.1, (rraw c t).2.2.2.1, failE (checkS c (rraw c t).1 (rraw c t).2.1 (mkB (rraw c t).2.2.1)) (rraw c t).2.2.2.2) r) ∧ ((rraw c t).2.2.2.2 = 0 → r = (rraw c t).2.2.2.1) := by
      intro b hb
      cases b
      ·have hn : ¬ ((c : Int) = 4 ∨ (c : Int) = 5) := fun q => by simpa using hb.2 q
       have v : values_Check.f (k + 1) (c : Int) 0 0 nilB = some (checkS c 0 0 nilB) := vc c 0 0 nilB (by omega) rfl
       refine ⟨t, ?_, fun _ => ?_⟩
       ·simp only [rows_reader_value.s2, rows_reader_value.s2c, cond_false, fail_eq, Option.bind_some, v, rraw, g0', g01, g02, g03, hn, if_false]; rfl
       ·simp only [rraw, g0', g01, g02, g03, hn, if_false]
      ·have hn := hb.1 rfl
       have v : values_Check.f (k + 1) (c : Int) 0 0 (mkB (rdT t).1) = some (checkS c 0 0 (mkB (rdT t).1)) := vc c 0 0 _ (by omega) rfl
       refine ⟨(rdT t).2.1, ?_, fun _ => ?_⟩
       ·simp only [rows_reader_value.s2, rows_reader_value.s2c, cond_true, rd, rdt3, fail_eq, Option.bind_some, v, rraw, g0', g01, g02, g03, hn, if_false, if_true]
        have : failE (rdT t).2.2 0 = (rdT t).2.2 := rfl
        rw [this]; rfl
       ·simp only [rraw, g0', g01, g02, g03, hn, if_false, if_true]
     by_cases c4 : c = 4
     ·have e : ((c : Int) == 4) = true := beq_iff_eq.2 (by omega)
      rw [e]
      simp only [cond_true, Option.bind_fun_some]
      exact S2 true (by simp; omega)
     ·have e : ((c : Int) == 4) = false := beq_eq_false_iff_ne.2 (by omega)
      rw [e]
      simp only [cond_false, Option.bind_fun_some]
      exact S2 _ (by rw [beq_iff_eq]; omega)
theorem pval_eq (l : List UInt8) (hl : l.length ≤ 1000000000) (k : Nat) (hk : 300 ≤ k) : ∃ r, rows_reader_value.f k (mkB l) 0 = some (renc (rread l) r) ∧ ((rread l).2.2.2.2.2 = 0 → r = (rread l).2.2.2.2.1) := by
 obtain ⟨j, rfl⟩ : ∃ j, k = j + 2 := ⟨k - 2, by omega⟩
 have tk := take_eq 1 (by omega) l hl j
 simp only [rows_reader_value.f, rows_reader_value.c]
 cases l with
 | nil =>
  have tk' : rows_reader_take.f (j + 2) 1 (mkB []) 0 = some (nilB, mkB [], 3) := tk
  have v : values_Check.f (j + 1) 0 0 0 nilB = some (checkS 0 0 0 nilB) := vc 0 0 0 nilB (by omega) rfl
  refine ⟨[], ?_, fun _ => rfl⟩
  simp only [tk', Option.bind_some, eq_nil_b, cond_false, rows_reader_value.s0, rows_reader_value.s0c, beq_self_eq_true, cond_true, v, fail_eq]; rfl
 | cons c t =>
  have hc := c.toNat_lt
  have tk' : rows_reader_take.f (j + 2) 1 (mkB (c :: t)) 0 = some (mkB [c], mkB t, 0) := by
   refine tk.trans ?_
   rw [if_neg (by simp)]; rfl
  have w1 : (true && decide ((0 : Int) < (((mkB [c]).size : Nat) : Int))) = true := rfl
  have w2 : IntKind.wrap IntKind.i64 (bt (mkB [c]) 0) = (c.toNat : Int) := by rw [ba_bt0, i64w (by omega) (by omega)]
  obtain ⟨r, h1, h2⟩ := pval_s0 c.toNat hc t (by simp at hl; omega) (j + 2) (by omega)
  refine ⟨r, ?_, fun h => ?_⟩
  ·simp only [tk', Option.bind_some, ne_nil_b, cond_true, w1, w2, Option.bind_fun_some]
   exact h1
  ·refine h2 ?_
   have h : failE _ _ = 0 := h
   unfold failE at h
   split at h
   ·assumption
   ·exact h
end Go.Proofs.YtaehpfmnejeddaaGreatDoor.Aev
