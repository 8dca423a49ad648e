import Derived.Test.YtaehpfmnejeddaaGreatDoorF4
import Derived.Test.YtaehpfmnejeddaaGreatDoorF5
import Derived.Test.YtaehpfmnejeddaaGreatDoorF12
import Derived.Test.YtaehpfmnejeddaaGreatDoorVals
import Derived.Test.YtaehpfmnejeddaaGreatDoorKeyRow
import Derived.Test.YtaehpfmnejeddaaGreatDoorPack
import Derived.Test.YtaehpfmnejeddaaGreatDoorEight
import Derived.Test.YtaehpfmnejeddaaGreatDoorF9
import Derived.Test.YtaehpfmnejeddaaGreatDoorBa

/- Rows written: the program's and the document's ways. -/
namespace Go.Proofs.YtaehpfmnejeddaaGreatDoor.Aev
open Go
set_option linter.unusedVariables false
set_option linter.unusedSimpArgs false
set_option maxRecDepth 100000
def FewW (l : List V) : Prop := FewV l ∧ ∀ v ∈ l, -9223372036854775808 ≤ v.2.1 ∧ v.2.1 ≤ 9223372036854775807
theorem fit_w {l : List V} (h : Fit (.sl VT) l) (hf : l.length ≤ 30 ∧ ∀ v ∈ l, v.2.2.2.1.size ≤ 2000) : FewW l := by
 refine ⟨fit_v h hf, fun v hv => ?_⟩
 obtain ⟨_, h2⟩ := h
 obtain ⟨_, h3, _, _⟩ := h2 v hv
 exact fit_i64 h3
def rbB (a0 a1 : Int) (n : Nat) (s : List UInt8) : List UInt8 :=
 b8 (a0 % 256) :: (if a0 = 1 then [b8 (a1 % 256)] else if a0 = 2 then encL (zig a1) else if a0 = 3 then (eightI n).map b8 else if a0 = 4 ∨ a0 = 5 then encL s.length ++ s else [])
theorem rput8_step (n i : Nat) (hi : i ≤ 56) (a0 a1 : Int) (s : ByteArray) (xs : List Int) (hx : xs.length + 1 ≤ 35184372088832) (k : Nat) : rows_put.s0 (k + 1) (i : Int) a0 a1 (n : Int) s xs = rows_put.s0 k ((i : Int) - 8) a0 a1 (n : Int) s (xs ++ [byteAt n i]) := by
 have e1 : (i : Int) ≥ 0 := by omega
 have e1' : (0 : Int) ≤ (i : Int) := by omega
 have e3 : (xs.length + 1) * 1 ≤ 35184372088832 := by omega
 have e4 : IntKind.wrap IntKind.i64 ((i : Int) - 8) = (i : Int) - 8 := i64w (by omega) (by omega)
 simp only [rows_put.s0, rows_put.s0c, e1, e1', e3, e4, decide_true, cond_true, Option.bind_fun_some, byteAt_eq n i (by omega)]
theorem rput8_end (n : Nat) (a0 a1 : Int) (s : ByteArray) (xs : List Int) (k : Nat) : rows_put.s0 (k + 1) (-8) a0 a1 (n : Int) s xs = some (ByteArray.mk (List.toArray (xs.map b8))) := by
 simp only [rows_put.s0, rows_put.s0c]; rfl
theorem rput8_eq (n : Nat) (a0 a1 : Int) (s : ByteArray) (xs : List Int) (hx : xs.length + 8 ≤ 35184372088832) (k : Nat) : rows_put.s0 (k + 9) 56 a0 a1 (n : Int) s xs = some (ByteArray.mk (List.toArray ((xs ++ eightI n).map b8))) := by
 have h56 := rput8_step n 56 (by omega) a0 a1 s xs (by omega) (k + 8)
 have h48 := rput8_step n 48 (by omega) a0 a1 s (xs ++ [byteAt n 56]) (by simp; omega) (k + 7)
 have h40 := rput8_step n 40 (by omega) a0 a1 s (xs ++ [byteAt n 56] ++ [byteAt n 48]) (by simp; omega) (k + 6)
 have h32 := rput8_step n 32 (by omega) a0 a1 s (xs ++ [byteAt n 56] ++ [byteAt n 48] ++ [byteAt n 40]) (by simp; omega) (k + 5)
 have h24 := rput8_step n 24 (by omega) a0 a1 s (xs ++ [byteAt n 56] ++ [byteAt n 48] ++ [byteAt n 40] ++ [byteAt n 32]) (by simp; omega) (k + 4)
 have h16 := rput8_step n 16 (by omega) a0 a1 s (xs ++ [byteAt n 56] ++ [byteAt n 48] ++ [byteAt n 40] ++ [byteAt n 32] ++ [byteAt n 24]) (by simp; omega) (k + 3)
 have h8 := rput8_step n 8 (by omega) a0 a1 s (xs ++ [byteAt n 56] ++ [byteAt n 48] ++ [byteAt n 40] ++ [byteAt n 32] ++ [byteAt n 24] ++ [byteAt n 16]) (by simp; omega) (k + 2)
 have h0 := rput8_step n 0 (by omega) a0 a1 s (xs ++ [byteAt n 56] ++ [byteAt n 48] ++ [byteAt n 40] ++ [byteAt n 32] ++ [byteAt n 24] ++ [byteAt n 16] ++ [byteAt n 8]) (by simp; omega) (k + 1)
 refine h56.trans (h48.trans (h40.trans (h32.trans (h24.trans (h16.trans (h8.trans (h0.trans ((rput8_end n a0 a1 s _ k).trans ?_))))))))
 simp [eightI]
theorem cons_raw (a : Int) (l : List UInt8) : (ByteArray.mk (List.toArray (List.map (fun n : Int => UInt8.ofNat (Int.toNat n)) ([a] ++ List.map (fun b : UInt8 => ((UInt8.toNat b : Nat) : Int)) l)))) = ByteArray.mk (List.toArray (b8 a :: l)) := by
 rw [ba_inj, List.map_append]
 show [b8 a] ++ (l.map fun c => (c.toNat : Int)).map b8 = _
 rw [b8_map_nat]; rfl
theorem rput_eq (a0 a1 : Int) (h0 : -9223372036854775808 ≤ a1) (h1 : a1 ≤ 9223372036854775807) (n : Nat) (s : List UInt8) (hs : s.length ≤ 100000) (k : Nat) (hk : 12 ≤ k) :
  rows_put.f k a0 a1 (n : Int) (ByteArray.mk (List.toArray s)) = some (ByteArray.mk (List.toArray (rbB a0 a1 n s))) := by
 obtain ⟨k, rfl⟩ : ∃ j, k = j + 9 := ⟨k - 9, by omega⟩
 have hz := encL_len (zig_lt h0 h1)
 have hl := encL_len (m := s.length) (by omega)
 have p8 := rput8_eq n a0 a1 (ByteArray.mk (List.toArray s)) [a0 % 256] (by simp) k
 have pi := int_f h0 h1 (show 10 ≤ k + 9 by omega)
 have pt := text_f (l := s) (by omega) (show 10 ≤ k + 9 by omega)
 have e1 : (1 + (List.map (fun b : UInt8 => ((UInt8.toNat b : Nat) : Int)) (encL (zig a1))).length) * 1 ≤ 35184372088832 := by rw [List.length_map]; omega
 have e2 : (1 + (List.map (fun b : UInt8 => ((UInt8.toNat b : Nat) : Int)) (encL s.length ++ s)).length) * 1 ≤ 35184372088832 := by rw [List.length_map, List.length_append]; omega
 simp only [rows_put.f, rows_put.c, u8m, p8, pi, pt, Option.bind_some, e1, e2, decide_true, cond_true, cons_raw]
 unfold rbB
 by_cases g1 : a0 = 1
 ·subst g1; rfl
 ·by_cases g2 : a0 = 2
  ·subst g2; rfl
  ·by_cases g3 : a0 = 3
   ·subst g3; rfl
   ·by_cases g4 : a0 = 4
    ·subst g4; rfl
    ·by_cases g5 : a0 = 5
     ·subst g5; rfl
     ·simp only [g1, g2, g3, g4, g5, if_false, or_self, beq_eq_false_iff_ne.2 g1, beq_eq_false_iff_ne.2 g2, beq_eq_false_iff_ne.2 g3, beq_eq_false_iff_ne.2 g4, beq_eq_false_iff_ne.2 g5, cond_false]; rfl
theorem rb_len (a0 a1 : Int) (h0 : -9223372036854775808 ≤ a1) (h1 : a1 ≤ 9223372036854775807) (n : Nat) (s : List UInt8) (hs : s.length ≤ 100000) : (rbB a0 a1 n s).length ≤ 11 + s.length := by
 have hz := encL_len (zig_lt h0 h1)
 have hl := encL_len (m := s.length) (by omega)
 unfold rbB
 rw [List.length_cons]
 split
 ·simp only [List.length_cons, List.length_nil]; omega
 ·split
  ·omega
  ·split
   ·rw [eight_len]; omega
   ·split
    ·rw [List.length_append]; omega
    ·simp only [List.length_nil]; omega
def rb (v : V) : List UInt8 := rbB v.1 v.2.1 v.2.2.1.toNat v.2.2.2.1.data.toList
noncomputable def rrow : List V → List UInt8 × Int
 | [] => ([], 0)
 | v :: l => if chk v ≠ 0 then ([], chk v) else if (rrow l).2 ≠ 0 then ([], (rrow l).2) else (rb v ++ (rrow l).1, 0)
noncomputable def after (x : List UInt8) (q : List UInt8 × Int) : ByteArray × Int := if q.2 = 0 then (ByteArray.mk (List.toArray (x ++ q.1)), 0) else (ByteArray.mk (List.toArray []), q.2)
theorem after_cons (x : List UInt8) (v : V) (l : List V) : after x (rrow (v :: l)) = if chk v = 0 then after (x ++ rb v) (rrow l) else (ByteArray.mk (List.toArray []), chk v) := by
 unfold after
 simp only [rrow]
 by_cases c : chk v = 0
 ·by_cases d : (rrow l).2 = 0
  ·simp [c, d]
  ·simp [c, d]
 ·simp [c]
theorem rPut_s0 (l : List V) (hl : FewW l) : ∀ (m i : Nat) (x : List UInt8), i + m = l.length → x.length ≤ 100 + i * 5000 → ∀ k, m + 200 < k →
  rows_Put.s0 k (ByteArray.mk (List.toArray x)) l (l.length : Int) (i : Int) = some (after x (rrow (l.drop i))) := by
 intro m
 induction m with
 | zero =>
  intro i x hi hx k hk
  obtain ⟨k, rfl⟩ : ∃ j, k = j + 1 := ⟨k - 1, by omega⟩
  have e : ¬ (i : Int) < (l.length : Int) := by omega
  rw [List.drop_eq_nil_of_le (by omega)]
  simp only [rows_Put.s0, rows_Put.s0c, e, decide_false, cond_false, rrow, after, List.append_nil, if_true]
 | succ m ih =>
  intro i x hi hx k hk
  obtain ⟨k, rfl⟩ : ∃ j, k = j + 1 := ⟨k - 1, by omega⟩
  have hlt : i < l.length := by omega
  have hl1 := hl.1.1
  have e0 : (i : Int) < (l.length : Int) := by omega
  have e1 : (0 : Int) ≤ (i : Int) := by omega
  have e2 : IntKind.wrap IntKind.i64 ((i : Int) + 1) = ((i + 1 : Nat) : Int) := by rw [i64w (by omega) (by omega)]; omega
  have hd : l.drop i = l[i] :: l.drop (i + 1) := List.drop_eq_getElem_cons hlt
  have he := elem_at hlt
  obtain ⟨hs, n, hn, hn2⟩ := hl.1.2 l[i] (List.getElem_mem hlt)
  obtain ⟨h0, h1⟩ := hl.2 l[i] (List.getElem_mem hlt)
  have hch : checkS l[i].1 l[i].2.1 n l[i].2.2.2.1 = chk l[i] := by unfold chk; rw [hn]; rfl
  have hrb : rbB l[i].1 l[i].2.1 n l[i].2.2.2.1.data.toList = rb l[i] := by unfold rb; rw [hn]; rfl
  rw [size_eq] at hs
  have hput := rput_eq l[i].1 l[i].2.1 h0 h1 n l[i].2.2.2.1.data.toList (by omega) k (by omega)
  have hlen := rb_len l[i].1 l[i].2.1 h0 h1 n l[i].2.2.2.1.data.toList (by omega)
  rw [hrb] at hput hlen
  rw [← ba_of] at hput
  have g1 : x.length ≤ 4611686018427387903 := by omega
  have g2 : (rb l[i]).length ≤ 4611686018427387903 := by omega
  have h1 := ih (i + 1) (x ++ rb l[i]) (by omega) (by rw [List.length_append]; omega) k (by omega)
  rw [hd, after_cons]
  simp only [rows_Put.s0, rows_Put.s0c, e0, e1, e2, he, hn, vcheck_eq (show 120 ≤ k by omega), hch, hput, ba_size, ba_append, g1, g2, h1, decide_true, Bool.and_self, cond_true, Option.bind_some, Option.bind_fun_some]
  by_cases c : chk l[i] = 0
  ·rw [if_pos c, c]; rfl
  ·rw [if_neg c, bne_iff_ne.2 c]; rfl
noncomputable def rowput (l : List V) : ByteArray × Int := if 8 < l.length then (ByteArray.mk (List.toArray []), 2) else after (encL l.length) (rrow l)
theorem rowsPut_eq {l : List V} (hl : FewW l) (k : Nat) (hk : 300 ≤ k) : rows_Put.f k l = some (rowput l) := by
 have hl1 := hl.1.1
 simp only [rows_Put.f, rows_Put.c, Option.bind_fun_some, rowput]
 by_cases c : 8 < l.length
 ·have e : (l.length : Int) > 8 := by omega
  simp only [e, decide_true, cond_true, c, if_true]
 ·have e : ¬ (l.length : Int) > 8 := by omega
  have hu := uint_f (m := l.length) (by omega) (show 10 ≤ k by omega)
  have hlen := encL_len (m := l.length) (by omega)
  have := rPut_s0 l hl l.length 0 (encL l.length) (by omega) (by omega) k (by omega)
  simp only [e, decide_false, cond_false, c, if_false, u64w (n := (l.length : Int)) (by omega) (by omega), hu, Option.bind_some]
  exact this
end Go.Proofs.YtaehpfmnejeddaaGreatDoor.Aev

/- Numbers of eight bytes. -/
namespace Go.Proofs.YtaehpfmnejeddaaGreatDoor.Aev
open Go
set_option linter.unusedVariables false
set_option linter.unusedSimpArgs false
set_option maxRecDepth 100000
theorem numB8_lt (l : List UInt8) : numB (l.take 8) < 18446744073709551616 := by
 have := numB_lt (l.take 8)
 have h2 : 256 ^ (l.take 8).length ≤ 256 ^ 8 := Nat.pow_le_pow_right (by omega) (by simp; omega)
 omega
end Go.Proofs.YtaehpfmnejeddaaGreatDoor.Aev
