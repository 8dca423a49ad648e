import Derived.Test.YtimadphjdkjgaaaDoorF2
import Derived.Test.YtimadphjdkjgaaaDoorF4
import Derived.Test.YtimadphjdkjgaaaDoorWSplit

/- Quoted texts: the program's and the document's ways. -/
namespace Go.Proofs.YtimadphjdkjgaaaDoor.Aev
open Go
set_option linter.unusedVariables false
set_option linter.unusedSimpArgs false
set_option maxRecDepth 100000
abbrev hexS : List UInt8 := [48, 49, 50, 51, 52, 53, 54, 55, 56, 57, 97, 98, 99, 100, 101, 102]
def hx (n : Nat) : UInt8 := hexS.getD n 0
theorem hex_bt (j : Nat) (h : j < 16) : bt (ByteArray.mk (List.toArray hexS)) (j : Int) = ((hx j).toNat : Int) := by
 rw [ba_bt hexS j (by simp; omega)]
 congr 2
 simp [hx, List.getD, List.getElem?_eq_getElem (show j < hexS.length by simp; omega)]
def qB (c : UInt8) : List UInt8 := if c = 34 ∨ c = 92 then [92, c] else if c.toNat < 32 ∨ 126 < c.toNat then [92, 120, hx (c.toNat / 16), hx (c.toNat % 16)] else [c]
def quoteL (l : List UInt8) : List UInt8 := 34 :: (l.flatMap qB ++ [34])
theorem qB_len (c : UInt8) : 1 ≤ (qB c).length ∧ (qB c).length ≤ 4 := by unfold qB; split <;> (try split) <;> simp
theorem flatq_len (l : List UInt8) : (l.flatMap qB).length ≤ 4 * l.length := by
 rw [List.length_flatMap]
 induction l with
 | nil => simp
 | cons a l ih => simp only [List.map_cons, List.sum_cons, List.length_cons]; have := qB_len a; omega
theorem and15 : ∀ c : Fin 256, Go.bits .and .u8 (c.val : Int) 15 = ((c.val % 16 : Nat) : Int) := by decide +kernel
theorem and15' (c : UInt8) : IntKind.wrap IntKind.u8 ((BitVec.toNat ((BitVec.ofInt (8 : Nat) (c.toNat : Int)) &&& (BitVec.ofInt (8 : Nat) (15 : Int)))) : Int) = ((c.toNat % 16 : Nat) : Int) := and15 ⟨c.toNat, c.toNat_lt⟩
theorem b8_hx (j : Nat) (h : j < 16) : b8 (bt (ByteArray.mk (List.toArray hexS)) (j : Int)) = hx j := by rw [hex_bt j h, b8_eta]
theorem map_two (c : UInt8) : [(92 : Int), (c.toNat : Int)].map b8 = [92, c] := by
 show [b8 92, b8 (c.toNat : Int)] = _
 rw [b8_eta]; rfl
theorem map_one (c : UInt8) : [(c.toNat : Int)].map b8 = [c] := by
 show [b8 (c.toNat : Int)] = _
 rw [b8_eta]
theorem quote_s0 (l : List UInt8) (hl : l.length ≤ 2000000) : ∀ (m i : Nat) (xs : List Int), i + m = l.length → xs.length ≤ 1 + 4 * i → ∀ k, 4 * m < k →
  words_Quote.s0 k (l.map fun b => ((UInt8.toNat b : Nat) : Int)) (l.length : Int) (i : Int) xs = some (mkW (xs.map b8 ++ ((l.drop i).flatMap qB ++ [34]))) := by
 intro m
 induction m with
 | zero =>
  intro i xs hi hx k hk
  obtain ⟨k, rfl⟩ : ∃ j, k = j + 1 := ⟨k - 1, by omega⟩
  have e1 : ¬ (i : Int) < (l.length : Int) := by omega
  have n1 : (xs.length + 1) * 1 ≤ 35184372088832 := by omega
  rw [List.drop_eq_nil_of_le (by omega)]
  simp only [words_Quote.s0, words_Quote.s0c, e1, n1, decide_false, decide_true, cond_false, cond_true]
  congr 1
  rw [ba_inj]
  show (xs ++ [34]).map b8 = _
  rw [List.map_append]; rfl
 | succ m ih =>
  intro i xs hi hx' k hk
  obtain ⟨k, rfl⟩ : ∃ j, k = j + 4 := ⟨k - 4, by omega⟩
  have h : i < l.length := by omega
  have e0 : (0 : Int) ≤ (i : Int) := by omega
  have e1 : (i : Int) < (l.length : Int) := by omega
  have e2 : (i : Int) < ((l.map fun b => ((UInt8.toNat b : Nat) : Int)).length : Int) := by simp; omega
  have w1 : IntKind.wrap IntKind.i64 ((i : Int) + 1) = ((i + 1 : Nat) : Int) := by rw [i64w (by omega) (by omega)]; omega
  have hd : l.drop i = l[i] :: l.drop (i + 1) := List.drop_eq_getElem_cons h
  have n1 : (xs.length + 1) * 1 ≤ 35184372088832 := by omega
  have n2 : (xs.length + 2) * 1 ≤ 35184372088832 := by omega
  have n4 : (xs.length + 4) * 1 ≤ 35184372088832 := by omega
  have el := elem_u8 l i h
  -- the next step, whatever is put
  have nx : ∀ (ys : List Int) (kk : Nat), 4 * m + 1 < kk → (xs ++ ys).length ≤ 1 + 4 * (i + 1) → ys.map b8 = qB l[i] →
    words_Quote.s3 kk (l.map fun b => ((UInt8.toNat b : Nat) : Int)) (l.length : Int) (i : Int) (xs ++ ys) = some (mkW (xs.map b8 ++ ((l.drop i).flatMap qB ++ [34]))) := by
   intro ys kk hkk hlen hy
   obtain ⟨kk, rfl⟩ : ∃ j, kk = j + 1 := ⟨kk - 1, by omega⟩
   simp only [words_Quote.s3, words_Quote.s3c, w1, ofs]
   rw [ih (i + 1) (xs ++ ys) (by omega) hlen kk (by omega), hd, List.map_append, hy, List.flatMap_cons]
   simp only [List.append_assoc]
  have hc := (l[i]).toNat_lt
  have z2 : ∀ b : Bool, (b = true ↔ l[i].toNat < 32 ∨ 126 < l[i].toNat) → ¬ (l[i] = 34 ∨ l[i] = 92) → words_Quote.s2 (k + 2) (l[i].toNat : Int) (l.map fun b => ((UInt8.toNat b : Nat) : Int)) (l.length : Int) (i : Int) b xs = some (mkW (xs.map b8 ++ ((l.drop i).flatMap qB ++ [34]))) := by
   intro b hb hnq
   cases b
   ·have hn : ¬ (l[i].toNat < 32 ∨ 126 < l[i].toNat) := fun q => by simpa using hb.2 q
    simp only [words_Quote.s2, words_Quote.s2c, n1, decide_true, cond_true, cond_false, ofs]
    exact nx [(l[i].toNat : Int)] (k + 1) (by omega) (by simp; omega) (by unfold qB; rw [if_neg hnq, if_neg hn, map_one])
   ·have hn := hb.1 rfl
    have d16 : Int.fdiv (l[i].toNat : Int) 16 = ((l[i].toNat / 16 : Nat) : Int) := by rw [Int.fdiv_eq_ediv_of_nonneg _ (by omega)]; omega
    have g0 : (0 : Int) ≤ ((l[i].toNat / 16 : Nat) : Int) := by omega
    have g1 : ((l[i].toNat / 16 : Nat) : Int) < 16 := by omega
    have g2 : ((l[i].toNat % 16 : Nat) : Int) < 16 := by omega
    simp only [words_Quote.s2, words_Quote.s2c, d16, and15', g0, g1, g2, n4, decide_true, Bool.and_self, cond_true, ofs]
    refine nx [92, 120, _, _] (k + 1) (by omega) (by simp; omega) ?_
    unfold qB
    rw [if_neg hnq, if_pos hn]
    show [b8 92, b8 120, b8 _, b8 _] = _
    rw [b8_hx _ (by omega), b8_hx _ (by omega)]; rfl
  have z1 : ∀ b : Bool, (b = true ↔ l[i] = 34 ∨ l[i] = 92) → words_Quote.s1 (k + 3) (l[i].toNat : Int) (l.map fun b => ((UInt8.toNat b : Nat) : Int)) (l.length : Int) (i : Int) b xs = some (mkW (xs.map b8 ++ ((l.drop i).flatMap qB ++ [34]))) := by
   intro b hb
   cases b
   ·have hn : ¬ (l[i] = 34 ∨ l[i] = 92) := fun q => by simpa using hb.2 q
    simp only [words_Quote.s1, words_Quote.s1c, cond_false, ofs]
    by_cases c : l[i].toNat < 32
    ·have c' : (l[i].toNat : Int) < 32 := by omega
     rw [decide_eq_true c']
     exact z2 true (by simp [c]) hn
    ·have c' : ¬ (l[i].toNat : Int) < 32 := by omega
     rw [decide_eq_false c']
     exact z2 _ (by rw [decide_eq_true_iff]; omega) hn
   ·have hn := hb.1 rfl
    simp only [words_Quote.s1, words_Quote.s1c, n2, decide_true, cond_true, ofs]
    exact nx [92, (l[i].toNat : Int)] (k + 2) (by omega) (by simp; omega) (by unfold qB; rw [if_pos hn, map_two])
  simp only [words_Quote.s0, words_Quote.s0c, e0, e1, e2, el, b34, b92, decide_true, Bool.and_self, cond_true, ofs]
  by_cases c : l[i] = 34
  ·rw [decide_eq_true c]; exact z1 true (by simp [c])
  ·rw [decide_eq_false c]; exact z1 _ (by simp [c])
theorem quote_eq (l : List UInt8) (hl : l.length ≤ 2000000) (k : Nat) (hk : 4 * l.length < k) : words_Quote.f k (mkW l) = some (mkW (quoteL l)) := by
 have := quote_s0 l hl l.length 0 [34] (by omega) (by simp) k hk
 simp only [words_Quote.f, words_Quote.c, ofs, List.length_map]
 exact this
/-! ### digits as numbers -/
def hv (c : UInt8) : Nat := if 48 ≤ c.toNat ∧ c.toNat ≤ 57 then c.toNat - 48 else if 97 ≤ c.toNat ∧ c.toNat ≤ 102 then c.toNat - 87 else 0
theorem hv_lt (c : UInt8) : hv c < 16 := by unfold hv; split <;> (try split) <;> omega
theorem hv_hx : ∀ j : Fin 16, hv (hx j.val) = j.val := by decide
theorem hx_ne (c : UInt8) (j : Nat) (hj : j < 16) : (((hx j).toNat : Int) == (c.toNat : Int)) = decide (hx j = c) := by
 rw [Bool.eq_iff_iff, beq_iff_eq, decide_eq_true_eq]
 exact ⟨fun h => UInt8.toNat_inj.1 (by omega), fun h => by rw [h]⟩
theorem hx_inj : ∀ i j : Fin 16, hx i.val = hx j.val → i = j := by decide
theorem hx_hv : ∀ c : Fin 256, (∃ j : Fin 16, hx j.val = UInt8.ofNat c.val) ∨ hv (UInt8.ofNat c.val) = 0 := by decide +kernel
theorem or_digit : ∀ (x : Fin 16) (j : Fin 16), Go.bits .or .i64 ((x.val * 16 : Nat) : Int) (j.val : Int) = ((x.val * 16 + j.val : Nat) : Int) := by decide +kernel
theorem or_digit' {x j : Nat} (hx : x < 16) (hj : j < 16) : IntKind.wrap IntKind.i64 ((BitVec.toNat ((BitVec.ofInt (64 : Nat) ((x * 16 : Nat) : Int)) ||| (BitVec.ofInt (64 : Nat) (j : Int)))) : Int) = ((x * 16 + j : Nat) : Int) := or_digit ⟨x, hx⟩ ⟨j, hj⟩
theorem hex_none (c : UInt8) (l : List Int) (n i : Int) (x : Int) : ∀ (m j : Nat), j + m = 16 → (∀ q, j ≤ q → q < 16 → hx q ≠ c) → ∀ k, words_hex.s1 (k + 2 * m + 1) x (c.toNat : Int) l n i (j : Int) = words_hex.s0 k x l n (IntKind.wrap IntKind.i64 (i + 1)) := by
 intro m
 induction m with
 | zero =>
  intro j hj hq k
  have e : ¬ (j : Int) < 16 := by omega
  simp only [Nat.mul_zero, Nat.add_zero, words_hex.s1, words_hex.s1c, e, decide_false, cond_false, ofs]
 | succ m ih =>
  intro j hj hq k
  have e : (j : Int) < 16 := by omega
  have e0 : (0 : Int) ≤ (j : Int) := by omega
  have w1 : IntKind.wrap IntKind.i64 ((j : Int) + 1) = ((j + 1 : Nat) : Int) := by rw [i64w (by omega) (by omega)]; omega
  have hne := hq j (Nat.le_refl _) (by omega)
  have := ih (j + 1) (by omega) (fun q h1 h2 => hq q (by omega) h2) k
  rw [show k + 2 * (m + 1) + 1 = k + 2 * m + 1 + 1 + 1 by omega]
  generalize k + 2 * m + 1 = kk at this
  simp only [words_hex.s1, words_hex.s1c, words_hex.s2, words_hex.s2c, e, e0, hex_bt j (by omega), hx_ne c j (by omega), w1, this, decide_true, decide_false, hne, Bool.and_self, cond_true, cond_false, ofs]
theorem hex_some (c : UInt8) (l : List Int) (n i : Int) (x : Int) (j0 : Nat) (h0 : j0 < 16) (hc : hx j0 = c) : ∀ (m j : Nat), j + m = 16 → j ≤ j0 → ∀ k, words_hex.s1 (k + 2 * m + 1) x (c.toNat : Int) l n i (j : Int) = words_hex.s0 k (IntKind.wrap IntKind.i64 ((BitVec.toNat ((BitVec.ofInt (64 : Nat) x) ||| (BitVec.ofInt (64 : Nat) (j0 : Int)))) : Int)) l n (IntKind.wrap IntKind.i64 (i + 1)) := by
 intro m
 induction m with
 | zero => intro j hj h1; omega
 | succ m ih =>
  intro j hj h1 k
  have e : (j : Int) < 16 := by omega
  have e0 : (0 : Int) ≤ (j : Int) := by omega
  have w1 : IntKind.wrap IntKind.i64 ((j : Int) + 1) = ((j + 1 : Nat) : Int) := by rw [i64w (by omega) (by omega)]; omega
  rw [show k + 2 * (m + 1) + 1 = k + 2 * m + 1 + 1 + 1 by omega]
  by_cases h : j = j0
  ·subst h
   have := hex_none c l n i (IntKind.wrap IntKind.i64 ((BitVec.toNat ((BitVec.ofInt (64 : Nat) x) ||| (BitVec.ofInt (64 : Nat) (j : Int)))) : Int)) m (j + 1) (by omega) (fun q h1 h2 he => by
    have := hx_inj ⟨q, h2⟩ ⟨j, h0⟩ (by rw [he, hc])
    simp at this; omega) k
   generalize k + 2 * m + 1 = kk at this
   simp only [words_hex.s1, words_hex.s1c, words_hex.s2, words_hex.s2c, e, e0, hex_bt j (by omega), hx_ne c j (by omega), w1, this, decide_true, hc, beq_self_eq_true, Bool.and_self, cond_true, ofs]
  ·have hne : ¬ hx j = c := fun he => by
    have := hx_inj ⟨j, by omega⟩ ⟨j0, h0⟩ (by rw [he, hc])
    simp at this; omega
   have := ih (j + 1) (by omega) (by omega) k
   generalize k + 2 * m + 1 = kk at this
   simp only [words_hex.s1, words_hex.s1c, words_hex.s2, words_hex.s2c, e, e0, hex_bt j (by omega), hx_ne c j (by omega), w1, this, decide_true, decide_false, hne, Bool.and_self, cond_true, cond_false, ofs]
theorem hex_s1 (c : UInt8) (l : List Int) (n i : Int) (x : Nat) (hx0 : x < 16) (k : Nat) : words_hex.s1 (k + 33) ((x * 16 : Nat) : Int) (c.toNat : Int) l n i 0 = words_hex.s0 k ((x * 16 + hv c : Nat) : Int) l n (IntKind.wrap IntKind.i64 (i + 1)) := by
 have hcc := hx_hv ⟨c.toNat, c.toNat_lt⟩
 simp only [UInt8.ofNat_toNat] at hcc
 by_cases hj : ∃ j : Fin 16, hx j.val = c
 ·obtain ⟨j, hj⟩ := hj
  have := hex_some c l n i ((x * 16 : Nat) : Int) j.val j.isLt hj 16 0 rfl (by omega) k
  have hvj : hv c = j.val := by rw [← hj]; exact hv_hx j
  rw [or_digit' hx0 j.isLt, ← hvj, show k + 2 * 16 + 1 = k + 33 by omega, show ((0 : Nat) : Int) = 0 by rfl] at this
  exact this
 ·have h0 : hv c = 0 := hcc.resolve_left hj
  have := hex_none c l n i ((x * 16 : Nat) : Int) 16 0 rfl (fun q h1 h2 he => hj ⟨⟨q, h2⟩, he⟩) k
  rw [show k + 2 * 16 + 1 = k + 33 by omega, show ((0 : Nat) : Int) = 0 by rfl] at this
  rw [h0, Nat.add_zero]
  exact this
theorem hex_eq (a b : UInt8) (k : Nat) (hk : 80 ≤ k) : words_hex.f k (mkW [a, b]) = some ((hv a * 16 + hv b : Nat) : Int) := by
 obtain ⟨k, rfl⟩ : ∃ j, k = j + 1 + 33 + 1 + 33 + 1 := ⟨k - 69, by omega⟩
 have ha := hv_lt a
 have hb := hv_lt b
 have l2 : (((List.map (fun b : UInt8 => ((UInt8.toNat b : Nat) : Int)) [a, b]).length : Nat) : Int) = 2 := rfl
 have q0 : elem (Ty.int IntKind.u8) (List.map (fun b : UInt8 => ((UInt8.toNat b : Nat) : Int)) [a, b]) 0 = (a.toNat : Int) := rfl
 have q1 : elem (Ty.int IntKind.u8) (List.map (fun b : UInt8 => ((UInt8.toNat b : Nat) : Int)) [a, b]) 1 = (b.toNat : Int) := rfl
 have w0 : IntKind.wrap IntKind.i64 ((0 : Int) + 1) = 1 := by decide
 have w1 : IntKind.wrap IntKind.i64 ((1 : Int) + 1) = 2 := by decide
 have z0 : IntKind.wrap IntKind.i64 ((0 : Int) * 16) = ((0 * 16 : Nat) : Int) := by decide
 have z1 : IntKind.wrap IntKind.i64 (((0 * 16 + hv a : Nat) : Int) * 16) = ((hv a * 16 : Nat) : Int) := by rw [i64w (by omega) (by omega)]; omega
 have s0 : words_hex.s0 (k + 1 + 33 + 1 + 33 + 1) 0 (List.map (fun b : UInt8 => ((UInt8.toNat b : Nat) : Int)) [a, b]) 2 0 = words_hex.s0 (k + 1 + 33 + 1) ((0 * 16 + hv a : Nat) : Int) (List.map (fun b : UInt8 => ((UInt8.toNat b : Nat) : Int)) [a, b]) 2 1 := by
  have h := hex_s1 a (List.map (fun b : UInt8 => ((UInt8.toNat b : Nat) : Int)) [a, b]) 2 0 0 (by omega) (k + 1 + 33 + 1)
  rw [w0] at h
  rw [← h]
  generalize k + 1 + 33 + 1 + 33 = kk
  have a1 : (0 : Int) < 2 := by omega
  have a2 : (0 : Int) ≤ 0 := by omega
  simp only [words_hex.s0, words_hex.s0c, l2, q0, z0, a1, a2, decide_true, Bool.and_self, cond_true, ofs]
 have s1 : words_hex.s0 (k + 1 + 33 + 1) ((0 * 16 + hv a : Nat) : Int) (List.map (fun b : UInt8 => ((UInt8.toNat b : Nat) : Int)) [a, b]) 2 1 = words_hex.s0 (k + 1) ((hv a * 16 + hv b : Nat) : Int) (List.map (fun b : UInt8 => ((UInt8.toNat b : Nat) : Int)) [a, b]) 2 2 := by
  have h := hex_s1 b (List.map (fun b : UInt8 => ((UInt8.toNat b : Nat) : Int)) [a, b]) 2 1 (hv a) ha (k + 1)
  rw [w1] at h
  rw [← h]
  generalize k + 1 + 33 = kk
  have a1 : (1 : Int) < 2 := by omega
  have a2 : (0 : Int) ≤ 1 := by omega
  simp only [words_hex.s0, words_hex.s0c, l2, q1, z1, a1, a2, decide_true, Bool.and_self, cond_true, ofs]
 have s2 : words_hex.s0 (k + 1) ((hv a * 16 + hv b : Nat) : Int) (List.map (fun b : UInt8 => ((UInt8.toNat b : Nat) : Int)) [a, b]) 2 2 = some ((hv a * 16 + hv b : Nat) : Int) := by
  have e : ¬ (2 : Int) < 2 := by omega
  simp only [words_hex.s0, words_hex.s0c, e, decide_false, cond_false, u8w (n := ((hv a * 16 + hv b : Nat) : Int)) (by omega) (by omega)]
 simp only [words_hex.f, words_hex.c, ofs]
 exact s0.trans (s1.trans s2)
end Go.Proofs.YtimadphjdkjgaaaDoor.Aev
