import Derived.Test.YtimadphjdkjgaaaGreatDoorF9
import Derived.Test.YtimadphjdkjgaaaGreatDoorF11
import Derived.Test.YtimadphjdkjgaaaGreatDoorWUnq

/- Quoted texts read again: the document's way. -/
namespace Go.Proofs.YtimadphjdkjgaaaGreatDoor.Aev
open Go
set_option linter.unusedVariables false
set_option linter.unusedSimpArgs false
set_option maxRecDepth 100000
theorem rtail_eq (s : List UInt8) (xs : List Int) (hs : s.length ≤ 2000000) (hx : xs.length ≤ 1000000) (k : Nat) (hk : 4000100 ≤ k) :
  ((r36_Quote.f k (mkW (xs.map b8))).bind fun r0 => (bif (!((ByteArray.toList r0) == (ByteArray.toList (mkW s)))) then (some (mkW [], (7 : Int))) else (some (mkW (xs.map b8), (0 : Int))))) = some (encQ (if quoteL (xs.map b8) = s then (xs.map b8, 0) else ([], 7))) := by
 rw [refquote_eq (xs.map b8) (by simp; omega) k (by simp; omega), os, ba_toList, ba_toList]
 by_cases h : quoteL (xs.map b8) = s
 ·rw [if_pos h, h, beq_self_eq_true]; rfl
 ·rw [if_neg h, beq_eq_false_iff_ne.2 h]; rfl
def inner (s : List UInt8) (i : Nat) : List UInt8 := (s.drop i).take (s.length - 1 - i)
theorem inner_len (s : List UInt8) (i : Nat) : (inner s i).length = s.length - 1 - i := by simp [inner]; omega
theorem inner_cons {s : List UInt8} {i : Nat} (h : i < s.length - 1) : inner s i = s[i] :: inner s (i + 1) := by
 unfold inner
 rw [List.drop_eq_getElem_cons (show i < s.length by omega), show s.length - 1 - i = (s.length - 1 - (i + 1)) + 1 by omega, List.take_succ_cons]
theorem inner_nil {s : List UInt8} {i : Nat} (h : s.length - 1 ≤ i) : inner s i = [] := List.length_eq_zero_iff.1 (by rw [inner_len]; omega)
theorem refunq_s0 (s : List UInt8) (hs2 : 2 ≤ s.length) (hs : s.length ≤ 1000000) : ∀ (m i : Nat) (xs : List Int), s.length - i ≤ m → i ≤ s.length → 1 ≤ i → xs.length ≤ i → ∀ k, 5 * m + 4000200 < k →
  r36_Unquote.s0 k (mkW s) (i : Int) xs = some (encQ (if quoteL (xs.map b8 ++ unq (inner s i)) = s then (xs.map b8 ++ unq (inner s i), 0) else ([], 7))) := by
 have wl : IntKind.wrap IntKind.i64 ((s.length : Int) - 1) = ((s.length - 1 : Nat) : Int) := by rw [i64w (by omega) (by omega)]; omega
 intro m
 induction m using Nat.strongRecOn with
 | _ m ih =>
  intro i xs hm hi hi1 hx' k hk
  obtain ⟨k, rfl⟩ : ∃ j, k = j + 5 := ⟨k - 5, by omega⟩
  by_cases h : i < s.length - 1
  ·have e0 : (0 : Int) ≤ (i : Int) := by omega
   have e1 : (i : Int) < ((s.length - 1 : Nat) : Int) := by omega
   have e1' : (i : Int) < (s.length : Int) := by omega
   have w1 : IntKind.wrap IntKind.i64 ((i : Int) + 1) = ((i + 1 : Nat) : Int) := by rw [i64w (by omega) (by omega)]; omega
   have hI : i < s.length := by omega
   have nx : ∀ (q : Nat) (c : UInt8) (cc : Int) (u : List UInt8) (kk : Nat), 5 * m + 4000197 < kk → i ≤ q → q < s.length → b8 cc = c → inner s (q + 1) = u → unq (inner s i) = c :: unq u →
     r36_Unquote.s3 kk (mkW s) (q : Int) cc xs = some (encQ (if quoteL (xs.map b8 ++ unq (inner s i)) = s then (xs.map b8 ++ unq (inner s i), 0) else ([], 7))) := by
    intro q c cc u kk hkk hq1 hq2 hcc hu hc
    obtain ⟨kk, rfl⟩ : ∃ j, kk = j + 2 := ⟨kk - 2, by omega⟩
    have n1 : (xs.length + 1) * 1 ≤ 35184372088832 := by omega
    have w2 : IntKind.wrap IntKind.i64 ((q : Int) + 1) = ((q + 1 : Nat) : Int) := by rw [i64w (by omega) (by omega)]; omega
    simp only [r36_Unquote.s3, r36_Unquote.s3c, r36_Unquote.s4, r36_Unquote.s4c, n1, w2, decide_true, cond_true, ofs]
    rw [ih (s.length - (q + 1)) (by omega) (q + 1) (xs ++ [cc]) (Nat.le_refl _) (by omega) (by omega) (by simp; omega) kk (by omega), hu, hc, List.map_append, List.append_assoc]
    simp only [List.map_cons, List.map_nil, hcc, List.cons_append, List.nil_append]
   have hd := inner_cons h
   by_cases c92 : s[i] = 92
   ·by_cases h1 : i + 1 < s.length - 1
    ·have h1' : i + 1 < s.length := by omega
     have e2 : ((i + 1 : Nat) : Int) < ((s.length - 1 : Nat) : Int) := by omega
     have e2' : ((i + 1 : Nat) : Int) < (s.length : Int) := by omega
     have e3 : (0 : Int) ≤ ((i + 1 : Nat) : Int) := by omega
     have hd2 : inner s i = s[i] :: s[i + 1] :: inner s (i + 2) := by rw [hd, inner_cons h1]
     have w3 : IntKind.wrap IntKind.i64 (((i + 1 : Nat) : Int) + 2) = ((i + 3 : Nat) : Int) := by rw [i64w (by omega) (by omega)]; omega
     have w4 : IntKind.wrap IntKind.i64 (((i + 1 : Nat) : Int) + 1) = ((i + 2 : Nat) : Int) := by rw [i64w (by omega) (by omega)]; omega
     simp only [r36_Unquote.s0, r36_Unquote.s0c, r36_Unquote.s1, r36_Unquote.s1c, ba_size, wl, e0, e1, e1', e2, e2', e3, w1, ba_bt s i hI, ba_bt s (i + 1) h1', b92, b120, c92, decide_true, Bool.and_self, cond_true, ofs, w3]
     by_cases c120 : s[i + 1] = 120
     ·rw [decide_eq_true c120]
      by_cases h3 : i + 3 < s.length - 1
      ·have h2' : i + 2 < s.length := by omega
       have h3' : i + 3 < s.length := by omega
       have e4 : ((i + 3 : Nat) : Int) < ((s.length - 1 : Nat) : Int) := by omega
       have e5 : (0 : Int) ≤ ((i + 2 : Nat) : Int) := by omega
       have e6 : ((i + 2 : Nat) : Int) < (s.length : Int) := by omega
       have e7 : (0 : Int) ≤ ((i + 3 : Nat) : Int) := by omega
       have e8 : ((i + 3 : Nat) : Int) < (s.length : Int) := by omega
       obtain ⟨r0, hr0, hr0'⟩ := value_eq (s[i + 2]) (k + 1)
       obtain ⟨r1, hr1, hr1'⟩ := value_eq (s[i + 3]) (k + 1)
       have hd4 : inner s i = 92 :: 120 :: s[i + 2] :: s[i + 3] :: inner s (i + 4) := by
        rw [hd2, c92, c120, inner_cons (show i + 2 < s.length - 1 by omega), inner_cons (show i + 3 < s.length - 1 by omega)]
       have h15 := hv_lt (s[i + 2])
       have h16 := hv_lt (s[i + 3])
       have hcc : b8 (IntKind.wrap IntKind.u8 (IntKind.wrap IntKind.i64 (IntKind.wrap IntKind.i64 ((hv s[i + 2] : Int) * 16) + (hv s[i + 3] : Int)))) = hex2 (s[i + 2]) (s[i + 3]) := by
        rw [i64w (n := (hv s[i + 2] : Int) * 16) (by omega) (by omega), i64w (by omega) (by omega), u8w (by omega) (by omega)]
        unfold hex2 b8
        congr 1
       have := nx (i + 3) _ _ (inner s (i + 4)) (k + 2) (by omega) (by omega) h3' hcc rfl (by rw [hd4, unq_x])
       simp only [cond_true, r36_Unquote.s2, r36_Unquote.s2c, ba_size, e4, e5, e6, e7, e8, w4, w3, ba_bt s (i + 2) h2', ba_bt s (i + 3) h3', hr0, hr1, hr0', hr1', decide_true, Bool.and_self, os, ofs]
       exact this
      ·have e4 : ¬ ((i + 3 : Nat) : Int) < ((s.length - 1 : Nat) : Int) := by omega
       have hu : unq (inner s i) = 120 :: unq (inner s (i + 2)) := by
        rw [hd2, c92, c120]
        have hl2 : (inner s (i + 2)).length < 2 := by rw [inner_len]; omega
        match inner s (i + 2), hl2 with
        | [], _ => rw [unq_x0, unq]
        | [a], _ => rw [unq_x1, unq]
       have := nx (i + 1) 120 120 (inner s (i + 2)) (k + 2) (by omega) (by omega) h1' rfl rfl hu
       simp only [cond_true, r36_Unquote.s2, r36_Unquote.s2c, ba_size, e4, decide_false, cond_false, ofs, c120]
       exact this
     ·rw [decide_eq_false c120]
      have := nx (i + 1) s[i + 1] (s[i + 1].toNat : Int) (inner s (i + 2)) (k + 2) (by omega) (by omega) h1' (b8_eta _) rfl (by rw [hd2, c92, unq_q _ _ c120])
      simp only [cond_false, r36_Unquote.s2, r36_Unquote.s2c, ofs]
      exact this
    ·have e2 : ¬ ((i + 1 : Nat) : Int) < ((s.length - 1 : Nat) : Int) := by omega
     have hn : inner s (i + 1) = [] := inner_nil (by omega)
     have := nx i s[i] (s[i].toNat : Int) [] (k + 3) (by omega) (Nat.le_refl _) hI (b8_eta _) hn (by rw [hd, hn, unq_1, unq])
     rw [c92] at this
     simp only [r36_Unquote.s0, r36_Unquote.s0c, r36_Unquote.s1, r36_Unquote.s1c, ba_size, wl, e0, e1, e1', e2, w1, ba_bt s i hI, b92, c92, decide_true, decide_false, Bool.and_self, cond_true, cond_false, ofs]
     exact this
   ·have := nx i s[i] (s[i].toNat : Int) (inner s (i + 1)) (k + 3) (by omega) (Nat.le_refl _) hI (b8_eta _) rfl (by rw [hd, unq_o' _ _ c92])
    simp only [r36_Unquote.s0, r36_Unquote.s0c, r36_Unquote.s1, r36_Unquote.s1c, ba_size, wl, e0, e1, e1', ba_bt s i hI, b92, c92, decide_true, decide_false, Bool.and_self, cond_true, cond_false, ofs]
    exact this
  ·have e1 : ¬ (i : Int) < ((s.length - 1 : Nat) : Int) := by omega
   have := rtail_eq s xs (by omega) (by omega) (k + 4) (by omega)
   rw [inner_nil (by omega), show unq [] = [] by rw [unq], List.append_nil]
   simp only [r36_Unquote.s0, r36_Unquote.s0c, ba_size, wl, e1, decide_false, cond_false]
   exact this
theorem refunquote_eq (l : List UInt8) (hl : l.length ≤ 500000) (k : Nat) (hk : 7000000 ≤ k) : r36_Unquote.f k (mkW l) = some (encQ (unquoteL l)) := by
 simp only [r36_Unquote.f, r36_Unquote.c, ba_size, ofs]
 unfold unquoteL
 by_cases h : l.length < 2
 ·have e : (l.length : Int) < 2 := by omega
  rw [decide_eq_true e, if_pos h]; rfl
 ·have e : ¬ (l.length : Int) < 2 := by omega
  have := refunq_s0 l (by omega) (by omega) l.length 1 [] (by omega) (by omega) (Nat.le_refl _) (by simp) k (by omega)
  rw [decide_eq_false e, if_neg h]
  simp only [cond_false]
  refine this.trans ?_
  unfold inner
  rw [show l.length - 1 - 1 = l.length - 2 by omega]; rfl
end Go.Proofs.YtimadphjdkjgaaaGreatDoor.Aev
