import Derived.Test.YtijjlpgcpdapnaaGreatDoorF1
import Derived.Test.YtijjlpgcpdapnaaGreatDoorF2
import Derived.Test.YtijjlpgcpdapnaaGreatDoorF3
import Derived.Test.YtijjlpgcpdapnaaGreatDoorPl
import Derived.Test.YtijjlpgcpdapnaaGreatDoorBa

/- Names: whether a text is one; where one stands; whether no two are the same: the program's and the document's ways. -/
namespace Go.Proofs.YtijjlpgcpdapnaaGreatDoor.Aev
open Go
set_option linter.unusedVariables false
set_option linter.unusedSimpArgs false
set_option maxRecDepth 100000
def ltr (c : Int) : Bool := decide (97 ≤ c) && decide (c ≤ 122)
def dgt (c : Int) : Bool := (decide (48 ≤ c) && decide (c ≤ 57)) || decide (c = 95)
def nmr : List UInt8 → Int
 | [] => 0
 | c :: l => if (ltr (c.toNat : Int) || dgt (c.toNat : Int)) = true then nmr l else 8
def nameS (s : List UInt8) : Int := if s.length < 1 ∨ 16 < s.length then 8 else match s with | [] => 8 | c :: l => if ltr (c.toNat : Int) = true then nmr l else 8
theorem elem_u8 {l : List UInt8} {i : Nat} (h : i < l.length) : elem (Ty.int IntKind.u8) (l.map fun b => ((b.toNat : Nat) : Int)) (i : Int) = ((l[i]).toNat : Int) := by
 simp [elem, List.getD, List.getElem?_eq_getElem h]
theorem ncheck_step (l : List UInt8) (hl : l.length ≤ 1000) (i : Nat) (hi : i < l.length) (k : Nat) :
  names_Check.s2 (k + 5) (l.map fun b => ((b.toNat : Nat) : Int)) (l.length : Int) (i : Int) =
   if (!(ltr ((l[i]).toNat : Int)) && (decide (i = 0) || !(dgt ((l[i]).toNat : Int)))) = true then some 8 else names_Check.s2 k (l.map fun b => ((b.toNat : Nat) : Int)) (l.length : Int) ((i + 1 : Nat) : Int) := by
 have e0 : (i : Int) < (l.length : Int) := by omega
 have e1 : (0 : Int) ≤ (i : Int) := by omega
 have e2 : IntKind.wrap IntKind.i64 ((i : Int) + 1) = ((i + 1 : Nat) : Int) := by rw [i64w (by omega) (by omega)]; omega
 have e3 : ((i : Int) == 0) = decide (i = 0) := by rw [Bool.eq_iff_iff]; simp
 have he := elem_u8 hi
 simp only [names_Check.s2, names_Check.s2c, names_Check.s3, names_Check.s3c, names_Check.s4, names_Check.s4c, names_Check.s5, names_Check.s5c, names_Check.s6, names_Check.s6c, e0, e1, e2, e3, he, List.length_map, decide_true, Bool.and_self, cond_true, ofs]
 generalize (((l[i]).toNat : Nat) : Int) = c
 have e95 : (c == 95) = decide (c = 95) := by rw [Bool.eq_iff_iff]; simp
 rw [e95]
 unfold ltr dgt
 by_cases c1 : 97 ≤ c
 ·by_cases c2 : c ≤ 122
  ·have c3 : 48 ≤ c := by omega
   by_cases c4 : c ≤ 57 <;> by_cases c5 : c = 95 <;> by_cases c6 : i = 0 <;> simp [c1, c2, c3, c4, c5, c6]
  ·have c3 : 48 ≤ c := by omega
   by_cases c4 : c ≤ 57 <;> by_cases c5 : c = 95 <;> by_cases c6 : i = 0 <;> simp [c1, c2, c3, c4, c5, c6]
 ·by_cases c2 : c ≤ 122 <;> by_cases c3 : 48 ≤ c <;> by_cases c4 : c ≤ 57 <;> by_cases c5 : c = 95 <;> by_cases c6 : i = 0 <;> simp [c1, c2, c3, c4, c5, c6]
theorem ncheck_s2 (l : List UInt8) (hl : l.length ≤ 1000) : ∀ (m i : Nat), i + m = l.length → 1 ≤ i → ∀ k, 5 * m < k → names_Check.s2 k (l.map fun b => ((b.toNat : Nat) : Int)) (l.length : Int) (i : Int) = some (nmr (l.drop i)) := by
 intro m
 induction m with
 | zero =>
  intro i hi h1 k hk
  obtain ⟨k, rfl⟩ : ∃ j, k = j + 1 := ⟨k - 1, by omega⟩
  have e : ¬ (i : Int) < (l.length : Int) := by omega
  rw [List.drop_eq_nil_of_le (by omega)]
  simp [names_Check.s2, names_Check.s2c, e, nmr]
 | succ m ih =>
  intro i hi h1 k hk
  obtain ⟨k, rfl⟩ : ∃ j, k = j + 5 := ⟨k - 5, by omega⟩
  have hlt : i < l.length := by omega
  rw [ncheck_step l hl i hlt k, ih (i + 1) (by omega) (by omega) k (by omega), List.drop_eq_getElem_cons hlt]
  simp only [nmr]
  have e : decide (i = 0) = false := by simp; omega
  rw [e]
  cases ltr (l[i].toNat : Int) <;> cases dgt (l[i].toNat : Int) <;> simp
theorem mk_ex (s : ByteArray) : ∃ l : List UInt8, s = ByteArray.mk (List.toArray l) ∧ s.data.toList = l := ⟨s.data.toList, ba_of s, rfl⟩
theorem mk_beq_nil (l : List UInt8) : ((ByteArray.mk (List.toArray l)).toList == (ByteArray.mk (List.toArray [])).toList) = decide (l.length < 1) := by
 rw [Bool.eq_iff_iff, beq_iff_eq, toList_iff, ba_inj, decide_eq_true_iff]
 constructor
 ·intro h; rw [h]; simp
 ·intro h; exact List.length_eq_zero_iff.1 (by omega)
theorem ncheck_eq (s : ByteArray) (k : Nat) (hk : 100 ≤ k) : names_Check.f k s = some (nameS s.data.toList) := by
 obtain ⟨k, rfl⟩ : ∃ j, k = j + 7 := ⟨k - 7, by omega⟩
 obtain ⟨l, rfl, hl⟩ := mk_ex s
 rw [hl]
 have hm : ((l.map fun b : UInt8 => ((b.toNat : Nat) : Int)).length : Int) = (l.length : Int) := by simp
 simp only [names_Check.f, names_Check.c, names_Check.s0, names_Check.s0c, names_Check.s1, names_Check.s1c, mk_beq_nil, ba_size, hm, ofs]
 unfold nameS
 by_cases c1 : l.length < 1
 ·simp only [c1, decide_true, cond_true, true_or, if_true]
 ·by_cases c2 : 16 < l.length
  ·have : (l.length : Int) > 16 := by omega
   simp only [c1, c2, this, decide_true, decide_false, cond_true, cond_false, or_true, if_true]
  ·have h3 : ¬ (l.length : Int) > 16 := by omega
   have h0 := ncheck_step l (by omega) 0 (by omega) k
   have h1 := ncheck_s2 l (by omega) (l.length - 1) 1 (by omega) (by omega) k (by omega)
   rw [h1] at h0
   simp only [c1, c2, h3, decide_false, cond_false, or_self, if_false]
   refine h0.trans ?_
   cases l with
   | nil => exact absurd (by simp : ([] : List UInt8).length < 1) c1
   | cons c l =>
    simp only [List.getElem_cons_zero, decide_true, Bool.true_or, Bool.and_true, List.drop_succ_cons, List.drop_zero]
    cases ltr (c.toNat : Int) <;> rfl
/-! places -/
theorem elem_str {l : List ByteArray} {i : Nat} (h : i < l.length) : elem Ty.str l (i : Int) = l[i] := by
 simp [elem, List.getD, List.getElem?_eq_getElem h]
theorem beq_toList (a b : ByteArray) : (a.toList == b.toList) = decide (a = b) := by
 rw [Bool.eq_iff_iff, beq_iff_eq, toList_iff, decide_eq_true_iff]
def place (o : Option Nat) (i : Nat) : Int := match o with | some j => ((i + j : Nat) : Int) | none => -1
def findS (s : ByteArray) (l : List ByteArray) : Option Nat := l.findIdx? fun x => decide (x = s)
theorem findS_cons (s x : ByteArray) (l : List ByteArray) (i : Nat) : place (findS s (x :: l)) i = if x = s then (i : Int) else place (findS s l) (i + 1) := by
 unfold findS
 rw [List.findIdx?_cons]
 by_cases h : x = s
 ·simp [h, place]
 ·simp only [h, decide_false, if_false, Bool.false_eq_true]
  cases l.findIdx? (fun x => decide (x = s)) with
  | none => rfl
  | some j => simp only [Option.map_some, place]; omega
theorem index_s0 (l : List ByteArray) (s : ByteArray) (hl : l.length ≤ 1000000) : ∀ (m i : Nat), i + m = l.length → ∀ k, m < k → sIx.s0 k l s (l.length : Int) (i : Int) = some (place (findS s (l.drop i)) i) := by
 intro m
 induction m with
 | zero =>
  intro i hi k hk
  obtain ⟨k, rfl⟩ : ∃ j, k = j + 1 := ⟨k - 1, by omega⟩
  have e : ¬ (i : Int) < (l.length : Int) := by omega
  rw [List.drop_eq_nil_of_le (by omega)]
  simp [sIx.s0, sIx.s0c, e, findS, place]
 | succ m ih =>
  intro i hi k hk
  obtain ⟨k, rfl⟩ : ∃ j, k = j + 1 := ⟨k - 1, by omega⟩
  have hlt : i < l.length := by omega
  have e0 : (i : Int) < (l.length : Int) := by omega
  have e1 : (0 : Int) ≤ (i : Int) := by omega
  have e2 : IntKind.wrap IntKind.i64 ((i : Int) + 1) = ((i + 1 : Nat) : Int) := by rw [i64w (by omega) (by omega)]; omega
  have he := elem_str hlt
  have h1 := ih (i + 1) (by omega) k (by omega)
  rw [List.drop_eq_getElem_cons hlt, findS_cons]
  simp only [sIx.s0, sIx.s0c, e0, e1, e2, he, h1, beq_toList, decide_true, Bool.and_self, cond_true, ofs]
  by_cases c : l[i] = s
  ·rw [if_pos c, decide_eq_true c.symm]; rfl
  ·rw [if_neg c, decide_eq_false (fun h => c h.symm)]; rfl
theorem find_eq (l : List ByteArray) (s : ByteArray) (hl : l.length ≤ 1000) (k : Nat) (hk : 1100 ≤ k) : names_Find.f k l s = some (place (findS s l) 0) := by
 have := index_s0 l s (by omega) l.length 0 (by omega) k (by omega)
 simp only [names_Find.f, names_Find.c, sIx.f, sIx.c, ofs]
 exact this
/-! no two the same -/
def cnt (s : ByteArray) : List ByteArray → Nat
 | [] => 0
 | x :: l => (if x = s then 1 else 0) + cnt s l
theorem cnt_zero {s : ByteArray} {l : List ByteArray} : cnt s l = 0 ↔ s ∉ l := by
 induction l with
 | nil => simp [cnt]
 | cons x l ih =>
  simp only [cnt, List.mem_cons, not_or]
  by_cases h : x = s
  ·simp [h]
  ·rw [if_neg h, Nat.zero_add, ih]
   exact ⟨fun h' => ⟨fun e => h e.symm, h'⟩, fun h' => h'.2⟩
theorem nodup_cnt : ∀ {l : List ByteArray}, l.Nodup ↔ ∀ x ∈ l, cnt x l ≤ 1
 | [] => by simp
 | y :: l => by
  rw [List.nodup_cons, nodup_cnt (l := l)]
  constructor
  ·rintro ⟨h1, h2⟩ x hx
   simp only [cnt]
   by_cases e : y = x
   ·subst e
    rw [if_pos rfl, cnt_zero.2 h1]
    exact Nat.le_refl _
   ·rw [if_neg e, Nat.zero_add]
    rcases List.mem_cons.1 hx with h | h
    ·exact absurd h.symm e
    ·exact h2 x h
  ·intro h
   have h0 := h y (by simp)
   simp only [cnt, if_true] at h0
   refine ⟨cnt_zero.1 (by omega), fun x hx => ?_⟩
   have := h x (by simp [hx])
   simp only [cnt] at this
   omega
theorem count_s0' (l : List ByteArray) (s : ByteArray) (hl : l.length ≤ 1000000) : ∀ (m i c : Nat), i + m = l.length → c ≤ i → ∀ k, 2 * m < k → names_count.s0 k s (c : Int) l (l.length : Int) (i : Int) = some (((c + cnt s (l.drop i) : Nat) : Int)) := by
 intro m
 induction m with
 | zero =>
  intro i c hi hc k hk
  obtain ⟨k, rfl⟩ : ∃ j, k = j + 1 := ⟨k - 1, by omega⟩
  have e : ¬ (i : Int) < (l.length : Int) := by omega
  rw [List.drop_eq_nil_of_le (by omega)]
  simp [names_count.s0, names_count.s0c, e, cnt]
 | succ m ih =>
  intro i c hi hc k hk
  obtain ⟨k, rfl⟩ : ∃ j, k = j + 2 := ⟨k - 2, by omega⟩
  have hlt : i < l.length := by omega
  have e0 : (i : Int) < (l.length : Int) := by omega
  have e1 : (0 : Int) ≤ (i : Int) := by omega
  have e2 : IntKind.wrap IntKind.i64 ((i : Int) + 1) = ((i + 1 : Nat) : Int) := by rw [i64w (by omega) (by omega)]; omega
  have e3 : IntKind.wrap IntKind.i64 ((c : Int) + 1) = ((c + 1 : Nat) : Int) := by rw [i64w (by omega) (by omega)]; omega
  have he := elem_str hlt
  have h1 := ih (i + 1) c (by omega) (by omega) k (by omega)
  have h2 := ih (i + 1) (c + 1) (by omega) (by omega) k (by omega)
  rw [List.drop_eq_getElem_cons hlt]
  simp only [names_count.s0, names_count.s0c, names_count.s1, names_count.s1c, e0, e1, e2, e3, he, h1, h2, beq_toList, cnt, decide_true, Bool.and_self, cond_true, ofs]
  by_cases d : l[i] = s
  ·simp only [d, decide_true, cond_true, if_true]; congr 2; omega
  ·simp only [d, decide_false, cond_false, if_false]; congr 2; omega
theorem count_eq' (l : List ByteArray) (s : ByteArray) (hl : l.length ≤ 1000) (k : Nat) (hk : 3000 ≤ k) : names_count.f k s l = some ((cnt s l : Nat) : Int) := by
 have := count_s0' l s (by omega) l.length 0 0 (by omega) (Nat.le_refl _) k (by omega)
 simp only [names_count.f, names_count.c, ofs]
 refine Eq.trans this ?_
 simp
theorem unlike_s0 (l : List ByteArray) (hl : l.length ≤ 1000) : ∀ (m i : Nat), i + m = l.length → ∀ k, m + 3000 < k → ∃ b, names_Unlike.s0 k l l (l.length : Int) (i : Int) = some b ∧ (b = true ↔ ∀ x ∈ l.drop i, cnt x l ≤ 1) := by
 intro m
 induction m with
 | zero =>
  intro i hi k hk
  obtain ⟨k, rfl⟩ : ∃ j, k = j + 1 := ⟨k - 1, by omega⟩
  have e : ¬ (i : Int) < (l.length : Int) := by omega
  rw [List.drop_eq_nil_of_le (by omega)]
  exact ⟨true, by simp [names_Unlike.s0, names_Unlike.s0c, e], by simp⟩
 | succ m ih =>
  intro i hi k hk
  obtain ⟨k, rfl⟩ : ∃ j, k = j + 1 := ⟨k - 1, by omega⟩
  have hlt : i < l.length := by omega
  have e0 : (i : Int) < (l.length : Int) := by omega
  have e1 : (0 : Int) ≤ (i : Int) := by omega
  have e2 : IntKind.wrap IntKind.i64 ((i : Int) + 1) = ((i + 1 : Nat) : Int) := by rw [i64w (by omega) (by omega)]; omega
  have he := elem_str hlt
  obtain ⟨b, h1, h2⟩ := ih (i + 1) (by omega) k (by omega)
  have hc := count_eq' l l[i] hl k (by omega)
  rw [List.drop_eq_getElem_cons hlt]
  simp only [names_Unlike.s0, names_Unlike.s0c, e0, e1, e2, he, h1, hc, decide_true, Bool.and_self, cond_true, os, ofs, List.forall_mem_cons]
  by_cases c : cnt l[i] l ≤ 1
  ·have : ¬ ((cnt l[i] l : Nat) : Int) > 1 := by omega
   exact ⟨b, by simp [this], by rw [h2]; simp [c]⟩
  ·have : ((cnt l[i] l : Nat) : Int) > 1 := by omega
   exact ⟨false, by simp [this], by simp [c]⟩
open Classical in
noncomputable def unlikeS (l : List ByteArray) : Bool := decide l.Nodup
theorem unlikeS_of {l : List ByteArray} {b : Bool} (h : b = true ↔ l.Nodup) : b = unlikeS l := by
 unfold unlikeS
 rw [Bool.eq_iff_iff, h, decide_eq_true_iff]
theorem unlike_eq (l : List ByteArray) (hl : l.length ≤ 1000) (k : Nat) (hk : 5000 ≤ k) : names_Unlike.f k l = some (unlikeS l) := by
 obtain ⟨b, h1, h2⟩ := unlike_s0 l hl l.length 0 (by omega) k (by omega)
 rw [List.drop_zero, ← nodup_cnt] at h2
 simp only [names_Unlike.f, names_Unlike.c, ofs]
 rw [← unlikeS_of h2]
 exact h1
end Go.Proofs.YtijjlpgcpdapnaaGreatDoor.Aev
