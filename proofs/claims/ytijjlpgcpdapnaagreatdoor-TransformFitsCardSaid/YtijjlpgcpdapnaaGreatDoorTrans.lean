import Derived.Test.YtijjlpgcpdapnaaGreatDoorF0
import Derived.Test.YtijjlpgcpdapnaaGreatDoorF2
import Derived.Test.YtijjlpgcpdapnaaGreatDoorF3
import Derived.Test.YtijjlpgcpdapnaaGreatDoorF5
import Derived.Test.YtijjlpgcpdapnaaGreatDoorFitsR
import Derived.Test.YtijjlpgcpdapnaaGreatDoorConv
import Derived.Test.YtijjlpgcpdapnaaGreatDoorSameRow

/- Rows behind a change: the program's and the document's ways. -/
namespace Go.Proofs.YtijjlpgcpdapnaaGreatDoor.Aev
open Go
set_option linter.unusedVariables false
set_option linter.unusedSimpArgs false
set_option maxRecDepth 100000
abbrev Ch : Type := D_api_Change
theorem elem_t {l : List ByteArray} {i : Nat} (h : i < l.length) : elem Ty.str l (i : Int) = l[i] := by
 simp [elem, List.getD, List.getElem?_eq_getElem h]
theorem few08_s0 (l : List ByteArray) (hl : l.length ≤ 60) : ∀ (m i : Nat), i + m = l.length → ∀ k, m < k → ∃ r, transomlaw08_Few.s0 k l (i : Int) = some r := by
 intro m
 induction m with
 | zero =>
  intro i hi k hk
  obtain ⟨k, rfl⟩ : ∃ q, k = q + 1 := ⟨k - 1, by omega⟩
  have e : ¬ (i : Int) < (l.length : Int) := by omega
  simp only [transomlaw08_Few.s0, transomlaw08_Few.s0c, e, decide_false, cond_false]
  exact ⟨1, rfl⟩
 | succ m ih =>
  intro i hi k hk
  obtain ⟨k, rfl⟩ : ∃ q, k = q + 1 := ⟨k - 1, by omega⟩
  have hlt : i < l.length := by omega
  have e0 : (i : Int) < (l.length : Int) := by omega
  have e1 : (0 : Int) ≤ (i : Int) := by omega
  have e2 : IntKind.wrap IntKind.i64 ((i : Int) + 1) = ((i + 1 : Nat) : Int) := by rw [i64w (by omega) (by omega)]; omega
  obtain ⟨r, h1⟩ := ih (i + 1) (by omega) k (by omega)
  simp only [transomlaw08_Few.s0, transomlaw08_Few.s0c, e0, e1, e2, elem_t hlt, h1, decide_true, Bool.and_self, cond_true, os, ofs]
  by_cases c : ((l[i]).size : Int) > 500
  ·simp only [c, decide_true, cond_true]; exact ⟨0, rfl⟩
  ·simp only [c, decide_false, cond_false]; exact ⟨r, rfl⟩
theorem few08 (l : List ByteArray) (k : Nat) (hk : 100 ≤ k) : ∃ r, transomlaw08_Few.f k l = some r ∧ (r = 0 ∨ l.length ≤ 60) := by
 simp only [transomlaw08_Few.f, transomlaw08_Few.c]
 by_cases c : (l.length : Int) > 60
 ·simp only [c, decide_true, cond_true]; exact ⟨0, rfl, .inl rfl⟩
 ·obtain ⟨r, h1⟩ := few08_s0 l (by omega) l.length 0 (by omega) k (by omega)
  have h1' : transomlaw08_Few.s0 k l 0 = some r := h1
  simp only [c, decide_false, cond_false, h1', os, ofs]
  exact ⟨r, rfl, .inr (by omega)⟩
def srcS (c : Ch) : List ByteArray := if c.1 = 2 ∨ c.1 = 3 ∨ c.1 = 4 ∨ c.1 = 5 then [c.2.1] else if c.1 = 6 then [c.2.1, c.2.2.1] else []
theorem src_eq (c : Ch) (k : Nat) : change_Sources.f k c = some (srcS c) := by
 simp only [change_Sources.f, change_Sources.c, change_of.f, change_of.c, change_create_sources.f, change_create_sources.c, change_add_sources.f, change_add_sources.c, change_drop_sources.f, change_drop_sources.c, change_retype_sources.f, change_retype_sources.c, change_split_sources.f, change_split_sources.c, change_merge_sources.f, change_merge_sources.c]
 unfold srcS
 by_cases h1 : c.1 = 1
 ·simp [h1]
 ·by_cases h2 : c.1 = 2
  ·simp [h2]
  ·by_cases h3 : c.1 = 3
   ·simp [h3]
   ·by_cases h4 : c.1 = 4
    ·simp [h4]
    ·by_cases h5 : c.1 = 5
     ·simp [h5]
     ·by_cases h6 : c.1 = 6
      ·simp [h6]
      ·simp only [beq_eq_false_iff_ne.2 h1, beq_eq_false_iff_ne.2 h2, beq_eq_false_iff_ne.2 h3, beq_eq_false_iff_ne.2 h4, beq_eq_false_iff_ne.2 h5, beq_eq_false_iff_ne.2 h6, cond_false]
       rw [if_neg (by omega), if_neg h6]; rfl
theorem srcS_len (c : Ch) : (srcS c).length ≤ 2 := by
 unfold srcS
 split
 ·simp
 ·split <;> simp
theorem getD_at {α : Type} {l : List α} {n : Nat} (h : n < l.length) (d : α) : l.getD n d = l[n] := by simp [List.getD, List.getElem?_eq_getElem h]
def inB (s : ByteArray) (l : List ByteArray) : Bool := decide (0 ≤ place (findS s l) 0)
theorem contains_eq (l : List ByteArray) (s : ByteArray) (hl : l.length ≤ 1000) (k : Nat) (hk : 1100 ≤ k) : slices_Contains_string_string.f k l s = some (inB s l) := by
 have := index_s0 l s (by omega) l.length 0 (by omega) k (by omega)
 have h : sIx.f k l s = some (place (findS s l) 0) := by
  simp only [sIx.f, sIx.c, ofs]
  exact this
 simp only [slices_Contains_string_string.f, slices_Contains_string_string.c, h, os]
 rfl
theorem copied_eq (l : List V) (hl : l.length ≤ 1000) (k : Nat) : transform_copied.f k l = some l := by
 have e : IntKind.wrap IntKind.i64 ((l.length : Int) + 1) = (l.length : Int) + 1 := i64w (by omega) (by omega)
 have e1 : (l.length : Int) ≤ (l.length : Int) + 1 := by omega
 have e2 : ((l.length : Int) + 1) * 40 ≤ 35184372088832 := by omega
 simp only [transform_copied.f, transform_copied.c, e, e1, e2, decide_true, Bool.and_self, cond_true, Int.toNat_natCast, List.length_replicate, List.take_length]
 rw [List.drop_eq_nil_of_le (by simp), List.append_nil]
noncomputable def cv (v : V) (t : Int) : Int × Int × Int × ByteArray × Int := encC (toC v.1 v.2.1 v.2.2.1.toNat v.2.2.2.1.data.toList t)
def OkV (v : V) : Prop := v.2.2.2.1.size ≤ 2000 ∧ (∃ n : Nat, v.2.2.1 = (n : Int) ∧ n < 18446744073709551616) ∧ -9223372036854775808 ≤ v.2.1 ∧ v.2.1 ≤ 9223372036854775807
theorem cv_eq {v : V} (h : OkV v) (t : Int) (k : Nat) (hk : 4000 ≤ k) : convert_To.f k v.1 v.2.1 v.2.2.1 v.2.2.2.1 t = some (cv v t) := by
 obtain ⟨h1, ⟨n, h2, h3⟩, h4, h5⟩ := h
 have hs : v.2.2.2.1.data.toList.length ≤ 2000 := by rw [Array.length_toList]; exact h1
 have e := ba_of v.2.2.2.1
 have := to_eq (a0 := v.1) (t := t) h4 h5 h3 v.2.2.2.1.data.toList (by omega) k (by omega)
 unfold cv
 rw [h2, Int.toNat_natCast, ← this]
def toV (r : Int × Int × Int × ByteArray × Int) : V := (r.1, (r.2.1, (r.2.2.1, (r.2.2.2.1, ()))))
def named (c : Ch) (cols : List C) (i : Nat) : Bool := inB (cols.getD i default).1 c.2.2.2.2.2.2.2.1
def fA (c : Ch) (keys at' : Int) (cols : List C) (i : Nat) (v : V) : List V :=
 if (c.1 = 3 ∧ (i : Int) = at') ∨ (c.1 = 5 ∧ keys ≤ (i : Int) ∧ named c cols i = false) then [] else [v]
def fB (c : Ch) (keys : Int) (cols : List C) (i : Nat) (v : V) : List V :=
 if c.1 = 5 ∧ ((i : Int) < keys ∨ named c cols i = false) then [v] else []
def gA (c : Ch) (keys at' : Int) (cols : List C) : Nat → List V → List V
 | _, [] => []
 | i, v :: l => fA c keys at' cols i v ++ gA c keys at' cols (i + 1) l
def gB (c : Ch) (keys : Int) (cols : List C) : Nat → List V → List V
 | _, [] => []
 | i, v :: l => fB c keys cols i v ++ gB c keys cols (i + 1) l
def dfl (c : Ch) : V := c.2.2.2.2.2.2.2.2.1.2.2.2.1
def finS (c : Ch) (a b : List V) : List (List V) × Int := if c.1 = 2 then ([a ++ [dfl c]], 0) else if c.1 = 5 then ([a, b], 0) else ([a], 0)
theorem named_at {c : Ch} {cols : List C} {i : Nat} (h : i < cols.length) : named c cols i = inB (cols[i]).1 c.2.2.2.2.2.2.2.1 := by
 unfold named; rw [getD_at h]
theorem fA_len (c : Ch) (keys at' : Int) (cols : List C) (i : Nat) (v : V) : (fA c keys at' cols i v).length ≤ 1 := by unfold fA; split <;> simp
theorem fB_len (c : Ch) (keys : Int) (cols : List C) (i : Nat) (v : V) : (fB c keys cols i v).length ≤ 1 := by unfold fB; split <;> simp
/-! ### the program's split -/
theorem parts_s0 (c : Ch) (h5 : c.1 = 5) (hn : c.2.2.2.2.2.2.2.1.length ≤ 60) (row : List V) (cols : List C) (hc : row.length = cols.length) (hl : row.length ≤ 1000) (nm : ByteArray) (keys at' : Int) : ∀ (m i : Nat) (a b : List V), i + m = row.length → a.length ≤ i → b.length ≤ i → ∀ k, m + 1200 < k →
  transform_parts.s0 k row (row.length : Int) (i : Int) nm keys cols c a b = some [a ++ gA c keys at' cols i (row.drop i), b ++ gB c keys cols i (row.drop i)] := by
 intro m
 induction m with
 | zero =>
  intro i a b hi ha hb k hk
  obtain ⟨k, rfl⟩ : ∃ q, k = q + 1 := ⟨k - 1, by omega⟩
  have e : ¬ (i : Int) < (row.length : Int) := by omega
  rw [List.drop_eq_nil_of_le (by omega)]
  simp only [transform_parts.s0, transform_parts.s0c, e, decide_false, cond_false, gA, gB, List.append_nil]
 | succ m ih =>
  intro i a b hi ha hb k hk
  obtain ⟨k, rfl⟩ : ∃ q, k = q + 1 := ⟨k - 1, by omega⟩
  have hlt : i < row.length := by omega
  have hlt2 : i < cols.length := by omega
  have e0 : (i : Int) < (row.length : Int) := by omega
  have e0' : (i : Int) < (cols.length : Int) := by omega
  have e1 : (0 : Int) ≤ (i : Int) := by omega
  have e2 : IntKind.wrap IntKind.i64 ((i : Int) + 1) = ((i + 1 : Nat) : Int) := by rw [i64w (by omega) (by omega)]; omega
  have z1 : (a.length + 1) * 40 ≤ 2 ^ 45 := by omega
  have z2 : (b.length + 1) * 40 ≤ 2 ^ 45 := by omega
  have hr := contains_eq c.2.2.2.2.2.2.2.1 (cols[i]).1 (by omega) k (by omega)
  have nc : ¬ (5 : Int) = 3 := by decide
  rw [List.drop_eq_getElem_cons hlt]
  simp only [transform_parts.s0, transform_parts.s0c, e0, e0', e1, e2, elem_v hlt, elem_c hlt2, hr, z1, z2, decide_true, Bool.and_self, cond_true, os, ofs, gA, gB, fA, fB, named_at hlt2, h5, nc, false_and, false_or, or_false, true_and]
  by_cases c1 : (i : Int) < keys
  ·have c1' : ¬ keys ≤ (i : Int) := by omega
   have := ih (i + 1) (a ++ [row[i]]) (b ++ [row[i]]) (by omega) (by simp; omega) (by simp; omega) k (by omega)
   simp only [c1, c1', nc, decide_true, cond_true, this, false_and, false_or, or_false, if_false, true_or, if_true, List.append_assoc]
  ·have c1' : keys ≤ (i : Int) := by omega
   cases hb' : inB (cols[i]).1 c.2.2.2.2.2.2.2.1 with
   | true =>
    have := ih (i + 1) (a ++ [row[i]]) b (by omega) (by simp; omega) (by omega) k (by omega)
    have q1 : (true == false) = false := rfl
    have q2 : (true == true) = true := rfl
    simp only [c1, c1', decide_false, cond_false, q1, q2, cond_true, this, nc, false_and, Bool.true_eq_false, and_false, or_false, if_false, List.append_assoc, List.nil_append]
   | false =>
    have := ih (i + 1) a (b ++ [row[i]]) (by omega) (by omega) (by simp; omega) k (by omega)
    have q1 : (false == false) = true := rfl
    have q2 : (false == true) = false := rfl
    simp only [c1, c1', decide_false, cond_false, q1, q2, cond_true, this, and_self, or_true, if_true, List.append_assoc, List.nil_append]
theorem parts_eq (c : Ch) (h5 : c.1 = 5) (hn : c.2.2.2.2.2.2.2.1.length ≤ 60) (row : List V) (cols : List C) (hc : row.length = cols.length) (hl : row.length ≤ 1000) (nm : ByteArray) (keys at' : Int) (k : Nat) (hk : 3000 ≤ k) :
  transform_parts.f k nm keys cols c row = some [gA c keys at' cols 0 row, gB c keys cols 0 row] := by
 have h := parts_s0 c h5 hn row cols hc hl nm keys at' row.length 0 [] [] (by omega) (Nat.le_refl _) (Nat.le_refl _) k (by omega)
 have h' : transform_parts.s0 k row (row.length : Int) 0 nm keys cols c [] [] = some [[] ++ gA c keys at' cols 0 (row.drop 0), [] ++ gB c keys cols 0 (row.drop 0)] := h
 simp only [transform_parts.f, transform_parts.c, h', os, List.drop_zero, List.nil_append]
/-! ### the document's loop -/
section
variable (c : Ch) (row : List V) (cols : List C) (nm : ByteArray) (keys at' : Int)
noncomputable def loopS (a d : List V) (i : Nat) : List (List V) × Int :=
 if c.1 = 4 ∧ (i : Int) ≤ at' ∧ at' < (row.length : Int) then
  (if (cv (row.getD at'.toNat (0, 0, 0, ByteArray.empty, ())) c.2.2.2.2.2.2.1).2.2.2.2 ≠ 0 then ([], (cv (row.getD at'.toNat (0, 0, 0, ByteArray.empty, ())) c.2.2.2.2.2.2.1).2.2.2.2)
   else ([a ++ (row.set at'.toNat (toV (cv (row.getD at'.toNat (0, 0, 0, ByteArray.empty, ())) c.2.2.2.2.2.2.1))).drop i], 0))
 else finS c (a ++ gA c keys at' cols i (row.drop i)) (d ++ gB c keys cols i (row.drop i))
end
end Go.Proofs.YtijjlpgcpdapnaaGreatDoor.Aev
