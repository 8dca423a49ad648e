
/- Rows behind a change: the program's and the document's ways. -/
import Derived.Test.YtijjlpgcpdapnaaGreatDoorF0
import Derived.Test.YtijjlpgcpdapnaaGreatDoorF2
import Derived.Test.YtijjlpgcpdapnaaGreatDoorF4
import Derived.Test.YtijjlpgcpdapnaaGreatDoorF6
import Derived.Test.YtijjlpgcpdapnaaGreatDoorF7
import Derived.Test.YtijjlpgcpdapnaaGreatDoorF9
import Derived.Test.YtijjlpgcpdapnaaGreatDoorFitsR
import Derived.Test.YtijjlpgcpdapnaaGreatDoorConv
import Derived.Test.YtijjlpgcpdapnaaGreatDoorSameRow
namespace Go.Proofs.YtijjlpgcpdapnaaGreatDoor.Aev
open Go
set_option linter.unusedVariables false
set_option linter.unusedSimpArgs false
set_option maxRecDepth 100000
abbrev Ch : Type := D_api_Change
theorem elem_t {l : List ByteArray} {i : Nat} (h : i < l.length) : elem Ty.str l (i : Int) = l[i] := by
  simp [elem, List.getD, List.getElem?_eq_getElem h]
theorem few08_s0 (l : List ByteArray) (hl : l.length ≤ 60) : ∀ (m i : Nat), i + m = l.length → ∀ k, m < k → ∃ r, transomlaw08_Few.s0 k l (i : Int) = some r := by
  intro m
  induction m with
  | zero =>
    intro i hi k hk
    obtain ⟨k, rfl⟩ : ∃ q, k = q + 1 := ⟨k - 1, by omega⟩
    have e : ¬ (i : Int) < (l.length : Int) := by omega
    simp only [transomlaw08_Few.s0, transomlaw08_Few.s0c, e, decide_false, cond_false]
    exact ⟨1, rfl⟩
  | succ m ih =>
    intro i hi k hk
    obtain ⟨k, rfl⟩ : ∃ q, k = q + 1 := ⟨k - 1, by omega⟩
    have hlt : i < l.length := by omega
    have e0 : (i : Int) < (l.length : Int) := by omega
    have e1 : (0 : Int) ≤ (i : Int) := by omega
    have e2 : IntKind.wrap IntKind.i64 ((i : Int) + 1) = ((i + 1 : Nat) : Int) := by rw [i64w (by omega) (by omega)]; omega
    obtain ⟨r, h1⟩ := ih (i + 1) (by omega) k (by omega)
    simp only [transomlaw08_Few.s0, transomlaw08_Few.s0c, e0, e1, e2, elem_t hlt, h1, decide_true, Bool.and_self, cond_true, Option.bind_some, Option.bind_fun_some]
    by_cases c : ((l[i]).size : Int) > 500
    · simp only [c, decide_true, cond_true]; exact ⟨0, rfl⟩
    · simp only [c, decide_false, cond_false]; exact ⟨r, rfl⟩
theorem few08 (l : List ByteArray) (k : Nat) (hk : 100 ≤ k) : ∃ r, transomlaw08_Few.f k l = some r ∧ (r = 0 ∨ l.length ≤ 60) := by
  simp only [transomlaw08_Few.f, transomlaw08_Few.c]
  by_cases c : (l.length : Int) > 60
  · simp only [c, decide_true, cond_true]; exact ⟨0, rfl, .inl rfl⟩
  · obtain ⟨r, h1⟩ := few08_s0 l (by omega) l.length 0 (by omega) k (by omega)
    have h1' : transomlaw08_Few.s0 k l 0 = some r := h1
    simp only [c, decide_false, cond_false, h1', Option.bind_some, Option.bind_fun_some]
    exact ⟨r, rfl, .inr (by omega)⟩
theorem few10 (c : Ch) (k : Nat) (hk : 200 ≤ k) : ∃ r, transomlaw10_Few.f k c = some r ∧ (r = 0 ∨ c.2.2.2.2.2.2.2.1.length ≤ 60) := by
  obtain ⟨r1, h1, g1⟩ := few08 c.2.2.2.2.2.2.2.1 k (by omega)
  obtain ⟨r2, h2, g2⟩ := few08 [c.2.1, c.2.2.1, c.2.2.2.1, c.2.2.2.2.1, c.2.2.2.2.2.1, c.2.2.2.2.2.2.2.2.1.1] k (by omega)
  have h3 := few09 c.2.2.2.2.2.2.2.2.2.1.1 c.2.2.2.2.2.2.2.2.2.1.2.1 c.2.2.2.2.2.2.2.2.2.1.2.2.1 k (by omega)
  have h4 := few04' c.2.2.2.2.2.2.2.2.1.2.2.2.1.1 c.2.2.2.2.2.2.2.2.1.2.2.2.1.2.1 c.2.2.2.2.2.2.2.2.1.2.2.2.1.2.2.1 c.2.2.2.2.2.2.2.2.1.2.2.2.1.2.2.2.1 k
  simp only [transomlaw10_Few.f, transomlaw10_Few.c, h1, h2, h3, h4, Option.bind_some]
  by_cases c1 : r1 = 0
  · simp only [c1, beq_self_eq_true, cond_true]; exact ⟨0, rfl, .inl rfl⟩
  · have g := g1.resolve_left c1
    by_cases c2 : r2 = 0
    · simp only [beq_eq_false_iff_ne.2 c1, c2, beq_self_eq_true, cond_true, cond_false]; exact ⟨0, rfl, .inl rfl⟩
    · simp only [beq_eq_false_iff_ne.2 c1, beq_eq_false_iff_ne.2 c2, cond_false]
      have z1 : ((1 : Int) == 0) = false := rfl
      have z0 : ((0 : Int) == 0) = true := rfl
      split
      · simp only [z1, cond_false]
        split
        · simp only [z1, cond_false]; exact ⟨1, rfl, .inr g⟩
        · simp only [z0, cond_true]; exact ⟨0, rfl, .inl rfl⟩
      · simp only [z0, cond_true]; exact ⟨0, rfl, .inl rfl⟩
def srcS (c : Ch) : List ByteArray := if c.1 = 2 ∨ c.1 = 3 ∨ c.1 = 4 ∨ c.1 = 5 then [c.2.1] else if c.1 = 6 then [c.2.1, c.2.2.1] else []
theorem src_eq (c : Ch) (k : Nat) : change_Sources.f k c = some (srcS c) := by
  simp only [change_Sources.f, change_Sources.c, change_of.f, change_of.c, change_create_sources.f, change_create_sources.c, change_add_sources.f, change_add_sources.c, change_drop_sources.f, change_drop_sources.c, change_retype_sources.f, change_retype_sources.c, change_split_sources.f, change_split_sources.c, change_merge_sources.f, change_merge_sources.c]
  unfold srcS
  by_cases h1 : c.1 = 1
  · simp [h1]
  · by_cases h2 : c.1 = 2
    · simp [h2]
    · by_cases h3 : c.1 = 3
      · simp [h3]
      · by_cases h4 : c.1 = 4
        · simp [h4]
        · by_cases h5 : c.1 = 5
          · simp [h5]
          · by_cases h6 : c.1 = 6
            · simp [h6]
            · simp only [beq_eq_false_iff_ne.2 h1, beq_eq_false_iff_ne.2 h2, beq_eq_false_iff_ne.2 h3, beq_eq_false_iff_ne.2 h4, beq_eq_false_iff_ne.2 h5, beq_eq_false_iff_ne.2 h6, cond_false]
              rw [if_neg (by omega), if_neg h6]; rfl
theorem rsrc_eq (c : Ch) (k : Nat) (hk : 1 ≤ k) : transomref10_Sources.f k c = some (srcS c) := by
  obtain ⟨k, rfl⟩ : ∃ q, k = q + 1 := ⟨k - 1, by omega⟩
  simp only [transomref10_Sources.f, transomref10_Sources.c, transomref10_Sources.s0, transomref10_Sources.s0c]
  unfold srcS
  by_cases h2 : c.1 = 2
  · simp [h2]
  · by_cases h3 : c.1 = 3
    · simp [h3]
    · by_cases h4 : c.1 = 4
      · simp [h4]
      · by_cases h5 : c.1 = 5
        · simp [h5]
        · by_cases h6 : c.1 = 6
          · simp [h6]
          · simp only [beq_eq_false_iff_ne.2 h2, beq_eq_false_iff_ne.2 h3, beq_eq_false_iff_ne.2 h4, beq_eq_false_iff_ne.2 h5, beq_eq_false_iff_ne.2 h6, cond_false]
            rw [if_neg (by omega), if_neg h6]; rfl
theorem srcS_len (c : Ch) : (srcS c).length ≤ 2 := by
  unfold srcS
  split
  · simp
  · split <;> simp
theorem getD_at {α : Type} {l : List α} {n : Nat} (h : n < l.length) (d : α) : l.getD n d = l[n] := by simp [List.getD, List.getElem?_eq_getElem h]
theorem getD_out {α : Type} {l : List α} {n : Nat} (h : l.length ≤ n) (d : α) : l.getD n d = d := by simp [List.getD, List.getElem?_eq_none h]
def inB (s : ByteArray) (l : List ByteArray) : Bool := decide (0 ≤ place (findS s l) 0)
theorem contains_eq (l : List ByteArray) (s : ByteArray) (hl : l.length ≤ 1000) (k : Nat) (hk : 1100 ≤ k) : slices_Contains_string_string.f k l s = some (inB s l) := by
  have := index_s0 l s (by omega) l.length 0 (by omega) k (by omega)
  have h : slices_Index_string_string.f k l s = some (place (findS s l) 0) := by
    simp only [slices_Index_string_string.f, slices_Index_string_string.c, Option.bind_fun_some]
    exact this
  simp only [slices_Contains_string_string.f, slices_Contains_string_string.c, h, Option.bind_some]
  rfl
theorem copied_eq (l : List V) (hl : l.length ≤ 1000) (k : Nat) : transform_copied.f k l = some l := by
  have e : IntKind.wrap IntKind.i64 ((l.length : Int) + 1) = (l.length : Int) + 1 := i64w (by omega) (by omega)
  have e1 : (l.length : Int) ≤ (l.length : Int) + 1 := by omega
  have e2 : ((l.length : Int) + 1) * 40 ≤ 35184372088832 := by omega
  simp only [transform_copied.f, transform_copied.c, e, e1, e2, decide_true, Bool.and_self, cond_true, Int.toNat_natCast, List.length_replicate, List.take_length]
  rw [List.drop_eq_nil_of_le (by simp), List.append_nil]
noncomputable def cv (v : V) (t : Int) : Int × Int × Int × ByteArray × Int := encC (toC v.1 v.2.1 v.2.2.1.toNat v.2.2.2.1.data.toList t)
def OkV (v : V) : Prop := v.2.2.2.1.size ≤ 2000 ∧ (∃ n : Nat, v.2.2.1 = (n : Int) ∧ n < 18446744073709551616) ∧ -9223372036854775808 ≤ v.2.1 ∧ v.2.1 ≤ 9223372036854775807
theorem cv_eq {v : V} (h : OkV v) (t : Int) (k : Nat) (hk : 4000 ≤ k) : convert_To.f k v.1 v.2.1 v.2.2.1 v.2.2.2.1 t = some (cv v t) := by
  obtain ⟨h1, ⟨n, h2, h3⟩, h4, h5⟩ := h
  have hs : v.2.2.2.1.data.toList.length ≤ 2000 := by rw [Array.length_toList]; exact h1
  have e := ba_of v.2.2.2.1
  have := to_eq (a0 := v.1) (t := t) h4 h5 h3 v.2.2.2.1.data.toList (by omega) k (by omega)
  unfold cv
  rw [h2, Int.toNat_natCast, ← this]
theorem rcv_eq {v : V} (h : OkV v) (t : Int) (k : Nat) (hk : 4000 ≤ k) : transomref07_To.f k v.1 v.2.1 v.2.2.1 v.2.2.2.1 t = some (cv v t) := by
  obtain ⟨h1, ⟨n, h2, h3⟩, h4, h5⟩ := h
  have hs : v.2.2.2.1.data.toList.length ≤ 2000 := by rw [Array.length_toList]; exact h1
  have e := ba_of v.2.2.2.1
  have := refto_all (a0 := v.1) (t := t) h4 h5 h3 v.2.2.2.1.data.toList (by omega) k (by omega)
  unfold cv
  rw [h2, Int.toNat_natCast, ← this]
def toV (r : Int × Int × Int × ByteArray × Int) : V := (r.1, (r.2.1, (r.2.2.1, (r.2.2.2.1, ()))))
def named (c : Ch) (cols : List C) (i : Nat) : Bool := inB (cols.getD i default).1 c.2.2.2.2.2.2.2.1
def fA (c : Ch) (keys at' : Int) (cols : List C) (i : Nat) (v : V) : List V :=
  if (c.1 = 3 ∧ (i : Int) = at') ∨ (c.1 = 5 ∧ keys ≤ (i : Int) ∧ named c cols i = false) then [] else [v]
def fB (c : Ch) (keys : Int) (cols : List C) (i : Nat) (v : V) : List V :=
  if c.1 = 5 ∧ ((i : Int) < keys ∨ named c cols i = false) then [v] else []
def gA (c : Ch) (keys at' : Int) (cols : List C) : Nat → List V → List V
  | _, [] => []
  | i, v :: l => fA c keys at' cols i v ++ gA c keys at' cols (i + 1) l
def gB (c : Ch) (keys : Int) (cols : List C) : Nat → List V → List V
  | _, [] => []
  | i, v :: l => fB c keys cols i v ++ gB c keys cols (i + 1) l
def dfl (c : Ch) : V := c.2.2.2.2.2.2.2.2.1.2.2.2.1
def finS (c : Ch) (a b : List V) : List (List V) × Int := if c.1 = 2 then ([a ++ [dfl c]], 0) else if c.1 = 5 then ([a, b], 0) else ([a], 0)
theorem named_at {c : Ch} {cols : List C} {i : Nat} (h : i < cols.length) : named c cols i = inB (cols[i]).1 c.2.2.2.2.2.2.2.1 := by
  unfold named; rw [getD_at h]
theorem fA_len (c : Ch) (keys at' : Int) (cols : List C) (i : Nat) (v : V) : (fA c keys at' cols i v).length ≤ 1 := by unfold fA; split <;> simp
theorem fB_len (c : Ch) (keys : Int) (cols : List C) (i : Nat) (v : V) : (fB c keys cols i v).length ≤ 1 := by unfold fB; split <;> simp
/-! ### the program's split -/
theorem parts_s0 (c : Ch) (h5 : c.1 = 5) (hn : c.2.2.2.2.2.2.2.1.length ≤ 60) (row : List V) (cols : List C) (hc : row.length = cols.length) (hl : row.length ≤ 1000) (nm : ByteArray) (keys at' : Int) : ∀ (m i : Nat) (a b : List V), i + m = row.length → a.length ≤ i → b.length ≤ i → ∀ k, m + 1200 < k →
    transform_parts.s0 k row (row.length : Int) (i : Int) nm keys cols c a b = some [a ++ gA c keys at' cols i (row.drop i), b ++ gB c keys cols i (row.drop i)] := by
  intro m
  induction m with
  | zero =>
    intro i a b hi ha hb k hk
    obtain ⟨k, rfl⟩ : ∃ q, k = q + 1 := ⟨k - 1, by omega⟩
    have e : ¬ (i : Int) < (row.length : Int) := by omega
    rw [List.drop_eq_nil_of_le (by omega)]
    simp only [transform_parts.s0, transform_parts.s0c, e, decide_false, cond_false, gA, gB, List.append_nil]
  | succ m ih =>
    intro i a b hi ha hb k hk
    obtain ⟨k, rfl⟩ : ∃ q, k = q + 1 := ⟨k - 1, by omega⟩
    have hlt : i < row.length := by omega
    have hlt2 : i < cols.length := by omega
    have e0 : (i : Int) < (row.length : Int) := by omega
    have e0' : (i : Int) < (cols.length : Int) := by omega
    have e1 : (0 : Int) ≤ (i : Int) := by omega
    have e2 : IntKind.wrap IntKind.i64 ((i : Int) + 1) = ((i + 1 : Nat) : Int) := by rw [i64w (by omega) (by omega)]; omega
    have z1 : (a.length + 1) * 40 ≤ 2 ^ 45 := by omega
    have z2 : (b.length + 1) * 40 ≤ 2 ^ 45 := by omega
    have hr := contains_eq c.2.2.2.2.2.2.2.1 (cols[i]).1 (by omega) k (by omega)
    have nc : ¬ (5 : Int) = 3 := by decide
    rw [List.drop_eq_getElem_cons hlt]
    simp only [transform_parts.s0, transform_parts.s0c, e0, e0', e1, e2, elem_v hlt, elem_c hlt2, hr, z1, z2, decide_true, Bool.and_self, cond_true, Option.bind_some, Option.bind_fun_some, gA, gB, fA, fB, named_at hlt2, h5, nc, false_and, false_or, or_false, true_and]
    by_cases c1 : (i : Int) < keys
    · have c1' : ¬ keys ≤ (i : Int) := by omega
      have := ih (i + 1) (a ++ [row[i]]) (b ++ [row[i]]) (by omega) (by simp; omega) (by simp; omega) k (by omega)
      simp only [c1, c1', nc, decide_true, cond_true, this, false_and, false_or, or_false, if_false, true_or, if_true, List.append_assoc]
    · have c1' : keys ≤ (i : Int) := by omega
      cases hb' : inB (cols[i]).1 c.2.2.2.2.2.2.2.1 with
      | true =>
        have := ih (i + 1) (a ++ [row[i]]) b (by omega) (by simp; omega) (by omega) k (by omega)
        have q1 : (true == false) = false := rfl
        have q2 : (true == true) = true := rfl
        simp only [c1, c1', decide_false, cond_false, q1, q2, cond_true, this, nc, false_and, Bool.true_eq_false, and_false, or_false, if_false, List.append_assoc, List.nil_append]
      | false =>
        have := ih (i + 1) a (b ++ [row[i]]) (by omega) (by omega) (by simp; omega) k (by omega)
        have q1 : (false == false) = true := rfl
        have q2 : (false == true) = false := rfl
        simp only [c1, c1', decide_false, cond_false, q1, q2, cond_true, this, and_self, or_true, if_true, List.append_assoc, List.nil_append]
theorem parts_eq (c : Ch) (h5 : c.1 = 5) (hn : c.2.2.2.2.2.2.2.1.length ≤ 60) (row : List V) (cols : List C) (hc : row.length = cols.length) (hl : row.length ≤ 1000) (nm : ByteArray) (keys at' : Int) (k : Nat) (hk : 3000 ≤ k) :
    transform_parts.f k nm keys cols c row = some [gA c keys at' cols 0 row, gB c keys cols 0 row] := by
  have h := parts_s0 c h5 hn row cols hc hl nm keys at' row.length 0 [] [] (by omega) (Nat.le_refl _) (Nat.le_refl _) k (by omega)
  have h' : transform_parts.s0 k row (row.length : Int) 0 nm keys cols c [] [] = some [[] ++ gA c keys at' cols 0 (row.drop 0), [] ++ gB c keys cols 0 (row.drop 0)] := h
  simp only [transform_parts.f, transform_parts.c, h', Option.bind_some, List.drop_zero, List.nil_append]
/-! ### the document's loop -/
section
variable (c : Ch) (row : List V) (cols : List C) (nm : ByteArray) (keys at' : Int)
theorem ref_s7 (i : Nat) (b : Bool) (a d : List V) (v : V) (ha : a.length ≤ 1000) (hi : i < 1000) (k : Nat) :
    transomref11_Row.s7 (k + 2) row at' (i : Int) b nm keys cols c a d v.1 v.2.1 v.2.2.1 v.2.2.2.1 = transomref11_Row.s2 k row at' ((i + 1 : Nat) : Int) nm keys cols c (a ++ if b then [v] else []) d := by
  have e2 : IntKind.wrap IntKind.i64 ((i : Int) + 1) = ((i + 1 : Nat) : Int) := by rw [i64w (by omega) (by omega)]; omega
  have z1 : (a.length + 1) * 40 ≤ 2 ^ 45 := by omega
  obtain ⟨v1, v2, v3, v4, ⟨⟩⟩ := v
  cases b
  · simp only [transomref11_Row.s7, transomref11_Row.s7c, transomref11_Row.s8, transomref11_Row.s8c, e2, cond_false, Option.bind_fun_some, Bool.false_eq_true, if_false, List.append_nil]
  · simp only [transomref11_Row.s7, transomref11_Row.s7c, transomref11_Row.s8, transomref11_Row.s8c, e2, z1, decide_true, cond_true, Option.bind_fun_some, if_true]
theorem ref_s4 (hn : c.2.2.2.2.2.2.2.1.length ≤ 60) (i : Nat) (hi2 : i < cols.length) (a d : List V) (v : V) (ha : a.length ≤ 1000) (hd : d.length ≤ 1000) (hi : i < 1000) (k : Nat) (hk : 1100 ≤ k) :
    transomref11_Row.s4 (k + 5) row at' (i : Int) nm keys cols c a d v.1 v.2.1 v.2.2.1 v.2.2.2.1 = transomref11_Row.s2 k row at' ((i + 1 : Nat) : Int) nm keys cols c (a ++ fA c keys at' cols i v) (d ++ fB c keys cols i v) := by
  have e0' : (i : Int) < (cols.length : Int) := by omega
  have e1 : (0 : Int) ≤ (i : Int) := by omega
  have hr := rfind_eq c.2.2.2.2.2.2.2.1 (cols[i]).1 (by omega) (k + 4) (by omega)
  have hd' : (d.length + 1) * 40 ≤ 2 ^ 45 := by omega
  have h7 : ∀ (b : Bool) (d : List V), transomref11_Row.s7 (k + 2) row at' (i : Int) b nm keys cols c a d v.1 v.2.1 v.2.2.1 v.2.2.2.1 = transomref11_Row.s2 k row at' ((i + 1 : Nat) : Int) nm keys cols c (a ++ if b then [v] else []) d := fun b d => ref_s7 c row cols nm keys at' i b a d v ha hi k
  have h6 : ∀ (d : List V), transomref11_Row.s6 (k + 3) row at' (i : Int) (inB (cols[i]).1 c.2.2.2.2.2.2.2.1) nm keys cols c a d v.1 v.2.1 v.2.2.1 v.2.2.2.1 = transomref11_Row.s2 k row at' ((i + 1 : Nat) : Int) nm keys cols c (a ++ fA c keys at' cols i v) d := by
    intro d
    simp only [transomref11_Row.s6, transomref11_Row.s6c, h7, Option.bind_fun_some, fA, named_at hi2]
    by_cases q3 : c.1 = 3
    · have q5 : ¬ c.1 = 5 := by omega
      by_cases qa : (i : Int) = at'
      · simp [q3, qa]
      · have qa' : ((i : Int) == at') = false := beq_eq_false_iff_ne.2 qa
        simp [q3, qa, qa']
    · by_cases q5 : c.1 = 5
      · by_cases qk : (i : Int) ≥ keys
        · cases inB (cols[i]).1 c.2.2.2.2.2.2.2.1 <;> simp [q3, q5, qk]
        · simp [q3, q5, qk]
      · simp [beq_eq_false_iff_ne.2 q3, beq_eq_false_iff_ne.2 q5, q3, q5]
  have h5 : ∀ (b : Bool), (b = true ↔ c.1 = 5 ∧ ((i : Int) < keys ∨ named c cols i = false)) → transomref11_Row.s5 (k + 4) row at' (i : Int) (inB (cols[i]).1 c.2.2.2.2.2.2.2.1) b nm keys cols c a d v.1 v.2.1 v.2.2.1 v.2.2.2.1 = transomref11_Row.s2 k row at' ((i + 1 : Nat) : Int) nm keys cols c (a ++ fA c keys at' cols i v) (d ++ fB c keys cols i v) := by
    intro b hb
    obtain ⟨v1, v2, v3, v4, ⟨⟩⟩ := v
    cases b
    · have : ¬ (c.1 = 5 ∧ ((i : Int) < keys ∨ named c cols i = false)) := fun q => by simpa using hb.2 q
      simp only [transomref11_Row.s5, transomref11_Row.s5c, cond_false, h6, Option.bind_fun_some, fB, this, if_false, List.append_nil]
    · have : c.1 = 5 ∧ ((i : Int) < keys ∨ named c cols i = false) := hb.1 rfl
      simp only [transomref11_Row.s5, transomref11_Row.s5c, hd', decide_true, cond_true, h6, Option.bind_fun_some, fB]
      rw [if_pos this]
  have hin : decide (place (findS (cols[i]).1 c.2.2.2.2.2.2.2.1) 0 ≥ 0) = inB (cols[i]).1 c.2.2.2.2.2.2.2.1 := rfl
  simp only [transomref11_Row.s4, transomref11_Row.s4c, e0', e1, elem_c hi2, hr, decide_true, Bool.and_self, cond_true, Option.bind_some, Option.bind_fun_some, hin]
  by_cases q5 : c.1 = 5
  · have q5' : (c.1 == 5) = true := beq_iff_eq.2 q5
    by_cases qk : (i : Int) < keys
    · simp only [q5', qk, decide_true, cond_true]
      exact h5 true (by simp [q5, qk])
    · simp only [q5', qk, decide_false, cond_true, cond_false]
      exact h5 _ (by rw [named_at hi2]; simp [q5, qk])
  · have q5' : (c.1 == 5) = false := beq_eq_false_iff_ne.2 q5
    simp only [q5', cond_false]
    exact h5 false (by simp [q5])
noncomputable def loopS (a d : List V) (i : Nat) : List (List V) × Int :=
  if c.1 = 4 ∧ (i : Int) ≤ at' ∧ at' < (row.length : Int) then
    (if (cv (row.getD at'.toNat (0, 0, 0, ByteArray.empty, ())) c.2.2.2.2.2.2.1).2.2.2.2 ≠ 0 then ([], (cv (row.getD at'.toNat (0, 0, 0, ByteArray.empty, ())) c.2.2.2.2.2.2.1).2.2.2.2)
      else ([a ++ (row.set at'.toNat (toV (cv (row.getD at'.toNat (0, 0, 0, ByteArray.empty, ())) c.2.2.2.2.2.2.1))).drop i], 0))
  else finS c (a ++ gA c keys at' cols i (row.drop i)) (d ++ gB c keys cols i (row.drop i))
theorem ref_s2 (hn : c.2.2.2.2.2.2.2.1.length ≤ 60) (hc : row.length = cols.length) (hl : row.length ≤ 500) (hv : ∀ v ∈ row, OkV v) : ∀ (m i : Nat) (a d : List V), i + m = row.length → a.length ≤ i → d.length ≤ i → ∀ k, 7 * m + 5000 < k →
    transomref11_Row.s2 k row at' (i : Int) nm keys cols c a d = some (loopS c row cols keys at' a d i) := by
  intro m
  induction m with
  | zero =>
    intro i a d hi ha hd k hk
    obtain ⟨k, rfl⟩ : ∃ q, k = q + 1 := ⟨k - 1, by omega⟩
    have e : ¬ (i : Int) < (row.length : Int) := by omega
    have z1 : (a.length + 1) * 40 ≤ 2 ^ 45 := by omega
    have n4 : ¬ (c.1 = 4 ∧ (i : Int) ≤ at' ∧ at' < (row.length : Int)) := by omega
    unfold loopS
    rw [if_neg n4, List.drop_eq_nil_of_le (by omega)]
    simp only [transomref11_Row.s2, transomref11_Row.s2c, e, z1, decide_true, decide_false, cond_false, cond_true, gA, gB, List.append_nil, finS]
    by_cases q2 : c.1 = 2
    · simp only [q2, beq_self_eq_true, cond_true, if_true]; rfl
    · rw [beq_eq_false_iff_ne.2 q2, if_neg q2]
      by_cases q5 : c.1 = 5
      · simp only [q5, beq_self_eq_true, cond_false, cond_true, if_true]
      · rw [beq_eq_false_iff_ne.2 q5, if_neg q5]; rfl
  | succ m ih =>
    intro i a d hi ha hd k hk
    obtain ⟨k, rfl⟩ : ∃ q, k = q + 7 := ⟨k - 7, by omega⟩
    have hlt : i < row.length := by omega
    have hlt2 : i < cols.length := by omega
    have e0 : (i : Int) < (row.length : Int) := by omega
    have e1 : (0 : Int) ≤ (i : Int) := by omega
    have h4 : ∀ v : V, transomref11_Row.s4 (k + 5) row at' (i : Int) nm keys cols c a d v.1 v.2.1 v.2.2.1 v.2.2.2.1 = some (loopS c row cols keys at' (a ++ fA c keys at' cols i v) (d ++ fB c keys cols i v) (i + 1)) := by
      intro v
      rw [ref_s4 c row cols nm keys at' hn i hlt2 a d v (by omega) (by omega) (by omega) k (by omega)]
      have l1 := fA_len c keys at' cols i v
      have l2 := fB_len c keys cols i v
      exact ih (i + 1) _ _ (by omega) (by simp; omega) (by simp; omega) k (by omega)
    have hcv := rcv_eq (hv (row[i]) (List.getElem_mem _)) c.2.2.2.2.2.2.1 (k + 5) (by omega)
    simp only [transomref11_Row.s2, transomref11_Row.s2c, e0, e1, elem_v hlt, decide_true, Bool.and_self, cond_true, Option.bind_fun_some]
    by_cases q4 : c.1 = 4
    · have q4' : (c.1 == 4) = true := beq_iff_eq.2 q4
      have nA : ∀ j v, fA c keys at' cols j v = [v] := fun j v => by unfold fA; rw [if_neg (by omega)]
      have nB : ∀ j v, fB c keys cols j v = [] := fun j v => by unfold fB; rw [if_neg (by omega)]
      have gAid : ∀ (l : List V) (j : Nat), gA c keys at' cols j l = l := by
        intro l; induction l with
        | nil => intro j; rfl
        | cons v l ih => intro j; rw [gA, nA, ih]; rfl
      have gBid : ∀ (l : List V) (j : Nat), gB c keys cols j l = [] := by
        intro l; induction l with
        | nil => intro j; rfl
        | cons v l ih => intro j; rw [gB, nB, ih]; rfl
      have fin : ∀ a d : List V, finS c a d = ([a], 0) := fun a d => by unfold finS; rw [if_neg (by omega), if_neg (by omega)]
      simp only [q4', cond_true]
      by_cases qa : (i : Int) = at'
      · have hat : at'.toNat = i := by omega
        simp only [transomref11_Row.s3, transomref11_Row.s3c, beq_iff_eq.2 qa, cond_true, hcv, Option.bind_some, Option.bind_fun_some]
        have hpos : c.1 = 4 ∧ (i : Int) ≤ at' ∧ at' < (row.length : Int) := by omega
        have hget : row.getD at'.toNat (0, 0, 0, ByteArray.empty, ()) = row[i] := by rw [hat, getD_at hlt]
        have eR : loopS c row cols keys at' a d i = if (cv (row[i]) c.2.2.2.2.2.2.1).2.2.2.2 ≠ 0 then ([], (cv (row[i]) c.2.2.2.2.2.2.1).2.2.2.2) else ([a ++ (row.set i (toV (cv (row[i]) c.2.2.2.2.2.2.1))).drop i], 0) := by
          unfold loopS
          rw [if_pos hpos, hget, hat]
        rw [eR]
        by_cases qe : (cv (row[i]) c.2.2.2.2.2.2.1).2.2.2.2 = 0
        · have qe' : ((cv (row[i]) c.2.2.2.2.2.2.1).2.2.2.2 != 0) = false := by rw [qe]; rfl
          rw [qe', cond_false, if_neg (by simpa using qe)]
          have h := h4 (toV (cv (row[i]) c.2.2.2.2.2.2.1))
          rw [nA, nB] at h
          refine h.trans ?_
          have nneg : ¬ (c.1 = 4 ∧ ((i + 1 : Nat) : Int) ≤ at' ∧ at' < (row.length : Int)) := by omega
          unfold loopS
          rw [if_neg nneg, gAid, fin]
          have e3 : (row.set i (toV (cv (row[i]) c.2.2.2.2.2.2.1))).drop i = toV (cv (row[i]) c.2.2.2.2.2.2.1) :: row.drop (i + 1) := by
            rw [List.drop_eq_getElem_cons (by simpa using hlt), List.getElem_set_self, List.drop_set_of_lt (by omega)]
          rw [e3, List.append_assoc]; rfl
        · have qe' : ((cv (row[i]) c.2.2.2.2.2.2.1).2.2.2.2 != 0) = true := bne_iff_ne.2 qe
          rw [qe', cond_true, if_pos qe]
      · simp only [transomref11_Row.s3, transomref11_Row.s3c, beq_eq_false_iff_ne.2 qa, cond_false, h4 (row[i]), Option.bind_fun_some, nA, nB, List.append_nil]
        congr 1
        by_cases qr : (i : Int) ≤ at' ∧ at' < (row.length : Int)
        · have p1 : c.1 = 4 ∧ (i : Int) ≤ at' ∧ at' < (row.length : Int) := ⟨q4, qr⟩
          have p2 : c.1 = 4 ∧ ((i + 1 : Nat) : Int) ≤ at' ∧ at' < (row.length : Int) := by omega
          unfold loopS
          rw [if_pos p1, if_pos p2]
          split
          · rfl
          · rw [List.append_assoc]
            congr 2
            rw [List.drop_eq_getElem_cons (i := i) (by simpa using hlt), List.getElem_set_ne (by omega)]
            rfl
        · have p1 : ¬ (c.1 = 4 ∧ (i : Int) ≤ at' ∧ at' < (row.length : Int)) := by omega
          have p2 : ¬ (c.1 = 4 ∧ ((i + 1 : Nat) : Int) ≤ at' ∧ at' < (row.length : Int)) := by omega
          unfold loopS
          rw [if_neg p1, if_neg p2, gAid, gAid, gBid, gBid, fin, fin, List.drop_eq_getElem_cons hlt, List.append_assoc]
          rfl
    · have q4' : (c.1 == 4) = false := beq_eq_false_iff_ne.2 q4
      simp only [q4', cond_false, transomref11_Row.s3, transomref11_Row.s3c, h4 (row[i]), Option.bind_fun_some]
      congr 1
      unfold loopS
      rw [if_neg (by omega), if_neg (by omega), List.drop_eq_getElem_cons hlt, gA, gB, List.append_assoc, List.append_assoc]
end
end Go.Proofs.YtijjlpgcpdapnaaGreatDoor.Aev
