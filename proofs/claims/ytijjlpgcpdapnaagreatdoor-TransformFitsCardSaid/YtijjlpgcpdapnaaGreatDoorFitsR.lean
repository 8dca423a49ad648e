import Derived.Test.YtijjlpgcpdapnaaGreatDoorF2
import Derived.Test.YtijjlpgcpdapnaaGreatDoorF10
import Derived.Test.YtijjlpgcpdapnaaGreatDoorSchema
import Derived.Test.YtijjlpgcpdapnaaGreatDoorKeyRow

/- Rows and keys that fit a table. -/
namespace Go.Proofs.YtijjlpgcpdapnaaGreatDoor.Aev
open Go
set_option linter.unusedVariables false
set_option linter.unusedSimpArgs false
set_option maxRecDepth 100000
theorem elem_v {l : List V} {i : Nat} (h : i < l.length) : elem T_api_Value l (i : Int) = l[i] := elem_at h
theorem vchk_v {v : V} (h : ∃ n : Nat, v.2.2.1 = (n : Int) ∧ n < 18446744073709551616) {k : Nat} (hk : 200 ≤ k) : values_Check.f k v.1 v.2.1 v.2.2.1 v.2.2.2.1 = some (chk v) := by
 obtain ⟨n, hn, hn2⟩ := h
 unfold chk
 rw [hn]
 exact vcheck_eq (by omega)
noncomputable def fitsL : List C → List V → Int
 | c :: cs, v :: l => if chk v ≠ 0 then chk v else if v.1 ≠ c.2.1 ∧ (v.1 ≠ 0 ∨ c.2.2.1 = false) then 11 else fitsL cs l
 | _, _ => 0
theorem fits_s0 (l : List V) (hl : FewV l) (cols : List C) (hc : l.length ≤ cols.length) (nm : ByteArray) (a : Int) : ∀ (m i : Nat), i + m = l.length → ∀ k, 3 * m + 300 < k → schema_fits.s0 k l (l.length : Int) (i : Int) nm a cols = some (fitsL (cols.drop i) (l.drop i)) := by
 intro m
 have hl1 := hl.1
 induction m with
 | zero =>
  intro i hi k hk
  obtain ⟨k, rfl⟩ : ∃ j, k = j + 1 := ⟨k - 1, by omega⟩
  have e : ¬ (i : Int) < (l.length : Int) := by omega
  rw [List.drop_eq_nil_of_le (show l.length ≤ i by omega)]
  simp only [schema_fits.s0, schema_fits.s0c, e, decide_false, cond_false]
  cases cols.drop i <;> rfl
 | succ m ih =>
  intro i hi k hk
  obtain ⟨k, rfl⟩ : ∃ j, k = j + 3 := ⟨k - 3, by omega⟩
  have hlt : i < l.length := by omega
  have hlt2 : i < cols.length := by omega
  have e0 : (i : Int) < (l.length : Int) := by omega
  have e0' : (i : Int) < (cols.length : Int) := by omega
  have e1 : (0 : Int) ≤ (i : Int) := by omega
  have e2 : IntKind.wrap IntKind.i64 ((i : Int) + 1) = ((i + 1 : Nat) : Int) := by rw [i64w (by omega) (by omega)]; omega
  have he := elem_v hlt
  have he2 := elem_c hlt2
  have h1 := ih (i + 1) (by omega) k (by omega)
  have hv := vchk_v (hl.2 l[i] (List.getElem_mem hlt)).2 (k := k + 2) (by omega)
  rw [List.drop_eq_getElem_cons hlt, List.drop_eq_getElem_cons hlt2]
  simp only [schema_fits.s0, schema_fits.s0c, schema_fits.s1, schema_fits.s1c, schema_fits.s2, schema_fits.s2c, e0, e0', e1, e2, he, he2, hv, h1, fitsL, bne_dec, decide_true, Bool.and_self, cond_true, os, ofs]
  by_cases c : chk l[i] = 0
  ·by_cases c2 : l[i].1 = cols[i].2.1
   ·simp [c, c2]
   ·by_cases c3 : l[i].1 = 0
    ·have c5 : ¬ (0 : Int) = cols[i].2.1 := fun h => c2 (c3.trans h)
     cases c4 : cols[i].2.2.1 <;> simp [c, c3, c4, c5]
    ·simp [c, c2, c3]
  ·simp [c]
theorem fits_f (l : List V) (hl : FewV l) (cols : List C) (hc : l.length ≤ cols.length) (nm : ByteArray) (a : Int) (k : Nat) (hk : 1000 ≤ k) : schema_fits.f k nm a cols l = some (fitsL cols l) := by
 have hl1 := hl.1
 have := fits_s0 l hl cols hc nm a l.length 0 (by omega) k (by omega)
 simp only [schema_fits.f, schema_fits.c, ofs]
 exact this
noncomputable def fitsS (nm : ByteArray) (a : Int) (cols : List C) (l : List V) : Int := if tabS nm a cols ≠ 0 then tabS nm a cols else if l.length ≠ cols.length then 11 else fitsL cols l
theorem sfits_f (l : List V) (hl : FewV l) (cols : List C) (hc : FewL cols) (nm : ByteArray) (a : Int) (k : Nat) (hk : 7000 ≤ k) : schema_Fits.f k nm a cols l = some (fitsS nm a cols l) := by
 simp only [schema_Fits.f, schema_Fits.c, scheck_f nm a hc hk, os, bne_dec]
 unfold fitsS
 by_cases c : tabS nm a cols = 0
 ·by_cases c2 : l.length = cols.length
  ·have e : (l.length : Int) = (cols.length : Int) := by omega
   simp only [c, c2, e, fits_f l hl cols (by omega) nm a k (by omega), decide_true, Bool.not_true, cond_false, ne_eq, not_true, if_false, os]
  ·have e : ¬ (l.length : Int) = (cols.length : Int) := by omega
   simp only [c, c2, e, decide_true, decide_false, Bool.not_true, Bool.not_false, cond_false, cond_true, ne_eq, not_true, not_false_iff, if_false, if_true]
 ·simp only [c, decide_false, Bool.not_false, cond_true, ne_eq, not_false_iff, if_true]
theorem tab_len {nm : ByteArray} {a : Int} {cols : List C} (h : tabS nm a cols = 0) : 1 ≤ a ∧ a ≤ 3 ∧ a ≤ (cols.length : Int) ∧ 1 ≤ cols.length ∧ cols.length ≤ 8 := by
 unfold tabS at h
 split at h
 ·rename_i h1; exact absurd h h1
 ·split at h
  ·simp at h
  ·split at h
   ·simp at h
   ·omega
/-! values that fit -/
theorem fits_chk : ∀ {cols : List C} {l : List V}, fitsL cols l = 0 → l.length ≤ cols.length → ∀ v ∈ l, chk v = 0
 | cols, [], _, _, v, hv => by simp at hv
 | [], _ :: _, _, hl, _, _ => by simp at hl
 | c :: cs, w :: l, h, hl, v, hv => by
  simp only [fitsL] at h
  split at h
  ·rename_i h1; exact absurd h h1
  ·rename_i h1
   split at h
   ·simp at h
   ·rcases List.mem_cons.1 hv with rfl | hv
    ·simpa using h1
    ·exact fits_chk h (by simpa using hl) v hv
theorem krow_ok : ∀ {l : List V}, (∀ v ∈ l, chk v = 0) → (krow l).2 = 0
 | [], _ => rfl
 | v :: l, h => by
  have h1 := h v (by simp)
  have h2 := krow_ok (l := l) (fun w hw => h w (by simp [hw]))
  simp only [krow]
  rw [if_neg (by simpa using h1), if_neg (by simpa using h2)]
theorem few_take {l : List V} (h : FewV l) (n : Nat) : FewV (l.take n) := ⟨by have := h.1; simp; omega, fun v hv => h.2 v (List.mem_of_mem_take hv)⟩
theorem skey_f (l : List V) (hl : FewV l) (cols : List C) (hc : FewL cols) (nm : ByteArray) (a : Int) (k : Nat) (hk : 7000 ≤ k) :
  (fitsS nm a cols l ≠ 0 → schema_Key.f k nm a cols l = some (ByteArray.mk (List.toArray []), fitsS nm a cols l)) ∧
  (fitsS nm a cols l = 0 → schema_Key.f k nm a cols l = keycode_Row.f k (l.take a.toNat)) := by
 constructor
 ·intro h
  simp only [schema_Key.f, schema_Key.c, sfits_f l hl cols hc nm a k hk, os, bne_dec, h, decide_false, Bool.not_false, cond_true]
 ·intro h
  have hlen : 1 ≤ a ∧ a ≤ (l.length : Int) := by
   unfold fitsS at h
   split at h
   ·rename_i h1; exact absurd h h1
   ·rename_i h1
    split at h
    ·simp at h
    ·rename_i h2
     have := tab_len (by simpa using h1)
     omega
  have e1 : (0 : Int) ≤ a := by omega
  simp only [schema_Key.f, schema_Key.c, sfits_f l hl cols hc nm a k hk, os, bne_dec, h, decide_true, Bool.not_true, cond_false, e1, hlen.2, Bool.and_self, cond_true, List.drop_zero, Nat.sub_zero]
  cases keycode_Row.f k (l.take a.toNat) with
  | none => rfl
  | some r => rfl
end Go.Proofs.YtijjlpgcpdapnaaGreatDoor.Aev

/- Rows and keys that fit a table: the document's ways. -/

namespace Go.Proofs.YtijjlpgcpdapnaaGreatDoor.Aev
open Go
set_option linter.unusedVariables false
set_option linter.unusedSimpArgs false
set_option maxRecDepth 100000
end Go.Proofs.YtijjlpgcpdapnaaGreatDoor.Aev
