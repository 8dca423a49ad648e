import Derived.Test.YtijjlpgcpdapnaaGreatDoorF0
import Derived.Test.YtijjlpgcpdapnaaGreatDoorBits
import Derived.Test.YtijjlpgcpdapnaaGreatDoorF10
import Derived.Test.YtijjlpgcpdapnaaGreatDoorKey

/- Rows of values that are not too many, and too great. -/
namespace Go.Proofs.YtijjlpgcpdapnaaGreatDoor.Aev
open Go
set_option linter.unusedVariables false
set_option linter.unusedSimpArgs false
set_option maxRecDepth 100000
abbrev VT : Ty := Ty.pair (Ty.int IntKind.i64) (Ty.pair (Ty.int IntKind.i64) (Ty.pair (Ty.int IntKind.u64) (Ty.pair Ty.str Ty.unit)))
abbrev V : Type := Int × (Int × (Int × (ByteArray × Unit)))
theorem elem_at {l : List V} {i : Nat} (h : i < l.length) : elem VT l (i : Int) = l[i] := by
 simp [elem, List.getD, List.getElem?_eq_getElem h]
def FewV (l : List V) : Prop := l.length ≤ 30 ∧ ∀ v ∈ l, v.2.2.2.1.size ≤ 2000 ∧ ∃ n : Nat, v.2.2.1 = (n : Int) ∧ n < 18446744073709551616
theorem few04 (a0 a1 a2 : Int) (s : ByteArray) (k : Nat) : transomlaw04_Few.f k a0 a1 a2 s = some (if s.size ≤ 2000 then 1 else 0) := by
 simp only [transomlaw04_Few.f, transomlaw04_Few.c, cond_true, cond_false, if_b, decide_eq_true_eq, Bool.and_eq_true, Bool.or_eq_true, beq_iff_eq, bne_iff_ne, ne_eq, Bool.not_eq_true', Bool.not_eq_false', Bool.true_and, Bool.and_true, Bool.false_eq_true, if_false, if_true, true_and, and_true, os, Option.bind_none, ofs, beq_eq_false_iff_ne, decide_eq_false_iff_not, toList_iff]
 by_cases h : s.size ≤ 2000
 ·rw [if_neg (by omega), if_pos h]
 ·rw [if_pos (by omega), if_neg h]
theorem few05_s0 (l : List V) : ∀ (m i : Nat), i + m = l.length → l.length ≤ 30 → ∀ k, m < k → transomlaw05_Few.s0 k l (i : Int) = some (if ∀ v ∈ l.drop i, v.2.2.2.1.size ≤ 2000 then 1 else 0) := by
 intro m
 induction m with
 | zero =>
  intro i hi hl k hk
  obtain ⟨k, rfl⟩ : ∃ j, k = j + 1 := ⟨k - 1, by omega⟩
  have e : ¬ (i : Int) < (l.length : Int) := by omega
  rw [List.drop_eq_nil_of_le (by omega)]
  simp [transomlaw05_Few.s0, transomlaw05_Few.s0c, e]
 | succ m ih =>
  intro i hi hl k hk
  obtain ⟨k, rfl⟩ : ∃ j, k = j + 1 := ⟨k - 1, by omega⟩
  have hlt : i < l.length := by omega
  have e0 : (i : Int) < (l.length : Int) := by omega
  have e1 : (0 : Int) ≤ (i : Int) := by omega
  have e2 : IntKind.wrap IntKind.i64 ((i : Int) + 1) = ((i + 1 : Nat) : Int) := by rw [i64w (by omega) (by omega)]; omega
  have hd : l.drop i = l[i] :: l.drop (i + 1) := List.drop_eq_getElem_cons hlt
  have he := elem_at hlt
  have := ih (i + 1) (by omega) hl k (by omega)
  simp only [transomlaw05_Few.s0, transomlaw05_Few.s0c, e0, e1, e2, he, few04, this, decide_true, Bool.and_self, cond_true, os, ofs, hd, List.forall_mem_cons]
  by_cases c : l[i].2.2.2.1.size ≤ 2000
  ·simp only [c, if_true, true_and]; rfl
  ·simp only [c, if_false, false_and]; rfl
theorem few05 (l : List V) (k : Nat) (hk : 40 ≤ k) : transomlaw05_Few.f k l = some (if l.length ≤ 30 ∧ ∀ v ∈ l, v.2.2.2.1.size ≤ 2000 then 1 else 0) := by
 simp only [transomlaw05_Few.f, transomlaw05_Few.c, ofs]
 by_cases h : l.length ≤ 30
 ·have e : ¬ (l.length : Int) > 30 := by omega
  have := few05_s0 l l.length 0 (by omega) h k (by omega)
  simp only [e, decide_false, cond_false]
  refine this.trans ?_
  simp only [List.drop_zero, h, true_and]
 ·have e : (l.length : Int) > 30 := by omega
  simp only [e, decide_true, cond_true]
  rw [if_neg (fun q => h q.1)]
theorem fit_v {l : List V} (h : Fit (.sl VT) l) (hf : l.length ≤ 30 ∧ ∀ v ∈ l, v.2.2.2.1.size ≤ 2000) : FewV l := by
 refine ⟨hf.1, fun v hv => ⟨hf.2 v hv, ?_⟩⟩
 obtain ⟨_, h2⟩ := h
 obtain ⟨_, _, h3, _⟩ := h2 v hv
 exact nat_of_u64 h3
end Go.Proofs.YtijjlpgcpdapnaaGreatDoor.Aev

/- Rows as bytes that keep their order: the program's and the document's ways. -/
namespace Go.Proofs.YtijjlpgcpdapnaaGreatDoor.Aev
open Go
set_option linter.unusedVariables false
set_option linter.unusedSimpArgs false
set_option maxRecDepth 100000
noncomputable def chk (v : V) : Int := checkS v.1 v.2.1 v.2.2.1.toNat v.2.2.2.1
def kb (v : V) : List Int := kputI v.1 v.2.1 v.2.2.1.toNat v.2.2.2.1.data.toList
noncomputable def krow : List V → List UInt8 × Int
 | [] => ([], 0)
 | v :: l => if chk v ≠ 0 then ([], chk v) else if (krow l).2 ≠ 0 then ([], (krow l).2) else ((kb v).map b8 ++ (krow l).1, 0)
theorem kRow_s0 (l : List V) (hl : FewV l) : ∀ (m i : Nat) (xs : List Int), i + m = l.length → xs.length ≤ i * 5000 → ∀ k, m + 200 < k →
  ∃ b, keycode_Row.s0 k l (l.length : Int) (i : Int) xs = some (b, (krow (l.drop i)).2) ∧ b.data.toList = if (krow (l.drop i)).2 = 0 then xs.map b8 ++ (krow (l.drop i)).1 else [] := by
 intro m
 induction m with
 | zero =>
  intro i xs hi hx k hk
  obtain ⟨k, rfl⟩ : ∃ j, k = j + 1 := ⟨k - 1, by omega⟩
  have e : ¬ (i : Int) < (l.length : Int) := by omega
  rw [List.drop_eq_nil_of_le (by omega)]
  simp only [keycode_Row.s0, keycode_Row.s0c, e, decide_false, cond_false, krow]
  exact ⟨_, rfl, by simp⟩
 | succ m ih =>
  intro i xs hi hx k hk
  obtain ⟨k, rfl⟩ : ∃ j, k = j + 1 := ⟨k - 1, by omega⟩
  have hlt : i < l.length := by omega
  have hl1 := hl.1
  have e0 : (i : Int) < (l.length : Int) := by omega
  have e1 : (0 : Int) ≤ (i : Int) := by omega
  have e2 : IntKind.wrap IntKind.i64 ((i : Int) + 1) = ((i + 1 : Nat) : Int) := by rw [i64w (by omega) (by omega)]; omega
  have hd : l.drop i = l[i] :: l.drop (i + 1) := List.drop_eq_getElem_cons hlt
  have he := elem_at hlt
  obtain ⟨hs, n, hn, hn2⟩ := hl.2 l[i] (List.getElem_mem hlt)
  have hch : checkS l[i].1 l[i].2.1 n l[i].2.2.2.1 = chk l[i] := by unfold chk; rw [hn]; rfl
  have hkb : kputI l[i].1 l[i].2.1 n l[i].2.2.2.1.data.toList = kb l[i] := by unfold kb; rw [hn]; rfl
  have hlen := kput_len l[i].1 l[i].2.1 n l[i].2.2.2.1.data.toList
  rw [← size_eq, hkb] at hlen
  have hput := kput_eq l[i].1 l[i].2.1 n hn2 l[i].2.2.2.1 (by omega) xs (by omega) k (by omega)
  obtain ⟨b, h1, h2⟩ := ih (i + 1) (xs ++ kb l[i]) (by omega) (by rw [List.length_append]; omega) k (by omega)
  simp only [keycode_Row.s0, keycode_Row.s0c, e0, e1, e2, he, hn, vcheck_eq (show 120 ≤ k by omega), hch, hput, hkb, h1, decide_true, Bool.and_self, cond_true, os, ofs, hd, krow, cond_true, cond_false, if_b, decide_eq_true_eq, Bool.and_eq_true, Bool.or_eq_true, beq_iff_eq, bne_iff_ne, ne_eq, Bool.not_eq_true', Bool.not_eq_false', Bool.true_and, Bool.and_true, Bool.false_eq_true, if_false, if_true, true_and, and_true, os, Option.bind_none, ofs, beq_eq_false_iff_ne, decide_eq_false_iff_not, toList_iff]
  by_cases c : chk l[i] = 0
  ·rw [if_neg (by simpa using c), if_neg (by simpa using c)]
   by_cases c2 : (krow (l.drop (i + 1))).2 = 0
   ·rw [c2] at h1 h2 ⊢
    refine ⟨b, by simp, ?_⟩
    rw [h2]; simp
   ·rw [if_pos c2]
    exact ⟨b, by simp, by rw [h2, if_neg c2, if_neg c2]⟩
  ·rw [if_pos c, if_pos c]
   exact ⟨_, rfl, by rw [if_neg c]⟩
theorem kRow_eq {l : List V} (hl : FewV l) (k : Nat) (hk : 7000 ≤ k) : ∃ b, keycode_Row.f k l = some (b, (krow l).2) ∧ b.data.toList = if (krow l).2 = 0 then (krow l).1 else [] := by
 have hl1 := hl.1
 obtain ⟨b, h1, h2⟩ := kRow_s0 l hl l.length 0 [] (by omega) (by simp) k (by omega)
 simp only [List.drop_zero, List.map_nil, List.nil_append] at h1 h2
 refine ⟨b, ?_, h2⟩
 simp only [keycode_Row.f, keycode_Row.c, ofs]; exact h1
end Go.Proofs.YtijjlpgcpdapnaaGreatDoor.Aev
