import Derived.Test.YtijjlpgcpdapnaaGreatDoorTransRow
import Derived.Test.YtijjlpgcpdapnaaGreatDoorConvBack

/- Tables behind a change: they may be, and rows fit them. No program here. -/
namespace Go.Proofs.YtijjlpgcpdapnaaGreatDoor.Aev
open Go
set_option linter.unusedVariables false
set_option linter.unusedSimpArgs false
set_option maxRecDepth 100000
def fitC (c : C) (v : V) : Prop := chk v = 0 ∧ (v.1 = c.2.1 ∨ (v.1 = 0 ∧ c.2.2.1 = true))
theorem fits_cons {c : C} {cs : List C} {v : V} {l : List V} : fitsL (c :: cs) (v :: l) = 0 ↔ fitC c v ∧ fitsL cs l = 0 := by
 simp only [fitsL, fitC]
 by_cases h1 : chk v = 0
 ·rw [if_neg (by simpa using h1)]
  by_cases h2 : v.1 ≠ c.2.1 ∧ (v.1 ≠ 0 ∨ c.2.2.1 = false)
  ·rw [if_pos h2]
   constructor
   ·intro h; cases h
   ·rintro ⟨⟨_, h⟩, _⟩
    exfalso
    rcases h with h | ⟨h, h'⟩
    ·exact h2.1 h
    ·rcases h2.2 with q | q
     ·exact q h
     ·rw [h'] at q; cases q
  ·rw [if_neg h2]
   refine ⟨fun h => ⟨⟨h1, ?_⟩, h⟩, fun h => h.2⟩
   by_cases e : v.1 = c.2.1
   ·exact .inl e
   ·right
    refine ⟨Decidable.byContradiction fun q => h2 ⟨e, .inl q⟩, ?_⟩
    cases hb : c.2.2.1 with
    | true => rfl
    | false => exact absurd ⟨e, .inr hb⟩ h2
 ·rw [if_pos h1]
  exact ⟨fun h => absurd h h1, fun h => absurd h.1.1 h1⟩
theorem fits_app : ∀ {cs ds : List C} {l m : List V}, cs.length = l.length → (fitsL (cs ++ ds) (l ++ m) = 0 ↔ fitsL cs l = 0 ∧ fitsL ds m = 0)
 | [], ds, [], m, _ => by simp [fitsL]
 | [], _, _ :: _, _, h => by cases h
 | _ :: _, _, [], _, h => by cases h
 | c :: cs, ds, v :: l, m, h => by
  rw [List.cons_append, List.cons_append, fits_cons, fits_cons, fits_app (by simpa using h), and_assoc]
theorem fits_take' {cs : List C} {l : List V} (n : Nat) (hl : cs.length = l.length) (h : fitsL cs l = 0) : fitsL (cs.take n) (l.take n) = 0 ∧ fitsL (cs.drop n) (l.drop n) = 0 := by
 have e1 := List.take_append_drop n cs
 have e2 := List.take_append_drop n l
 rw [← e1, ← e2] at h
 exact (fits_app (by rw [List.length_take, List.length_take, hl])).1 h
theorem fits_one {c : C} {v : V} (h : fitC c v) : fitsL [c] [v] = 0 := fits_cons.2 ⟨h, by simp [fitsL]⟩
theorem fits_at {cs : List C} {l : List V} {n : Nat} (hl : cs.length = l.length) (h : fitsL cs l = 0) (h1 : n < cs.length) (h2 : n < l.length) : fitC cs[n] l[n] := by
 have := (fits_take' n hl h).2
 rw [List.drop_eq_getElem_cons h1, List.drop_eq_getElem_cons h2, fits_cons] at this
 exact this.1
def del1 {α : Type} (n : Nat) (l : List α) : List α := l.take n ++ l.drop (n + 1)
theorem fits_del {cs : List C} {l : List V} (n : Nat) (hl : cs.length = l.length) (h : fitsL cs l = 0) : fitsL (del1 n cs) (del1 n l) = 0 := by
 obtain ⟨h1, _⟩ := fits_take' n hl h
 obtain ⟨_, h2⟩ := fits_take' (n + 1) hl h
 exact (fits_app (by rw [List.length_take, List.length_take, hl])).2 ⟨h1, h2⟩
theorem set_form {α : Type} {l : List α} {n : Nat} (h : n < l.length) (x : α) : l.set n x = l.take n ++ x :: l.drop (n + 1) := List.set_eq_take_append_cons_drop.trans (if_pos h)
theorem fits_set {cs : List C} {l : List V} {n : Nat} (hl : cs.length = l.length) (h : fitsL cs l = 0) (hn : n < cs.length) {c : C} {v : V} (hc : fitC c v) : fitsL (cs.set n c) (l.set n v) = 0 := by
 obtain ⟨h1, _⟩ := fits_take' n hl h
 obtain ⟨_, h2⟩ := fits_take' (n + 1) hl h
 rw [set_form hn, set_form (show n < l.length by omega)]
 exact (fits_app (by rw [List.length_take, List.length_take, hl])).2 ⟨h1, fits_cons.2 ⟨hc, h2⟩⟩
/-! ### tables -/
theorem colsS_iff : ∀ {l : List C}, colsS l = 0 ↔ ∀ c ∈ l, colS c = 0
 | [] => by simp [colsS]
 | c :: l => by
  rw [colsS, List.forall_mem_cons]
  by_cases h : colS c = 0
  ·rw [if_neg (by simpa using h), colsS_iff]
   exact ⟨fun q => ⟨h, q⟩, fun q => q.2⟩
  ·rw [if_pos h]
   exact ⟨fun q => absurd q h, fun q => absurd q.1 h⟩
structure TabOK (nm : ByteArray) (a : Int) (l : List C) : Prop where
 name : nameS nm.data.toList = 0
 len : 1 ≤ l.length ∧ l.length ≤ 8
 keys : 1 ≤ a ∧ a ≤ 3 ∧ a ≤ (l.length : Int)
 cols : ∀ c ∈ l, colS c = 0
 un : (namesOf l).Nodup
 null : anyNull (l.take a.toNat) = false
theorem tab_iff {nm : ByteArray} {a : Int} {l : List C} : tabS nm a l = 0 ↔ TabOK nm a l := by
 constructor
 ·intro h
  unfold tabS at h
  split at h
  ·rename_i h1; exact absurd h h1
  ·rename_i h1
   split at h
   ·cases h
   ·split at h
    ·cases h
    ·split at h
     ·rename_i h4; exact absurd h h4
     ·rename_i h4
      split at h
      ·cases h
      ·rename_i h5
       split at h
       ·cases h
       ·rename_i h6
        refine ⟨by simpa using h1, by omega, by omega, colsS_iff.1 (by simpa using h4), ?_, by simpa using h6⟩
        unfold unlikeS at h5
        simpa using h5
 ·rintro ⟨h1, h2, h3, h4, h5, h6⟩
  unfold tabS
  rw [if_neg (by simpa using h1), if_neg (by omega), if_neg (by omega), if_neg (by simpa using colsS_iff.2 h4), if_neg (by unfold unlikeS; simpa using h5), if_neg (by rw [h6]; simp)]
theorem fitsS_of {nm : ByteArray} {a : Int} {l : List C} {r : List V} (h : TabOK nm a l) (hl : r.length = l.length) (hf : fitsL l r = 0) : fitsS nm a l r = 0 := by
 unfold fitsS
 rw [if_neg (by simpa using tab_iff.2 h), if_neg (by simpa using hl), hf]
theorem fitsS_0 {nm : ByteArray} {a : Int} {l : List C} {r : List V} (h : fitsS nm a l r = 0) : TabOK nm a l ∧ r.length = l.length ∧ fitsL l r = 0 := by
 unfold fitsS at h
 split at h
 ·rename_i h1; exact absurd h h1
 ·rename_i h1
  split at h
  ·cases h
  ·rename_i h2
   exact ⟨tab_iff.1 (by simpa using h1), by simpa using h2, h⟩
theorem tab_add {nm : ByteArray} {a : Int} {l : List C} (h : TabOK nm a l) {c : C} (hc : colS c = 0) (hn : c.1 ∉ namesOf l) (hl : l.length < 8) : TabOK nm a (l ++ [c]) where
 name := h.name
 len := by rw [List.length_append, List.length_singleton]; omega
 keys := by have := h.keys; rw [List.length_append, List.length_singleton]; omega
 cols := fun d hd => by
  rcases List.mem_append.1 hd with q | q
  ·exact h.cols d q
  ·rw [List.mem_singleton.1 q]; exact hc
 un := by
  have e : namesOf (l ++ [c]) = namesOf l ++ [c.1] := by simp [namesOf]
  rw [e, List.nodup_append]
  exact ⟨h.un, by simp, fun x hx y hy => by rw [List.mem_singleton.1 hy]; rintro rfl; exact hn hx⟩
 null := by
  have := h.keys
  rw [List.take_append_of_le_length (by omega)]; exact h.null
theorem tab_sub {nm nm' : ByteArray} {a : Int} {l m : List C} (h : TabOK nm a l) (hn : nameS nm'.data.toList = 0) (hs : m.Sublist l) (ht : m.take a.toNat = l.take a.toNat) : TabOK nm' a m where
 name := hn
 len := by
  have := h.keys
  have h1 := hs.length_le
  have h2 := congrArg List.length ht
  rw [List.length_take, List.length_take] at h2
  have := h.len
  omega
 keys := by
  have := h.keys
  have h2 := congrArg List.length ht
  rw [List.length_take, List.length_take] at h2
  omega
 cols := fun d hd => h.cols d (hs.subset hd)
 un := (hs.map _).nodup h.un
 null := by rw [ht]; exact h.null
theorem del1_sub {α : Type} (n : Nat) (l : List α) : (del1 n l).Sublist l := by
 unfold del1
 have h1 : (l.drop (n + 1)).Sublist (l.drop n) := by rw [← List.drop_drop]; exact List.drop_sublist _ _
 have := (List.Sublist.refl (l.take n)).append h1
 rwa [List.take_append_drop] at this
theorem del1_take {α : Type} {n a : Nat} {l : List α} (h : a ≤ n) (hn : n < l.length) : (del1 n l).take a = l.take a := by
 unfold del1
 rw [List.take_append_of_le_length (by rw [List.length_take]; omega), List.take_take, Nat.min_eq_left h]
theorem tab_set {nm : ByteArray} {a : Int} {l : List C} (h : TabOK nm a l) {n : Nat} (hn : n < l.length) (ha : a ≤ (n : Int)) {c : C} (hc : colS c = 0) (he : c.1 = l[n].1) : TabOK nm a (l.set n c) where
 name := h.name
 len := by rw [List.length_set]; exact h.len
 keys := by rw [List.length_set]; exact h.keys
 cols := fun d hd => by
  rcases List.mem_or_eq_of_mem_set hd with q | q
  ·exact h.cols d q
  ·rw [q]; exact hc
 un := by
  have e : namesOf (l.set n c) = namesOf l := by
   unfold namesOf
   rw [List.map_set, he]
   have : l[n].1 = (l.map (·.1))[n]'(by rw [List.length_map]; exact hn) := by rw [List.getElem_map]
   rw [this, List.set_getElem_self]
  rw [e]; exact h.un
 null := by
  have := h.keys
  rw [List.take_set_of_le (by omega)]; exact h.null
end Go.Proofs.YtijjlpgcpdapnaaGreatDoor.Aev
