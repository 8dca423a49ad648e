import Derived.Test.YtijjlpgcpdapnaaGreatDoorTgt

/- Rows and tables behind a change: the kinds one by one. No program here. -/
namespace Go.Proofs.YtijjlpgcpdapnaaGreatDoor.Aev
open Go
set_option linter.unusedVariables false
set_option linter.unusedSimpArgs false
set_option maxRecDepth 100000
/-! ### what a value becomes -/
theorem cv_ok {v : V} (hv : OkV v) {t : Int} (he : (cv v t).2.2.2.2 = 0) : chk (toV (cv v t)) = 0 ∧ ((toV (cv v t)).1 = t ∨ ((toV (cv v t)).1 = 0 ∧ v.1 = 0)) := by
 obtain ⟨h1, ⟨n, h2, h3⟩, b0, b1⟩ := hv
 unfold cv at he ⊢
 have hs : v.2.2.2.1.data.toList.length ≤ 100000 := by rw [← size_eq]; omega
 cases hR : toC v.1 v.2.1 v.2.2.1.toNat v.2.2.2.1.data.toList t with
 | no e =>
  rw [hR] at he
  exact absurd he (toC_no hR)
 | ok t' b m u =>
  obtain ⟨c1, c2⟩ := fits_core b0 b1 hs hR
  exact ⟨c1, c2⟩
noncomputable def colK (c : C) (t : Int) : C := (c.1, t, c.2.2.1, toV (cv c.2.2.2.1 t), ())
theorem colS_iff {c : C} : colS c = 0 ↔ nameS c.1.data.toList = 0 ∧ (1 ≤ c.2.1 ∧ c.2.1 ≤ 5) ∧ vchk c.2.2.2.1 = 0 ∧ (c.2.2.2.1.1 = 0 ∨ c.2.2.2.1.1 = c.2.1) := by
 unfold colS
 by_cases h1 : nameS c.1.data.toList = 0
 ·rw [if_neg (by simpa using h1)]
  by_cases h2 : c.2.1 < 1 ∨ 5 < c.2.1
  ·rw [if_pos h2]
   constructor
   ·intro h; cases h
   ·intro h; omega
  ·rw [if_neg h2]
   by_cases h3 : vchk c.2.2.2.1 = 0
   ·rw [if_neg (by simpa using h3)]
    by_cases h4 : c.2.2.2.1.1 ≠ 0 ∧ c.2.2.2.1.1 ≠ c.2.1
    ·rw [if_pos h4]
     constructor
     ·intro h; cases h
     ·intro h; omega
    ·rw [if_neg h4]
     exact ⟨fun _ => ⟨h1, by omega, h3, by omega⟩, fun _ => rfl⟩
   ·rw [if_pos h3]
    exact ⟨fun h => absurd h h3, fun h => absurd h.2.2.1 h3⟩
 ·rw [if_pos h1]
  exact ⟨fun h => absurd h h1, fun h => absurd h.1 h1⟩
theorem zero_chk : vchk (0, 0, 0, nilB, ()) = 0 := by
 unfold vchk
 exact check_0.2 ⟨by simp, ⟨by simp, by simp, by simp⟩, by simp, canon_0, by simp [ba_size], by simp⟩
theorem colK_ok {c : C} (hv : OkV c.2.2.2.1) (h : colS c = 0) {t : Int} (ht : 1 ≤ t ∧ t ≤ 5) : colS (colK c t) = 0 := by
 obtain ⟨h1, _, _, _⟩ := colS_iff.1 h
 refine colS_iff.2 ⟨h1, ht, ?_, ?_⟩
 ·show vchk (toV (cv c.2.2.2.1 t)) = 0
  by_cases he : (cv c.2.2.2.1 t).2.2.2.2 = 0
  ·exact (cv_ok hv he).1
  ·unfold cv at he ⊢
   cases hR : toC c.2.2.2.1.1 c.2.2.2.1.2.1 c.2.2.2.1.2.2.1.toNat c.2.2.2.1.2.2.2.1.data.toList t with
   | no e => exact zero_chk
   | ok t' b m u => rw [hR] at he; exact absurd rfl he
 ·show (toV (cv c.2.2.2.1 t)).1 = 0 ∨ (toV (cv c.2.2.2.1 t)).1 = t
  by_cases he : (cv c.2.2.2.1 t).2.2.2.2 = 0
  ·rcases (cv_ok hv he).2 with h | ⟨h, _⟩
   ·exact .inr h
   ·exact .inl h
  ·unfold cv at he ⊢
   cases hR : toC c.2.2.2.1.1 c.2.2.2.1.2.1 c.2.2.2.1.2.2.1.toNat c.2.2.2.1.2.2.2.1.data.toList t with
   | no e => exact .inl rfl
   | ok t' b m u => rw [hR] at he; exact absurd rfl he
theorem fit_conv {c : C} {v : V} (hv : OkV v) (hk : c.2.1 ≠ 0) (h : fitC c v) {t : Int} (he : (cv v t).2.2.2.2 = 0) : fitC (colK c t) (toV (cv v t)) := by
 obtain ⟨c1, c2⟩ := cv_ok hv he
 refine ⟨c1, ?_⟩
 rcases c2 with q | ⟨q, q'⟩
 ·exact .inl q
 ·right
  refine ⟨q, ?_⟩
  show c.2.2.1 = true
  rcases h.2 with g | g
  ·exact absurd (g.symm.trans q') hk
  ·exact g.2
/-! ### a split -/
def selA (keys : Int) (nm : List ByteArray) : Nat → List C → List C
 | _, [] => []
 | i, c :: l => if (i : Int) < keys ∨ inB c.1 nm = true then c :: selA keys nm (i + 1) l else selA keys nm (i + 1) l
def selB (keys : Int) (nm : List ByteArray) : Nat → List C → List C
 | _, [] => []
 | i, c :: l => if (i : Int) < keys ∨ inB c.1 nm = false then c :: selB keys nm (i + 1) l else selB keys nm (i + 1) l
theorem selA_sub (keys : Int) (nm : List ByteArray) : ∀ (l : List C) (i : Nat), (selA keys nm i l).Sublist l
 | [], _ => List.Sublist.refl _
 | c :: l, i => by
  unfold selA
  split
  ·exact (selA_sub keys nm l (i + 1)).cons_cons c
  ·exact (selA_sub keys nm l (i + 1)).cons c
theorem selB_sub (keys : Int) (nm : List ByteArray) : ∀ (l : List C) (i : Nat), (selB keys nm i l).Sublist l
 | [], _ => List.Sublist.refl _
 | c :: l, i => by
  unfold selB
  split
  ·exact (selB_sub keys nm l (i + 1)).cons_cons c
  ·exact (selB_sub keys nm l (i + 1)).cons c
theorem selA_take {keys : Int} {a : Nat} (ha : keys = (a : Int)) (nm : List ByteArray) : ∀ (l : List C) (i : Nat), (selA keys nm i l).take (a - i) = l.take (a - i)
 | [], _ => rfl
 | c :: l, i => by
  by_cases h : i < a
  ·have e : a - i = (a - (i + 1)) + 1 := by omega
   rw [selA, if_pos (.inl (by omega)), e, List.take_succ_cons, List.take_succ_cons, selA_take ha nm l (i + 1)]
  ·rw [show a - i = 0 by omega, List.take_zero, List.take_zero]
theorem selB_take {keys : Int} {a : Nat} (ha : keys = (a : Int)) (nm : List ByteArray) : ∀ (l : List C) (i : Nat), (selB keys nm i l).take (a - i) = l.take (a - i)
 | [], _ => rfl
 | c :: l, i => by
  by_cases h : i < a
  ·have e : a - i = (a - (i + 1)) + 1 := by omega
   rw [selB, if_pos (.inl (by omega)), e, List.take_succ_cons, List.take_succ_cons, selB_take ha nm l (i + 1)]
  ·rw [show a - i = 0 by omega, List.take_zero, List.take_zero]
theorem gA_take {c : Ch} (h5 : c.1 = 5) {keys at' : Int} {a : Nat} (ha : keys = (a : Int)) (cols : List C) : ∀ (l : List V) (i : Nat), (gA c keys at' cols i l).take (a - i) = l.take (a - i)
 | [], _ => rfl
 | v :: l, i => by
  by_cases h : i < a
  ·have e : a - i = (a - (i + 1)) + 1 := by omega
   have f : fA c keys at' cols i v = [v] := by unfold fA; rw [if_neg (by omega)]
   rw [gA, f, e, List.cons_append, List.nil_append, List.take_succ_cons, List.take_succ_cons, gA_take h5 ha cols l (i + 1)]
  ·rw [show a - i = 0 by omega, List.take_zero, List.take_zero]
theorem gB_take {c : Ch} (h5 : c.1 = 5) {keys : Int} {a : Nat} (ha : keys = (a : Int)) (cols : List C) : ∀ (l : List V) (i : Nat), (gB c keys cols i l).take (a - i) = l.take (a - i)
 | [], _ => rfl
 | v :: l, i => by
  by_cases h : i < a
  ·have e : a - i = (a - (i + 1)) + 1 := by omega
   have f : fB c keys cols i v = [v] := by unfold fB; rw [if_pos ⟨h5, .inl (by omega)⟩]
   rw [gB, f, e, List.cons_append, List.nil_append, List.take_succ_cons, List.take_succ_cons, gB_take h5 ha cols l (i + 1)]
  ·rw [show a - i = 0 by omega, List.take_zero, List.take_zero]
abbrev namesC (c : Ch) : List ByteArray := c.2.2.2.2.2.2.2.1
theorem fits_selA {c : Ch} (h5 : c.1 = 5) (keys at' : Int) (cols : List C) : ∀ (cs : List C) (l : List V) (i : Nat), cols.drop i = cs → cs.length = l.length → fitsL cs l = 0 →
  (gA c keys at' cols i l).length = (selA keys (namesC c) i cs).length ∧ fitsL (selA keys (namesC c) i cs) (gA c keys at' cols i l) = 0
 | [], [], i, _, _, _ => ⟨rfl, rfl⟩
 | [], _ :: _, _, _, h, _ => by cases h
 | _ :: _, [], _, _, h, _ => by cases h
 | d :: cs, v :: l, i, hd, hl, hf => by
  obtain ⟨f1, f2⟩ := fits_cons.1 hf
  have hlt : i < cols.length := by
   have := congrArg List.length hd
   rw [List.length_drop, List.length_cons] at this; omega
  have hd2 : cols.drop (i + 1) = cs := by
   have := congrArg List.tail hd
   rwa [List.tail_drop, List.tail_cons] at this
  have hat : cols[i] = d := by
   rw [List.drop_eq_getElem_cons hlt] at hd
   exact (List.cons.inj hd).1
  have hn : named c cols i = inB d.1 (namesC c) := by rw [named_at hlt, hat]
  obtain ⟨r1, r2⟩ := fits_selA h5 keys at' cols cs l (i + 1) hd2 (by simpa using hl) f2
  by_cases q : (i : Int) < keys ∨ inB d.1 (namesC c) = true
  ·have f : fA c keys at' cols i v = [v] := by
    unfold fA
    rw [if_neg]
    rintro (⟨h, _⟩ | ⟨_, h, h'⟩)
    ·omega
    ·rcases q with q | q
     ·omega
     ·rw [hn, q] at h'; cases h'
   rw [gA, selA, if_pos q, f, List.cons_append, List.nil_append]
   exact ⟨by rw [List.length_cons, List.length_cons, r1], fits_cons.2 ⟨f1, r2⟩⟩
  ·have f : fA c keys at' cols i v = [] := by
    unfold fA
    rw [if_pos]
    right
    refine ⟨h5, by omega, ?_⟩
    rw [hn]
    cases hb : inB d.1 (namesC c) with
    | true => exact absurd (.inr hb) q
    | false => rfl
   rw [gA, selA, if_neg q, f, List.nil_append]
   exact ⟨r1, r2⟩
theorem fits_selB {c : Ch} (h5 : c.1 = 5) (keys : Int) (cols : List C) : ∀ (cs : List C) (l : List V) (i : Nat), cols.drop i = cs → cs.length = l.length → fitsL cs l = 0 →
  (gB c keys cols i l).length = (selB keys (namesC c) i cs).length ∧ fitsL (selB keys (namesC c) i cs) (gB c keys cols i l) = 0
 | [], [], i, _, _, _ => ⟨rfl, rfl⟩
 | [], _ :: _, _, _, h, _ => by cases h
 | _ :: _, [], _, _, h, _ => by cases h
 | d :: cs, v :: l, i, hd, hl, hf => by
  obtain ⟨f1, f2⟩ := fits_cons.1 hf
  have hlt : i < cols.length := by
   have := congrArg List.length hd
   rw [List.length_drop, List.length_cons] at this; omega
  have hd2 : cols.drop (i + 1) = cs := by
   have := congrArg List.tail hd
   rwa [List.tail_drop, List.tail_cons] at this
  have hat : cols[i] = d := by
   rw [List.drop_eq_getElem_cons hlt] at hd
   exact (List.cons.inj hd).1
  have hn : named c cols i = inB d.1 (namesC c) := by rw [named_at hlt, hat]
  obtain ⟨r1, r2⟩ := fits_selB h5 keys cols cs l (i + 1) hd2 (by simpa using hl) f2
  by_cases q : (i : Int) < keys ∨ inB d.1 (namesC c) = false
  ·have f : fB c keys cols i v = [v] := by
    unfold fB
    rw [if_pos ⟨h5, by rw [hn]; exact q⟩]
   rw [gB, selB, if_pos q, f, List.cons_append, List.nil_append]
   exact ⟨by rw [List.length_cons, List.length_cons, r1], fits_cons.2 ⟨f1, r2⟩⟩
  ·have f : fB c keys cols i v = [] := by
    unfold fB
    rw [if_neg]
    rintro ⟨_, h⟩
    rw [hn] at h
    exact q h
   rw [gB, selB, if_neg q, f, List.nil_append]
   exact ⟨r1, r2⟩
end Go.Proofs.YtijjlpgcpdapnaaGreatDoor.Aev
