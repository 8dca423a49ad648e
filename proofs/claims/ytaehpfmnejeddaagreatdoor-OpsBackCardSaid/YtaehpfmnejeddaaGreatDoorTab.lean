import Derived.Test.YtaehpfmnejeddaaGreatDoorF2
import Derived.Test.YtaehpfmnejeddaaGreatDoorF8
import Derived.Test.YtaehpfmnejeddaaGreatDoorSchema
import Derived.Test.YtaehpfmnejeddaaGreatDoorPack
import Derived.Test.YtaehpfmnejeddaaGreatDoorKeyRow

/- Tables as bytes, written: the program's and the document's ways. -/
namespace Go.Proofs.YtaehpfmnejeddaaGreatDoor.Aev
open Go
set_option linter.unusedVariables false
set_option linter.unusedSimpArgs false
set_option maxRecDepth 100000
abbrev mL (l : List UInt8) : ByteArray := ByteArray.mk (List.toArray l)
def flagB (b : Bool) : UInt8 := bif b then 1 else 0
noncomputable def colB (c : C) : List UInt8 := encL c.1.size ++ c.1.data.toList ++ encL c.2.1.toNat ++ [flagB c.2.2.1] ++ (kb c.2.2.2.1).map b8
noncomputable def headB (nm : ByteArray) (a : Int) (n : Nat) : List UInt8 := encL nm.size ++ nm.data.toList ++ encL a.toNat ++ encL n
noncomputable def tabB (nm : ByteArray) (a : Int) (l : List C) : List UInt8 := headB nm a l.length ++ l.flatMap colB
theorem colS_0 {c : C} (h : colS c = 0) : 1 ≤ c.2.1 ∧ c.2.1 ≤ 5 ∧ vchk c.2.2.2.1 = 0 := by
 unfold colS at h
 split at h
 ·rename_i h1; exact absurd h h1
 ·split at h
  ·simp at h
  ·rename_i h2
   split at h
   ·rename_i h1; exact absurd h h1
   ·rename_i h3; exact ⟨by omega, by omega, by simpa using h3⟩
theorem colsS_0 : ∀ {l : List C}, colsS l = 0 → ∀ c ∈ l, colS c = 0
 | [], _, c, hc => by simp at hc
 | d :: l, h, c, hc => by
  simp only [colsS] at h
  split at h
  ·rename_i h1; exact absurd h h1
  ·rename_i h1
   rcases List.mem_cons.1 hc with rfl | hc
   ·simpa using h1
   ·exact colsS_0 h c hc
theorem tabS_0 {nm : ByteArray} {a : Int} {l : List C} (h : tabS nm a l = 0) : colsS l = 0 ∧ 1 ≤ a ∧ a ≤ 3 ∧ l.length ≤ 8 := by
 unfold tabS at h
 split at h
 ·rename_i h1; exact absurd h h1
 ·split at h
  ·simp at h
  ·split at h
   ·simp at h
   ·split at h
    ·rename_i h1; exact absurd h h1
    ·rename_i h1; exact ⟨by simpa using h1, by omega, by omega, by omega⟩
theorem text_b (s : ByteArray) (h : s.size ≤ 1000000) {k : Nat} (hk : 10 ≤ k) : pack_Text.f k s = some (mL (encL s.size ++ s.data.toList)) := by
 have := text_f (l := s.data.toList) (k := k) (by rw [← size_eq]; omega) hk
 rw [← ba_of s, ← size_eq] at this
 exact this
theorem kput_b {c : C} (h : FewC c) (hs : c.2.2.2.1.2.2.2.1.size ≤ 2000) (hc : vchk c.2.2.2.1 = 0) {k : Nat} (hk : 5000 ≤ k) : keycode_Put.f k c.2.2.2.1.1 c.2.2.2.1.2.1 c.2.2.2.1.2.2.1 c.2.2.2.1.2.2.2.1 = some (mL ((kb c.2.2.2.1).map b8), 0) := by
 obtain ⟨n, hn, hn2⟩ := h
 have hv : checkS c.2.2.2.1.1 c.2.2.2.1.2.1 n c.2.2.2.1.2.2.2.1 = 0 := by
  unfold vchk at hc; rw [hn] at hc; exact hc
 have hb : kb c.2.2.2.1 = kputI c.2.2.2.1.1 c.2.2.2.1.2.1 n c.2.2.2.1.2.2.2.1.data.toList := by unfold kb; rw [hn]; rfl
 obtain ⟨b, h1, h2⟩ := kPut_eq c.2.2.2.1.1 c.2.2.2.1.2.1 n hn2 c.2.2.2.1.2.2.2.1 (by omega) k (by omega)
 rw [hv] at h1 h2
 rw [hn, h1, hb]
 congr 2
 exact ba_ext h2
theorem kb_len (v : V) (hs : v.2.2.2.1.size ≤ 2000) : ((kb v).map b8).length ≤ 5000 := by
 have := kput_len v.1 v.2.1 v.2.2.1.toNat v.2.2.2.1.data.toList
 rw [← size_eq] at this
 rw [List.length_map]; unfold kb; omega
theorem colB_len {c : C} (hz : c.1.size ≤ 2000 ∧ c.2.2.2.1.2.2.2.1.size ≤ 2000) (h5 : 1 ≤ c.2.1 ∧ c.2.1 ≤ 5) : (colB c).length ≤ 10000 := by
 have h1 := encL_len (m := c.1.size) (by omega)
 have h2 := encL_len (m := c.2.1.toNat) (by omega)
 have h3 := kb_len c.2.2.2.1 hz.2
 have h4 : c.1.data.toList.length = c.1.size := rfl
 unfold colB
 simp only [List.length_append, List.length_cons, List.length_nil]
 omega
theorem sput_s1 {c : C} (h : FewC c) (hz : c.1.size ≤ 2000 ∧ c.2.2.2.1.2.2.2.1.size ≤ 2000) (h0 : colS c = 0) (x : List UInt8) (hx : x.length ≤ 1000000) (l : List C) (n i : Int) {k : Nat} (hk : 5000 ≤ k) (nb : UInt8) (hnb : nb = flagB c.2.2.1) :
  schema_Put.s1 (k + 2) (mL x) (mL [nb]) l n i c.1 c.2.1 c.2.2.1 c.2.2.2.1.1 c.2.2.2.1.2.1 c.2.2.2.1.2.2.1 c.2.2.2.1.2.2.2.1 = schema_Put.s0 k (mL (x ++ colB c)) l n (IntKind.wrap IntKind.i64 (i + 1)) := by
 obtain ⟨a1, a2, a3⟩ := colS_0 h0
 have e : IntKind.wrap IntKind.u64 c.2.1 = ((c.2.1.toNat : Nat) : Int) := by rw [u64w (by omega) (by omega)]; omega
 have ht := text_b c.1 (by omega) (k := k + 1) (by omega)
 have hu := uint_f (m := c.2.1.toNat) (k := k + 1) (by omega) (by omega)
 have hp := kput_b h hz.2 a3 (k := k + 1) (by omega)
 have l1 := encL_len (m := c.1.size) (by omega)
 have l2 := encL_len (m := c.2.1.toNat) (by omega)
 have l3 := kb_len c.2.2.2.1 hz.2
 have l4 : c.1.data.toList.length = c.1.size := rfl
 have hcol : colB c = encL c.1.size ++ c.1.data.toList ++ encL c.2.1.toNat ++ [nb] ++ (kb c.2.2.2.1).map b8 := by rw [hnb]; rfl
 have lA : (encL c.1.size ++ c.1.data.toList).length ≤ 3000 := by rw [List.length_append]; omega
 rw [hcol]
 generalize encL c.1.size ++ c.1.data.toList = A at *
 generalize encL c.2.1.toNat = B at *
 generalize (kb c.2.2.2.1).map b8 = D at *
 have g1 : A.length ≤ 4611686018427387903 := by omega
 have g2 : B.length ≤ 4611686018427387903 := by omega
 have g3 : (A ++ B).length ≤ 4611686018427387903 := by rw [List.length_append]; omega
 have g4 : [nb].length ≤ 4611686018427387903 := by rw [List.length_singleton]; omega
 have g5 : (A ++ B ++ [nb]).length ≤ 4611686018427387903 := by simp only [List.length_append, List.length_singleton]; omega
 have g6 : D.length ≤ 4611686018427387903 := by omega
 have g7 : x.length ≤ 4611686018427387903 := by omega
 have g8 : (A ++ B ++ [nb] ++ D).length ≤ 4611686018427387903 := by simp only [List.length_append, List.length_singleton]; omega
 simp only [schema_Put.s1, schema_Put.s1c, schema_Put.s2, schema_Put.s2c, mL, ht, e, hu, hp, ba_append, ba_size, g1, g2, g3, g4, g5, g6, g7, g8, decide_true, Bool.and_self, cond_true, Option.bind_some, Option.bind_fun_some]
theorem sput_s0 (l : List C) (hl : FewL l) (hz : ∀ c ∈ l, c.1.size ≤ 2000 ∧ c.2.2.2.1.2.2.2.1.size ≤ 2000) (h0 : colsS l = 0) : ∀ (m i : Nat) (x : List UInt8), i + m = l.length → x.length ≤ 10000 + i * 10000 → ∀ k, 3 * m + 5000 < k →
  schema_Put.s0 k (mL x) l (l.length : Int) (i : Int) = some (mL (x ++ (l.drop i).flatMap colB), 0) := by
 intro m
 have hl1 := hl.1
 induction m with
 | zero =>
  intro i x hi hx k hk
  obtain ⟨k, rfl⟩ : ∃ j, k = j + 1 := ⟨k - 1, by omega⟩
  have e : ¬ (i : Int) < (l.length : Int) := by omega
  rw [List.drop_eq_nil_of_le (show l.length ≤ i by omega)]
  simp only [schema_Put.s0, schema_Put.s0c, e, decide_false, cond_false, List.flatMap_nil, List.append_nil]
 | succ m ih =>
  intro i x hi hx k hk
  obtain ⟨k, rfl⟩ : ∃ j, k = j + 2 + 1 := ⟨k - 3, by omega⟩
  have hlt : i < l.length := by omega
  have e0 : (i : Int) < (l.length : Int) := by omega
  have e1 : (0 : Int) ≤ (i : Int) := by omega
  have e2 : IntKind.wrap IntKind.i64 ((i : Int) + 1) = ((i + 1 : Nat) : Int) := by rw [i64w (by omega) (by omega)]; omega
  have he := elem_c hlt
  have hm := List.getElem_mem hlt
  have hc0 := colsS_0 h0 l[i] hm
  have hb := colB_len (hz _ hm) ⟨(colS_0 hc0).1, (colS_0 hc0).2.1⟩
  have h1 := ih (i + 1) (x ++ colB l[i]) (by omega) (by rw [List.length_append]; omega) k (by omega)
  have hs := fun nb hnb => sput_s1 (hl.2 _ hm) (hz _ hm) hc0 x (by omega) l (l.length : Int) (i : Int) (k := k) (by omega) nb hnb
  rw [e2] at hs
  rw [List.drop_eq_getElem_cons hlt, List.flatMap_cons, ← List.append_assoc, ← h1]
  simp only [schema_Put.s0, schema_Put.s0c, e0, e1, he, decide_true, Bool.and_self, cond_true, Option.bind_fun_some]
  cases hn : l[i].2.2.1 with
  | true => rw [hn] at hs; exact hs 1 rfl
  | false => rw [hn] at hs; exact hs 0 rfl
theorem head_len {nm : ByteArray} {a : Int} {n : Nat} (h : nm.size ≤ 2000) (ha : 1 ≤ a ∧ a ≤ 100) (hn : n ≤ 8) : (encL nm.size ++ nm.data.toList).length ≤ 3000 ∧ (encL a.toNat).length ≤ 10 ∧ (encL n).length ≤ 10 := by
 have l1 := encL_len (m := nm.size) (by omega)
 have l2 := encL_len (m := a.toNat) (by omega)
 have l3 := encL_len (m := n) (by omega)
 have l4 : nm.data.toList.length = nm.size := rfl
 exact ⟨by rw [List.length_append]; omega, l2, l3⟩
theorem sput_f (nm : ByteArray) (a : Int) (l : List C) (hl : FewL l) (hn : nm.size ≤ 2000) (hz : ∀ c ∈ l, c.1.size ≤ 2000 ∧ c.2.2.2.1.2.2.2.1.size ≤ 2000) (k : Nat) (hk : 7000 ≤ k) :
  schema_Put.f k nm a l = some (if tabS nm a l = 0 then (mL (tabB nm a l), 0) else (mL [], tabS nm a l)) := by
 simp only [schema_Put.f, schema_Put.c, scheck_f nm a hl hk, Option.bind_some, bne_dec, Option.bind_fun_some]
 by_cases c : tabS nm a l = 0
 ·obtain ⟨h0, a1, a2, a3⟩ := tabS_0 c
  obtain ⟨l1, l2, l3⟩ := head_len (n := l.length) hn ⟨a1, by omega⟩ a3
  have e : IntKind.wrap IntKind.u64 a = ((a.toNat : Nat) : Int) := by rw [u64w (by omega) (by omega)]; omega
  have e' : IntKind.wrap IntKind.u64 (l.length : Int) = (l.length : Int) := by rw [u64w (by omega) (by omega)]
  have ht := text_b nm (by omega) (k := k) (by omega)
  have hu := uint_f (m := a.toNat) (k := k) (by omega) (by omega)
  have hu' := uint_f (m := l.length) (k := k) (by omega) (by omega)
  have hs := sput_s0 l hl hz h0 l.length 0 (headB nm a l.length) (by omega) (by unfold headB; simp only [List.length_append] at l1 ⊢; omega) k (by omega)
  rw [if_pos c]
  have hs' : schema_Put.s0 k (mL (headB nm a l.length)) l (l.length : Int) 0 = some (mL (tabB nm a l), 0) := hs
  unfold headB at hs'
  generalize encL nm.size ++ nm.data.toList = A at *
  generalize encL a.toNat = B at *
  generalize encL l.length = D at *
  have g1 : A.length ≤ 4611686018427387903 := by omega
  have g2 : B.length ≤ 4611686018427387903 := by omega
  have g3 : (A ++ B).length ≤ 4611686018427387903 := by rw [List.length_append]; omega
  have g4 : D.length ≤ 4611686018427387903 := by omega
  simp only [mL] at ht hu hu' hs'
  simp only [c, ht, e, e', hu, hu', ba_append, ba_size, g1, g2, g3, g4, hs', decide_true, Bool.not_true, cond_false, Bool.and_self, cond_true, Option.bind_some]
 ·rw [if_neg c]
  simp only [c, decide_false, Bool.not_false, cond_true]
theorem reftext_b (s : ByteArray) (h : s.size ≤ 1000000) {k : Nat} (hk : 10 ≤ k) : transomref03_Text.f k s = some (mL (encL s.size ++ s.data.toList)) := by
 have := reftext_f (l := s.data.toList) (k := k) (by rw [← size_eq]; omega) hk
 rw [← ba_of s, ← size_eq] at this
 exact this
theorem rkput_b {c : C} (h : FewC c) (hs : c.2.2.2.1.2.2.2.1.size ≤ 2000) (hc : vchk c.2.2.2.1 = 0) {k : Nat} (hk : 5000 ≤ k) : transomref05_Put.f k c.2.2.2.1.1 c.2.2.2.1.2.1 c.2.2.2.1.2.2.1 c.2.2.2.1.2.2.2.1 = some (mL ((kb c.2.2.2.1).map b8), 0) := by
 obtain ⟨n, hn, hn2⟩ := h
 have hv : checkS c.2.2.2.1.1 c.2.2.2.1.2.1 n c.2.2.2.1.2.2.2.1 = 0 := by
  unfold vchk at hc; rw [hn] at hc; exact hc
 have hb : kb c.2.2.2.1 = kputI c.2.2.2.1.1 c.2.2.2.1.2.1 n c.2.2.2.1.2.2.2.1.data.toList := by unfold kb; rw [hn]; rfl
 obtain ⟨b, h1, h2⟩ := rPut_eq c.2.2.2.1.1 c.2.2.2.1.2.1 n hn2 c.2.2.2.1.2.2.2.1 (by omega) k (by omega)
 rw [hv] at h1 h2
 rw [hn, h1, hb]
 congr 2
 exact ba_ext h2
theorem rput_s1 {c : C} (h : FewC c) (hz : c.1.size ≤ 2000 ∧ c.2.2.2.1.2.2.2.1.size ≤ 2000) (h0 : colS c = 0) (x : List UInt8) (hx : x.length ≤ 1000000) (l : List C) (nm : ByteArray) (a i : Int) {k : Nat} (hk : 5000 ≤ k) (nb : Int) (hnb : UInt8.ofNat (Int.toNat nb) = flagB c.2.2.1) :
  transomref09_Put.s1 (k + 2) (mL x) i nb nm a l c.1 c.2.1 c.2.2.1 c.2.2.2.1.1 c.2.2.2.1.2.1 c.2.2.2.1.2.2.1 c.2.2.2.1.2.2.2.1 = transomref09_Put.s0 k (mL (x ++ colB c)) (IntKind.wrap IntKind.i64 (i + 1)) nm a l := by
 obtain ⟨a1, a2, a3⟩ := colS_0 h0
 have e : IntKind.wrap IntKind.u64 c.2.1 = ((c.2.1.toNat : Nat) : Int) := by rw [u64w (by omega) (by omega)]; omega
 have ht := reftext_b c.1 (by omega) (k := k + 1) (by omega)
 have hu := refuint_f (m := c.2.1.toNat) (k := k + 1) (by omega) (by omega)
 have hp := rkput_b h hz.2 a3 (k := k + 1) (by omega)
 have l1 := encL_len (m := c.1.size) (by omega)
 have l2 := encL_len (m := c.2.1.toNat) (by omega)
 have l3 := kb_len c.2.2.2.1 hz.2
 have l4 : c.1.data.toList.length = c.1.size := rfl
 have hcol : colB c = encL c.1.size ++ c.1.data.toList ++ encL c.2.1.toNat ++ [UInt8.ofNat (Int.toNat nb)] ++ (kb c.2.2.2.1).map b8 := by rw [hnb]; rfl
 have lA : (encL c.1.size ++ c.1.data.toList).length ≤ 3000 := by rw [List.length_append]; omega
 rw [hcol]
 generalize encL c.1.size ++ c.1.data.toList = A at *
 generalize encL c.2.1.toNat = B at *
 generalize (kb c.2.2.2.1).map b8 = D at *
 have g1 : A.length ≤ 4611686018427387903 := by omega
 have g2 : B.length ≤ 4611686018427387903 := by omega
 have g3 : (x ++ A).length ≤ 4611686018427387903 := by rw [List.length_append]; omega
 have g5 : (x ++ A ++ B).length ≤ 4611686018427387903 := by simp only [List.length_append]; omega
 have g6 : D.length ≤ 4611686018427387903 := by omega
 have g7 : x.length ≤ 4611686018427387903 := by omega
 have g8 : (x ++ A ++ B ++ [UInt8.ofNat (Int.toNat nb)]).length ≤ 4611686018427387903 := by simp only [List.length_append, List.length_singleton]; omega
 have hx : x ++ (A ++ B ++ [UInt8.ofNat (Int.toNat nb)] ++ D) = x ++ A ++ B ++ [UInt8.ofNat (Int.toNat nb)] ++ D := by simp only [List.append_assoc]
 rw [hx]
 simp only [transomref09_Put.s1, transomref09_Put.s1c, transomref09_Put.s2, transomref09_Put.s2c, mL, ht, e, hu, hp, List.map_cons, List.map_nil, ba_append, ba_size, g1, g2, g3, g5, g6, g7, g8, decide_true, Bool.and_self, cond_true, Option.bind_some, Option.bind_fun_some]
theorem rput_s0 (l : List C) (hl : FewL l) (hz : ∀ c ∈ l, c.1.size ≤ 2000 ∧ c.2.2.2.1.2.2.2.1.size ≤ 2000) (h0 : colsS l = 0) (nm : ByteArray) (a : Int) : ∀ (m i : Nat) (x : List UInt8), i + m = l.length → x.length ≤ 10000 + i * 10000 → ∀ k, 3 * m + 5000 < k →
  transomref09_Put.s0 k (mL x) (i : Int) nm a l = some (mL (x ++ (l.drop i).flatMap colB), 0) := by
 intro m
 have hl1 := hl.1
 induction m with
 | zero =>
  intro i x hi hx k hk
  obtain ⟨k, rfl⟩ : ∃ j, k = j + 1 := ⟨k - 1, by omega⟩
  have e : ¬ (i : Int) < (l.length : Int) := by omega
  rw [List.drop_eq_nil_of_le (show l.length ≤ i by omega)]
  simp only [transomref09_Put.s0, transomref09_Put.s0c, e, decide_false, cond_false, List.flatMap_nil, List.append_nil]
 | succ m ih =>
  intro i x hi hx k hk
  obtain ⟨k, rfl⟩ : ∃ j, k = j + 2 + 1 := ⟨k - 3, by omega⟩
  have hlt : i < l.length := by omega
  have e0 : (i : Int) < (l.length : Int) := by omega
  have e1 : (0 : Int) ≤ (i : Int) := by omega
  have e2 : IntKind.wrap IntKind.i64 ((i : Int) + 1) = ((i + 1 : Nat) : Int) := by rw [i64w (by omega) (by omega)]; omega
  have he := elem_c hlt
  have hm := List.getElem_mem hlt
  have hc0 := colsS_0 h0 l[i] hm
  have hb := colB_len (hz _ hm) ⟨(colS_0 hc0).1, (colS_0 hc0).2.1⟩
  have h1 := ih (i + 1) (x ++ colB l[i]) (by omega) (by rw [List.length_append]; omega) k (by omega)
  have hs := fun nb hnb => rput_s1 (hl.2 _ hm) (hz _ hm) hc0 x (by omega) l nm a (i : Int) (k := k) (by omega) nb hnb
  rw [e2] at hs
  rw [List.drop_eq_getElem_cons hlt, List.flatMap_cons, ← List.append_assoc, ← h1]
  simp only [transomref09_Put.s0, transomref09_Put.s0c, e0, e1, he, decide_true, Bool.and_self, cond_true, Option.bind_fun_some]
  cases hn : l[i].2.2.1 with
  | true => rw [hn] at hs; exact hs 1 rfl
  | false => rw [hn] at hs; exact hs 0 rfl
theorem rput_f (nm : ByteArray) (a : Int) (l : List C) (hl : FewL l) (hn : nm.size ≤ 2000) (hz : ∀ c ∈ l, c.1.size ≤ 2000 ∧ c.2.2.2.1.2.2.2.1.size ≤ 2000) (k : Nat) (hk : 7000 ≤ k) :
  transomref09_Put.f k nm a l = some (if tabS nm a l = 0 then (mL (tabB nm a l), 0) else (mL [], tabS nm a l)) := by
 simp only [transomref09_Put.f, transomref09_Put.c, rscheck_f nm a hl hk, Option.bind_some, bne_dec, Option.bind_fun_some]
 by_cases c : tabS nm a l = 0
 ·obtain ⟨h0, a1, a2, a3⟩ := tabS_0 c
  obtain ⟨l1, l2, l3⟩ := head_len (n := l.length) hn ⟨a1, by omega⟩ a3
  have e : IntKind.wrap IntKind.u64 a = ((a.toNat : Nat) : Int) := by rw [u64w (by omega) (by omega)]; omega
  have e' : IntKind.wrap IntKind.u64 (l.length : Int) = (l.length : Int) := by rw [u64w (by omega) (by omega)]
  have ht := reftext_b nm (by omega) (k := k) (by omega)
  have hu := refuint_f (m := a.toNat) (k := k) (by omega) (by omega)
  have hu' := refuint_f (m := l.length) (k := k) (by omega) (by omega)
  have hs := rput_s0 l hl hz h0 nm a l.length 0 (headB nm a l.length) (by omega) (by unfold headB; simp only [List.length_append] at l1 ⊢; omega) k (by omega)
  rw [if_pos c]
  have hs' : transomref09_Put.s0 k (mL (headB nm a l.length)) 0 nm a l = some (mL (tabB nm a l), 0) := hs
  unfold headB at hs'
  generalize encL nm.size ++ nm.data.toList = A at *
  generalize encL a.toNat = B at *
  generalize encL l.length = D at *
  have g1 : A.length ≤ 4611686018427387903 := by omega
  have g2 : B.length ≤ 4611686018427387903 := by omega
  have g3 : (A ++ B).length ≤ 4611686018427387903 := by rw [List.length_append]; omega
  have g4 : D.length ≤ 4611686018427387903 := by omega
  simp only [mL] at ht hu hu' hs'
  simp only [c, ht, e, e', hu, hu', ba_append, ba_size, g1, g2, g3, g4, hs', decide_true, Bool.not_true, cond_false, Bool.and_self, cond_true, Option.bind_some]
 ·rw [if_neg c]
  simp only [c, decide_false, Bool.not_false, cond_true]
end Go.Proofs.YtaehpfmnejeddaaGreatDoor.Aev
