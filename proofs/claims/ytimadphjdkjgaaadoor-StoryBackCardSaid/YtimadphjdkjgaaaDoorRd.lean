import Derived.Test.YtimadphjdkjgaaaDoorF2
import Derived.Test.YtimadphjdkjgaaaDoorF3
import Derived.Test.YtimadphjdkjgaaaDoorF4
import Derived.Test.YtimadphjdkjgaaaDoorF5
import Derived.Test.YtimadphjdkjgaaaDoorWGood

/- Words read again: values, kinds, numbers, names, as both readers make them of a word. -/
namespace Go.Proofs.YtimadphjdkjgaaaDoor.Aev
open Go
set_option linter.unusedVariables false
set_option linter.unusedSimpArgs false
set_option maxRecDepth 100000
noncomputable def wv (w : ByteArray) : V := ((valueL w.data.toList).1.1, (valueL w.data.toList).1.2.1, ((valueL w.data.toList).1.2.2.1 : Int), mkW (valueL w.data.toList).1.2.2.2, ())
noncomputable def we (w : ByteArray) : Int := (valueL w.data.toList).2
theorem wv_ok (w : ByteArray) : OkV (wv w) := by
 obtain ⟨⟨b0, b1⟩, hn, _⟩ := guess_ok w.data.toList
 unfold wv valueL
 split
 ·rename_i h
  have hs : checkS (guessL w.data.toList).1 (guessL w.data.toList).2.1 (guessL w.data.toList).2.2.1 (mkW (guessL w.data.toList).2.2.2) = 0 := by
   have h1 := h.1
   unfold showL at h1
   split at h1
   ·rename_i c; exact c
   ·exact h1
  have h64 := (check_0.1 hs).2.2.2.2.1
  exact ⟨Nat.le_trans h64 (by decide), ⟨_, rfl, hn⟩, b0, b1⟩
 ·exact ⟨by show (mkW []).size ≤ 2000; simp [ba_size], ⟨0, rfl, by omega⟩, by show _ ≤ (0 : Int); omega, by show (0 : Int) ≤ _; omega⟩
theorem wv_show {v : V} (hv : OkV v) (h : (shw v).2 = 0) : wv (mkW (shw v).1) = v ∧ we (mkW (shw v).1) = 0 := by
 obtain ⟨_, ⟨n, hn, hn2⟩, b0, b1⟩ := hv
 have hT := shw_T h
 have hc : checkS v.1 v.2.1 v.2.2.1.toNat (mkW v.2.2.2.1.data.toList) = 0 := by
  unfold shw showL at h
  split at h
  ·rename_i c; exact c
  ·exact h
 have e := value_show v.1 v.2.1 b0 b1 v.2.2.1.toNat (by rw [hn, Int.toNat_natCast]; exact hn2) v.2.2.2.1.data.toList hc
 unfold wv we
 rw [ba_data, hT, e]
 refine ⟨?_, rfl⟩
 show (v.1, v.2.1, ((v.2.2.1.toNat : Nat) : Int), mkW v.2.2.2.1.data.toList, ()) = v
 have e1 : ((v.2.2.1.toNat : Nat) : Int) = v.2.2.1 := by rw [hn, Int.toNat_natCast]
 have e2 : mkW v.2.2.2.1.data.toList = v.2.2.2.1 := (ba_of _).symm
 rw [e1, e2]
def wn (w : ByteArray) : Int := (numL w.data.toList).1
def wne (w : ByteArray) : Int := (numL w.data.toList).2
theorem wn_in (w : ByteArray) : -9223372036854775808 ≤ wn w ∧ wn w ≤ 9223372036854775807 := numL_in _
theorem wn_dig (n : Int) (h : (numP n).1 = 0) : wn (mkW (digL n)) = n ∧ wne (mkW (digL n)) = 0 := by
 have hr : 0 ≤ n ∧ n ≤ 1000 := by
  unfold numP at h
  simp only at h
  split at h
  ·cases h
  ·omega
 unfold wn wne
 rw [ba_data, numL_dig n (by omega) (by omega)]
 exact ⟨rfl, rfl⟩
theorem number_f (w : ByteArray) (h : w.size ≤ 100000) (k : Nat) (hk : 300 ≤ k) : convert_Number.f k w = some (wn w, wne w) := by
 have := number_eq' w.data.toList (by rw [← size_eq]; omega) k hk
 rw [ba_of w]
 exact this
theorem value_f (w : ByteArray) (h : w.size ≤ 100000) (k : Nat) (hk : 9000000 ≤ k) : words_Value.f k w = some ((wv w).1, (wv w).2.1, (wv w).2.2.1, (wv w).2.2.2.1, we w) := by
 have := wvalue_eq w.data.toList (by rw [← size_eq]; omega) k hk
 rw [ba_of w]
 exact this
/-! ### the program's reader: words, numbers, values -/
def hdW : List ByteArray → ByteArray
 | [] => mkW []
 | w :: _ => w
def Sm (l : List ByteArray) : Prop := ∀ w ∈ l, w.size ≤ 100000
theorem sm_tl {l : List ByteArray} (h : Sm l) : Sm l.tail := fun w hw => h w (List.mem_of_mem_tail hw)
theorem sm_hd {l : List ByteArray} (h : Sm l) : (hdW l).size ≤ 100000 := by
 cases l with
 | nil => simp [hdW, ba_size]
 | cons w l => exact h w (by simp)
theorem sm_drop {l : List ByteArray} (h : Sm l) (n : Nat) : Sm (l.drop n) := fun w hw => h w (List.mem_of_mem_drop hw)
theorem sm_take {l : List ByteArray} (h : Sm l) (n : Nat) : Sm (l.take n) := fun w hw => h w (List.mem_of_mem_take hw)
theorem elem_hd (w : ByteArray) (l : List ByteArray) : elem Ty.str (w :: l) (0 : Int) = w := rfl
theorem next_f (l : List ByteArray) (b : Bool) (k : Nat) : sr_next.f k l b = some (hdW l, l.tail, b || l.isEmpty) := by
 cases l with
 | nil =>
  simp only [sr_next.f, sr_next.c, hdW]
  show some (_, _, true) = some (_, _, b || true)
  rw [Bool.or_true]; rfl
 | cons w l =>
  have e0 : (((w :: l).length : Int) == 0) = false := by rw [beq_eq_false_iff_ne, List.length_cons]; omega
  have e1 : (0 : Int) < ((w :: l).length : Int) := by rw [List.length_cons]; omega
  have e2 : (1 : Int) ≤ ((w :: l).length : Int) := by rw [List.length_cons]; omega
  simp only [sr_next.f, sr_next.c, e0, e1, e2, Int.le_refl, decide_true, Bool.and_self, cond_true, cond_false, elem_hd, hdW]
  show some (w, List.take _ l, b) = some (w, l, b || false)
  rw [Bool.or_false, List.take_of_length_le (by rw [Int.toNat_natCast, List.length_cons]; omega)]
def nB (l : List ByteArray) (b : Bool) : Bool := bif b || l.isEmpty then true else wne (hdW l) != 0
theorem rnumber_w (l : List ByteArray) (h : Sm l) (b : Bool) (k : Nat) (hk : 300 ≤ k) : sr_number.f k l b = some (wn (hdW l), l.tail, nB l b) := by
 simp only [sr_number.f, sr_number.c, next_f, number_f _ (sm_hd h) k hk, os, nB]
 cases b || l.isEmpty <;> rfl
noncomputable def vB (l : List ByteArray) (b : Bool) : Bool := b || l.any fun w => we w != 0
theorem vB_cons (w : ByteArray) (l : List ByteArray) (b : Bool) : vB (w :: l) b = vB l (b || (we w != 0)) := by
 simp only [vB, List.any_cons, Bool.or_assoc]
theorem rdv_s0 (l x : List ByteArray) (hl : l.length ≤ 1000000) (hs : Sm l) : ∀ (m i : Nat) (b : Bool) (acc : List V), i + m = l.length → acc.length ≤ i → ∀ k, 3 * m + 9000010 < k →
  sr_values.s0 k l (l.length : Int) (i : Int) x b acc = some (acc ++ (l.drop i).map wv, x, vB (l.drop i) b) := by
 intro m
 induction m with
 | zero =>
  intro i b acc hi ha k hk
  obtain ⟨k, rfl⟩ : ∃ q, k = q + 1 := ⟨k - 1, by omega⟩
  have e : ¬ (i : Int) < (l.length : Int) := by omega
  rw [List.drop_eq_nil_of_le (by omega)]
  simp only [sr_values.s0, sr_values.s0c, e, decide_false, cond_false, vB, List.map_nil, List.append_nil, List.any_nil, Bool.or_false]
 | succ m ih =>
  intro i b acc hi ha k hk
  obtain ⟨k, rfl⟩ : ∃ q, k = q + 3 := ⟨k - 3, by omega⟩
  have hlt : i < l.length := by omega
  have e0 : (i : Int) < (l.length : Int) := by omega
  have e1 : (0 : Int) ≤ (i : Int) := by omega
  have e2 : IntKind.wrap IntKind.i64 ((i : Int) + 1) = ((i + 1 : Nat) : Int) := by rw [i64w (by omega) (by omega)]; omega
  have e3 : (acc.length + 1) * 40 ≤ 35184372088832 := by omega
  have hv := value_f l[i] (hs _ (List.getElem_mem _)) (k + 2) (by omega)
  have go : ∀ c : Bool, sr_values.s1 (k + 2) l (l.length : Int) (i : Int) x c acc (wv l[i]).1 (wv l[i]).2.1 (wv l[i]).2.2.1 (wv l[i]).2.2.2.1 = some (acc ++ wv l[i] :: (l.drop (i + 1)).map wv, x, vB (l.drop (i + 1)) c) := by
   intro c
   have r := ih (i + 1) c (acc ++ [wv l[i]]) (by omega) (by simp; omega) k (by omega)
   simp only [sr_values.s1, sr_values.s1c, sr_values.s2, sr_values.s2c, e2, e3, decide_true, cond_true, ofs]
   refine r.trans ?_
   rw [List.append_assoc]; rfl
  rw [List.drop_eq_getElem_cons hlt, List.map_cons, vB_cons]
  simp only [sr_values.s0, sr_values.s0c, e0, e1, elem_str hlt, hv, go, decide_true, Bool.and_self, cond_true, os, ofs]
  cases b <;> rfl
theorem values0_f (l x : List ByteArray) (hl : l.length ≤ 1000000) (hs : Sm l) (b : Bool) (k : Nat) (hk : 13000000 ≤ k) : sr_values.f0 k l x b = some (l.map wv, x, vB l b) := by
 have := rdv_s0 l x hl hs l.length 0 b [] (by omega) (by simp) k (by omega)
 simp only [sr_values.f0, sr_values.c0, ofs]
 exact this
theorem values1_f (l : List ByteArray) (hl : l.length ≤ 1000000) (hs : Sm l) (b : Bool) (k : Nat) (hk : 13000000 ≤ k) : sr_values.f1 k l b = some (l.map wv, [], vB l b) := by
 have := rdv_s0 l [] hl hs l.length 0 b [] (by omega) (by simp) k (by omega)
 simp only [sr_values.f1, sr_values.c1, ofs]
 exact this
theorem rest_f (l : List ByteArray) (b : Bool) (k : Nat) : sr_rest.f k l b = some (l, b) := rfl
/-! ### kinds -/
def kdF (w : ByteArray) : Nat → Nat → Int
 | 0, _ => -1
 | m + 1, i => if mkW (nameV (i : Int)) = w then (i : Int) else kdF w m (i + 1)
def kdOf (w : ByteArray) : Int := kdF w 6 0
theorem tl_eq (x y : ByteArray) : (x.toList == y.toList) = decide (x = y) := by rw [Bool.eq_iff_iff, beq_iff_eq, decide_eq_true_iff, toList_iff]
theorem word_f (a : Int) (h0 : 0 ≤ a) (h1 : a < 6) (k : Nat) : values_word.f k a = some (mkW (nameV a)) := by
 have h := name_f a k
 have e0 : ¬ a < 0 := by omega
 have e1 : ¬ a ≥ 6 := by omega
 simp only [values_Name.f, values_Name.c, e0, e1, decide_false, cond_false, ofs] at h
 exact h
theorem kind_s0 (w : ByteArray) : ∀ (m i : Nat), i + m = 6 → ∀ k, m < k → values_Kind.s0 k w (i : Int) = some (kdF w m i) := by
 intro m
 induction m with
 | zero =>
  intro i hi k hk
  obtain ⟨k, rfl⟩ : ∃ q, k = q + 1 := ⟨k - 1, by omega⟩
  have e : ¬ (i : Int) < 6 := by omega
  simp only [values_Kind.s0, values_Kind.s0c, e, decide_false, cond_false, kdF]
 | succ m ih =>
  intro i hi k hk
  obtain ⟨k, rfl⟩ : ∃ q, k = q + 1 := ⟨k - 1, by omega⟩
  have e : (i : Int) < 6 := by omega
  have e2 : IntKind.wrap IntKind.i64 ((i : Int) + 1) = ((i + 1 : Nat) : Int) := by rw [i64w (by omega) (by omega)]; omega
  have n1 := word_f (i : Int) (by omega) (by omega) k
  have r1 := ih (i + 1) (by omega) k (by omega)
  simp only [values_Kind.s0, values_Kind.s0c, e, n1, e2, r1, tl_eq, decide_true, cond_true, os, ofs, kdF]
  by_cases c : mkW (nameV (i : Int)) = w
  ·rw [decide_eq_true c, if_pos c]; rfl
  ·rw [decide_eq_false c, if_neg c]; rfl
theorem kind_f (w : ByteArray) (k : Nat) (hk : 10 ≤ k) : values_Kind.f k w = some (kdOf w) := by
 have := kind_s0 w 6 0 rfl k (by omega)
 simp only [values_Kind.f, values_Kind.c, ofs]
 exact this
theorem mkW_inj {a b : List UInt8} : mkW a = mkW b ↔ a = b := ⟨fun h => by have := congrArg (fun x : ByteArray => x.data.toList) h; exact this, fun h => by rw [h]⟩
theorem kd_name (a : Int) (h : (kdP a).1 = 0) : kdOf (mkW (nameV a)) = a := by
 have hr : 1 ≤ a ∧ a ≤ 5 := by
  unfold kdP at h
  simp only at h
  split at h
  ·cases h
  ·omega
 obtain ⟨h1, h2⟩ := hr
 unfold kdOf
 rcases (show a = 1 ∨ a = 2 ∨ a = 3 ∨ a = 4 ∨ a = 5 by omega) with rfl | rfl | rfl | rfl | rfl <;> simp only [kdF, mkW_inj] <;> decide
/-! ### columns -/
def wNull : ByteArray := mkW [110, 117, 108, 108]
noncomputable def colOf (l : List ByteArray) : C := (hdW l, kdOf (hdW l.tail), decide (hdW l.tail.tail = wNull), wv (hdW l.tail.tail.tail), ())
noncomputable def colB (l : List ByteArray) (b : Bool) : Bool := (b || l.isEmpty || l.tail.isEmpty || l.tail.tail.isEmpty || l.tail.tail.tail.isEmpty) || (we (hdW l.tail.tail.tail) != 0)
theorem col_f (l : List ByteArray) (h : Sm l) (b : Bool) (k : Nat) (hk : 13000010 ≤ k) : sr_col.f k l b = some ((colOf l).1, (colOf l).2.1, (colOf l).2.2.1, (colOf l).2.2.2.1.1, (colOf l).2.2.2.1.2.1, (colOf l).2.2.2.1.2.2.1, (colOf l).2.2.2.1.2.2.2.1, l.tail.tail.tail.tail, colB l b) := by
 obtain ⟨k, rfl⟩ : ∃ q, k = q + 5 := ⟨k - 5, by omega⟩
 have w1 : IntKind.wrap IntKind.i64 ((0 : Int) + 1) = 1 := by decide
 have w2 : IntKind.wrap IntKind.i64 ((1 : Int) + 1) = 2 := by decide
 have w3 : IntKind.wrap IntKind.i64 ((2 : Int) + 1) = 3 := by decide
 have w4 : IntKind.wrap IntKind.i64 ((3 : Int) + 1) = 4 := by decide
 have hs : Sm [hdW l.tail.tail.tail] := fun w hw => by rw [List.mem_singleton.1 hw]; exact sm_hd (sm_tl (sm_tl (sm_tl h)))
 have v := values0_f [hdW l.tail.tail.tail] l.tail.tail.tail.tail (by simp) hs (b || l.isEmpty || l.tail.isEmpty || l.tail.tail.isEmpty || l.tail.tail.tail.isEmpty) k (by omega)
 have kd := kind_f (hdW l.tail) k (by omega)
 have el : ∀ (a b c d : ByteArray), elem Ty.str [a, b, c, d] (0 : Int) = a ∧ elem Ty.str [a, b, c, d] (1 : Int) = b ∧ elem Ty.str [a, b, c, d] (2 : Int) = c := fun a b c d => ⟨rfl, rfl, rfl⟩
 simp only [sr_col.f, sr_col.c, sr_col.s0, sr_col.s0c, next_f, w1, w2, w3, w4, os, ofs, show decide ((0 : Int) < 4) = true from rfl, show decide ((1 : Int) < 4) = true from rfl, show decide ((2 : Int) < 4) = true from rfl, show decide ((3 : Int) < 4) = true from rfl, show decide ((4 : Int) < 4) = false from rfl, show decide ((0 : Int) ≤ 0) = true from rfl, show decide ((0 : Int) ≤ 1) = true from rfl, show decide ((0 : Int) ≤ 2) = true from rfl, show decide ((0 : Int) ≤ 3) = true from rfl, Bool.and_self, cond_true, cond_false, Int.toNat_zero, Int.toNat_one, show Int.toNat 2 = 2 from rfl, show Int.toNat 3 = 3 from rfl, List.set_cons_zero, List.set_cons_succ, List.drop_succ_cons, List.drop_zero, List.take_succ_cons, List.take_zero, el, kd, v, List.map_cons, List.map_nil, List.length_cons, List.length_nil]
 simp only [tl_eq, vB, List.any_cons, List.any_nil, Bool.or_false, show decide ((0 : Int) < ((0 + 1 : Nat) : Int)) = true from rfl, Bool.and_self, cond_true]
 rfl
end Go.Proofs.YtimadphjdkjgaaaDoor.Aev
