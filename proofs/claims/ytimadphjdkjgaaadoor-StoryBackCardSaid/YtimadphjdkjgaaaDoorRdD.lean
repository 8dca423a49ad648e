import Derived.Test.YtimadphjdkjgaaaDoorF4
import Derived.Test.YtimadphjdkjgaaaDoorRd

/- Words read again: the document's reader of words, numbers, values; words of a step's line are what they were made of. -/
namespace Go.Proofs.YtimadphjdkjgaaaDoor.Aev
open Go
set_option linter.unusedVariables false
set_option linter.unusedSimpArgs false
set_option maxRecDepth 100000
noncomputable def vbad (l : List ByteArray) : Bool := l.any fun w => we w != 0
theorem index_f (l : List ByteArray) (s : ByteArray) (hl : l.length ≤ 1000000) (k : Nat) (hk : 1000010 ≤ k) : sIx.f k l s = some (place (findS s l) 0) := by
 have := index_s0 l s hl l.length 0 (by omega) k (by omega)
 simp only [sIx.f, sIx.c, ofs]
 exact this
theorem find_app {s : ByteArray} : ∀ (a b : List ByteArray), (∀ w ∈ a, ¬ w = s) → ∀ i, place (findS s (a ++ s :: b)) i = ((i + a.length : Nat) : Int)
 | [], b, _, i => by rw [List.nil_append, findS_cons, if_pos rfl]; rfl
 | x :: a, b, h, i => by
  rw [List.cons_append, findS_cons, if_neg (h x (by simp)), find_app a b (fun w hw => h w (List.mem_cons_of_mem _ hw)) (i + 1), List.length_cons]
  omega
theorem find_ok (s : ByteArray) (l : List ByteArray) : place (findS s l) 0 = -1 ∨ ∃ n : Nat, place (findS s l) 0 = (n : Int) ∧ n < l.length := by
 unfold findS
 cases h : l.findIdx? fun x => decide (x = s) with
 | none => exact .inl rfl
 | some j =>
  refine .inr ⟨j, by simp [place], ?_⟩
  obtain ⟨hj, _⟩ := List.findIdx?_eq_some_iff_getElem.1 h
  exact hj
/-! ### words of values -/
theorem vsL_cons {v : V} {l : List V} : (vsL (v :: l)).1 = 0 ↔ (shw v).2 = 0 ∧ (vsL l).1 = 0 := sq_0
theorem vsL_words : ∀ l : List V, (vsL l).2 = l.map fun v => mkW (shw v).1
 | [] => rfl
 | v :: l => by
  show (vP v).2 ++ (vsL l).2 = _
  rw [vsL_words l]; rfl
theorem vs_back : ∀ l : List V, (∀ v ∈ l, OkV v) → (vsL l).1 = 0 → (vsL l).2.map wv = l ∧ vbad (vsL l).2 = false ∧ ∀ b, vB (vsL l).2 b = b
 | [], _, _ => ⟨rfl, rfl, fun b => by show (b || false) = b; cases b <;> rfl⟩
 | v :: l, hv, h => by
  obtain ⟨h1, h2⟩ := vsL_cons.1 h
  obtain ⟨e1, e2⟩ := wv_show (hv v (by simp)) h1
  obtain ⟨r1, r2, r3⟩ := vs_back l (fun x hx => hv x (List.mem_cons_of_mem _ hx)) h2
  have e : (vsL (v :: l)).2 = mkW (shw v).1 :: (vsL l).2 := rfl
  have e3 : (we (mkW (shw v).1) != 0) = false := by rw [e2]; rfl
  rw [e]
  refine ⟨by rw [List.map_cons, e1, r1], ?_, fun b => ?_⟩
  ·unfold vbad at r2 ⊢
   rw [List.any_cons, e3, r2]; rfl
  ·rw [vB_cons, e3, Bool.or_false, r3]
theorem vsP_0 {l : List V} (h : (vsP l).1 = 0) : vsP l = vsL l := by
 unfold vsP at h ⊢
 split at h
 ·cases h
 ·rename_i c; rw [if_neg c]
theorem vsP_le {l : List V} (h : (vsP l).1 = 0) : l.length ≤ 8 := by
 unfold vsP at h
 split at h
 ·cases h
 ·omega
theorem shw_to {v : V} (hv : OkV v) (h : (shw v).2 = 0) : ¬ mkW (shw v).1 = wTo := by
 intro e
 have e : (shw v).1 = [116, 111] := mkW_inj.1 e
 rw [shw_T h] at e
 obtain ⟨_, _, b0, b1⟩ := hv
 unfold showT at e
 split at e
 ·split at e <;> simp at e
 ·split at e
  ·obtain ⟨c, t, q, hc⟩ := digL_head v.2.1
   rw [q] at e
   have : c = 116 := by simp at e; exact e.1
   subst this
   rcases hc with hc | ⟨_, hc⟩
   ·exact absurd hc (by decide)
   ·exact absurd hc (by decide)
  ·split at e
   ·simp at e
   ·split at e
    ·simp at e
    ·split at e
     ·simp [quoteL] at e
     ·simp at e
/-! ### words of columns -/
theorem null_w (b : Bool) : decide (nullW b = wNull) = b := by
 cases b with
 | true => exact decide_eq_true rfl
 | false =>
  refine decide_eq_false fun e => ?_
  have := mkW_inj.1 (show mkW [115, 101, 116] = mkW [110, 117, 108, 108] from e)
  exact absurd this (by decide)
theorem colP_0 {c : C} : (colP c).1 = 0 ↔ (nmP [c.1]).1 = 0 ∧ (kdP c.2.1).1 = 0 ∧ (shw c.2.2.2.1).2 = 0 := by
 unfold colP
 rw [sq_0, sq_0, sq_0]
 exact ⟨fun ⟨a, b, _, d⟩ => ⟨a, b, d⟩, fun ⟨a, b, d⟩ => ⟨a, b, rfl, d⟩⟩
theorem colP_w (c : C) : (colP c).2 = [c.1, mkW (nameV c.2.1), nullW c.2.2.1, mkW (shw c.2.2.2.1).1] := rfl
theorem col_back {c : C} (hv : OkV c.2.2.2.1) (h : (colP c).1 = 0) (r : List ByteArray) : colOf ((colP c).2 ++ r) = c ∧ (∀ b, colB ((colP c).2 ++ r) b = b) ∧ we (hdW ((colP c).2 ++ r).tail.tail.tail) = 0 ∧ ((colP c).2 ++ r).tail.tail.tail.tail = r := by
 obtain ⟨h1, h2, h3⟩ := colP_0.1 h
 obtain ⟨e1, e2⟩ := wv_show hv h3
 have e3 : (we (mkW (shw c.2.2.2.1).1) != 0) = false := by rw [e2]; rfl
 rw [colP_w]
 refine ⟨?_, fun b => ?_, e2, rfl⟩
 ·show (c.1, kdOf (mkW (nameV c.2.1)), decide (nullW c.2.2.1 = wNull), wv (mkW (shw c.2.2.2.1).1), ()) = c
  rw [kd_name _ h2, null_w, e1]
 ·show ((b || false || false || false || false) || (we (mkW (shw c.2.2.2.1).1) != 0)) = b
  rw [e3]; cases b <;> rfl
theorem colsL_cons {c : C} {l : List C} : (colsL (c :: l)).1 = 0 ↔ (colP c).1 = 0 ∧ (colsL l).1 = 0 := sq_0
theorem colsL_w (c : C) (l : List C) : (colsL (c :: l)).2 = (colP c).2 ++ (colsL l).2 := rfl
theorem colsL_len : ∀ l : List C, (colsL l).2.length = 4 * l.length
 | [] => rfl
 | c :: l => by rw [colsL_w, List.length_append, colP_len, colsL_len l, List.length_cons]; omega
theorem colOf_ok (l : List ByteArray) : OkV (colOf l).2.2.2.1 := wv_ok _
/-! ### the document's columns -/
end Go.Proofs.YtimadphjdkjgaaaDoor.Aev
