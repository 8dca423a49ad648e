import Derived.Test.YtimadphjdkjgaaaDoorF5
import Derived.Test.YtimadphjdkjgaaaDoorF6
import Derived.Test.YtimadphjdkjgaaaDoorRdD

/- Words read as a change: the program's and the document's readers. -/
namespace Go.Proofs.YtimadphjdkjgaaaDoor.Aev
open Go
set_option linter.unusedVariables false
set_option linter.unusedSimpArgs false
set_option maxRecDepth 100000
theorem wq (a b : List UInt8) : ((ByteArray.mk (List.toArray a)).toList == (ByteArray.mk (List.toArray b)).toList) = (a == b) := by rw [ba_toList, ba_toList]
theorem q_add_create : (([97, 100, 100] : List UInt8) == [99, 114, 101, 97, 116, 101]) = false := by decide
theorem q_drop_create : (([100, 114, 111, 112] : List UInt8) == [99, 114, 101, 97, 116, 101]) = false := by decide
theorem q_drop_add : (([100, 114, 111, 112] : List UInt8) == [97, 100, 100]) = false := by decide
theorem q_retype_create : (([114, 101, 116, 121, 112, 101] : List UInt8) == [99, 114, 101, 97, 116, 101]) = false := by decide
theorem q_retype_add : (([114, 101, 116, 121, 112, 101] : List UInt8) == [97, 100, 100]) = false := by decide
theorem q_retype_drop : (([114, 101, 116, 121, 112, 101] : List UInt8) == [100, 114, 111, 112]) = false := by decide
theorem q_split_create : (([115, 112, 108, 105, 116] : List UInt8) == [99, 114, 101, 97, 116, 101]) = false := by decide
theorem q_split_add : (([115, 112, 108, 105, 116] : List UInt8) == [97, 100, 100]) = false := by decide
theorem q_split_drop : (([115, 112, 108, 105, 116] : List UInt8) == [100, 114, 111, 112]) = false := by decide
theorem q_split_retype : (([115, 112, 108, 105, 116] : List UInt8) == [114, 101, 116, 121, 112, 101]) = false := by decide
theorem q_merge_create : (([109, 101, 114, 103, 101] : List UInt8) == [99, 114, 101, 97, 116, 101]) = false := by decide
theorem q_merge_add : (([109, 101, 114, 103, 101] : List UInt8) == [97, 100, 100]) = false := by decide
theorem q_merge_drop : (([109, 101, 114, 103, 101] : List UInt8) == [100, 114, 111, 112]) = false := by decide
theorem q_merge_retype : (([109, 101, 114, 103, 101] : List UInt8) == [114, 101, 116, 121, 112, 101]) = false := by decide
theorem q_merge_split : (([109, 101, 114, 103, 101] : List UInt8) == [115, 112, 108, 105, 116]) = false := by decide
theorem q_run_ask : (([114, 117, 110] : List UInt8) == [97, 115, 107]) = false := by decide
theorem q_change_scan : (([99, 104, 97, 110, 103, 101] : List UInt8) == [115, 99, 97, 110]) = false := by decide
theorem ex_bif {α : Type} {c : Bool} {x y : Option α} {P : α → Prop} (h1 : c = true → ∃ r, x = some r ∧ P r) (h2 : c = false → ∃ r, y = some r ∧ P r) : ∃ r, (bif c then x else y) = some r ∧ P r := by
 cases c with
 | true => exact h1 rfl
 | false => exact h2 rfl
theorem okv0 : OkV (0, 0, 0, mkW [], ()) := ⟨by simp [ba_size], ⟨0, rfl, by omega⟩, by show _ ≤ (0 : Int); omega, by show (0 : Int) ≤ _; omega⟩
abbrev zC : C := (mkW [], 0, false, (0, 0, 0, mkW [], ()), ())
abbrev chC (nm : ByteArray) (ks : Int) (cs : List C) : Ch := (1, mkW [], mkW [], mkW [], mkW [], mkW [], 0, [], zC, (nm, ks, cs, ()), ())
theorem okC (nm : ByteArray) {ks : Int} (h : -9223372036854775808 ≤ ks ∧ ks ≤ 9223372036854775807) {cs : List C} (hc : ∀ x ∈ cs, OkV x.2.2.2.1) : OkCh (chC nm ks cs) := { keys := h, cols := hc, col := okv0 }
theorem okD {c : Ch} (h1 : c.2.2.2.2.2.2.2.2.2.1 = (mkW [], 0, [], ())) (h2 : OkV c.2.2.2.2.2.2.2.2.1.2.2.2.1) : OkCh c := { keys := by rw [h1]; exact ⟨by show _ ≤ (0 : Int); omega, by show (0 : Int) ≤ _; omega⟩, cols := (by rw [h1]; intro x hx; cases hx), col := h2 }
/-! ### the program's columns -/
theorem cols_any (nm : ByteArray) (ks : Int) : ∀ (m : Nat) (l : List ByteArray) (b : Bool) (cs : List C), l.length ≤ m → cs.length + m ≤ 1000000 → Sm l → (∀ c ∈ cs, OkV c.2.2.2.1) → ∀ k, 3 * m + 13000020 < k →
  ∃ r, sr_change.s0 k l b (0 : Int) (mkW []) (mkW []) (mkW []) (mkW []) (mkW []) (0 : Int) (mkW []) (0 : Int) false (0 : Int) (0 : Int) (0 : Int) (mkW []) (mkW []) (0 : Int) (1 : Int) (mkW []) (mkW []) (mkW []) (mkW []) (mkW []) (0 : Int) (mkW []) (0 : Int) false (0 : Int) (0 : Int) (0 : Int) (mkW []) nm ks cs = some (.inl r) ∧ ∃ cs', r.1 = chC nm ks cs' ∧ ∀ c ∈ cs', OkV c.2.2.2.1 := by
 intro m
 induction m with
 | zero =>
  intro l b cs hl hc hs hv k hk
  obtain ⟨k, rfl⟩ : ∃ q, k = q + 2 := ⟨k - 2, by omega⟩
  have e : ¬ (l.length : Int) > 0 := by omega
  simp only [sr_change.s0, sr_change.s0c, sr_change.s1, sr_change.s1c, e, decide_false, cond_false, ofs]
  exact ⟨_, rfl, cs, rfl, hv⟩
 | succ m ih =>
  intro l b cs hl hc hs hv k hk
  obtain ⟨k, rfl⟩ : ∃ q, k = q + 3 := ⟨k - 3, by omega⟩
  by_cases h0 : l.length = 0
  ·have e : ¬ (l.length : Int) > 0 := by omega
   simp only [sr_change.s0, sr_change.s0c, sr_change.s1, sr_change.s1c, e, decide_false, cond_false, ofs]
   exact ⟨_, rfl, cs, rfl, hv⟩
  ·have e : (l.length : Int) > 0 := by omega
   cases b with
   | true =>
    simp only [sr_change.s0, sr_change.s0c, sr_change.s1, sr_change.s1c, e, decide_true, cond_true, Bool.not_true, cond_false, ofs]
    exact ⟨_, rfl, cs, rfl, hv⟩
   | false =>
    have f := col_f l hs false k (by omega)
    have g : (cs.length + 1) * 72 ≤ 35184372088832 := by omega
    obtain ⟨r, h1, h2⟩ := ih l.tail.tail.tail.tail (colB l false) (cs ++ [colOf l]) (by simp only [List.length_tail]; omega) (by simp; omega) (sm_tl (sm_tl (sm_tl (sm_tl hs)))) (fun c h => by
     rcases List.mem_append.1 h with h | h
     ·exact hv c h
     ·rw [List.mem_singleton.1 h]; exact colOf_ok _) k (by omega)
    simp only [sr_change.s0, sr_change.s0c, sr_change.s1, sr_change.s1c, sr_change.s2, sr_change.s2c, e, f, g, decide_true, cond_true, Bool.not_false, os, ofs]
    exact ⟨r, h1, h2⟩
theorem cols_back (nm : ByteArray) (ks : Int) : ∀ (cs acc : List C), (∀ c ∈ cs, OkV c.2.2.2.1) → (colsL cs).1 = 0 → Sm (colsL cs).2 → acc.length + cs.length ≤ 1000000 → ∀ k, 3 * cs.length + 13000020 < k →
  sr_change.s0 k (colsL cs).2 false (0 : Int) (mkW []) (mkW []) (mkW []) (mkW []) (mkW []) (0 : Int) (mkW []) (0 : Int) false (0 : Int) (0 : Int) (0 : Int) (mkW []) (mkW []) (0 : Int) (1 : Int) (mkW []) (mkW []) (mkW []) (mkW []) (mkW []) (0 : Int) (mkW []) (0 : Int) false (0 : Int) (0 : Int) (0 : Int) (mkW []) nm ks acc = some (.inl (chC nm ks (acc ++ cs), [], false)) := by
 intro cs
 induction cs with
 | nil =>
  intro acc hv h0 hs ha k hk
  obtain ⟨k, rfl⟩ : ∃ q, k = q + 2 := ⟨k - 2, by omega⟩
  have e : ¬ (((colsL []).2.length : Nat) : Int) > 0 := by show ¬ (((0 : Nat)) : Int) > 0; omega
  simp only [sr_change.s0, sr_change.s0c, sr_change.s1, sr_change.s1c, e, decide_false, cond_false, ofs, List.append_nil]
  rfl
 | cons c cs ih =>
  intro acc hv h0 hs ha k hk
  obtain ⟨k, rfl⟩ : ∃ q, k = q + 3 := ⟨k - 3, by omega⟩
  obtain ⟨h1, h2⟩ := colsL_cons.1 h0
  have hlen := colsL_len (c :: cs)
  rw [List.length_cons] at hlen ha hk
  have e : ((colsL (c :: cs)).2.length : Int) > 0 := by omega
  have f := col_f (colsL (c :: cs)).2 hs false k (by omega)
  have g : (acc.length + 1) * 72 ≤ 35184372088832 := by omega
  obtain ⟨b1, b2, b3, b4⟩ := col_back (hv c (by simp)) h1 (colsL cs).2
  rw [← colsL_w] at b1 b2 b3 b4
  rw [b1, b2, b4] at f
  have r := ih (acc ++ [c]) (fun x hx => hv x (List.mem_cons_of_mem _ hx)) h2 (fun w hw => hs w (by rw [colsL_w]; exact List.mem_append_right _ hw)) (by simp; omega) k (by omega)
  simp only [sr_change.s0, sr_change.s0c, sr_change.s1, sr_change.s1c, sr_change.s2, sr_change.s2c, e, f, g, decide_true, cond_true, Bool.not_false, os, ofs]
  refine r.trans ?_
  rw [List.append_assoc]; rfl
/-! ### the program's reader of changes -/
abbrev CR : Type := (Ch × List ByteArray × Bool) ⊕ (Ch × Bool)
def chOf : CR → Ch := Sum.elim (fun r => r.1) (fun r => r.1)
def chBad : CR → Bool := Sum.elim (fun r => r.2.2) (fun r => r.2)
theorem change_any (l : List ByteArray) (hl : l.length ≤ 100000) (hs : Sm l) (b : Bool) (k : Nat) (hk : 14000000 ≤ k) : ∃ r : CR, sr_change.f k l b = some r ∧ OkCh (chOf r) := by
 have s1 := sm_tl hs
 have s2 := sm_tl s1
 have s3 := sm_tl s2
 have s4 := sm_tl s3
 have n1 := fun b => rnumber_w l.tail.tail s2 b k (by omega)
 have kd := fun w => kind_f w k (by omega)
 have cf := fun b => col_f l.tail.tail s2 b k (by omega)
 have cl : sCl.f k l.tail.tail.tail.tail = some l.tail.tail.tail.tail := by
  unfold sCl.f
  rw [if_pos (by simp only [List.length_tail]; omega)]
 have ca := fun b => cols_any (hdW l.tail) (wn (hdW l.tail.tail)) 100000 l.tail.tail.tail b [] (by simp only [List.length_tail]; omega) (by simp) s3 (by simp) k (by omega)
 simp only [sr_change.f, sr_change.c, next_f, n1, kd, cf, rest_f, cl, os, ofs]
 refine ex_bif (fun _ => ?_) fun _ => ex_bif (fun _ => ?_) fun _ => ex_bif (fun _ => ?_) fun _ => ex_bif (fun _ => ?_) fun _ => ex_bif (fun _ => ?_) fun _ => ex_bif (fun _ => ?_) fun _ => ?_
 ·obtain ⟨r, h1, cs, h2, h3⟩ := ca (nB l.tail.tail (b || l.isEmpty || l.tail.isEmpty))
  refine ⟨_, h1, ?_⟩
  show OkCh r.1
  rw [h2]
  exact okC _ (wn_in _) h3
 ·exact ⟨_, rfl, by exact okD rfl (colOf_ok _)⟩
 ·exact ⟨_, rfl, by exact okD rfl okv0⟩
 ·exact ⟨_, rfl, by exact okD rfl okv0⟩
 ·exact ⟨_, rfl, by exact okD rfl okv0⟩
 ·exact ⟨_, rfl, by exact okD rfl okv0⟩
 ·exact ⟨_, rfl, by exact okD rfl okv0⟩
/-! ### the document's reader of changes -/
end Go.Proofs.YtimadphjdkjgaaaDoor.Aev
