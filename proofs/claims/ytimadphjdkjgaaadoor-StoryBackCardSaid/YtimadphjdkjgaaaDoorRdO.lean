import Derived.Test.YtimadphjdkjgaaaDoorF0
import Derived.Test.YtimadphjdkjgaaaDoorF2
import Derived.Test.YtimadphjdkjgaaaDoorF6
import Derived.Test.YtimadphjdkjgaaaDoorRdB

/- Words read as what is asked: both readers. -/
namespace Go.Proofs.YtimadphjdkjgaaaDoor.Aev
open Go
set_option linter.unusedVariables false
set_option linter.unusedSimpArgs false
set_option maxRecDepth 100000
/-! ### verbs -/
def findE (w : ByteArray) : List (Int × ByteArray) → Option Int
 | [] => none
 | p :: l => if p.2 = w then some p.1 else findE w l
theorem findV_E (w : ByteArray) : ∀ l, findV w l = findE w l
 | [] => rfl
 | p :: l => by
  rw [findV, findE, tl_eq, findV_E w l]
  by_cases h : p.2 = w
  ·rw [decide_eq_true h, if_pos h]; rfl
  ·rw [decide_eq_false h, if_neg h]; rfl
theorem findE_none (w : ByteArray) : ∀ l : List (Int × ByteArray), w ∉ l.map (·.2) → findE w l = none
 | [], _ => rfl
 | p :: l, h => by
  rw [List.map_cons, List.mem_cons, not_or] at h
  rw [findE, if_neg (fun e => h.1 e.symm), findE_none w l h.2]
theorem oneV_t (w : ByteArray) : ∀ l : List (Int × ByteArray), (l.map (·.2)).Nodup → oneV w l = true
 | [], _ => rfl
 | p :: l, h => by
  rw [List.map_cons, List.nodup_cons] at h
  rw [oneV, tl_eq]
  by_cases c : p.2 = w
  ·rw [decide_eq_true c, cond_true, findV_E, findE_none w l (c ▸ h.1)]; rfl
  ·rw [decide_eq_false c, cond_false, oneV_t w l h.2]
abbrev verbsL : List (Int × ByteArray) := [(1, mkW [103, 101, 116]), (3, mkW [105, 110, 115, 101, 114, 116]), (4, mkW [117, 112, 100, 97, 116, 101]), (5, mkW [100, 101, 108, 101, 116, 101]), (7, mkW [98, 101, 103, 105, 110]), (8, mkW [99, 111, 109, 109, 105, 116]), (9, mkW [97, 98, 111, 114, 116])]
theorem verbs_f (k : Nat) : story_verbs.f k = some verbsL := rfl
theorem verbs_one (w : ByteArray) : oneV w verbsL = true := oneV_t w _ (by decide)
theorem verb_find {a : Int} {w : ByteArray} (h : verbW a = some w) : findV w verbsL = some a ∧ (w.toList == wScan.toList) = false ∧ (w.toList == wChange.toList) = false ∧ ¬ w = mkW [] ∧ ∀ b, verbW b = some w → b = a := by
 rw [findV_E, tl_eq, tl_eq]
 have key : findE w verbsL = some a ∧ decide (w = wScan) = false ∧ decide (w = wChange) = false ∧ ¬ w = mkW [] := by
  unfold verbW at h
  (repeat' split at h) <;> first | (cases h; done) | (obtain rfl := Option.some.inj h; rename_i q; subst q; exact ⟨by decide, by decide, by decide, by decide⟩) | skip
  all_goals
   obtain rfl := Option.some.inj h
   subst_vars
   exact ⟨by decide, by decide, by decide, by decide⟩
 refine ⟨key.1, key.2.1, key.2.2.1, key.2.2.2, fun b hb => ?_⟩
 have kb : findE w verbsL = some b := by
  unfold verbW at hb
  (repeat' split at hb) <;> first | (cases hb; done) | skip
  all_goals
   obtain rfl := Option.some.inj hb
   subst_vars
   decide
 rw [key.1] at kb
 exact (Option.some.inj kb).symm
/-! ### the program -/
abbrev OR : Type := (Oq × Bool) ⊕ (Oq × List ByteArray × Bool)
def oOf : OR → Oq := Sum.elim (fun r => r.1) (fun r => r.1)
def oBad : OR → Bool := Sum.elim (fun r => r.2) (fun r => r.2.2)
theorem okCZ : OkCh Z_api_Change := okD rfl okv0
theorem ok0 : -9223372036854775808 ≤ (0 : Int) ∧ (0 : Int) ≤ 9223372036854775807 := by omega
theorem okv_map (l : List ByteArray) : ∀ v ∈ l.map wv, OkV v := fun v hv => by
 obtain ⟨w, _, rfl⟩ := List.mem_map.1 hv; exact wv_ok w
theorem no_v : ∀ v ∈ ([] : List V), OkV v := fun v hv => by cases hv
theorem tk0 (l : List ByteArray) (n : Nat) : List.take (Int.toNat (n : Int) - 0) (List.drop 0 l) = l.take n := by
 rw [Int.toNat_natCast, Nat.sub_zero, List.drop_zero]
theorem tkE (l : List ByteArray) (n : Nat) : List.take (Int.toNat (l.length : Int) - Int.toNat ((n + 1 : Nat) : Int)) (List.drop (Int.toNat ((n + 1 : Nat) : Int)) l) = l.drop (n + 1) := by
 rw [Int.toNat_natCast, Int.toNat_natCast, List.take_of_length_le (by rw [List.length_drop]; exact Nat.le_refl _)]
theorem op_any (l : List ByteArray) (hl : l.length ≤ 100000) (hs : Sm l) (b : Bool) (k : Nat) (hk : 15000000 ≤ k) : ∃ r : OR, sr_op.f k l b = some r ∧ OkO (oOf r) := by
 have s1 := sm_tl hs
 have s2 := sm_tl s1
 have s3 := sm_tl s2
 have n1 := fun b => rnumber_w l.tail.tail s2 b k (by omega)
 have ix := index_f l.tail.tail.tail wTo (by simp only [List.length_tail]; omega) k (by omega)
 obtain ⟨rc, c1, c2⟩ := change_any l.tail (by simp only [List.length_tail]; omega) s1 (b || l.isEmpty) k (by omega)
 have v1 := fun b => values1_f l.tail.tail (by simp only [List.length_tail]; omega) s2 b k (by omega)
 simp only [sr_op.f, sr_op.c, next_f, n1, rest_f, ix, c1, v1, verbs_f, verbs_one, cond_true, os, ofs]
 refine ex_bif (fun _ => ?_) fun _ => ex_bif (fun _ => ?_) fun _ => ex_bif (fun _ => ex_bif (fun _ => ?_) fun _ => ?_) fun _ => ?_
 ·rcases find_ok wTo l.tail.tail.tail with e | ⟨n, e, hn⟩
  ·rw [e]
   exact ⟨_, rfl, by exact { max := wn_in _, row := no_v, lo := no_v, hi := no_v, ch := okCZ }⟩
  ·rw [e]
   have e0 : ¬ (n : Int) < 0 := by omega
   have e1 : (0 : Int) ≤ (n : Int) := by omega
   have e2 : (n : Int) ≤ (l.tail.tail.tail.length : Int) := by omega
   have w1 : IntKind.wrap IntKind.i64 ((n : Int) + 1) = ((n + 1 : Nat) : Int) := by
    have : l.tail.tail.tail.length ≤ 100000 := by simp only [List.length_tail]; omega
    rw [i64w (by omega) (by omega)]; omega
   have e3 : (0 : Int) ≤ ((n + 1 : Nat) : Int) := by omega
   have e4 : ((n + 1 : Nat) : Int) ≤ (l.tail.tail.tail.length : Int) := by omega
   have f1 := fun b => values1_f (l.tail.tail.tail.take n) (by rw [List.length_take]; simp only [List.length_tail]; omega) (sm_take s3 n) b k (by omega)
   have f0 := fun b => values0_f (l.tail.tail.tail.drop (n + 1)) [] (by rw [List.length_drop]; simp only [List.length_tail]; omega) (sm_drop s3 (n + 1)) b k (by omega)
   simp only [e0, e1, e2, e3, e4, w1, tk0, tkE, f1, f0, Int.le_refl, decide_true, decide_false, Bool.and_self, cond_true, cond_false, os]
   exact ⟨_, rfl, by exact { max := wn_in _, row := no_v, lo := okv_map _, hi := okv_map _, ch := okCZ }⟩
 ·cases rc with
  | inl r => exact ⟨_, rfl, by exact { max := ok0, row := no_v, lo := no_v, hi := no_v, ch := c2 }⟩
  | inr r => exact ⟨_, rfl, by exact { max := ok0, row := no_v, lo := no_v, hi := no_v, ch := c2 }⟩
 ·exact ⟨_, rfl, by exact { max := ok0, row := okv_map _, lo := no_v, hi := no_v, ch := okCZ }⟩
 ·exact ⟨_, rfl, by exact { max := ok0, row := no_v, lo := no_v, hi := no_v, ch := okCZ }⟩
 ·exact ⟨_, rfl, by exact { max := ok0, row := no_v, lo := no_v, hi := no_v, ch := okCZ }⟩
end Go.Proofs.YtimadphjdkjgaaaDoor.Aev
