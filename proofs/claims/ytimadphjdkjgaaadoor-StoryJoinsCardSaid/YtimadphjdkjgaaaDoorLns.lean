import Derived.Test.YtimadphjdkjgaaaDoorF7
import Derived.Test.YtimadphjdkjgaaaDoorWSplit

/- A text's lines: what strings.Split at line ends gives. -/
namespace Go.Proofs.YtimadphjdkjgaaaDoor.Aev
open Go
set_option linter.unusedVariables false
set_option linter.unusedSimpArgs false
set_option maxRecDepth 100000
def lnsL : List UInt8 → List (List UInt8)
 | [] => [[]]
 | c :: l => if c = 10 then [] :: lnsL l else match lnsL l with
  | [] => [[c]]
  | x :: r => (c :: x) :: r
theorem lns_eol (l : List UInt8) : lnsL (10 :: l) = [] :: lnsL l := by rw [lnsL, if_pos rfl]
theorem lns_ne : ∀ l : List UInt8, ∃ x r, lnsL l = x :: r
 | [] => ⟨[], [], rfl⟩
 | c :: l => by
  by_cases h : c = 10
  ·exact ⟨_, _, by rw [lnsL, if_pos h]⟩
  ·obtain ⟨x, r, e⟩ := lns_ne l
   exact ⟨_, _, by rw [lnsL, if_neg h, e]⟩
theorem lns_cons {c : UInt8} (h : ¬ c = 10) {l x : List UInt8} {r : List (List UInt8)} (e : lnsL l = x :: r) : lnsL (c :: l) = (c :: x) :: r := by rw [lnsL, if_neg h, e]
theorem lns_app : ∀ (a : List UInt8), (∀ c ∈ a, ¬ c = 10) → ∀ {l x : List UInt8} {r : List (List UInt8)}, lnsL l = x :: r → lnsL (a ++ l) = (a ++ x) :: r
 | [], _, l, x, r, e => e
 | c :: a, h, l, x, r, e => lns_cons (h c (by simp)) (lns_app a (fun d hd => h d (List.mem_cons_of_mem _ hd)) e)
theorem lns_line (a : List UInt8) (h : ∀ c ∈ a, ¬ c = 10) (l : List UInt8) : lnsL (a ++ 10 :: l) = a :: lnsL l := by
 rw [lns_app a h (lns_eol l), List.append_nil]
theorem splitK_succ (sep s : List UInt8) (k : Nat) : Lib.splitK sep 0 (k + 1) s = if Lib.index s sep == -1 then [s] else s.take ((Lib.index s sep).toNat + 0) :: Lib.splitK sep 0 k (s.drop ((Lib.index s sep).toNat + sep.length)) := rfl
theorem splitK_ne (b c : UInt8) (h : b ≠ c) : ∀ (k : Nat) (l : List UInt8), ∃ x r, Lib.splitK [c] 0 k l = x :: r ∧ Lib.splitK [c] 0 k (b :: l) = (b :: x) :: r
 | 0, l => ⟨l, [], rfl, rfl⟩
 | k + 1, l => by
  have hp : ([c] : List UInt8).isPrefixOf (b :: l) = false := by simp [List.isPrefixOf, Ne.symm h]
  have hix : Lib.index (b :: l) [c] = if Lib.index l [c] == -1 then -1 else Lib.index l [c] + 1 := by rw [Lib.index, hp]; simp
  by_cases hm : Lib.index l [c] = -1
  ·have hb : Lib.index (b :: l) [c] = -1 := by rw [hix, if_pos (beq_iff_eq.2 hm)]
   refine ⟨l, [], ?_, ?_⟩
   ·rw [splitK_succ, if_pos (beq_iff_eq.2 hm)]
   ·rw [splitK_succ, if_pos (beq_iff_eq.2 hb)]
  ·have hge := Lib.index_ge l [c]
   obtain ⟨j, hj⟩ : ∃ j : Nat, Lib.index l [c] = j := ⟨(Lib.index l [c]).toNat, by omega⟩
   have hb : Lib.index (b :: l) [c] = ((j + 1 : Nat) : Int) := by rw [hix, if_neg (fun e => hm (beq_iff_eq.1 e)), hj]; omega
   have n1 : ¬ (Lib.index l [c] == -1) = true := fun e => hm (beq_iff_eq.1 e)
   have n2 : ¬ (Lib.index (b :: l) [c] == -1) = true := fun e => by have := beq_iff_eq.1 e; omega
   refine ⟨l.take j, Lib.splitK [c] 0 k (l.drop (j + 1)), ?_, ?_⟩
   ·rw [splitK_succ, if_neg n1, hj]; rfl
   ·rw [splitK_succ, if_neg n2, hb]; rfl
theorem split_lns : ∀ l : List UInt8, Lib.splitK [10] 0 (Lib.count l [10]) l = lnsL l
 | [] => by rw [Lib.count_miss (by simp [Lib.index])]; rfl
 | b :: l => by
  by_cases h : b = 10
  ·subst h
   have hix : Lib.index ((10 : UInt8) :: l) [10] = ((0 : Nat) : Int) := by rw [Lib.index]; simp [List.isPrefixOf]
   have n2 : ¬ (Lib.index ((10 : UInt8) :: l) [10] == -1) = true := fun e => by have := beq_iff_eq.1 e; omega
   rw [Lib.count_cons_eq, Nat.add_comm, lns_eol, ← split_lns l]
   rw [splitK_succ, if_neg n2, hix]; rfl
  ·obtain ⟨x, r, e1, e2⟩ := splitK_ne b 10 h (Lib.count l [10]) l
   rw [Lib.count_cons_ne b 10 l h, e2]
   rw [split_lns l] at e1
   exact (lns_cons h e1).symm
theorem splitB_lns (t : List UInt8) : Lib.splitB (mkW [10]) 0 (Lib.countB (mkW t) (mkW [10])) (mkW t) = (lnsL t).map mkW := by
 have h := Lib.splitB_data (mkW [10]) 0 (Lib.countB (mkW t) (mkW [10])) (mkW t)
 have h2 := split_lns t
 have h3 : (Lib.splitB (mkW [10]) 0 (Lib.countB (mkW t) (mkW [10])) (mkW t)).map (·.data.toList) = lnsL t := h.trans h2
 rw [← h3, List.map_map]
 refine (List.map_id' _).symm.trans (List.map_congr_left fun s _ => ?_)
 exact ba_of s
theorem ssplit_f (t : List UInt8) (h : t.length ≤ 1000000000) (k : Nat) : strings_Split.f k (mkW t) (mkW [10]) = some ((lnsL t).map mkW) := by
 unfold strings_Split.f
 show (if (mkW t).size ≤ 1000000000 then _ else none) = _
 rw [if_pos (by rw [ba_size]; exact h)]
 exact congrArg some (splitB_lns t)
theorem lns_count : ∀ l : List UInt8, (lnsL l).length ≤ l.length + 1
 | [] => Nat.le_refl _
 | c :: l => by
  have ih := lns_count l
  by_cases h : c = 10
  ·rw [lnsL, if_pos h]; simp; omega
  ·obtain ⟨x, r, e⟩ := lns_ne l
   rw [lns_cons h e]; rw [e] at ih; simp at ih ⊢; omega
end Go.Proofs.YtimadphjdkjgaaaDoor.Aev
