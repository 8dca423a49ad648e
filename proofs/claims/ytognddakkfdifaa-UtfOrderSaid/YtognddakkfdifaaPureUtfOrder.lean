/- UtfOrder: of two characters the lesser one has the lesser bytes. For every input; no conditions. -/
import Derived.Test.YtognddakkfdifaaPUtfOrderx
import Derived.Test.YtognddakkfdifaaBUtfOrderUtfPut
namespace Go.Proofs.Ytognddakkfdifaa.Pure
set_option linter.unusedVariables false
set_option linter.unusedSimpArgs false
open Go.RowKit Go.Proofs.Ytognddakkfdifaa.PUtfOrder Go.Proofs.YtognddakkfdifaaW.PrintWords Go.Proofs.YtognddakkfdifaaW.PrintLast
open Go.Proofs.Ytognddakkfdifaa.Plain

/-- The order of lists of numbers. -/
def lessN : List Nat → List Nat → Bool
  | _, [] => false
  | [], _ :: _ => true
  | a :: x, b :: y => decide (a < b) || (a == b && lessN x y)
theorem less_b8 : ∀ x y : List Nat, (∀ n ∈ x, n < 256) → (∀ n ∈ y, n < 256) → Op.bytesLess (x.map b8) (y.map b8) = lessN x y := by
  intro x
  induction x with
  | nil => intro y _ _; cases y <;> rfl
  | cons a x ih =>
    intro y hx hy
    cases y with
    | nil => rfl
    | cons b y =>
      have ha : a < 256 := hx a (by simp)
      have hb : b < 256 := hy b (by simp)
      have e1 : decide (b8 a < b8 b) = decide (a < b) := by
        rw [decide_eq_decide, UInt8.lt_iff_toNat_lt, b8_toNat ha, b8_toNat hb]
      have e2 : (b8 a == b8 b) = (a == b) := by
        rw [Bool.eq_iff_iff, beq_iff_eq, beq_iff_eq, ← UInt8.toNat_inj, b8_toNat ha, b8_toNat hb]
      rw [List.map_cons, List.map_cons, Op.bytesLess, lessN, e1, e2, ih y (fun n hn => hx n (by simp [hn])) (fun n hn => hy n (by simp [hn]))]
theorem putS_lt {r : Nat} (h : r ≤ 1114111) : ∀ n ∈ putS r, n < 256 := by
  unfold putS
  intro n hn
  split at hn
  · simp at hn; omega
  · split at hn
    · simp at hn; omega
    · split at hn <;> (simp at hn; omega)
theorem less_put {a b : Nat} (ha : a ≤ 1114111) (hb : b ≤ 1114111) : lessN (putS a) (putS b) = decide (a < b) := by
  rw [Bool.eq_iff_iff, decide_eq_true_eq]
  unfold putS
  by_cases a1 : a ≤ 127
  · rw [if_pos a1]
    by_cases b1 : b ≤ 127
    · rw [if_pos b1]; simp [lessN]
    · rw [if_neg b1]
      split
      · simp [lessN]; omega
      · split <;> (simp [lessN]; omega)
  · rw [if_neg a1]
    by_cases a2 : a ≤ 2047
    · rw [if_pos a2]
      by_cases b1 : b ≤ 127
      · rw [if_pos b1]; simp [lessN]; omega
      · rw [if_neg b1]
        by_cases b2 : b ≤ 2047
        · rw [if_pos b2]; simp [lessN]; omega
        · rw [if_neg b2]
          split <;> (simp [lessN]; omega)
    · rw [if_neg a2]
      by_cases a3 : a ≤ 65535
      · rw [if_pos a3]
        by_cases b1 : b ≤ 127
        · rw [if_pos b1]; simp [lessN]; omega
        · rw [if_neg b1]
          by_cases b2 : b ≤ 2047
          · rw [if_pos b2]; simp [lessN]; omega
          · rw [if_neg b2]
            by_cases b3 : b ≤ 65535
            · rw [if_pos b3]; simp [lessN]; omega
            · rw [if_neg b3]; simp [lessN]; omega
      · rw [if_neg a3]
        by_cases b1 : b ≤ 127
        · rw [if_pos b1]; simp [lessN]; omega
        · rw [if_neg b1]
          by_cases b2 : b ≤ 2047
          · rw [if_pos b2]; simp [lessN]; omega
          · rw [if_neg b2]
            by_cases b3 : b ≤ 65535
            · rw [if_pos b3]; simp [lessN]; omega
            · rw [if_neg b3]; simp [lessN]; omega
theorem less_irrefl : ∀ l : List Nat, lessN l l = false := by
  intro l
  induction l with
  | nil => rfl
  | cons a l ih => simp [lessN, ih]
theorem UtfOrder : transomlaw01_UtfOrder.Pure := by
  intro a b wa wb
  obtain ⟨k, hk⟩ : ∃ k : Nat, 40 ≤ k := ⟨40, by omega⟩
  refine ⟨k + 5, ?_⟩
  unfold transomlaw01_UtfOrder.f
  rcases put_total a k with ⟨oa, ea⟩ | ⟨oa, ea⟩
  · rw [ea, Option.bind_some]
    rcases put_total b k with ⟨ob, eb⟩ | ⟨ob, eb⟩
    · rw [eb, Option.bind_some, if_pos rfl, show ((0 : Int) != 0) = false from rfl, transomlaw01_UtfOrder.j0, if_neg (by simp)]
      obtain ⟨m, rfl⟩ : ∃ n : Nat, a = (n : Int) := ⟨a.toNat, by unfold okR at oa; omega⟩
      obtain ⟨n, rfl⟩ : ∃ n : Nat, b = (n : Int) := ⟨b.toNat, by unfold okR at ob; omega⟩
      have hm : m ≤ 1114111 := by unfold okR at oa; omega
      have hn : n ≤ 1114111 := by unfold okR at ob; omega
      rw [Int.toNat_natCast, Int.toNat_natCast, toList_data, toList_data, putB_data, putB_data, less_b8 _ _ (putS_lt hm) (putS_lt hn), less_put hm hn, awake_true (by omega)]
      rw [if_pos (by rw [beq_iff_eq, decide_eq_decide]; omega), if_pos]
      · rfl
      · rw [beq_iff_eq, Bool.eq_iff_iff, beq_iff_eq, beq_iff_eq]
        constructor
        · intro h; rw [show m = n by omega]
        · intro h
          have h1 := less_put hm hn
          have h2 := less_put hn hm
          have i1 := less_b8 _ _ (putS_lt hm) (putS_lt hn)
          have i2 := less_b8 _ _ (putS_lt hn) (putS_lt hm)
          have j1 := less_b8 _ _ (putS_lt hm) (putS_lt hm)
          rw [less_irrefl] at j1
          rw [← h, j1, h1] at i1
          rw [← h, j1, h2] at i2
          have := of_decide_eq_false i1.symm
          have := of_decide_eq_false i2.symm
          omega
    · rw [eb, Option.bind_some, if_pos rfl, show ((1 : Int) != 0) = true from rfl, transomlaw01_UtfOrder.j0, if_pos rfl, awake_true (by omega)]; rfl
  · rw [ea, Option.bind_some]
    rcases put_total b k with ⟨ob, eb⟩ | ⟨ob, eb⟩
    · rw [eb, Option.bind_some, if_neg (by omega), transomlaw01_UtfOrder.j0, if_pos rfl, awake_true (by omega)]; rfl
    · rw [eb, Option.bind_some, if_neg (by omega), transomlaw01_UtfOrder.j0, if_pos rfl, awake_true (by omega)]; rfl
end Go.Proofs.Ytognddakkfdifaa.Pure
