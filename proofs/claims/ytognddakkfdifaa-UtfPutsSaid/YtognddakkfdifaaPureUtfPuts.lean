/- UtfPuts: the bytes of any number, and how many, or that it is no character, are what the document says. For every input; no conditions. -/
import Derived.Test.YtognddakkfdifaaPUtfPutsx
import Derived.Test.YtognddakkfdifaaBUtfPutsUtfPut
namespace Go.Proofs.Ytognddakkfdifaa.Pure
set_option linter.unusedVariables false
set_option linter.unusedSimpArgs false
open Go.RowKit Go.Proofs.Ytognddakkfdifaa.PUtfPuts Go.Proofs.YtognddakkfdifaaW.PrintWords Go.Proofs.YtognddakkfdifaaW.PrintLast
open Go.Proofs.Ytognddakkfdifaa.Plain

theorem refwidth_eq (r : Int) (k : Nat) : transomref01_Width.f (k + 3) r = some (widthS r) := by
  have hj : ∀ (k : Nat) (f : Bool), transomref01_Width.j0 (k + 1) r f = some (if f = true then 0 else if r ≤ 127 then 1 else if r ≤ 2047 then 2 else if r ≤ 65535 then 3 else 4) := by
    intro k f
    rw [transomref01_Width.j0]
    cases f
    · simp only [Bool.false_eq_true, if_false]
      split
      · rfl
      · split
        · rfl
        · split <;> rfl
    · simp only [if_true]
  unfold transomref01_Width.f
  simp only [hj]
  unfold widthS
  by_cases h1 : r < 0
  · simp only [if_pos h1]
    rw [if_pos trivial, if_neg (show ¬ okR r by unfold okR; omega)]
  · rw [if_neg h1]
    by_cases h2 : r > 1114111
    · simp only [if_pos h2]
      rw [if_pos trivial, if_neg (show ¬ okR r by unfold okR; omega)]
    · rw [if_neg h2]
      by_cases h3 : r ≥ 55296
      · rw [if_pos h3]
        by_cases h4 : r ≤ 57343
        · rw [if_pos (decide_eq_true h4), if_neg (show ¬ okR r by unfold okR; omega)]
        · rw [if_neg (by rw [decide_eq_true_eq]; exact h4), if_pos (show okR r by unfold okR; omega)]
      · rw [if_neg h3, if_neg (show ¬ (false = true) by simp), if_pos (show okR r by unfold okR; omega)]
theorem ref_bad {r : Int} (h : ¬ okR r) (k : Nat) : transomref01_Put.f (k + 3) r = some ((⟨#[]⟩ : ByteArray), 1) := by
  unfold transomref01_Put.f
  rw [refwidth_eq, Option.bind_some]
  unfold widthS
  rw [if_neg h, if_pos rfl]
theorem ref_ok {r : Nat} (h : okR r) (k : Nat) : transomref01_Put.f (k + 3) r = some (putB r, 0) := by
  have hr : r ≤ 1114111 := by unfold okR at h; omega
  unfold transomref01_Put.f
  rw [refwidth_eq (r : Int) k, Option.bind_some]
  unfold widthS putB putS
  have d1 : ∀ m : Nat, Int.tdiv (r : Int) (m : Int) = ((r / m : Nat) : Int) := fun m => by rw [Int.tdiv_eq_ediv_of_nonneg (by omega), Int.natCast_ediv]
  have e1 : Int.tdiv (r : Int) 64 = ((r / 64 : Nat) : Int) := d1 64
  have e2 : Int.tdiv (r : Int) 4096 = ((r / 4096 : Nat) : Int) := d1 4096
  have e3 : Int.tdiv (r : Int) 262144 = ((r / 262144 : Nat) : Int) := d1 262144
  have m1 : ∀ n : Nat, Int.tmod (n : Int) 64 = ((n % 64 : Nat) : Int) := fun n => by rw [Int.tmod_eq_emod_of_nonneg (by omega)]; omega
  have w : ∀ n : Nat, n ≤ 1114111 → wrap64 (n : Int) = (n : Int) := fun n hn => w64id (by omega) (by omega)
  rw [if_pos h, e1, e2, e3, w (r / 64) (by omega), w (r / 4096) (by omega), w (r / 262144) (by omega), m1, m1, m1]
  by_cases c1 : r ≤ 127
  · rw [if_pos (show (r : Int) ≤ 127 by omega), if_pos c1, if_neg (by omega), if_pos rfl]
    rw [strOf_put (m := [r]) (by show [(r : Int) % 256] = [(r : Int)]; rw [show (r : Int) % 256 = (r : Int) by omega])]
  · rw [if_neg (show ¬ (r : Int) ≤ 127 by omega), if_neg c1]
    by_cases c2 : r ≤ 2047
    · rw [if_pos (show (r : Int) ≤ 2047 by omega), if_pos c2, if_neg (by omega), if_neg (by omega), if_pos rfl]
      rw [strOf_put (m := [192 + r / 64, 128 + r % 64])]
      simp only [List.map_cons, List.map_nil, List.cons.injEq, and_true]
      unfold wrap64
      omega
    · rw [if_neg (show ¬ (r : Int) ≤ 2047 by omega), if_neg c2]
      by_cases c3 : r ≤ 65535
      · rw [if_pos (show (r : Int) ≤ 65535 by omega), if_pos c3, if_neg (by omega), if_neg (by omega), if_neg (by omega), if_pos rfl]
        rw [strOf_put (m := [224 + r / 4096, 128 + r / 64 % 64, 128 + r % 64])]
        simp only [List.map_cons, List.map_nil, List.cons.injEq, and_true]
        unfold wrap64
        omega
      · rw [if_neg (show ¬ (r : Int) ≤ 65535 by omega), if_neg c3, if_neg (by omega), if_neg (by omega), if_neg (by omega), if_neg (by omega)]
        rw [strOf_put (m := [240 + r / 262144, 128 + r / 4096 % 64, 128 + r / 64 % 64, 128 + r % 64])]
        simp only [List.map_cons, List.map_nil, List.cons.injEq, and_true]
        unfold wrap64
        omega
theorem UtfPuts : transomlaw01_UtfPuts.Pure := by
  intro r wr
  obtain ⟨k, hk⟩ : ∃ k : Nat, 40 ≤ k := ⟨40, by omega⟩
  refine ⟨k + 5, ?_⟩
  unfold transomlaw01_UtfPuts.f
  rw [width_eq r (k + 4), show k + 5 = k + 2 + 3 by omega, refwidth_eq, awake_true (by omega)]
  by_cases h : okR r
  · obtain ⟨n, rfl⟩ : ∃ n : Nat, r = (n : Int) := ⟨r.toNat, by unfold okR at h; omega⟩
    rw [ref_ok h, show k + 2 + 3 = k + 5 by omega, put_ok h, Option.bind_some, Option.bind_some, if_pos rfl, if_pos rfl, Option.bind_some, Option.bind_some, if_pos rfl]; rfl
  · rw [ref_bad h, show k + 2 + 3 = k + 4 + 1 by omega, put_bad h, Option.bind_some, Option.bind_some, if_pos rfl, if_pos rfl, Option.bind_some, Option.bind_some, if_pos rfl]; rfl
end Go.Proofs.Ytognddakkfdifaa.Pure
