import Derived.Test.YtijjlpgcpdapnaaGreatDoorF2
import Derived.Test.YtijjlpgcpdapnaaGreatDoorF7
import Derived.Test.YtijjlpgcpdapnaaGreatDoorF9
import Derived.Test.YtijjlpgcpdapnaaGreatDoorTgt5

/- Tables behind a change: the program's answer. -/
namespace Go.Proofs.YtijjlpgcpdapnaaGreatDoor.Aev
open Go
set_option linter.unusedVariables false
set_option linter.unusedSimpArgs false
set_option maxRecDepth 100000
abbrev ResT : Type := List Tb × Int
def TgtR (P : ByteArray → Int → List C → Prop) (r : ResT) : Prop := r.2 ≠ 0 ∨ ∃ nm a cols, r = ([(nm, (a, (cols, ())))], 0) ∧ P nm a cols
def TgtR5 (c : Ch) (t : Tb) (r : ResT) : Prop := r.2 ≠ 0 ∨ (r = ([(toN c, (t.2.1, (selA t.2.1 (namesC c) 0 t.2.2.1, ()))), (alsoN c, (t.2.1, (selB t.2.1 (namesC c) 0 t.2.2.1, ())))], 0) ∧ nameS (toN c).data.toList = 0 ∧ nameS (alsoN c).data.toList = 0)
theorem twelve (l : List Tb) : (l, (12 : Int)).2 ≠ 0 := by show (12 : Int) ≠ 0; decide
theorem nine (l : List Tb) : (l, (9 : Int)).2 ≠ 0 := by show (9 : Int) ≠ 0; decide
theorem tail_0 (l : List Tb) (hl : l.length ≤ 20) (c : Ch) (ns : List ByteArray) (hn : ns.length ≤ 10) (fr : List Tb) (k : Nat) (hk : 1200 ≤ k) (r : OneT) (hr : change_create_targets.f k c fr = some r) {P : ByteArray → Int → List C → Prop} (ok : OneR P r) (n m : Int) (hnm : ¬ n < m) :
  ∃ res, change_Targets.s0_0 (k + 1) l c ns ns m n fr = some res ∧ TgtR P res := by
 rw [change_Targets.s0_0]
 simp only [change_Targets.s0_0c, hnm, decide_false, cond_false, hr, os]
 cases r with
 | inl e =>
  have ok : e ≠ 0 := ok
  have e' : (e != 0) = true := bne_iff_ne.2 ok
  simp only [Sum.elim_inl, e', cond_true]
  exact ⟨_, rfl, .inl ok⟩
 | inr q =>
  obtain ⟨q0, q1, q2, q3⟩ := ok
  have e' : (q.1 != 0) = false := by rw [q0]; rfl
  simp only [Sum.elim_inr, e', cond_false, tfind l q.2.1 (by omega) k (by omega), change_makes.f0, change_makes.c0, contains_eq ns q.2.1 (by omega) k (by omega), clone_eq q1 q2, os]
  by_cases z : place (findS q.2.1 (tnames l)) 0 ≥ 0
  ·simp only [decide_eq_true z, cond_true]
   exact ⟨_, rfl, .inl (twelve _)⟩
  ·simp only [decide_eq_false z, cond_false]
   exact ⟨_, rfl, .inr ⟨_, _, _, rfl, q3⟩⟩
theorem tail_1 (l : List Tb) (hl : l.length ≤ 20) (c : Ch) (ns : List ByteArray) (hn : ns.length ≤ 10) (fr : List Tb) (k : Nat) (hk : 1200 ≤ k) (r : OneT) (hr : change_add_targets.f k c fr = some r) {P : ByteArray → Int → List C → Prop} (ok : OneR P r) (n m : Int) (hnm : ¬ n < m) :
  ∃ res, change_Targets.s0_1 (k + 1) l c ns ns m n fr = some res ∧ TgtR P res := by
 rw [change_Targets.s0_1]
 simp only [change_Targets.s0_1c, hnm, decide_false, cond_false, hr, os]
 cases r with
 | inl e =>
  have ok : e ≠ 0 := ok
  have e' : (e != 0) = true := bne_iff_ne.2 ok
  simp only [Sum.elim_inl, e', cond_true]
  exact ⟨_, rfl, .inl ok⟩
 | inr q =>
  obtain ⟨q0, q1, q2, q3⟩ := ok
  have e' : (q.1 != 0) = false := by rw [q0]; rfl
  simp only [Sum.elim_inr, e', cond_false, tfind l q.2.1 (by omega) k (by omega), change_makes.f1, change_makes.c1, contains_eq ns q.2.1 (by omega) k (by omega), clone_eq q1 q2, os]
  by_cases z : place (findS q.2.1 (tnames l)) 0 ≥ 0
  ·simp only [decide_eq_true z, cond_true, cond_false]
   cases inB q.2.1 ns with
   | false => exact ⟨_, rfl, .inl (twelve _)⟩
   | true => exact ⟨_, rfl, .inr ⟨_, _, _, rfl, q3⟩⟩
  ·simp only [decide_eq_false z, cond_false]
   exact ⟨_, rfl, .inr ⟨_, _, _, rfl, q3⟩⟩
theorem tail_2 (l : List Tb) (hl : l.length ≤ 20) (c : Ch) (ns : List ByteArray) (hn : ns.length ≤ 10) (fr : List Tb) (k : Nat) (hk : 1200 ≤ k) (r : OneT) (hr : change_drop_targets.f k c fr = some r) {P : ByteArray → Int → List C → Prop} (ok : OneR P r) (n m : Int) (hnm : ¬ n < m) :
  ∃ res, change_Targets.s0_2 (k + 1) l c ns ns m n fr = some res ∧ TgtR P res := by
 rw [change_Targets.s0_2]
 simp only [change_Targets.s0_2c, hnm, decide_false, cond_false, hr, os]
 cases r with
 | inl e =>
  have ok : e ≠ 0 := ok
  have e' : (e != 0) = true := bne_iff_ne.2 ok
  simp only [Sum.elim_inl, e', cond_true]
  exact ⟨_, rfl, .inl ok⟩
 | inr q =>
  obtain ⟨q0, q1, q2, q3⟩ := ok
  have e' : (q.1 != 0) = false := by rw [q0]; rfl
  simp only [Sum.elim_inr, e', cond_false, tfind l q.2.1 (by omega) k (by omega), change_makes.f2, change_makes.c2, contains_eq ns q.2.1 (by omega) k (by omega), clone_eq q1 q2, os]
  by_cases z : place (findS q.2.1 (tnames l)) 0 ≥ 0
  ·simp only [decide_eq_true z, cond_true, cond_false]
   cases inB q.2.1 ns with
   | false => exact ⟨_, rfl, .inl (twelve _)⟩
   | true => exact ⟨_, rfl, .inr ⟨_, _, _, rfl, q3⟩⟩
  ·simp only [decide_eq_false z, cond_false]
   exact ⟨_, rfl, .inr ⟨_, _, _, rfl, q3⟩⟩
theorem tail_3 (l : List Tb) (hl : l.length ≤ 20) (c : Ch) (ns : List ByteArray) (hn : ns.length ≤ 10) (fr : List Tb) (k : Nat) (hk : 1200 ≤ k) (r : OneT) (hr : change_retype_targets.f k c fr = some r) {P : ByteArray → Int → List C → Prop} (ok : OneR P r) (n m : Int) (hnm : ¬ n < m) :
  ∃ res, change_Targets.s0_3 (k + 1) l c ns ns m n fr = some res ∧ TgtR P res := by
 rw [change_Targets.s0_3]
 simp only [change_Targets.s0_3c, hnm, decide_false, cond_false, hr, os]
 cases r with
 | inl e =>
  have ok : e ≠ 0 := ok
  have e' : (e != 0) = true := bne_iff_ne.2 ok
  simp only [Sum.elim_inl, e', cond_true]
  exact ⟨_, rfl, .inl ok⟩
 | inr q =>
  obtain ⟨q0, q1, q2, q3⟩ := ok
  have e' : (q.1 != 0) = false := by rw [q0]; rfl
  simp only [Sum.elim_inr, e', cond_false, tfind l q.2.1 (by omega) k (by omega), change_makes.f3, change_makes.c3, contains_eq ns q.2.1 (by omega) k (by omega), clone_eq q1 q2, os]
  by_cases z : place (findS q.2.1 (tnames l)) 0 ≥ 0
  ·simp only [decide_eq_true z, cond_true, cond_false]
   cases inB q.2.1 ns with
   | false => exact ⟨_, rfl, .inl (twelve _)⟩
   | true => exact ⟨_, rfl, .inr ⟨_, _, _, rfl, q3⟩⟩
  ·simp only [decide_eq_false z, cond_false]
   exact ⟨_, rfl, .inr ⟨_, _, _, rfl, q3⟩⟩
theorem tail_5 (l : List Tb) (hl : l.length ≤ 20) (c : Ch) (ns : List ByteArray) (hn : ns.length ≤ 10) (fr : List Tb) (k : Nat) (hk : 1200 ≤ k) (r : OneT) (hr : change_merge_targets.f k c fr = some r) {P : ByteArray → Int → List C → Prop} (ok : OneR P r) (n m : Int) (hnm : ¬ n < m) :
  ∃ res, change_Targets.s0_5 (k + 1) l c ns ns m n fr = some res ∧ TgtR P res := by
 rw [change_Targets.s0_5]
 simp only [change_Targets.s0_5c, hnm, decide_false, cond_false, hr, os]
 cases r with
 | inl e =>
  have ok : e ≠ 0 := ok
  have e' : (e != 0) = true := bne_iff_ne.2 ok
  simp only [Sum.elim_inl, e', cond_true]
  exact ⟨_, rfl, .inl ok⟩
 | inr q =>
  obtain ⟨q0, q1, q2, q3⟩ := ok
  have e' : (q.1 != 0) = false := by rw [q0]; rfl
  simp only [Sum.elim_inr, e', cond_false, tfind l q.2.1 (by omega) k (by omega), change_makes.f5, change_makes.c5, contains_eq ns q.2.1 (by omega) k (by omega), clone_eq q1 q2, os]
  by_cases z : place (findS q.2.1 (tnames l)) 0 ≥ 0
  ·simp only [decide_eq_true z, cond_true, cond_false]
   cases inB q.2.1 ns with
   | false => exact ⟨_, rfl, .inl (twelve _)⟩
   | true => exact ⟨_, rfl, .inr ⟨_, _, _, rfl, q3⟩⟩
  ·simp only [decide_eq_false z, cond_false]
   exact ⟨_, rfl, .inr ⟨_, _, _, rfl, q3⟩⟩
theorem tail_4 (l : List Tb) (hl : l.length ≤ 20) (c : Ch) (ns : List ByteArray) (hn : ns.length ≤ 10) (fr : List Tb) (k : Nat) (hk : 1200 ≤ k) (r : TwoT) (hr : change_split_targets.f k c fr = some r) (t : Tb) (ok : P5 c t r) (tk : TabOK t.1 t.2.1 t.2.2.1) (n m : Int) (hnm : ¬ n < m) :
  ∃ res, change_Targets.s0_4 (k + 1) l c ns ns m n fr = some res ∧ TgtR5 c t res := by
 rw [change_Targets.s0_4]
 simp only [change_Targets.s0_4c, hnm, decide_false, cond_false, hr, os]
 cases r with
 | inl e =>
  have ok : e ≠ 0 := ok
  have e' : (e != 0) = true := bne_iff_ne.2 ok
  simp only [Sum.elim_inl, e', cond_true]
  exact ⟨_, rfl, .inl ok⟩
 | inr q =>
  obtain ⟨rfl, q1, q2⟩ := ok
  have hks := tk.keys
  have hl8 := tk.len
  have ha : t.2.1 = ((t.2.1.toNat : Nat) : Int) := by omega
  have lA := congrArg List.length (selA_take ha (namesC c) t.2.2.1 0)
  have lB := congrArg List.length (selB_take ha (namesC c) t.2.2.1 0)
  have sA := (selA_sub t.2.1 (namesC c) t.2.2.1 0).length_le
  have sB := (selB_sub t.2.1 (namesC c) t.2.2.1 0).length_le
  rw [List.length_take, List.length_take] at lA lB
  have e' : ((0 : Int) != 0) = false := rfl
  have cA := clone_eq (l := selA t.2.1 (namesC c) 0 t.2.2.1) (by omega) (by omega) k
  have cB := clone_eq (l := selB t.2.1 (namesC c) 0 t.2.2.1) (by omega) (by omega) k
  simp only [Sum.elim_inr, e', cond_false, tfind l (toN c) (by omega) k (by omega), tfind l (alsoN c) (by omega) k (by omega), change_makes.f4, change_makes.c4, contains_eq ns (toN c) (by omega) k (by omega), contains_eq ns (alsoN c) (by omega) k (by omega), cA, cB, os]
  have two : ∃ res, (bif decide (place (findS (alsoN c) (tnames l)) 0 ≥ 0) then (bif !(inB (alsoN c) ns) then some (([], 12) : ResT) else some ([(toN c, (t.2.1, (selA t.2.1 (namesC c) 0 t.2.2.1, ()))), (alsoN c, (t.2.1, (selB t.2.1 (namesC c) 0 t.2.2.1, ())))], 0)) else some ([(toN c, (t.2.1, (selA t.2.1 (namesC c) 0 t.2.2.1, ()))), (alsoN c, (t.2.1, (selB t.2.1 (namesC c) 0 t.2.2.1, ())))], 0)) = some res ∧ TgtR5 c t res := by
   by_cases z : place (findS (alsoN c) (tnames l)) 0 ≥ 0
   ·rw [decide_eq_true z, cond_true]
    cases inB (alsoN c) ns with
    | false => exact ⟨_, rfl, .inl (twelve _)⟩
    | true => exact ⟨_, rfl, .inr ⟨rfl, q1, q2⟩⟩
   ·rw [decide_eq_false z, cond_false]
    exact ⟨_, rfl, .inr ⟨rfl, q1, q2⟩⟩
  by_cases z : place (findS (toN c) (tnames l)) 0 ≥ 0
  ·rw [decide_eq_true z, cond_true]
   cases inB (toN c) ns with
   | false => exact ⟨_, rfl, .inl (twelve _)⟩
   | true => exact two
  ·rw [decide_eq_false z, cond_false]
   exact two
theorem from_1 (l : List Tb) (hl : l.length ≤ 20) (c : Ch) (s : ByteArray) (k : Nat) (hk : 1200 ≤ k) {P : Tb → ByteArray → Int → List C → Prop} (ht : ∀ (n : Nat) (h : n < l.length), l[n].1 = s → ∃ res, change_Targets.s0_1 k l c [s] [s] 1 1 [l[n]] = some res ∧ TgtR (P l[n]) res) :
  ∃ res, change_Targets.s0_1 (k + 1) l c [s] [s] 1 0 [] = some res ∧ (res.2 ≠ 0 ∨ ∃ n, ∃ h : n < l.length, place (findS s (tnames l)) 0 = (n : Int) ∧ l[n].1 = s ∧ TgtR (P l[n]) res) := by
 have E0 : elem Ty.str [s] (0 : Int) = s := rfl
 have a0 : decide ((0 : Int) < 1) = true := rfl
 have b0 : decide ((0 : Int) ≤ 0) = true := rfl
 have l0 : (([s] : List ByteArray).length : Int) = 1 := rfl
 have w0 : IntKind.wrap .i64 ((0 : Int) + 1) = 1 := by rw [i64w (by omega) (by omega)]; rfl
 have m0 : decide (((([] : List Tb).length + 1) * 48) ≤ 2 ^ 45) = true := rfl
 rw [change_Targets.s0_1]
 simp only [change_Targets.s0_1c, E0, a0, b0, l0, w0, m0, Bool.and_self, cond_true, tfind l s (by omega) k (by omega), os, List.nil_append]
 by_cases z : place (findS s (tnames l)) 0 < 0
 ·rw [decide_eq_true z, cond_true]
  exact ⟨_, rfl, .inl (nine _)⟩
 ·obtain ⟨n, hn, h1, h2⟩ := tab_get (l := l) (s := s) (by omega)
  obtain ⟨res, h3, h4⟩ := ht n hn h2
  have d1 : (0 : Int) ≤ (n : Int) := by omega
  have d2 : (n : Int) < (l.length : Int) := by omega
  have d3 : ¬ (n : Int) < 0 := by omega
  rw [h1]
  simp only [d1, d2, d3, decide_true, decide_false, Bool.and_self, cond_true, cond_false, elem_tb hn, h3, os]
  exact ⟨res, rfl, .inr ⟨n, hn, rfl, h2, h4⟩⟩
theorem from_2 (l : List Tb) (hl : l.length ≤ 20) (c : Ch) (s : ByteArray) (k : Nat) (hk : 1200 ≤ k) {P : Tb → ByteArray → Int → List C → Prop} (ht : ∀ (n : Nat) (h : n < l.length), l[n].1 = s → ∃ res, change_Targets.s0_2 k l c [s] [s] 1 1 [l[n]] = some res ∧ TgtR (P l[n]) res) :
  ∃ res, change_Targets.s0_2 (k + 1) l c [s] [s] 1 0 [] = some res ∧ (res.2 ≠ 0 ∨ ∃ n, ∃ h : n < l.length, place (findS s (tnames l)) 0 = (n : Int) ∧ l[n].1 = s ∧ TgtR (P l[n]) res) := by
 have E0 : elem Ty.str [s] (0 : Int) = s := rfl
 have a0 : decide ((0 : Int) < 1) = true := rfl
 have b0 : decide ((0 : Int) ≤ 0) = true := rfl
 have l0 : (([s] : List ByteArray).length : Int) = 1 := rfl
 have w0 : IntKind.wrap .i64 ((0 : Int) + 1) = 1 := by rw [i64w (by omega) (by omega)]; rfl
 have m0 : decide (((([] : List Tb).length + 1) * 48) ≤ 2 ^ 45) = true := rfl
 rw [change_Targets.s0_2]
 simp only [change_Targets.s0_2c, E0, a0, b0, l0, w0, m0, Bool.and_self, cond_true, tfind l s (by omega) k (by omega), os, List.nil_append]
 by_cases z : place (findS s (tnames l)) 0 < 0
 ·rw [decide_eq_true z, cond_true]
  exact ⟨_, rfl, .inl (nine _)⟩
 ·obtain ⟨n, hn, h1, h2⟩ := tab_get (l := l) (s := s) (by omega)
  obtain ⟨res, h3, h4⟩ := ht n hn h2
  have d1 : (0 : Int) ≤ (n : Int) := by omega
  have d2 : (n : Int) < (l.length : Int) := by omega
  have d3 : ¬ (n : Int) < 0 := by omega
  rw [h1]
  simp only [d1, d2, d3, decide_true, decide_false, Bool.and_self, cond_true, cond_false, elem_tb hn, h3, os]
  exact ⟨res, rfl, .inr ⟨n, hn, rfl, h2, h4⟩⟩
theorem from_3 (l : List Tb) (hl : l.length ≤ 20) (c : Ch) (s : ByteArray) (k : Nat) (hk : 1200 ≤ k) {P : Tb → ByteArray → Int → List C → Prop} (ht : ∀ (n : Nat) (h : n < l.length), l[n].1 = s → ∃ res, change_Targets.s0_3 k l c [s] [s] 1 1 [l[n]] = some res ∧ TgtR (P l[n]) res) :
  ∃ res, change_Targets.s0_3 (k + 1) l c [s] [s] 1 0 [] = some res ∧ (res.2 ≠ 0 ∨ ∃ n, ∃ h : n < l.length, place (findS s (tnames l)) 0 = (n : Int) ∧ l[n].1 = s ∧ TgtR (P l[n]) res) := by
 have E0 : elem Ty.str [s] (0 : Int) = s := rfl
 have a0 : decide ((0 : Int) < 1) = true := rfl
 have b0 : decide ((0 : Int) ≤ 0) = true := rfl
 have l0 : (([s] : List ByteArray).length : Int) = 1 := rfl
 have w0 : IntKind.wrap .i64 ((0 : Int) + 1) = 1 := by rw [i64w (by omega) (by omega)]; rfl
 have m0 : decide (((([] : List Tb).length + 1) * 48) ≤ 2 ^ 45) = true := rfl
 rw [change_Targets.s0_3]
 simp only [change_Targets.s0_3c, E0, a0, b0, l0, w0, m0, Bool.and_self, cond_true, tfind l s (by omega) k (by omega), os, List.nil_append]
 by_cases z : place (findS s (tnames l)) 0 < 0
 ·rw [decide_eq_true z, cond_true]
  exact ⟨_, rfl, .inl (nine _)⟩
 ·obtain ⟨n, hn, h1, h2⟩ := tab_get (l := l) (s := s) (by omega)
  obtain ⟨res, h3, h4⟩ := ht n hn h2
  have d1 : (0 : Int) ≤ (n : Int) := by omega
  have d2 : (n : Int) < (l.length : Int) := by omega
  have d3 : ¬ (n : Int) < 0 := by omega
  rw [h1]
  simp only [d1, d2, d3, decide_true, decide_false, Bool.and_self, cond_true, cond_false, elem_tb hn, h3, os]
  exact ⟨res, rfl, .inr ⟨n, hn, rfl, h2, h4⟩⟩
theorem from_4 (l : List Tb) (hl : l.length ≤ 20) (c : Ch) (s : ByteArray) (k : Nat) (hk : 1200 ≤ k) (ht : ∀ (n : Nat) (h : n < l.length), l[n].1 = s → ∃ res, change_Targets.s0_4 k l c [s] [s] 1 1 [l[n]] = some res ∧ TgtR5 c l[n] res) :
  ∃ res, change_Targets.s0_4 (k + 1) l c [s] [s] 1 0 [] = some res ∧ (res.2 ≠ 0 ∨ ∃ n, ∃ h : n < l.length, place (findS s (tnames l)) 0 = (n : Int) ∧ l[n].1 = s ∧ TgtR5 c l[n] res) := by
 have E0 : elem Ty.str [s] (0 : Int) = s := rfl
 have a0 : decide ((0 : Int) < 1) = true := rfl
 have b0 : decide ((0 : Int) ≤ 0) = true := rfl
 have l0 : (([s] : List ByteArray).length : Int) = 1 := rfl
 have w0 : IntKind.wrap .i64 ((0 : Int) + 1) = 1 := by rw [i64w (by omega) (by omega)]; rfl
 have m0 : decide (((([] : List Tb).length + 1) * 48) ≤ 2 ^ 45) = true := rfl
 rw [change_Targets.s0_4]
 simp only [change_Targets.s0_4c, E0, a0, b0, l0, w0, m0, Bool.and_self, cond_true, tfind l s (by omega) k (by omega), os, List.nil_append]
 by_cases z : place (findS s (tnames l)) 0 < 0
 ·rw [decide_eq_true z, cond_true]
  exact ⟨_, rfl, .inl (nine _)⟩
 ·obtain ⟨n, hn, h1, h2⟩ := tab_get (l := l) (s := s) (by omega)
  obtain ⟨res, h3, h4⟩ := ht n hn h2
  have d1 : (0 : Int) ≤ (n : Int) := by omega
  have d2 : (n : Int) < (l.length : Int) := by omega
  have d3 : ¬ (n : Int) < 0 := by omega
  rw [h1]
  simp only [d1, d2, d3, decide_true, decide_false, Bool.and_self, cond_true, cond_false, elem_tb hn, h3, os]
  exact ⟨res, rfl, .inr ⟨n, hn, rfl, h2, h4⟩⟩
theorem from_5 (l : List Tb) (hl : l.length ≤ 20) (c : Ch) (s u : ByteArray) (k : Nat) (hk : 1200 ≤ k) {P : Tb → ByteArray → Int → List C → Prop} (ht : ∀ (n : Nat) (h : n < l.length) (m : Nat) (h' : m < l.length), l[n].1 = s → ∃ res, change_Targets.s0_5 k l c [s, u] [s, u] 2 2 [l[n], l[m]] = some res ∧ TgtR (P l[n]) res) :
  ∃ res, change_Targets.s0_5 (k + 2) l c [s, u] [s, u] 2 0 [] = some res ∧ (res.2 ≠ 0 ∨ ∃ n, ∃ h : n < l.length, place (findS s (tnames l)) 0 = (n : Int) ∧ l[n].1 = s ∧ TgtR (P l[n]) res) := by
 have E0 : elem Ty.str [s, u] (0 : Int) = s := rfl
 have E1 : elem Ty.str [s, u] (1 : Int) = u := rfl
 have a0 : decide ((0 : Int) < 2) = true := rfl
 have a1 : decide ((1 : Int) < 2) = true := rfl
 have b0 : decide ((0 : Int) ≤ 0) = true := rfl
 have b1 : decide ((0 : Int) ≤ 1) = true := rfl
 have l0 : (([s, u] : List ByteArray).length : Int) = 2 := rfl
 have w0 : IntKind.wrap .i64 ((0 : Int) + 1) = 1 := by rw [i64w (by omega) (by omega)]; rfl
 have w1 : IntKind.wrap .i64 ((1 : Int) + 1) = 2 := by rw [i64w (by omega) (by omega)]; rfl
 have m0 : decide (((([] : List Tb).length + 1) * 48) ≤ 2 ^ 45) = true := rfl
 rw [change_Targets.s0_5]
 simp only [change_Targets.s0_5c, E0, a0, b0, l0, w0, m0, Bool.and_self, cond_true, tfind l s (by omega) (k + 1) (by omega), os, List.nil_append]
 by_cases z : place (findS s (tnames l)) 0 < 0
 ·rw [decide_eq_true z, cond_true]
  exact ⟨_, rfl, .inl (nine _)⟩
 ·obtain ⟨n, hn, h1, h2⟩ := tab_get (l := l) (s := s) (by omega)
  have d1 : (0 : Int) ≤ (n : Int) := by omega
  have d2 : (n : Int) < (l.length : Int) := by omega
  have d3 : ¬ (n : Int) < 0 := by omega
  have m1 : decide ((([l[n]] : List Tb).length + 1) * 48 ≤ 2 ^ 45) = true := rfl
  rw [h1]
  simp only [d1, d2, d3, decide_true, decide_false, Bool.and_self, cond_true, cond_false, elem_tb hn]
  rw [change_Targets.s0_5]
  simp only [change_Targets.s0_5c, E1, a1, b1, l0, w1, m1, Bool.and_self, cond_true, tfind l u (by omega) k (by omega), os, List.singleton_append]
  by_cases z' : place (findS u (tnames l)) 0 < 0
  ·rw [decide_eq_true z', cond_true]
   exact ⟨_, rfl, .inl (nine _)⟩
  ·obtain ⟨m, hm, g1, g2⟩ := tab_get (l := l) (s := u) (by omega)
   obtain ⟨res, h3, h4⟩ := ht n hn m hm h2
   have f1 : (0 : Int) ≤ (m : Int) := by omega
   have f2 : (m : Int) < (l.length : Int) := by omega
   have f3 : ¬ (m : Int) < 0 := by omega
   rw [g1]
   simp only [f1, f2, f3, decide_true, decide_false, Bool.and_self, cond_true, cond_false, elem_tb hm, h3, os]
   exact ⟨res, rfl, .inr ⟨n, hn, rfl, h2, h4⟩⟩
def TgtsOK (c : Ch) (t : Tb) (ts : List Tb) : Prop :=
 (c.1 = 2 ∧ ∃ nm a cols, ts = [(nm, (a, (cols, ())))] ∧ P2 c t nm a cols) ∨
 (c.1 = 3 ∧ ∃ nm a cols, ts = [(nm, (a, (cols, ())))] ∧ P3 c t nm a cols) ∨
 (c.1 = 4 ∧ ∃ nm a cols, ts = [(nm, (a, (cols, ())))] ∧ P4 c t nm a cols) ∨
 (c.1 = 5 ∧ ts = [(toN c, (t.2.1, (selA t.2.1 (namesC c) 0 t.2.2.1, ()))), (alsoN c, (t.2.1, (selB t.2.1 (namesC c) 0 t.2.2.1, ())))] ∧ nameS (toN c).data.toList = 0 ∧ nameS (alsoN c).data.toList = 0) ∨
 (c.1 = 6 ∧ ∃ nm a cols, ts = [(nm, (a, (cols, ())))] ∧ P6 c t nm a cols)
def AllOK (l : List Tb) (c : Ch) (res : ResT) : Prop := res.2 = 0 → c.1 = 1 ∨ ∃ n, ∃ h : n < l.length, place (findS c.2.1 (tnames l)) 0 = (n : Int) ∧ l[n].1 = c.2.1 ∧ TabOK l[n].1 l[n].2.1 l[n].2.2.1 ∧ TgtsOK c l[n] res.1
theorem all_of {l : List Tb} {c : Ch} {res : ResT} (ok : ∀ t ∈ l, TabOK t.1 t.2.1 t.2.2.1) {P : Tb → ByteArray → Int → List C → Prop} (hP : ∀ t nm a cols, P t nm a cols → TgtsOK c t [(nm, (a, (cols, ())))]) (h : res.2 ≠ 0 ∨ ∃ n, ∃ h : n < l.length, place (findS c.2.1 (tnames l)) 0 = (n : Int) ∧ l[n].1 = c.2.1 ∧ TgtR (P l[n]) res) : AllOK l c res := by
 intro h0
 right
 rcases h with h | ⟨n, hn, h1, h2, h3⟩
 ·exact absurd h0 h
 ·refine ⟨n, hn, h1, h2, ok _ (List.getElem_mem hn), ?_⟩
  rcases h3 with h3 | ⟨nm, a, cols, rfl, h4⟩
  ·exact absurd h0 h3
  ·exact hP _ _ _ _ h4
theorem targets_eq {l : List Tb} (hl : FewT l) {c : Ch} (hcol : FewC (colOf c)) (htab : FewL c.2.2.2.2.2.2.2.2.2.1.2.2.1) (hn : (namesC c).length ≤ 60) (k : Nat) (hk : 20000 ≤ k) : ∃ res, change_Targets.f k l c = some res ∧ AllOK l c res := by
 obtain ⟨k, rfl⟩ : ∃ q, k = q + 4 := ⟨k - 4, by omega⟩
 have hl1 := hl.1
 obtain ⟨e, he, hok⟩ := chk_f l hl (k + 4) (by omega)
 have out : ∀ x : Option ResT, (e = 0 → ∃ res, x = some res ∧ AllOK l c res) → ∃ res, (bif e != 0 then some ([], e) else x) = some res ∧ AllOK l c res := by
  intro x hx
  by_cases q : e = 0
  ·have q' : (e != 0) = false := by rw [q]; rfl
   rw [q', cond_false]; exact hx q
  ·have q' : (e != 0) = true := bne_iff_ne.2 q
   rw [q', cond_true]
   exact ⟨_, rfl, fun z => absurd z q⟩
 simp only [change_Targets.f, change_Targets.c, he, change_of.f, change_of.c, change_create_sources.f, change_create_sources.c, change_add_sources.f, change_add_sources.c, change_drop_sources.f, change_drop_sources.c, change_retype_sources.f, change_retype_sources.c, change_split_sources.f, change_split_sources.c, change_merge_sources.f, change_merge_sources.c, os]
 by_cases k1 : c.1 = 1
 ·simp only [beq_iff_eq.2 k1, cond_true, os, Sum.elim_inl]
  refine out _ fun e0 => ?_
  obtain ⟨r, h1, h2⟩ := create_t c htab [] (k + 3) (by omega)
  obtain ⟨res, h3, _⟩ := tail_0 l hl1 c [] (by simp) [] (k + 3) (by omega) r h1 h2 0 0 (by omega)
  have h3' : change_Targets.s0_0 (k + 4) l c [] [] ((([] : List ByteArray).length : Nat) : Int) 0 [] = some res := h3
  simp only [h3', os]
  exact ⟨res, rfl, fun _ => .inl k1⟩
 by_cases k2 : c.1 = 2
 ·simp only [beq_eq_false_iff_ne.2 k1, beq_iff_eq.2 k2, cond_true, cond_false, os, Sum.elim_inl, Sum.elim_inr]
  refine out _ fun e0 => ?_
  obtain ⟨res, h3, h4⟩ := from_1 l hl1 c c.2.1 (k + 3) (by omega) (P := P2 c) fun n h hs => by
   obtain ⟨r, h1, h2⟩ := add_t c hcol l[n] (hl.2 _ (List.getElem_mem h)) (hok e0 _ (List.getElem_mem h)) (k + 2) (by omega)
   exact tail_1 l hl1 c [c.2.1] (by simp) [l[n]] (k + 2) (by omega) r h1 h2 1 1 (by omega)
  have h3' : change_Targets.s0_1 (k + 4) l c [c.2.1] [c.2.1] ((([c.2.1] : List ByteArray).length : Nat) : Int) 0 [] = some res := h3
  simp only [h3', os]
  exact ⟨res, rfl, all_of (hok e0) (P := P2 c) (fun t nm a cols h => .inl ⟨k2, nm, a, cols, rfl, h⟩) h4⟩
 by_cases k3 : c.1 = 3
 ·simp only [beq_eq_false_iff_ne.2 k1, beq_eq_false_iff_ne.2 k2, beq_iff_eq.2 k3, cond_true, cond_false, os, Sum.elim_inl, Sum.elim_inr]
  refine out _ fun e0 => ?_
  obtain ⟨res, h3, h4⟩ := from_2 l hl1 c c.2.1 (k + 3) (by omega) (P := P3 c) fun n h hs => by
   obtain ⟨r, h1, h2⟩ := drop_t c l[n] (hok e0 _ (List.getElem_mem h)) (k + 2) (by omega)
   exact tail_2 l hl1 c [c.2.1] (by simp) [l[n]] (k + 2) (by omega) r h1 h2 1 1 (by omega)
  have h3' : change_Targets.s0_2 (k + 4) l c [c.2.1] [c.2.1] ((([c.2.1] : List ByteArray).length : Nat) : Int) 0 [] = some res := h3
  simp only [h3', os]
  exact ⟨res, rfl, all_of (hok e0) (P := P3 c) (fun t nm a cols h => .inr (.inl ⟨k3, nm, a, cols, rfl, h⟩)) h4⟩
 by_cases k4 : c.1 = 4
 ·simp only [beq_eq_false_iff_ne.2 k1, beq_eq_false_iff_ne.2 k2, beq_eq_false_iff_ne.2 k3, beq_iff_eq.2 k4, cond_true, cond_false, os, Sum.elim_inl, Sum.elim_inr]
  refine out _ fun e0 => ?_
  obtain ⟨res, h3, h4⟩ := from_3 l hl1 c c.2.1 (k + 3) (by omega) (P := P4 c) fun n h hs => by
   obtain ⟨r, h1, h2⟩ := retype_t c l[n] (hl.2 _ (List.getElem_mem h)) (hok e0 _ (List.getElem_mem h)) (k + 2) (by omega)
   exact tail_3 l hl1 c [c.2.1] (by simp) [l[n]] (k + 2) (by omega) r h1 h2 1 1 (by omega)
  have h3' : change_Targets.s0_3 (k + 4) l c [c.2.1] [c.2.1] ((([c.2.1] : List ByteArray).length : Nat) : Int) 0 [] = some res := h3
  simp only [h3', os]
  exact ⟨res, rfl, all_of (hok e0) (P := P4 c) (fun t nm a cols h => .inr (.inr (.inl ⟨k4, nm, a, cols, rfl, h⟩))) h4⟩
 by_cases k5 : c.1 = 5
 ·simp only [beq_eq_false_iff_ne.2 k1, beq_eq_false_iff_ne.2 k2, beq_eq_false_iff_ne.2 k3, beq_eq_false_iff_ne.2 k4, beq_iff_eq.2 k5, cond_true, cond_false, os, Sum.elim_inl, Sum.elim_inr]
  refine out _ fun e0 => ?_
  obtain ⟨res, h3, h4⟩ := from_4 l hl1 c c.2.1 (k + 3) (by omega) fun n h hs => by
   obtain ⟨r, h1, h2⟩ := split_t c hn l[n] (hok e0 _ (List.getElem_mem h)) (k + 2) (by omega)
   exact tail_4 l hl1 c [c.2.1] (by simp) [l[n]] (k + 2) (by omega) r h1 l[n] h2 (hok e0 _ (List.getElem_mem h)) 1 1 (by omega)
  have h3' : change_Targets.s0_4 (k + 4) l c [c.2.1] [c.2.1] ((([c.2.1] : List ByteArray).length : Nat) : Int) 0 [] = some res := h3
  simp only [h3', os]
  refine ⟨res, rfl, fun h0 => ?_⟩
  right
  rcases h4 with h | ⟨n, hn, h1, h2, h5⟩
  ·exact absurd h0 h
  ·refine ⟨n, hn, h1, h2, hok e0 _ (List.getElem_mem hn), ?_⟩
   rcases h5 with h5 | ⟨rfl, h6⟩
   ·exact absurd h0 h5
   ·exact .inr (.inr (.inr (.inl ⟨k5, rfl, h6⟩)))
 by_cases k6 : c.1 = 6
 ·simp only [beq_eq_false_iff_ne.2 k1, beq_eq_false_iff_ne.2 k2, beq_eq_false_iff_ne.2 k3, beq_eq_false_iff_ne.2 k4, beq_eq_false_iff_ne.2 k5, beq_iff_eq.2 k6, cond_true, cond_false, os, Sum.elim_inl, Sum.elim_inr]
  refine out _ fun e0 => ?_
  obtain ⟨res, h3, h4⟩ := from_5 l hl1 c c.2.1 c.2.2.1 (k + 2) (by omega) (P := P6 c) fun n h m h' hs => by
   obtain ⟨r, h1, h2⟩ := merge_t c l[n] l[m] (hok e0 _ (List.getElem_mem h)) (k + 1) (by omega)
   exact tail_5 l hl1 c [c.2.1, c.2.2.1] (by simp) [l[n], l[m]] (k + 1) (by omega) r h1 h2 2 2 (by omega)
  have h3' : change_Targets.s0_5 (k + 4) l c [c.2.1, c.2.2.1] [c.2.1, c.2.2.1] ((([c.2.1, c.2.2.1] : List ByteArray).length : Nat) : Int) 0 [] = some res := h3
  simp only [h3', os]
  exact ⟨res, rfl, all_of (hok e0) (P := P6 c) (fun t nm a cols h => .inr (.inr (.inr (.inr ⟨k6, nm, a, cols, rfl, h⟩)))) h4⟩
 ·simp only [beq_eq_false_iff_ne.2 k1, beq_eq_false_iff_ne.2 k2, beq_eq_false_iff_ne.2 k3, beq_eq_false_iff_ne.2 k4, beq_eq_false_iff_ne.2 k5, beq_eq_false_iff_ne.2 k6, cond_false, os, Sum.elim_inr]
  refine out _ fun e0 => ?_
  exact ⟨_, rfl, fun h0 => by cases h0⟩
end Go.Proofs.YtijjlpgcpdapnaaGreatDoor.Aev
