import Derived.Test.YtaehpfmnejeddaaGreatDoorKeyRead
import Derived.Test.YtaehpfmnejeddaaGreatDoorF4
import Derived.Test.YtaehpfmnejeddaaGreatDoorKeyRd

/- Escaped texts, and numbers of eight bytes, read again. -/
namespace Go.Proofs.YtaehpfmnejeddaaGreatDoor.Aev
open Go
set_option linter.unusedVariables false
set_option linter.unusedSimpArgs false
set_option maxRecDepth 100000
def escB : List UInt8 → List UInt8
 | [] => [0, 0]
 | c :: s => if c = 0 then 0 :: 255 :: escB s else c :: escB s
theorem escB_eq : ∀ s : List UInt8, (escI s).map b8 = escB s
 | [] => rfl
 | c :: s => by
  have ih := escB_eq s
  unfold escI at ih ⊢
  rw [List.flatMap_cons, List.append_assoc, List.map_append, ih, escB]
  by_cases h : c = 0
  ·subst h; rfl
  ·rw [if_neg h]; unfold escOne; rw [if_neg h]; simp [b8_eta]
theorem plain_esc (r : List UInt8) : ∀ s : List UInt8, plainS (escB s ++ r) = (s, r, 0)
 | [] => by
  show plainS (0 :: 0 :: r) = _
  conv => lhs; rw [plainS]
  simp
 | c :: s => by
  have ih := plain_esc r s
  rw [escB]
  by_cases h : c = 0
  ·subst h
   rw [if_pos rfl, List.cons_append, List.cons_append, plainS_255, ih]; rfl
  ·rw [if_neg h, List.cons_append, plainS_c _ h, ih]; rfl
theorem plain_short : ∀ (s : List UInt8) (j : Nat), j < (escB s).length → (plainS ((escB s).take j)).2.2 = 3
 | [], 0, _ => rfl
 | [], 1, _ => rfl
 | [], j + 2, h => by simp [escB] at h; omega
 | c :: s, j, h => by
  rw [escB] at h ⊢
  by_cases hc : c = 0
  ·subst hc
   rw [if_pos rfl] at h ⊢
   match j, h with
   | 0, _ => rfl
   | 1, _ => rfl
   | j + 2, h =>
    have ih := plain_short s j (by simpa using h)
    rw [List.take_succ_cons, List.take_succ_cons, plainS_255]
    generalize plainS ((escB s).take j) = q at ih
    obtain ⟨x, y, e⟩ := q
    simp only at ih
    subst ih; rfl
  ·rw [if_neg hc] at h ⊢
   match j, h with
   | 0, _ => rfl
   | j + 1, h =>
    have ih := plain_short s j (by simpa using h)
    rw [List.take_succ_cons, plainS_c _ hc]
    generalize plainS ((escB s).take j) = q at ih
    obtain ⟨x, y, e⟩ := q
    simp only at ih
    subst ih; rfl
theorem back_key {n : Nat} (h : n < 18446744073709551616) (hc : canon n = n) : backS (keyU n) = (n, true) := by
 have e : backR (keyU n) = n := by unfold backR keyU; rw [hc]; split <;> split <;> omega
 unfold backS
 rw [e, if_pos hc]
end Go.Proofs.YtaehpfmnejeddaaGreatDoor.Aev

/- Values that may be are read as they were. -/
namespace Go.Proofs.YtaehpfmnejeddaaGreatDoor.Aev
open Go
set_option linter.unusedVariables false
set_option linter.unusedSimpArgs false
set_option maxRecDepth 100000
theorem kread_back {a0 a1 : Int} {n : Nat} {s : List UInt8} (hn : n < 18446744073709551616) (ha : -9223372036854775808 ≤ a1 ∧ a1 ≤ 9223372036854775807) (hc : checkS a0 a1 n (ByteArray.mk (List.toArray s)) = 0) :
  (∀ r, kread ((kputI a0 a1 n s).map b8 ++ r) = (a0, a1, n, s, r, 0)) ∧ ∀ j, j < (kputI a0 a1 n s).length → (kread (((kputI a0 a1 n s).map b8).take j)).2.2.2.2.2 = 3 := by
 have hc' := hc
 obtain ⟨⟨g0, g5⟩, ⟨f1, f2, f3⟩, gb, gc, gl, gv⟩ := check_0.1 hc
 simp only [ba_data] at f3
 have hb : (b8 (a0 % 256)).toNat = a0.toNat := by
  have : a0 % 256 = ((a0.toNat : Nat) : Int) := by omega
  rw [this]; exact b8_nat _ (by omega)
 have hb' : ((b8 (a0 % 256)).toNat : Int) = a0 := by rw [hb]; omega
 have h5 : ¬ 5 < (b8 (a0 % 256)).toNat := by rw [hb]; omega
 have key : ∀ (t : List UInt8) (q : Int × Nat × List UInt8 × List UInt8 × Int), kraw a0 t = q → kread (b8 (a0 % 256) :: t) = kdone a0 q := by
  intro t q e
  simp only [kread]
  rw [if_neg h5, hb', e]
 have done : ∀ r, kdone a0 (a1, n, s, r, 0) = (a0, a1, n, s, r, 0) := by
  intro r
  unfold kdone
  simp only [ne_eq, not_true_eq_false, if_false, hc]
 have short : ∀ t, (kraw a0 t).2.2.2.2 = 3 → (kread (b8 (a0 % 256) :: t)).2.2.2.2.2 = 3 := by
  intro t e
  rw [key t _ rfl]
  unfold kdone
  rw [if_pos (by rw [e]; decide)]
  exact e
 have cases : a0 = 0 ∨ a0 = 1 ∨ a0 = 2 ∨ a0 = 3 ∨ a0 = 4 ∨ a0 = 5 := by omega
 have e255 : ∀ m : Nat, m < 256 → b8 ((m : Int) % 256) = UInt8.ofNat m := by
  intro m hm
  have : (m : Int) % 256 = (m : Int) := by omega
  rw [this]; simp [b8]
 rcases cases with e | e | e | e | e | e
 ·obtain rfl : a1 = 0 := by omega
  obtain rfl : n = 0 := by omega
  obtain rfl : s = [] := by rcases f3 with h | h | h <;> first | exact h | omega
  have eb : kputI a0 0 0 [] = [a0 % 256] := by unfold kputI; simp [e]
  rw [eb]
  refine ⟨fun r => ?_, fun j hj => ?_⟩
  ·rw [List.map_cons, List.map_nil, List.cons_append, List.nil_append, key r _ rfl]
   have : kraw a0 r = (0, 0, [], r, 0) := by unfold kraw; simp [e]
   rw [this]; exact done r
  ·obtain rfl : j = 0 := by simpa using hj
   rfl
 ·obtain rfl : n = 0 := by omega
  obtain rfl : s = [] := by rcases f3 with h | h | h <;> first | exact h | omega
  have ha1 := gb e
  have eb : kputI a0 a1 0 [] = [a0 % 256, a1 % 256] := by unfold kputI; simp [e]
  have hb1 : ((b8 (a1 % 256)).toNat : Int) = a1 := by rcases ha1 with rfl | rfl <;> rfl
  rw [eb]
  refine ⟨fun r => ?_, fun j hj => ?_⟩
  ·rw [List.map_cons, List.map_cons, List.map_nil, List.cons_append, List.cons_append, List.nil_append, key _ _ rfl]
   have : kraw a0 (b8 (a1 % 256) :: r) = (a1, 0, [], r, 0) := by unfold kraw; rw [if_pos e]; simp only [hb1]
   rw [this]; exact done r
  ·have : j = 0 ∨ j = 1 := by simp only [List.length_cons, List.length_nil] at hj; omega
   rcases this with rfl | rfl
   ·rfl
   ·refine short [] ?_
    unfold kraw; rw [if_pos e]
 ·obtain rfl : n = 0 := by omega
  obtain rfl : s = [] := by rcases f3 with h | h | h <;> first | exact h | omega
  have hm : (a1 % 18446744073709551616).toNat < 18446744073709551616 := by omega
  have eb : kputI a0 a1 0 [] = (a0 % 256) :: eightI (turn (a1 % 18446744073709551616).toNat) := by unfold kputI; simp [e]
  have n1 : ¬ a0 = 1 := by omega
  rw [eb]
  refine ⟨fun r => ?_, fun j hj => ?_⟩
  ·rw [List.map_cons, List.cons_append, key _ _ rfl]
   have : kraw a0 ((eightI (turn (a1 % 18446744073709551616).toNat)).map b8 ++ r) = (a1, 0, [], r, 0) := by
    unfold kraw
    rw [if_neg n1, if_pos e, if_neg (by rw [List.length_append, eight_len]; omega), List.take_append_of_le_length (by rw [eight_len]; omega), List.take_of_length_le (by rw [eight_len]; omega), numB_eight (turn_lt hm), turn_turn hm, sgn_back ha.1 ha.2, List.drop_left' (eight_len _)]
   rw [this]; exact done r
  ·cases j with
   | zero => rfl
   | succ j =>
    rw [List.map_cons, List.take_succ_cons]
    refine short _ ?_
    unfold kraw
    rw [if_neg n1, if_pos e, if_pos (by simp only [List.length_cons] at hj; rw [List.length_take, eight_len]; have : (eightI (turn (a1 % 18446744073709551616).toNat)).length = 8 := rfl; omega)]
 ·obtain rfl : a1 = 0 := by omega
  obtain rfl : s = [] := by rcases f3 with h | h | h <;> first | exact h | omega
  have eb : kputI a0 0 n [] = (a0 % 256) :: eightI (keyU n) := by unfold kputI; simp [e]
  have n1 : ¬ a0 = 1 := by omega
  have n2 : ¬ a0 = 2 := by omega
  rw [eb]
  refine ⟨fun r => ?_, fun j hj => ?_⟩
  ·rw [List.map_cons, List.cons_append, key _ _ rfl]
   have : kraw a0 ((eightI (keyU n)).map b8 ++ r) = (0, n, [], r, 0) := by
    unfold kraw
    rw [if_neg n1, if_neg n2, if_pos e, if_neg (by rw [List.length_append, eight_len]; omega), List.take_append_of_le_length (by rw [eight_len]; omega), List.take_of_length_le (by rw [eight_len]; omega), numB_eight (keyU_lt hn), back_key hn gc, List.drop_left' (eight_len _)]
    rfl
   rw [this]; exact done r
  ·cases j with
   | zero => rfl
   | succ j =>
    rw [List.map_cons, List.take_succ_cons]
    refine short _ ?_
    unfold kraw
    rw [if_neg n1, if_neg n2, if_pos e, if_pos (by simp only [List.length_cons] at hj; rw [List.length_take, eight_len]; have : (eightI (keyU n)).length = 8 := rfl; omega)]
 all_goals
  obtain rfl : a1 = 0 := by omega
  obtain rfl : n = 0 := by omega
  have n1 : ¬ a0 = 1 := by omega
  have n2 : ¬ a0 = 2 := by omega
  have n3 : ¬ a0 = 3 := by omega
  have n4 : a0 = 4 ∨ a0 = 5 := by omega
  have eb : kputI a0 0 0 s = (a0 % 256) :: escI s := by unfold kputI; rw [if_neg n1, if_neg n2, if_neg n3, if_pos n4]
  rw [eb]
  refine ⟨fun r => ?_, fun j hj => ?_⟩
  ·rw [List.map_cons, List.cons_append, key _ _ rfl, escB_eq]
   have : kraw a0 (escB s ++ r) = (0, 0, s, r, 0) := by
    unfold kraw
    rw [if_neg n1, if_neg n2, if_neg n3, if_pos n4, plain_esc]
   rw [this]; exact done r
  ·cases j with
   | zero => rfl
   | succ j =>
    rw [List.map_cons, List.take_succ_cons, escB_eq]
    refine short _ ?_
    unfold kraw
    rw [if_neg n1, if_neg n2, if_neg n3, if_pos n4]
    refine plain_short s j ?_
    rw [← escB_eq, List.length_map]
    simpa using hj
end Go.Proofs.YtaehpfmnejeddaaGreatDoor.Aev
