/- KeycodeBack: values that may be are read as they were, whatever is behind; a beginning of a value's bytes is short. For every input; no conditions. -/
import Derived.Test.YtpcojbnoadnknaaF3
import Derived.Test.YtpcojbnoadnknaaF11
import Derived.Test.YtpcojbnoadnknaaF12
import Derived.Test.YtpcojbnoadnknaaKeyRd
import Derived.Test.YtpcojbnoadnknaaSameRow
namespace Go.Proofs.Ytpcojbnoadnknaa.Aev
open Go
set_option linter.unusedVariables false
set_option linter.unusedSimpArgs false
set_option maxRecDepth 100000
def escB : List UInt8 → List UInt8
  | [] => [0, 0]
  | c :: s => if c = 0 then 0 :: 255 :: escB s else c :: escB s
theorem escB_eq : ∀ s : List UInt8, (escI s).map b8 = escB s
  | [] => rfl
  | c :: s => by
    have ih := escB_eq s
    unfold escI at ih ⊢
    rw [List.flatMap_cons, List.append_assoc, List.map_append, ih, escB]
    by_cases h : c = 0
    · subst h; rfl
    · rw [if_neg h]; unfold escOne; rw [if_neg h]; simp [b8_eta]
theorem plain_esc (r : List UInt8) : ∀ s : List UInt8, plainS (escB s ++ r) = (s, r, 0)
  | [] => by
    show plainS (0 :: 0 :: r) = _
    conv => lhs; rw [plainS]
    simp
  | c :: s => by
    have ih := plain_esc r s
    rw [escB]
    by_cases h : c = 0
    · subst h
      rw [if_pos rfl, List.cons_append, List.cons_append, plainS_255, ih]; rfl
    · rw [if_neg h, List.cons_append, plainS_c _ h, ih]; rfl
theorem plain_short : ∀ (s : List UInt8) (j : Nat), j < (escB s).length → (plainS ((escB s).take j)).2.2 = 3
  | [], 0, _ => rfl
  | [], 1, _ => rfl
  | [], j + 2, h => by simp [escB] at h; omega
  | c :: s, j, h => by
    rw [escB] at h ⊢
    by_cases hc : c = 0
    · subst hc
      rw [if_pos rfl] at h ⊢
      match j, h with
      | 0, _ => rfl
      | 1, _ => rfl
      | j + 2, h =>
        have ih := plain_short s j (by simpa using h)
        rw [List.take_succ_cons, List.take_succ_cons, plainS_255]
        generalize plainS ((escB s).take j) = q at ih
        obtain ⟨x, y, e⟩ := q
        simp only at ih
        subst ih; rfl
    · rw [if_neg hc] at h ⊢
      match j, h with
      | 0, _ => rfl
      | j + 1, h =>
        have ih := plain_short s j (by simpa using h)
        rw [List.take_succ_cons, plainS_c _ hc]
        generalize plainS ((escB s).take j) = q at ih
        obtain ⟨x, y, e⟩ := q
        simp only at ih
        subst ih; rfl
theorem b8_byteAt (m i : Nat) : (b8 (byteAt m i)).toNat = m / 2 ^ i % 256 := by
  unfold byteAt; exact b8_nat _ (Nat.mod_lt _ (by omega))
theorem numB_eight {m : Nat} (h : m < 18446744073709551616) : numB ((eightI m).map b8) = m := by
  simp only [eightI, numB, List.map_cons, List.map_nil, List.foldl_cons, List.foldl_nil, b8_byteAt]
  have a7 := byte_div m 56
  have a6 := byte_div m 48
  have a5 := byte_div m 40
  have a4 := byte_div m 32
  have a3 := byte_div m 24
  have a2 := byte_div m 16
  have a1 := byte_div m 8
  have a0 := byte_div m 0
  simp only [Nat.reduceAdd] at *
  have a8 : m / 2 ^ 64 = 0 := Nat.div_eq_of_lt (by omega)
  have c0 : m / 2 ^ 0 = m := by simp
  omega
theorem eight_len (m : Nat) : ((eightI m).map b8).length = 8 := rfl
theorem back_key {n : Nat} (h : n < 18446744073709551616) (hc : canon n = n) : backS (keyU n) = (n, true) := by
  have e : backR (keyU n) = n := by unfold backR keyU; rw [hc]; split <;> split <;> omega
  unfold backS
  rw [e, if_pos hc]
/-- a value that may be, as bytes: read as it was; a beginning is short -/
theorem kread_back {a0 a1 : Int} {n : Nat} {s : List UInt8} (hn : n < 18446744073709551616) (ha : -9223372036854775808 ≤ a1 ∧ a1 ≤ 9223372036854775807) (hc : checkS a0 a1 n (ByteArray.mk (List.toArray s)) = 0) :
    (∀ r, kread ((kputI a0 a1 n s).map b8 ++ r) = (a0, a1, n, s, r, 0)) ∧ ∀ j, j < (kputI a0 a1 n s).length → (kread (((kputI a0 a1 n s).map b8).take j)).2.2.2.2.2 = 3 := by
  have hc' := hc
  obtain ⟨⟨g0, g5⟩, ⟨f1, f2, f3⟩, gb, gc, gl, gv⟩ := check_0.1 hc
  simp only [ba_data] at f3
  have hb : (b8 (a0 % 256)).toNat = a0.toNat := by
    have : a0 % 256 = ((a0.toNat : Nat) : Int) := by omega
    rw [this]; exact b8_nat _ (by omega)
  have hb' : ((b8 (a0 % 256)).toNat : Int) = a0 := by rw [hb]; omega
  have h5 : ¬ 5 < (b8 (a0 % 256)).toNat := by rw [hb]; omega
  have key : ∀ (t : List UInt8) (q : Int × Nat × List UInt8 × List UInt8 × Int), kraw a0 t = q → kread (b8 (a0 % 256) :: t) = kdone a0 q := by
    intro t q e
    simp only [kread]
    rw [if_neg h5, hb', e]
  have done : ∀ r, kdone a0 (a1, n, s, r, 0) = (a0, a1, n, s, r, 0) := by
    intro r
    unfold kdone
    simp only [ne_eq, not_true_eq_false, if_false, hc]
  have short : ∀ t, (kraw a0 t).2.2.2.2 = 3 → (kread (b8 (a0 % 256) :: t)).2.2.2.2.2 = 3 := by
    intro t e
    rw [key t _ rfl]
    unfold kdone
    rw [if_pos (by rw [e]; decide)]
    exact e
  have cases : a0 = 0 ∨ a0 = 1 ∨ a0 = 2 ∨ a0 = 3 ∨ a0 = 4 ∨ a0 = 5 := by omega
  have e255 : ∀ m : Nat, m < 256 → b8 ((m : Int) % 256) = UInt8.ofNat m := by
    intro m hm
    have : (m : Int) % 256 = (m : Int) := by omega
    rw [this]; simp [b8]
  rcases cases with e | e | e | e | e | e
  · obtain rfl : a1 = 0 := by omega
    obtain rfl : n = 0 := by omega
    obtain rfl : s = [] := by rcases f3 with h | h | h <;> first | exact h | omega
    have eb : kputI a0 0 0 [] = [a0 % 256] := by unfold kputI; simp [e]
    rw [eb]
    refine ⟨fun r => ?_, fun j hj => ?_⟩
    · rw [List.map_cons, List.map_nil, List.cons_append, List.nil_append, key r _ rfl]
      have : kraw a0 r = (0, 0, [], r, 0) := by unfold kraw; simp [e]
      rw [this]; exact done r
    · obtain rfl : j = 0 := by simpa using hj
      rfl
  · obtain rfl : n = 0 := by omega
    obtain rfl : s = [] := by rcases f3 with h | h | h <;> first | exact h | omega
    have ha1 := gb e
    have eb : kputI a0 a1 0 [] = [a0 % 256, a1 % 256] := by unfold kputI; simp [e]
    have hb1 : ((b8 (a1 % 256)).toNat : Int) = a1 := by rcases ha1 with rfl | rfl <;> rfl
    rw [eb]
    refine ⟨fun r => ?_, fun j hj => ?_⟩
    · rw [List.map_cons, List.map_cons, List.map_nil, List.cons_append, List.cons_append, List.nil_append, key _ _ rfl]
      have : kraw a0 (b8 (a1 % 256) :: r) = (a1, 0, [], r, 0) := by unfold kraw; rw [if_pos e]; simp only [hb1]
      rw [this]; exact done r
    · have : j = 0 ∨ j = 1 := by simp only [List.length_cons, List.length_nil] at hj; omega
      rcases this with rfl | rfl
      · rfl
      · refine short [] ?_
        unfold kraw; rw [if_pos e]
  · obtain rfl : n = 0 := by omega
    obtain rfl : s = [] := by rcases f3 with h | h | h <;> first | exact h | omega
    have hm : (a1 % 18446744073709551616).toNat < 18446744073709551616 := by omega
    have eb : kputI a0 a1 0 [] = (a0 % 256) :: eightI (turn (a1 % 18446744073709551616).toNat) := by unfold kputI; simp [e]
    have n1 : ¬ a0 = 1 := by omega
    rw [eb]
    refine ⟨fun r => ?_, fun j hj => ?_⟩
    · rw [List.map_cons, List.cons_append, key _ _ rfl]
      have : kraw a0 ((eightI (turn (a1 % 18446744073709551616).toNat)).map b8 ++ r) = (a1, 0, [], r, 0) := by
        unfold kraw
        rw [if_neg n1, if_pos e, if_neg (by rw [List.length_append, eight_len]; omega), List.take_append_of_le_length (by rw [eight_len]; omega), List.take_of_length_le (by rw [eight_len]; omega), numB_eight (turn_lt hm), turn_turn hm, sgn_back ha.1 ha.2, List.drop_left' (eight_len _)]
      rw [this]; exact done r
    · cases j with
      | zero => rfl
      | succ j =>
        rw [List.map_cons, List.take_succ_cons]
        refine short _ ?_
        unfold kraw
        rw [if_neg n1, if_pos e, if_pos (by simp only [List.length_cons] at hj; rw [List.length_take, eight_len]; have : (eightI (turn (a1 % 18446744073709551616).toNat)).length = 8 := rfl; omega)]
  · obtain rfl : a1 = 0 := by omega
    obtain rfl : s = [] := by rcases f3 with h | h | h <;> first | exact h | omega
    have eb : kputI a0 0 n [] = (a0 % 256) :: eightI (keyU n) := by unfold kputI; simp [e]
    have n1 : ¬ a0 = 1 := by omega
    have n2 : ¬ a0 = 2 := by omega
    rw [eb]
    refine ⟨fun r => ?_, fun j hj => ?_⟩
    · rw [List.map_cons, List.cons_append, key _ _ rfl]
      have : kraw a0 ((eightI (keyU n)).map b8 ++ r) = (0, n, [], r, 0) := by
        unfold kraw
        rw [if_neg n1, if_neg n2, if_pos e, if_neg (by rw [List.length_append, eight_len]; omega), List.take_append_of_le_length (by rw [eight_len]; omega), List.take_of_length_le (by rw [eight_len]; omega), numB_eight (keyU_lt hn), back_key hn gc, List.drop_left' (eight_len _)]
        rfl
      rw [this]; exact done r
    · cases j with
      | zero => rfl
      | succ j =>
        rw [List.map_cons, List.take_succ_cons]
        refine short _ ?_
        unfold kraw
        rw [if_neg n1, if_neg n2, if_pos e, if_pos (by simp only [List.length_cons] at hj; rw [List.length_take, eight_len]; have : (eightI (keyU n)).length = 8 := rfl; omega)]
  all_goals
    obtain rfl : a1 = 0 := by omega
    obtain rfl : n = 0 := by omega
    have n1 : ¬ a0 = 1 := by omega
    have n2 : ¬ a0 = 2 := by omega
    have n3 : ¬ a0 = 3 := by omega
    have n4 : a0 = 4 ∨ a0 = 5 := by omega
    have eb : kputI a0 0 0 s = (a0 % 256) :: escI s := by unfold kputI; rw [if_neg n1, if_neg n2, if_neg n3, if_pos n4]
    rw [eb]
    refine ⟨fun r => ?_, fun j hj => ?_⟩
    · rw [List.map_cons, List.cons_append, key _ _ rfl, escB_eq]
      have : kraw a0 (escB s ++ r) = (0, 0, s, r, 0) := by
        unfold kraw
        rw [if_neg n1, if_neg n2, if_neg n3, if_pos n4, plain_esc]
      rw [this]; exact done r
    · cases j with
      | zero => rfl
      | succ j =>
        rw [List.map_cons, List.take_succ_cons, escB_eq]
        refine short _ ?_
        unfold kraw
        rw [if_neg n1, if_neg n2, if_neg n3, if_pos n4]
        refine plain_short s j ?_
        rw [← escB_eq, List.length_map]
        simpa using hj
theorem awake_all (k : Nat) : transomlaw05_awake.f (k + 60) = some true := by kernel_rfl
theorem awake_ok {k : Nat} (h : 60 ≤ k) : transomlaw05_awake.f k = some true := by
  obtain ⟨j, rfl⟩ : ∃ j, k = j + 60 := ⟨k - 60, by omega⟩
  exact awake_all j
theorem few04' (a0 a1 a2 : Int) (s : List UInt8) (k : Nat) : transomlaw04_Few.f k a0 a1 a2 (ByteArray.mk (List.toArray s)) = some (if s.length ≤ 2000 then 1 else 0) := few04 a0 a1 a2 _ k
theorem back_s5 (l : List UInt8) (hl : l.length ≤ 10000) (h : ∀ j, j < l.length → (kread (l.take j)).2.2.2.2.2 = 3) : ∀ (m i : Nat), i + m = l.length → ∀ k, m + 30000 < k → transomlaw05_KeycodeBack.s5 k (ByteArray.mk (List.toArray l)) (i : Int) = some true := by
  intro m
  induction m with
  | zero =>
    intro i hi k hk
    obtain ⟨k, rfl⟩ : ∃ j, k = j + 1 := ⟨k - 1, by omega⟩
    have e : ¬ (i : Int) < (l.length : Int) := by omega
    simp only [transomlaw05_KeycodeBack.s5, transomlaw05_KeycodeBack.s5c, ba_size, e, decide_false, cond_false, awake_ok (show 60 ≤ k by omega), Option.bind_some]
  | succ m ih =>
    intro i hi k hk
    obtain ⟨k, rfl⟩ : ∃ j, k = j + 1 := ⟨k - 1, by omega⟩
    have e0 : (i : Int) < (l.length : Int) := by omega
    have e1 : (0 : Int) ≤ (i : Int) := by omega
    have e2 : (i : Int) ≤ (l.length : Int) := by omega
    have e3 : IntKind.wrap IntKind.i64 ((i : Int) + 1) = ((i + 1 : Nat) : Int) := by rw [i64w (by omega) (by omega)]; omega
    have r := kread_eq (l.take i) (by simp; omega) k (by simp; omega)
    have hi3 := h i (by omega)
    simp only [transomlaw05_KeycodeBack.s5, transomlaw05_KeycodeBack.s5c, ba_size, e0, e1, e2, e3, ba_take, Int.toNat_natCast (n := i), r, kenc, hi3, decide_true, Bool.and_self, cond_true, Option.bind_some, Option.bind_fun_some, bne_self_eq_false, cond_false]
    exact ih (i + 1) (by omega) k (by omega)
theorem Pure.KeycodeBack (x0 : Int × Int × Int × ByteArray × Unit) (x1 : ByteArray) (h0 : Fit (.pair (.int .i64) (.pair (.int .i64) (.pair (.int .u64) (.pair .str .unit)))) x0) (h1 : Fit .str x1) : ∃ k, transomlaw05_KeycodeBack.f k x0.1 x0.2.1 x0.2.2.1 x0.2.2.2.1 x1 = some true := by
  obtain ⟨a0, a1, a2, a3, ⟨⟩⟩ := x0
  obtain ⟨f0, f1, f2, f3, _⟩ := h0
  obtain ⟨n, rfl, hn⟩ := nat_of_u64 f2
  have ha := fit_i64 f1
  rw [ba_of a3, ba_of x1]
  generalize a3.data.toList = s
  generalize x1.data.toList = r
  refine ⟨50004, ?_⟩
  obtain ⟨k, hk, e⟩ : ∃ k, 50000 ≤ k ∧ 50004 = k + 4 := ⟨50000, Nat.le_refl _, rfl⟩
  rw [e]
  clear e
  have aw := awake_ok (show 60 ≤ k + 3 by omega)
  have aw2 := awake_ok (show 60 ≤ k + 2 by omega)
  simp only [transomlaw05_KeycodeBack.f, transomlaw05_KeycodeBack.c, few04', Option.bind_some, Option.bind_fun_some, ba_size]
  have dull : transomlaw05_KeycodeBack.s0 (k + 4) (ByteArray.mk (List.toArray r)) true a0 a1 (n : Int) (ByteArray.mk (List.toArray s)) = some true := by
    simp only [transomlaw05_KeycodeBack.s0, transomlaw05_KeycodeBack.s0c, cond_true, aw, Option.bind_some]
  by_cases hs : s.length ≤ 2000
  · rw [if_pos hs]
    by_cases hr : r.length ≤ 2000
    · have er : ¬ (r.length : Int) > 2000 := by omega
      simp only [er, decide_false, show ((1 : Int) == 0) = false from rfl, cond_false]
      obtain ⟨b, hb1, hb2⟩ := kPut_eq a0 a1 n hn (ByteArray.mk (List.toArray s)) (by rw [ba_size]; omega) (k + 2) (by omega)
      rw [ba_data] at hb2
      obtain rfl : b = ByteArray.mk (List.toArray (if checkS a0 a1 n (ByteArray.mk (List.toArray s)) = 0 then (kputI a0 a1 n s).map b8 else [])) := ba_ext hb2
      simp only [transomlaw05_KeycodeBack.s0, transomlaw05_KeycodeBack.s0c, transomlaw05_KeycodeBack.s1, transomlaw05_KeycodeBack.s1c, cond_false, hb1, Option.bind_some, Option.bind_fun_some]
      by_cases hc : checkS a0 a1 n (ByteArray.mk (List.toArray s)) = 0
      · obtain ⟨q1, q2⟩ := kread_back hn ha hc
        have hlen := kput_len a0 a1 n s
        have hl2 : ((kputI a0 a1 n s).map b8).length ≤ 5000 := by rw [List.length_map]; omega
        have g1 : ((kputI a0 a1 n s).map b8).length ≤ 4611686018427387903 := by omega
        have g2 : r.length ≤ 4611686018427387903 := by omega
        have rd := kread_eq ((kputI a0 a1 n s).map b8 ++ r) (by rw [List.length_append]; omega) (k + 2) (by rw [List.length_append]; omega)
        rw [q1 r] at rd
        have s5 := back_s5 ((kputI a0 a1 n s).map b8) (by omega) (fun j hj => q2 j (by simpa using hj)) ((kputI a0 a1 n s).map b8).length 0 (by omega) k (by omega)
        have s5' : transomlaw05_KeycodeBack.s5 k (ByteArray.mk (List.toArray ((kputI a0 a1 n s).map b8))) 0 = some true := s5
        simp only [hc, if_true, bne_self_eq_false, cond_false, ba_size, g1, g2, decide_true, Bool.and_self, cond_true, ba_append, rd, kenc, same_eq, and_self, Option.bind_some, Bool.not_true, beq_self_eq_true, Option.bind_fun_some, transomlaw05_KeycodeBack.s3, transomlaw05_KeycodeBack.s3c, transomlaw05_KeycodeBack.s4, transomlaw05_KeycodeBack.s4c, s5']
      · have hb : (checkS a0 a1 n (ByteArray.mk (List.toArray s)) != 0) = true := by rw [bne_iff_ne]; exact hc
        simp only [hc, if_false, hb, cond_true, beq_self_eq_true, aw2, Option.bind_some, transomlaw05_KeycodeBack.s2, transomlaw05_KeycodeBack.s2c]
    · have er : (r.length : Int) > 2000 := by omega
      simp only [er, decide_true, show ((1 : Int) == 0) = false from rfl, cond_false, dull]
  · rw [if_neg hs]
    simp only [beq_self_eq_true, cond_true, dull]
end Go.Proofs.Ytpcojbnoadnknaa.Aev
