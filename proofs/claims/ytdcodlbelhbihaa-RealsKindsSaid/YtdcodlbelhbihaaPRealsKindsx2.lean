-- By a program of this session (a print over functions that are proved by hand), for this claim.
import Derived.Test.YtdcodlbelhbihaaPRealsKindsx0
import Derived.Test.YtdcodlbelhbihaaPRealsKindsx1
namespace Go.Proofs.Ytdcodlbelhbihaa.PRealsKinds
open Go.RowKit Go.Proofs.YtdcodlbelhbihaaW.PrintWords Go.Proofs.YtdcodlbelhbihaaW.PrintLast Go.Proofs.YtdcodlbelhbihaaW.PrintMore
attribute [local go_sem] max2_int min2_int max_two min_two max_three min_three max_four min_four   -- for this text's walks alone
set_option linter.unusedVariables false
set_option linter.unusedSimpArgs false

/-! ### reals_Back: function 19 -/
def reals_Back.eight (b : Int) : Value := .agg #[.int .u8 (b / 72057594037927936), .int .u8 (b / 281474976710656 % 256), .int .u8 (b / 1099511627776 % 256), .int .u8 (b / 4294967296 % 256), .int .u8 (b / 16777216 % 256), .int .u8 (b / 65536 % 256), .int .u8 (b / 256 % 256), .int .u8 (b % 256)]
theorem reals_Back.bytes (b : Int) (h0 : 0 ≤ b) (h1 : b ≤ 18446744073709551615) (w : World) :
    Calls Try.prog 31 #[.int .u64 b] w fun e w' => e = .returned (reals_Back.eight b) ∧ Below w.heap.size w w' := by
  go_enter Try.func31, Try.ntmps31
  go_wp2
  refine wp_loop_rounds 9 ?_
  iterate 9 (rw [rounds_succ]; go_wp2)
  exact bodyPost_ret (v := reals_Back.eight b) (by simp [results, Try.results31, go_sem, reals_Back.eight]) rfl ⟨rfl, ((Below.refl _ _).alloc (Nat.le_refl _) _).alloc (by simp) _⟩
theorem reals_Back.forIn_all {P : Program} (W : World) (b : Nat → Sem (ForInStep (Option Bool × Unit))) (r : Nat → Bool) : ∀ l : List Nat, (∀ i ∈ l, (b i).run P W = .ok (if r i = true then ForInStep.yield (none, ()) else ForInStep.done (some false, ())) W) →
    (forIn l ((none, ()) : Option Bool × Unit) (fun i _ => b i)).run P W = .ok (if l.all r = true then (none, ()) else (some false, ())) W := by
  intro l
  induction l with
  | nil => intro h; rfl
  | cons i l ih =>
    intro h
    have h1 := h i (by simp)
    have h2 := ih (fun j hj => h j (by simp [hj]))
    rw [List.forIn_cons, Sem.run_bind, h1, Result.andThen_ok]
    cases hr : r i
    · simp [hr, Sem.run_pure]
    · simp only [if_true]
      rw [h2]
      simp [hr]
theorem reals_Back.apart {x y : Int} (hx0 : 0 ≤ x) (hx : x ≤ 18446744073709551615) (hy0 : 0 ≤ y) (hy : y ≤ 18446744073709551615) (w : World) :
    (binOp .neq 43 (reals_Back.eight x) (reals_Back.eight y)).run Try.prog w = .ok (.bool (decide (x ≠ y))) w := by
  unfold reals_Back.eight
  have h : ∀ (a0 a1 a2 a3 a4 a5 a6 a7 b0 b1 b2 b3 b4 b5 b6 b7 : Int), (Op.equalIn Op.maxDepth 43 (.agg #[.int .u8 a0, .int .u8 a1, .int .u8 a2, .int .u8 a3, .int .u8 a4, .int .u8 a5, .int .u8 a6, .int .u8 a7]) (.agg #[.int .u8 b0, .int .u8 b1, .int .u8 b2, .int .u8 b3, .int .u8 b4, .int .u8 b5, .int .u8 b6, .int .u8 b7])).run Try.prog w = .ok (a0 == b0 && (a1 == b1 && (a2 == b2 && (a3 == b3 && (a4 == b4 && (a5 == b5 && (a6 == b6 && a7 == b7))))))) w := by
    intro a0 a1 a2 a3 a4 a5 a6 a7 b0 b1 b2 b3 b4 b5 b6 b7
    have he : ∀ (d : Nat) (a b : Int) (W : World), (Op.equalIn (d + 1) 5 (.int .u8 a) (.int .u8 b)).run Try.prog W = .ok (a == b) W := by
      intro d a b W
      simp only [Op.equalIn, Sem.run_bind, run_underlying Try.underlying5, Result.andThen_ok, if_true]
      go_simp
    rw [show Op.maxDepth = 9998 + 1 + 1 from rfl]
    generalize 9998 = d
    rw [Op.equalIn]
    simp only [Sem.run_bind, run_underlying Try.underlying43, Result.andThen_ok]
    have hs : ∀ W, (sizeOf 5).run Try.prog W = .ok 1 W := fun W => by go_simp
    have hp0 : ∀ (c0 c1 c2 c3 c4 c5 c6 c7 : Value) (W : World), (part 5 #[c0, c1, c2, c3, c4, c5, c6, c7] 0).run Try.prog W = .ok c0 W := fun c0 c1 c2 c3 c4 c5 c6 c7 W => by go_simp
    have hp1 : ∀ (c0 c1 c2 c3 c4 c5 c6 c7 : Value) (W : World), (part 5 #[c0, c1, c2, c3, c4, c5, c6, c7] 1).run Try.prog W = .ok c1 W := fun c0 c1 c2 c3 c4 c5 c6 c7 W => by go_simp
    have hp2 : ∀ (c0 c1 c2 c3 c4 c5 c6 c7 : Value) (W : World), (part 5 #[c0, c1, c2, c3, c4, c5, c6, c7] 2).run Try.prog W = .ok c2 W := fun c0 c1 c2 c3 c4 c5 c6 c7 W => by go_simp
    have hp3 : ∀ (c0 c1 c2 c3 c4 c5 c6 c7 : Value) (W : World), (part 5 #[c0, c1, c2, c3, c4, c5, c6, c7] 3).run Try.prog W = .ok c3 W := fun c0 c1 c2 c3 c4 c5 c6 c7 W => by go_simp
    have hp4 : ∀ (c0 c1 c2 c3 c4 c5 c6 c7 : Value) (W : World), (part 5 #[c0, c1, c2, c3, c4, c5, c6, c7] 4).run Try.prog W = .ok c4 W := fun c0 c1 c2 c3 c4 c5 c6 c7 W => by go_simp
    have hp5 : ∀ (c0 c1 c2 c3 c4 c5 c6 c7 : Value) (W : World), (part 5 #[c0, c1, c2, c3, c4, c5, c6, c7] 5).run Try.prog W = .ok c5 W := fun c0 c1 c2 c3 c4 c5 c6 c7 W => by go_simp
    have hp6 : ∀ (c0 c1 c2 c3 c4 c5 c6 c7 : Value) (W : World), (part 5 #[c0, c1, c2, c3, c4, c5, c6, c7] 6).run Try.prog W = .ok c6 W := fun c0 c1 c2 c3 c4 c5 c6 c7 W => by go_simp
    have hp7 : ∀ (c0 c1 c2 c3 c4 c5 c6 c7 : Value) (W : World), (part 5 #[c0, c1, c2, c3, c4, c5, c6, c7] 7).run Try.prog W = .ok c7 W := fun c0 c1 c2 c3 c4 c5 c6 c7 W => by go_simp
    simp only [Std.Legacy.Range.forIn_eq_forIn_range', hs, Result.andThen_ok, Nat.mul_one]
    rw [show List.range' 0 ([:8] : Std.Legacy.Range).size = [0, 1, 2, 3, 4, 5, 6, 7] from rfl]
    rw [reals_Back.forIn_all w _ (fun i => [a0 == b0, a1 == b1, a2 == b2, a3 == b3, a4 == b4, a5 == b5, a6 == b6, a7 == b7].getD i true) [0, 1, 2, 3, 4, 5, 6, 7] ?_, Result.andThen_ok]
    · simp only [List.all_cons, List.all_nil, List.getD_cons_zero, List.getD_cons_succ, Bool.and_true]
      generalize (a0 == b0 && (a1 == b1 && (a2 == b2 && (a3 == b3 && (a4 == b4 && (a5 == b5 && (a6 == b6 && a7 == b7))))))) = r
      cases r <;> rfl
    · intro i hi
      simp only [List.mem_cons, List.not_mem_nil, or_false] at hi
      rcases hi with rfl | rfl | rfl | rfl | rfl | rfl | rfl | rfl
      all_goals
        simp only [Sem.run_bind, hp0, hp1, hp2, hp3, hp4, hp5, hp6, hp7, he, Result.andThen_ok, List.getD_cons_zero, List.getD_cons_succ]
        split
        · rename_i hq
          rw [if_neg (by simpa using hq)]; rfl
        · rename_i hq
          rw [if_pos (by simpa using hq)]; rfl
  have e : (binOp .neq 43 (.agg #[.int .u8 (x / 72057594037927936), .int .u8 (x / 281474976710656 % 256), .int .u8 (x / 1099511627776 % 256), .int .u8 (x / 4294967296 % 256), .int .u8 (x / 16777216 % 256), .int .u8 (x / 65536 % 256), .int .u8 (x / 256 % 256), .int .u8 (x % 256)]) (.agg #[.int .u8 (y / 72057594037927936), .int .u8 (y / 281474976710656 % 256), .int .u8 (y / 1099511627776 % 256), .int .u8 (y / 4294967296 % 256), .int .u8 (y / 16777216 % 256), .int .u8 (y / 65536 % 256), .int .u8 (y / 256 % 256), .int .u8 (y % 256)])) = (do pure (.bool (!(← Op.equal 43 (.agg #[.int .u8 (x / 72057594037927936), .int .u8 (x / 281474976710656 % 256), .int .u8 (x / 1099511627776 % 256), .int .u8 (x / 4294967296 % 256), .int .u8 (x / 16777216 % 256), .int .u8 (x / 65536 % 256), .int .u8 (x / 256 % 256), .int .u8 (x % 256)]) (.agg #[.int .u8 (y / 72057594037927936), .int .u8 (y / 281474976710656 % 256), .int .u8 (y / 1099511627776 % 256), .int .u8 (y / 4294967296 % 256), .int .u8 (y / 16777216 % 256), .int .u8 (y / 65536 % 256), .int .u8 (y / 256 % 256), .int .u8 (y % 256)])))) : Sem Value) := rfl
  rw [e, Sem.run_bind]
  unfold Op.equal
  rw [h, Result.andThen_ok, Sem.run_pure]
  congr 2
  by_cases c : x = y
  · subst c; simp
  · rw [decide_eq_true c]
    simp only [Bool.not_eq_true', Bool.and_eq_false_iff, beq_eq_false_iff_ne]
    omega
def reals_Back.b (k : Int) : Int := if 9223372036854775808 ≤ k then k - 9223372036854775808 else 18446744073709551615 - k
def reals_Back.f (k : Int) : Option (Int × Bool) :=
  if 0 ≤ k ∧ k < 18446744073709551616 then some (if Fl.inf < Fl.rung (reals_Back.b k).toNat ∧ reals_Back.b k ≠ 9221120237041090560 then (0, false) else (reals_Back.b k, true)) else none
theorem reals_Back.guard (x y : Int) (p q : Operand) (W : World) : (eqGuard .neq 43 p q (reals_Back.eight x) (reals_Back.eight y)).run Try.prog W = .ok () W := by
  have h : Try.prog.eqGuardType Try.prog.depth 43 = false := by kernel_rfl
  unfold eqGuard reals_Back.eight
  simp [h]
theorem reals_Back.walk (k b c : Int) (hi : Bool) (hb0 : 0 ≤ b) (hb1 : b ≤ 18446744073709551615) (hc0 : 0 ≤ c) (hc1 : c ≤ 18446744073709551615)
    (hcan : reals_Canon.f b = some c) (h1 : (Go.bits .and .u64 k 9223372036854775808 == 0) = !hi) (h2 : hi = true → Go.bits .andNot .u64 k 9223372036854775808 = b) (h3 : hi = false → Go.bits .xor .u64 IntKind.u64.max k = b) (w : World) :
    Calls Try.prog 19 #[.int .u64 k] w fun e w' => e = .returned (.tuple #[.int .u64 (if c = b then b else 0), .bool (decide (c = b))]) ∧ Below w.heap.size w w' := by
  have hsg : IntKind.u64.signed = false := rfl
  have hap := reals_Back.apart hc0 hc1 hb0 hb1
  have hgu := reals_Back.guard c b
  have hby := reals_Back.bytes c hc0 hc1
  have hbz := reals_Back.bytes b hb0 hb1
  have hcc := fun w => reals_Canon.calls b c w hcan
  clear hcan hb0 hb1 hc0 hc1
  by_cases hcb : c = b
  · rw [if_pos hcb, decide_eq_true hcb]
    have hd : decide (c ≠ b) = false := decide_eq_false (fun h => h hcb)
    rw [hd] at hap
    clear hcb hd
    cases hi
    · have h4 := h3 rfl
      clear h2 h3
      go_enter Try.func19, Try.ntmps19
      go_wp2_with (go_at_call 18; ((with_reducible refine (hcc _).mono ?_); rintro e w' ⟨rfl, ⟨m, rfl⟩⟩))
      with_reducible refine (hby _).mono ?_
      rintro e w1 ⟨rfl, hb1⟩
      go_wp2_with (fail)
      with_reducible refine (hbz _).mono ?_
      rintro e w2 ⟨rfl, hb2⟩
      go_wp2_with (fail)
      go_ret2
      exact ⟨rfl, below_step (below_step (pw_below_drewN (Below.refl _ _) _) hb1) hb2⟩
    · have h4 := h2 rfl
      clear h2 h3
      go_enter Try.func19, Try.ntmps19
      go_wp2_with (go_at_call 18; ((with_reducible refine (hcc _).mono ?_); rintro e w' ⟨rfl, ⟨m, rfl⟩⟩))
      with_reducible refine (hby _).mono ?_
      rintro e w1 ⟨rfl, hb1⟩
      go_wp2_with (fail)
      with_reducible refine (hbz _).mono ?_
      rintro e w2 ⟨rfl, hb2⟩
      go_wp2_with (fail)
      go_ret2
      exact ⟨rfl, below_step (below_step (pw_below_drewN (Below.refl _ _) _) hb1) hb2⟩
  · rw [if_neg hcb, decide_eq_false hcb]
    have hd : decide (c ≠ b) = true := decide_eq_true hcb
    rw [hd] at hap
    clear hcb hd
    cases hi
    · have h4 := h3 rfl
      clear h2 h3
      go_enter Try.func19, Try.ntmps19
      go_wp2_with (go_at_call 18; ((with_reducible refine (hcc _).mono ?_); rintro e w' ⟨rfl, ⟨m, rfl⟩⟩))
      with_reducible refine (hby _).mono ?_
      rintro e w1 ⟨rfl, hb1⟩
      go_wp2_with (fail)
      with_reducible refine (hbz _).mono ?_
      rintro e w2 ⟨rfl, hb2⟩
      go_wp2_with (fail)
      go_ret2
      exact ⟨rfl, below_step (below_step (pw_below_drewN (Below.refl _ _) _) hb1) hb2⟩
    · have h4 := h2 rfl
      clear h2 h3
      go_enter Try.func19, Try.ntmps19
      go_wp2_with (go_at_call 18; ((with_reducible refine (hcc _).mono ?_); rintro e w' ⟨rfl, ⟨m, rfl⟩⟩))
      with_reducible refine (hby _).mono ?_
      rintro e w1 ⟨rfl, hb1⟩
      go_wp2_with (fail)
      with_reducible refine (hbz _).mono ?_
      rintro e w2 ⟨rfl, hb2⟩
      go_wp2_with (fail)
      go_ret2
      exact ⟨rfl, below_step (below_step (pw_below_drewN (Below.refl _ _) _) hb1) hb2⟩
theorem reals_Back.and_top {n : Nat} (h : n < 18446744073709551616) : Go.bits .and .u64 (n : Int) 9223372036854775808 = if n < 9223372036854775808 then 0 else 9223372036854775808 := by
  have h1 := Go.u64_and_nat n 9223372036854775808 h (by omega)
  have h2 : n &&& 9223372036854775808 = (n.testBit 63).toNat * 9223372036854775808 := by
    have : n &&& 2 ^ 63 = (n.testBit 63).toNat * 2 ^ 63 := by
      apply Nat.eq_of_testBit_eq
      intro j
      rw [Nat.testBit_and, Nat.testBit_two_pow]
      by_cases e : 63 = j
      · subst e
        cases n.testBit 63 <;> decide
      · rw [decide_eq_false e, Bool.and_false]
        cases n.testBit 63
        · simp
        · rw [Bool.toNat_true, Nat.one_mul, Nat.testBit_two_pow, decide_eq_false e]
    exact this
  have h3 : n.testBit 63 = decide (9223372036854775808 ≤ n) := by
    rw [Nat.testBit_eq_decide_div_mod_eq, show (2 : Nat) ^ 63 = 9223372036854775808 from rfl]
    by_cases c : 9223372036854775808 ≤ n
    · rw [decide_eq_true c, decide_eq_true (by omega)]
    · rw [decide_eq_false c, decide_eq_false (by omega)]
  rw [h2, h3] at h1
  by_cases c : 9223372036854775808 ≤ n
  · rw [if_neg (by omega)]; rw [decide_eq_true c] at h1; exact h1
  · rw [if_pos (by omega)]; rw [decide_eq_false c] at h1; exact h1
theorem reals_Back.andnot_top {n : Nat} (h : n < 18446744073709551616) : Go.bits .andNot .u64 (n : Int) 9223372036854775808 = ((n % 9223372036854775808 : Nat) : Int) := by
  have h1 := Go.u64_andNot_nat n 9223372036854775808 h (by omega)
  have h2 : n &&& (18446744073709551615 - 9223372036854775808) = n % 2 ^ 63 := Nat.and_two_pow_sub_one_eq_mod n 63
  rw [h2] at h1
  exact h1
theorem reals_Back.not_u64 {n : Nat} (h : n < 18446744073709551616) : Go.bits .xor .u64 IntKind.u64.max (n : Int) = ((18446744073709551615 - n : Nat) : Int) := by
  have h1 := Go.u64_xor_nat 18446744073709551615 n (by omega) h
  have e : 18446744073709551615 ^^^ n = 18446744073709551615 - n := by
    have := congrArg BitVec.toNat (BitVec.allOnes_xor (x := BitVec.ofNat 64 n))
    rw [BitVec.toNat_xor, BitVec.toNat_not, BitVec.toNat_allOnes, BitVec.toNat_ofNat, Nat.mod_eq_of_lt h] at this
    exact this
  rw [e] at h1
  have hm : IntKind.u64.max = 18446744073709551615 := by decide
  rw [hm]
  exact h1
theorem reals_Back.calls (a0 : Int) (r1 : Int) (r2 : Bool) (w : World) (h : reals_Back.f a0 = some (r1, r2)) :
    Calls Try.prog 19 #[.int .u64 a0] w fun e w' => e = .returned (.tuple #[.int .u64 r1, .bool r2]) ∧ Below w.heap.size w w' := by
  unfold reals_Back.f at h
  by_cases hd : 0 ≤ a0 ∧ a0 < 18446744073709551616
  case neg => rw [if_neg hd] at h; exact absurd h (by simp)
  rw [if_pos hd] at h
  obtain ⟨n, rfl⟩ : ∃ n : Nat, a0 = (n : Int) := ⟨a0.toNat, by omega⟩
  have hn : n < 18446744073709551616 := by omega
  have hb0 : 0 ≤ reals_Back.b n := by unfold reals_Back.b; split <;> omega
  have hb1 : reals_Back.b n ≤ 18446744073709551615 := by unfold reals_Back.b; split <;> omega
  have h1 := reals_Back.and_top hn
  have h2 := reals_Back.andnot_top hn
  have h3 := reals_Back.not_u64 hn
  have key : ∀ c, reals_Canon.f (reals_Back.b n) = some c → 0 ≤ c → c ≤ 18446744073709551615 → Calls Try.prog 19 #[.int .u64 n] w fun e w' => e = .returned (.tuple #[.int .u64 (if c = reals_Back.b n then reals_Back.b n else 0), .bool (decide (c = reals_Back.b n))]) ∧ Below w.heap.size w w' := by
    intro c hc hc0 hc1
    refine reals_Back.walk n (reals_Back.b n) c (decide (9223372036854775808 ≤ n)) hb0 hb1 hc0 hc1 hc ?_ ?_ ?_ w
    · rw [h1]
      by_cases c : 9223372036854775808 ≤ n
      · rw [if_neg (by omega), decide_eq_true c]; rfl
      · rw [if_pos (by omega), decide_eq_false c]; rfl
    · intro hd
      have := of_decide_eq_true hd
      rw [h2]; unfold reals_Back.b; rw [if_pos (by omega)]; omega
    · intro hd
      have := of_decide_eq_false hd
      rw [h3]; unfold reals_Back.b; rw [if_neg (by omega)]; omega
  by_cases c : Fl.inf < Fl.rung (reals_Back.b n).toNat
  · have := key 9221120237041090560 (by unfold reals_Canon.f; rw [if_pos c]) (by omega) (by omega)
    by_cases e : reals_Back.b n = 9221120237041090560
    · rw [if_neg (fun h => h.2 e)] at h
      rw [if_pos e.symm, decide_eq_true e.symm] at this
      simp only [Option.some.injEq, Prod.mk.injEq] at h
      obtain ⟨rfl, rfl⟩ := h
      exact this
    · rw [if_pos ⟨c, e⟩] at h
      rw [if_neg (fun h => e h.symm), decide_eq_false (fun h => e h.symm)] at this
      simp only [Option.some.injEq, Prod.mk.injEq] at h
      obtain ⟨rfl, rfl⟩ := h
      exact this
  · have := key (reals_Back.b n) (by unfold reals_Canon.f; rw [if_neg c]) hb0 hb1
    rw [if_neg (fun h => c h.1)] at h
    rw [if_pos rfl, decide_eq_true rfl] at this
    simp only [Option.some.injEq, Prod.mk.injEq] at h
    obtain ⟨rfl, rfl⟩ := h
    exact this

/-! ### transomref02_fraction: function 29 -/
def transomref02_fraction.f (a0 : Int) : Option (Int) := some (Go.bits .and .u64 a0 4503599627370495)
set_option maxHeartbeats 8000000 in
set_option maxRecDepth 100000 in
theorem transomref02_fraction.calls (a0 : Int) (r : Int) (w : World) (h : transomref02_fraction.f a0 = some r) :
    Calls Try.prog 29 #[.int .u64 a0] w fun e w' => e = .returned (.int .u64 r) ∧ Drawn0 w w' := by
  have H : (some (Go.bits .and .u64 a0 4503599627370495)) = some r := h
  clear h
  obtain rfl := Option.some.inj H
  go_enter Try.func29, Try.ntmps29
  go_wp2
  go_ret
  exact ⟨by first | rfl | (simp; done) | (simp [*]; done), by repeat (first | exact Drawn0.refl _ | apply Drawn0.step)⟩

/-! ### transomref02_exponent: function 30 -/
def transomref02_exponent.f (a0 : Int) : Option (Int) := some (wrap64 (Go.bits .and .u64 (a0 / 4503599627370496) 2047))
set_option maxHeartbeats 8000000 in
set_option maxRecDepth 100000 in
theorem transomref02_exponent.calls (a0 : Int) (r : Int) (w : World) (h : transomref02_exponent.f a0 = some r) :
    Calls Try.prog 30 #[.int .u64 a0] w fun e w' => e = .returned (.int .i64 r) ∧ Drawn0 w w' := by
  have H : (some (wrap64 (Go.bits .and .u64 (a0 / 4503599627370496) 2047))) = some r := h
  clear h
  obtain rfl := Option.some.inj H
  go_enter Try.func30, Try.ntmps30
  go_wp2
  go_ret
  exact ⟨by first | rfl | (simp; done) | (simp [*]; done), by repeat (first | exact Drawn0.refl _ | apply Drawn0.step)⟩

/-! ### transomref02_Class: function 22 -/
mutual
def transomref02_Class.j0 : Nat → Int → Bool → Option (Int)
  | 0, _, _ => none
  | k + 1, x0, x3 => if x3 = true then (some 1) else ((transomref02_exponent.f x0).bind fun t120 => (if t120 = 2047 then (some 2) else ((transomref02_exponent.f x0).bind fun t121 => (if t121 = 0 then ((transomref02_fraction.f x0).bind fun t122 => (transomref02_Class.j1 k x0 (t122 == 0))) else (transomref02_Class.j1 k x0 false)))))
def transomref02_Class.j1 : Nat → Int → Bool → Option (Int)
  | 0, _, _ => none
  | k + 1, x0, x16 => if x16 = true then (some 3) else ((transomref02_exponent.f x0).bind fun t123 => (if t123 = 0 then (some 4) else (some 5)))
end
def transomref02_Class.f (k : Nat) (a0 : Int) : Option (Int) := (transomref02_exponent.f a0).bind fun t118 => (if t118 = 2047 then ((transomref02_fraction.f a0).bind fun t119 => (transomref02_Class.j0 k a0 (t119 != 0))) else (transomref02_Class.j0 k a0 false))
theorem transomref02_Class.mono_l : ∀ k, (∀ y0 y1, LeO (transomref02_Class.j0 k y0 y1) (transomref02_Class.j0 (k + 1) y0 y1)) ∧ (∀ y0 y1, LeO (transomref02_Class.j1 k y0 y1) (transomref02_Class.j1 (k + 1) y0 y1))
  | 0 => ⟨fun _ _ r h => by simp [transomref02_Class.j0] at h, fun _ _ r h => by simp [transomref02_Class.j1] at h⟩
  | k + 1 => by
    obtain ⟨ih0, ih1⟩ := transomref02_Class.mono_l k
    refine ⟨?_, ?_⟩
    · intro y0 y1
      unfold transomref02_Class.j0
      repeat' first
      | (with_reducible exact ih0 _ _)
      | (with_reducible exact ih1 _ _)
      | (with_reducible exact LeO.refl _)
      | (with_reducible exact LeO.none _)
      | (with_reducible refine LeO.ite ?_ ?_)
      | (with_reducible refine LeO.bind ?_ (fun _ => ?_))
      | exact ih0 _ _
      | exact ih1 _ _
      | exact LeO.none _
      | refine LeO.ite ?_ ?_
      | refine LeO.bind ?_ (fun _ => ?_)
    · intro y0 y1
      unfold transomref02_Class.j1
      repeat' first
      | (with_reducible exact ih0 _ _)
      | (with_reducible exact ih1 _ _)
      | (with_reducible exact LeO.refl _)
      | (with_reducible exact LeO.none _)
      | (with_reducible refine LeO.ite ?_ ?_)
      | (with_reducible refine LeO.bind ?_ (fun _ => ?_))
      | exact ih0 _ _
      | exact ih1 _ _
      | exact LeO.none _
      | refine LeO.ite ?_ ?_
      | refine LeO.bind ?_ (fun _ => ?_)
theorem transomref02_Class.mono : ∀ a0 k, LeO (transomref02_Class.f k a0) (transomref02_Class.f (k + 1) a0) := by
  intro a0 k
  obtain ⟨ih0, ih1⟩ := transomref02_Class.mono_l k
  unfold transomref02_Class.f
  repeat' first
      | (with_reducible exact ih0 _ _)
      | (with_reducible exact ih1 _ _)
      | (with_reducible exact LeO.refl _)
      | (with_reducible exact LeO.none _)
      | (with_reducible refine LeO.ite ?_ ?_)
      | (with_reducible refine LeO.bind ?_ (fun _ => ?_))
      | exact ih0 _ _
      | exact ih1 _ _
      | exact LeO.none _
      | refine LeO.ite ?_ ?_
      | refine LeO.bind ?_ (fun _ => ?_)
set_option maxHeartbeats 8000000 in
set_option maxRecDepth 100000 in
theorem transomref02_Class.calls (k : Nat) (a0 : Int) (r : Int) (w : World) (h : transomref02_Class.f k a0 = some r) :
    Calls Try.prog 22 #[.int .u64 a0] w fun e w' => e = .returned (.int .i64 r) ∧ Drawn0 w w' := by
  have H : ((transomref02_exponent.f a0).bind fun t118 => (if t118 = 2047 then ((transomref02_fraction.f a0).bind fun t119 => (transomref02_Class.j0 k a0 (t119 != 0))) else (transomref02_Class.j0 k a0 false))) = some r := h
  clear h
  have HC2 := Aside0.mk H
  clear H
  go_enter Try.func22, Try.ntmps22
  go_upto_region 1 with (fail)
  go_cut [3] (fun v3 wc => ∃ (kq : Nat) (x3_1 : Bool), v3 = .bool x3_1 ∧ Aside0 (transomref02_Class.j0 kq a0 x3_1 = some r) ∧ Aside0 (kq ≤ k) ∧ Drawn0 w wc)
  case first =>
    have H := HC2.out
    clear HC2
    replace H := Option.bind_eq_some_iff.mp H
    obtain ⟨t118, A30, H⟩ := H
    replace H : (if t118 = 2047 then ((transomref02_fraction.f a0).bind fun t119 => (transomref02_Class.j0 k a0 (t119 != 0))) else (transomref02_Class.j0 k a0 false)) = some r := H
    have A3 := Aside0.mk A30
    clear A30
    by_cases c4 : t118 = 2047
    · rw [if_pos c4] at H
      have c4b0 : (t118 == 2047) = true := beq_iff_eq.mpr c4
      have c4b1 : (t118 != 2047) = false := bne_eq_false_iff_eq.mpr c4
      clear c4
      (first | rw [c4b0] | (simp only [i64_w, i32_w]; rw [c4b0]) | skip)
      replace H := Option.bind_eq_some_iff.mp H
      obtain ⟨t119, A50, H⟩ := H
      replace H : (transomref02_Class.j0 k a0 (t119 != 0)) = some r := H
      have A5 := Aside0.mk A50
      clear A50
      have H' := Aside0.mk H
      clear H
      go_wp2_with (first | ((with_reducible refine gate_callee (f := 30) rfl ?_); refine goesL_ (some 5) rfl rfl Try.func30 (by kernel_rfl) rfl #[.int .u64 a0] rfl (by (try simp only [List.map_toArray, List.map_cons, List.map_nil]); first | done | rfl | (simp only [List.length_drop, List.length_take]; rfl) | (simp [Act.eval, IntKind.wrap_u64, IntKind.wrap_u8, IntKind.wrap_u32, wrap64]; omega)) ?_; (with_reducible refine (transomref02_exponent.calls a0 t118 _ A3.out).mono ?_); rintro e w' ⟨rfl, ⟨nd, rfl⟩⟩; refine ⟨_, rfl, ?_⟩) | (go_at_call 29; (with_reducible refine (transomref02_fraction.calls a0 t119 _ A5.out).mono ?_); rintro e w' ⟨rfl, ⟨nd, rfl⟩⟩))
      go_meet
      case rel => exact ⟨_, ((t119 != 0)), (by first | rfl | (simp; done) | (simp [*]; done)), H', ⟨by first | omega | exact Nat.le_refl _⟩, by repeat (first | exact Drawn0.refl _ | apply Drawn0.step)⟩
    · rw [if_neg c4] at H
      have c4b0 : (t118 == 2047) = false := beq_eq_false_iff_ne.mpr c4
      have c4b1 : (t118 != 2047) = true := bne_iff_ne.mpr c4
      (first | rw [c4b0] | (simp only [i64_w, i32_w]; rw [c4b0]) | skip)
      have H' := Aside0.mk H
      clear H
      go_wp2_with (first | ((with_reducible refine gate_callee (f := 30) rfl ?_); refine goesL_ (some 5) rfl rfl Try.func30 (by kernel_rfl) rfl #[.int .u64 a0] rfl (by (try simp only [List.map_toArray, List.map_cons, List.map_nil]); first | done | rfl | (simp only [List.length_drop, List.length_take]; rfl) | (simp [Act.eval, IntKind.wrap_u64, IntKind.wrap_u8, IntKind.wrap_u32, wrap64]; omega)) ?_; (with_reducible refine (transomref02_exponent.calls a0 t118 _ A3.out).mono ?_); rintro e w' ⟨rfl, ⟨nd, rfl⟩⟩; refine ⟨_, rfl, ?_⟩))
      go_meet
      case rel => exact ⟨_, (false), (by first | rfl | (simp; done) | (simp [*]; done)), H', ⟨by first | omega | exact Nat.le_refl _⟩, by repeat (first | exact Drawn0.refl _ | apply Drawn0.step)⟩
  case rest =>
    clear HC2
    try clear c2
    try clear p2
    try clear c3
    try clear c4
    try clear c4b0
    try clear c4b1
    obtain ⟨kq, x3_1, rfl, HA, HJ1, ⟨mc1, rfl⟩⟩ := hcut
    cases kq with
    | zero => exact absurd HA.out (by simp [transomref02_Class.j0])
    | succ kj1 =>
      have H := HA.out
      clear HA
      simp only [transomref02_Class.j0] at H
      by_cases c6 : x3_1 = true
      · subst c6
        have H1 : (some 1) = some r := by rw [if_pos rfl] at H; exact H
        clear H
        have H := H1
        clear H1
        obtain rfl := Option.some.inj H
        go_wp2
        go_ret
        exact ⟨by first | rfl | (simp; done) | (simp [*]; done), by repeat (first | exact Drawn0.refl _ | apply Drawn0.step)⟩
      · replace c6 := Bool.eq_false_iff.mpr c6
        subst c6
        have H1 : ((transomref02_exponent.f a0).bind fun t120 => (if t120 = 2047 then (some 2) else ((transomref02_exponent.f a0).bind fun t121 => (if t121 = 0 then ((transomref02_fraction.f a0).bind fun t122 => (transomref02_Class.j1 kj1 a0 (t122 == 0))) else (transomref02_Class.j1 kj1 a0 false))))) = some r := by rw [if_neg (show ¬ (false = true) by decide)] at H; exact H
        clear H
        have H := H1
        clear H1
        replace H := Option.bind_eq_some_iff.mp H
        obtain ⟨t120, A70, H⟩ := H
        replace H : (if t120 = 2047 then (some 2) else ((transomref02_exponent.f a0).bind fun t121 => (if t121 = 0 then ((transomref02_fraction.f a0).bind fun t122 => (transomref02_Class.j1 kj1 a0 (t122 == 0))) else (transomref02_Class.j1 kj1 a0 false)))) = some r := H
        have A7 := Aside0.mk A70
        clear A70
        by_cases c8 : t120 = 2047
        · rw [if_pos c8] at H
          have c8b0 : (t120 == 2047) = true := beq_iff_eq.mpr c8
          have c8b1 : (t120 != 2047) = false := bne_eq_false_iff_eq.mpr c8
          clear c8
          obtain rfl := Option.some.inj H
          go_wp2_with (first | ((with_reducible refine gate_callee (f := 30) rfl ?_); refine goesL_ (some 14) rfl rfl Try.func30 (by kernel_rfl) rfl #[.int .u64 a0] rfl (by (try simp only [List.map_toArray, List.map_cons, List.map_nil]); first | done | rfl | (simp only [List.length_drop, List.length_take]; rfl) | (simp [Act.eval, IntKind.wrap_u64, IntKind.wrap_u8, IntKind.wrap_u32, wrap64]; omega)) ?_; (with_reducible refine (transomref02_exponent.calls a0 t120 _ A7.out).mono ?_); rintro e w' ⟨rfl, ⟨nd, rfl⟩⟩; refine ⟨_, rfl, ?_⟩))
          go_ret
          exact ⟨by first | rfl | (simp; done) | (simp [*]; done), by repeat (first | exact Drawn0.refl _ | apply Drawn0.step)⟩
        · rw [if_neg c8] at H
          have c8b0 : (t120 == 2047) = false := beq_eq_false_iff_ne.mpr c8
          have c8b1 : (t120 != 2047) = true := bne_iff_ne.mpr c8
          have HC9 := Aside0.mk H
          clear H
          go_upto_region 5 with (first | ((with_reducible refine gate_callee (f := 30) rfl ?_); refine goesL_ (some 14) rfl rfl Try.func30 (by kernel_rfl) rfl #[.int .u64 a0] rfl (by (try simp only [List.map_toArray, List.map_cons, List.map_nil]); first | done | rfl | (simp only [List.length_drop, List.length_take]; rfl) | (simp [Act.eval, IntKind.wrap_u64, IntKind.wrap_u8, IntKind.wrap_u32, wrap64]; omega)) ?_; (with_reducible refine (transomref02_exponent.calls a0 t120 _ A7.out).mono ?_); rintro e w' ⟨rfl, ⟨nd, rfl⟩⟩; refine ⟨_, rfl, ?_⟩))
          (try simp only [Act.put, List.setIfInBounds_toArray, List.set_cons_zero, List.set_cons_succ])
          go_cut [16] (fun v16 wc => ∃ (kq : Nat) (x16_8 : Bool), v16 = .bool x16_8 ∧ Aside0 (transomref02_Class.j1 kq a0 x16_8 = some r) ∧ Aside0 (kq ≤ kj1) ∧ Drawn0 w wc)
          case first =>
            have H := HC9.out
            clear HC9
            replace H := Option.bind_eq_some_iff.mp H
            obtain ⟨t121, A100, H⟩ := H
            replace H : (if t121 = 0 then ((transomref02_fraction.f a0).bind fun t122 => (transomref02_Class.j1 kj1 a0 (t122 == 0))) else (transomref02_Class.j1 kj1 a0 false)) = some r := H
            have A10 := Aside0.mk A100
            clear A100
            by_cases c11 : t121 = 0
            · rw [if_pos c11] at H
              have c11b0 : (t121 == 0) = true := beq_iff_eq.mpr c11
              have c11b1 : (t121 != 0) = false := bne_eq_false_iff_eq.mpr c11
              clear c11
              (first | rw [c11b0] | (simp only [i64_w, i32_w]; rw [c11b0]) | skip)
              replace H := Option.bind_eq_some_iff.mp H
              obtain ⟨t122, A120, H⟩ := H
              replace H : (transomref02_Class.j1 kj1 a0 (t122 == 0)) = some r := H
              have A12 := Aside0.mk A120
              clear A120
              have H' := Aside0.mk H
              clear H
              go_wp2_with (first | ((with_reducible refine gate_callee (f := 30) rfl ?_); refine goesL_ (some 18) rfl rfl Try.func30 (by kernel_rfl) rfl #[.int .u64 a0] rfl (by (try simp only [List.map_toArray, List.map_cons, List.map_nil]); first | done | rfl | (simp only [List.length_drop, List.length_take]; rfl) | (simp [Act.eval, IntKind.wrap_u64, IntKind.wrap_u8, IntKind.wrap_u32, wrap64]; omega)) ?_; (with_reducible refine (transomref02_exponent.calls a0 t121 _ A10.out).mono ?_); rintro e w' ⟨rfl, ⟨nd, rfl⟩⟩; refine ⟨_, rfl, ?_⟩) | (go_at_call 29; (with_reducible refine (transomref02_fraction.calls a0 t122 _ A12.out).mono ?_); rintro e w' ⟨rfl, ⟨nd, rfl⟩⟩))
              go_meet
              case rel => exact ⟨_, ((t122 == 0)), (by first | rfl | (simp; done) | (simp [*]; done)), H', ⟨by have := HJ1.out; first | omega | exact Nat.le_refl _⟩, by repeat (first | exact Drawn0.refl _ | apply Drawn0.step)⟩
            · rw [if_neg c11] at H
              have c11b0 : (t121 == 0) = false := beq_eq_false_iff_ne.mpr c11
              have c11b1 : (t121 != 0) = true := bne_iff_ne.mpr c11
              (first | rw [c11b0] | (simp only [i64_w, i32_w]; rw [c11b0]) | skip)
              have H' := Aside0.mk H
              clear H
              go_wp2_with (first | ((with_reducible refine gate_callee (f := 30) rfl ?_); refine goesL_ (some 18) rfl rfl Try.func30 (by kernel_rfl) rfl #[.int .u64 a0] rfl (by (try simp only [List.map_toArray, List.map_cons, List.map_nil]); first | done | rfl | (simp only [List.length_drop, List.length_take]; rfl) | (simp [Act.eval, IntKind.wrap_u64, IntKind.wrap_u8, IntKind.wrap_u32, wrap64]; omega)) ?_; (with_reducible refine (transomref02_exponent.calls a0 t121 _ A10.out).mono ?_); rintro e w' ⟨rfl, ⟨nd, rfl⟩⟩; refine ⟨_, rfl, ?_⟩))
              go_meet
              case rel => exact ⟨_, (false), (by first | rfl | (simp; done) | (simp [*]; done)), H', ⟨by have := HJ1.out; first | omega | exact Nat.le_refl _⟩, by repeat (first | exact Drawn0.refl _ | apply Drawn0.step)⟩
          case rest =>
            clear HC9
            try clear c1
            try clear c2
            try clear p2
            try clear c3
            try clear c4
            try clear c4b0
            try clear c4b1
            try clear c6
            try clear p6
            try clear c8
            try clear c8b0
            try clear c8b1
            try clear c11
            try clear c11b0
            try clear c11b1
            try clear p2
            obtain ⟨kq, x16_8, rfl, HA, HJ8, ⟨mc8, rfl⟩⟩ := hcut
            cases kq with
            | zero => exact absurd HA.out (by simp [transomref02_Class.j1])
            | succ kj8 =>
              have H := HA.out
              clear HA
              simp only [transomref02_Class.j1] at H
              by_cases c13 : x16_8 = true
              · subst c13
                have H1 : (some 3) = some r := by rw [if_pos rfl] at H; exact H
                clear H
                have H := H1
                clear H1
                obtain rfl := Option.some.inj H
                go_wp2
                go_ret
                exact ⟨by first | rfl | (simp; done) | (simp [*]; done), by repeat (first | exact Drawn0.refl _ | apply Drawn0.step)⟩
              · replace c13 := Bool.eq_false_iff.mpr c13
                subst c13
                have H1 : ((transomref02_exponent.f a0).bind fun t123 => (if t123 = 0 then (some 4) else (some 5))) = some r := by rw [if_neg (show ¬ (false = true) by decide)] at H; exact H
                clear H
                have H := H1
                clear H1
                replace H := Option.bind_eq_some_iff.mp H
                obtain ⟨t123, A140, H⟩ := H
                replace H : (if t123 = 0 then (some 4) else (some 5)) = some r := H
                have A14 := Aside0.mk A140
                clear A140
                by_cases c15 : t123 = 0
                · rw [if_pos c15] at H
                  have c15b0 : (t123 == 0) = true := beq_iff_eq.mpr c15
                  have c15b1 : (t123 != 0) = false := bne_eq_false_iff_eq.mpr c15
                  clear c15
                  obtain rfl := Option.some.inj H
                  go_wp2_with (first | ((with_reducible refine gate_callee (f := 30) rfl ?_); refine goesL_ (some 27) rfl rfl Try.func30 (by kernel_rfl) rfl #[.int .u64 a0] rfl (by (try simp only [List.map_toArray, List.map_cons, List.map_nil]); first | done | rfl | (simp only [List.length_drop, List.length_take]; rfl) | (simp [Act.eval, IntKind.wrap_u64, IntKind.wrap_u8, IntKind.wrap_u32, wrap64]; omega)) ?_; (with_reducible refine (transomref02_exponent.calls a0 t123 _ A14.out).mono ?_); rintro e w' ⟨rfl, ⟨nd, rfl⟩⟩; refine ⟨_, rfl, ?_⟩))
                  go_ret
                  exact ⟨by first | rfl | (simp; done) | (simp [*]; done), by repeat (first | exact Drawn0.refl _ | apply Drawn0.step)⟩
                · rw [if_neg c15] at H
                  have c15b0 : (t123 == 0) = false := beq_eq_false_iff_ne.mpr c15
                  have c15b1 : (t123 != 0) = true := bne_iff_ne.mpr c15
                  obtain rfl := Option.some.inj H
                  go_wp2_with (first | ((with_reducible refine gate_callee (f := 30) rfl ?_); refine goesL_ (some 27) rfl rfl Try.func30 (by kernel_rfl) rfl #[.int .u64 a0] rfl (by (try simp only [List.map_toArray, List.map_cons, List.map_nil]); first | done | rfl | (simp only [List.length_drop, List.length_take]; rfl) | (simp [Act.eval, IntKind.wrap_u64, IntKind.wrap_u8, IntKind.wrap_u32, wrap64]; omega)) ?_; (with_reducible refine (transomref02_exponent.calls a0 t123 _ A14.out).mono ?_); rintro e w' ⟨rfl, ⟨nd, rfl⟩⟩; refine ⟨_, rfl, ?_⟩))
                  go_ret
                  exact ⟨by first | rfl | (simp; done) | (simp [*]; done), by repeat (first | exact Drawn0.refl _ | apply Drawn0.step)⟩

/-! ### transomref02_Canon: function 23 -/
def transomref02_Canon.f (k : Nat) (a0 : Int) : Option (Int) := (transomref02_Class.f k a0).bind fun t124 => (if t124 = 1 then (some 9221120237041090560) else (some a0))
theorem transomref02_Canon.mono : ∀ a0 k, LeO (transomref02_Canon.f k a0) (transomref02_Canon.f (k + 1) a0) := by
  intro a0 k
  unfold transomref02_Canon.f
  repeat' first
      | (with_reducible exact transomref02_Class.mono _ _)
      | (with_reducible exact LeO.refl _)
      | (with_reducible exact LeO.none _)
      | (with_reducible refine LeO.ite ?_ ?_)
      | (with_reducible refine LeO.bind ?_ (fun _ => ?_))
      | exact transomref02_Class.mono _ _
      | exact LeO.none _
      | refine LeO.ite ?_ ?_
      | refine LeO.bind ?_ (fun _ => ?_)
set_option maxHeartbeats 8000000 in
set_option maxRecDepth 100000 in
theorem transomref02_Canon.calls (k : Nat) (a0 : Int) (r : Int) (w : World) (h : transomref02_Canon.f k a0 = some r) :
    Calls Try.prog 23 #[.int .u64 a0] w fun e w' => e = .returned (.int .u64 r) ∧ Drawn0 w w' := by
  have H : ((transomref02_Class.f k a0).bind fun t124 => (if t124 = 1 then (some 9221120237041090560) else (some a0))) = some r := h
  clear h
  replace H := Option.bind_eq_some_iff.mp H
  obtain ⟨t124, A20, H⟩ := H
  replace H : (if t124 = 1 then (some 9221120237041090560) else (some a0)) = some r := H
  have A2 := Aside0.mk A20
  clear A20
  by_cases c3 : t124 = 1
  · rw [if_pos c3] at H
    have c3b0 : (t124 == 1) = true := beq_iff_eq.mpr c3
    have c3b1 : (t124 != 1) = false := bne_eq_false_iff_eq.mpr c3
    clear c3
    obtain rfl := Option.some.inj H
    go_enter Try.func23, Try.ntmps23
    go_wp2_with (first | ((with_reducible refine gate_callee (f := 22) rfl ?_); refine goesL_ (some 4) rfl rfl Try.func22 (by kernel_rfl) rfl #[.int .u64 a0] rfl (by (try simp only [List.map_toArray, List.map_cons, List.map_nil]); first | done | rfl | (simp only [List.length_drop, List.length_take]; rfl) | (simp [Act.eval, IntKind.wrap_u64, IntKind.wrap_u8, IntKind.wrap_u32, wrap64]; omega)) ?_; (with_reducible refine (transomref02_Class.calls k a0 t124 _ A2.out).mono ?_); rintro e w' ⟨rfl, ⟨nd, rfl⟩⟩; refine ⟨_, rfl, ?_⟩))
    go_ret
    exact ⟨by first | rfl | (simp; done) | (simp [*]; done), by repeat (first | exact Drawn0.refl _ | apply Drawn0.step)⟩
  · rw [if_neg c3] at H
    have c3b0 : (t124 == 1) = false := beq_eq_false_iff_ne.mpr c3
    have c3b1 : (t124 != 1) = true := bne_iff_ne.mpr c3
    obtain rfl := Option.some.inj H
    go_enter Try.func23, Try.ntmps23
    go_wp2_with (first | ((with_reducible refine gate_callee (f := 22) rfl ?_); refine goesL_ (some 4) rfl rfl Try.func22 (by kernel_rfl) rfl #[.int .u64 a0] rfl (by (try simp only [List.map_toArray, List.map_cons, List.map_nil]); first | done | rfl | (simp only [List.length_drop, List.length_take]; rfl) | (simp [Act.eval, IntKind.wrap_u64, IntKind.wrap_u8, IntKind.wrap_u32, wrap64]; omega)) ?_; (with_reducible refine (transomref02_Class.calls k a0 t124 _ A2.out).mono ?_); rintro e w' ⟨rfl, ⟨nd, rfl⟩⟩; refine ⟨_, rfl, ?_⟩))
    go_ret
    exact ⟨by first | rfl | (simp; done) | (simp [*]; done), by repeat (first | exact Drawn0.refl _ | apply Drawn0.step)⟩

/-! ### transomref02_Back: function 20 -/
def transomref02_Back.f (k : Nat) (a0 : Int) : Option (Int × Bool) := if (a0 / 9223372036854775808) = 1 then ((transomref02_Canon.f k (Go.bits .and .u64 a0 9223372036854775807)).bind fun t125 => (if t125 = (Go.bits .and .u64 a0 9223372036854775807) then (some (Go.bits .and .u64 a0 9223372036854775807, true)) else (some (0, false)))) else ((transomref02_Canon.f k (Go.bits .xor .u64 IntKind.u64.max a0)).bind fun t126 => (if t126 = (Go.bits .xor .u64 IntKind.u64.max a0) then (some (Go.bits .xor .u64 IntKind.u64.max a0, true)) else (some (0, false))))
theorem transomref02_Back.mono : ∀ a0 k, LeO (transomref02_Back.f k a0) (transomref02_Back.f (k + 1) a0) := by
  intro a0 k
  unfold transomref02_Back.f
  repeat' first
      | (with_reducible exact transomref02_Canon.mono _ _)
      | (with_reducible exact LeO.refl _)
      | (with_reducible exact LeO.none _)
      | (with_reducible refine LeO.ite ?_ ?_)
      | (with_reducible refine LeO.bind ?_ (fun _ => ?_))
      | exact transomref02_Canon.mono _ _
      | exact LeO.none _
      | refine LeO.ite ?_ ?_
      | refine LeO.bind ?_ (fun _ => ?_)
set_option maxHeartbeats 8000000 in
set_option maxRecDepth 100000 in
theorem transomref02_Back.calls (k : Nat) (a0 : Int) (r1 : Int) (r2 : Bool) (w : World) (h : transomref02_Back.f k a0 = some (r1, r2)) :
    Calls Try.prog 20 #[.int .u64 a0] w fun e w' => e = .returned (.tuple #[.int .u64 r1, .bool r2]) ∧ Drawn0 w w' := by
  have hsg_ : IntKind.u64.signed = false := rfl
  have H : (if (a0 / 9223372036854775808) = 1 then ((transomref02_Canon.f k (Go.bits .and .u64 a0 9223372036854775807)).bind fun t125 => (if t125 = (Go.bits .and .u64 a0 9223372036854775807) then (some (Go.bits .and .u64 a0 9223372036854775807, true)) else (some (0, false)))) else ((transomref02_Canon.f k (Go.bits .xor .u64 IntKind.u64.max a0)).bind fun t126 => (if t126 = (Go.bits .xor .u64 IntKind.u64.max a0) then (some (Go.bits .xor .u64 IntKind.u64.max a0, true)) else (some (0, false))))) = some (r1, r2) := h
  clear h
  by_cases c2 : (a0 / 9223372036854775808) = 1
  · rw [if_pos c2] at H
    have c2b0 : ((a0 / 9223372036854775808) == 1) = true := beq_iff_eq.mpr c2
    have c2b1 : ((a0 / 9223372036854775808) != 1) = false := bne_eq_false_iff_eq.mpr c2
    clear c2
    replace H := Option.bind_eq_some_iff.mp H
    obtain ⟨t125, A30, H⟩ := H
    replace H : (if t125 = (Go.bits .and .u64 a0 9223372036854775807) then (some (Go.bits .and .u64 a0 9223372036854775807, true)) else (some (0, false))) = some (r1, r2) := H
    have A3 := Aside0.mk A30
    clear A30
    by_cases c4 : t125 = (Go.bits .and .u64 a0 9223372036854775807)
    · rw [if_pos c4] at H
      have c4b0 : (t125 == (Go.bits .and .u64 a0 9223372036854775807)) = true := beq_iff_eq.mpr c4
      have c4b1 : (t125 != (Go.bits .and .u64 a0 9223372036854775807)) = false := bne_eq_false_iff_eq.mpr c4
      clear c4
      simp only [Option.some.injEq, Prod.mk.injEq] at H
      obtain ⟨rfl, rfl⟩ := H
      go_enter Try.func20, Try.ntmps20
      go_wp2_with (first | ((with_reducible refine gate_callee (f := 23) rfl ?_); refine goesL_ (some 13) rfl rfl Try.func23 (by kernel_rfl) rfl #[.int .u64 (Go.bits .and .u64 a0 9223372036854775807)] rfl (by (try simp only [List.map_toArray, List.map_cons, List.map_nil]); first | done | rfl | (simp only [List.length_drop, List.length_take]; rfl) | (simp [Act.eval, IntKind.wrap_u64, IntKind.wrap_u8, IntKind.wrap_u32, wrap64]; omega)) ?_; (with_reducible refine (transomref02_Canon.calls k (Go.bits .and .u64 a0 9223372036854775807) t125 _ A3.out).mono ?_); rintro e w' ⟨rfl, ⟨nd, rfl⟩⟩; refine ⟨_, rfl, ?_⟩))
      go_ret2
      exact ⟨by first | rfl | (simp; done) | (simp [*]; done), by repeat (first | exact Drawn0.refl _ | apply Drawn0.step)⟩
    · rw [if_neg c4] at H
      have c4b0 : (t125 == (Go.bits .and .u64 a0 9223372036854775807)) = false := beq_eq_false_iff_ne.mpr c4
      have c4b1 : (t125 != (Go.bits .and .u64 a0 9223372036854775807)) = true := bne_iff_ne.mpr c4
      simp only [Option.some.injEq, Prod.mk.injEq] at H
      obtain ⟨rfl, rfl⟩ := H
      go_enter Try.func20, Try.ntmps20
      go_wp2_with (first | ((with_reducible refine gate_callee (f := 23) rfl ?_); refine goesL_ (some 13) rfl rfl Try.func23 (by kernel_rfl) rfl #[.int .u64 (Go.bits .and .u64 a0 9223372036854775807)] rfl (by (try simp only [List.map_toArray, List.map_cons, List.map_nil]); first | done | rfl | (simp only [List.length_drop, List.length_take]; rfl) | (simp [Act.eval, IntKind.wrap_u64, IntKind.wrap_u8, IntKind.wrap_u32, wrap64]; omega)) ?_; (with_reducible refine (transomref02_Canon.calls k (Go.bits .and .u64 a0 9223372036854775807) t125 _ A3.out).mono ?_); rintro e w' ⟨rfl, ⟨nd, rfl⟩⟩; refine ⟨_, rfl, ?_⟩))
      go_ret2
      exact ⟨by first | rfl | (simp; done) | (simp [*]; done), by repeat (first | exact Drawn0.refl _ | apply Drawn0.step)⟩
  · rw [if_neg c2] at H
    have c2b0 : ((a0 / 9223372036854775808) == 1) = false := beq_eq_false_iff_ne.mpr c2
    have c2b1 : ((a0 / 9223372036854775808) != 1) = true := bne_iff_ne.mpr c2
    replace H := Option.bind_eq_some_iff.mp H
    obtain ⟨t126, A50, H⟩ := H
    replace H : (if t126 = (Go.bits .xor .u64 IntKind.u64.max a0) then (some (Go.bits .xor .u64 IntKind.u64.max a0, true)) else (some (0, false))) = some (r1, r2) := H
    have A5 := Aside0.mk A50
    clear A50
    by_cases c6 : t126 = (Go.bits .xor .u64 IntKind.u64.max a0)
    · rw [if_pos c6] at H
      have c6b0 : (t126 == (Go.bits .xor .u64 IntKind.u64.max a0)) = true := beq_iff_eq.mpr c6
      have c6b1 : (t126 != (Go.bits .xor .u64 IntKind.u64.max a0)) = false := bne_eq_false_iff_eq.mpr c6
      clear c6
      simp only [Option.some.injEq, Prod.mk.injEq] at H
      obtain ⟨rfl, rfl⟩ := H
      go_enter Try.func20, Try.ntmps20
      go_wp2_with (first | ((with_reducible refine gate_callee (f := 23) rfl ?_); refine goesL_ (some 13) rfl rfl Try.func23 (by kernel_rfl) rfl #[.int .u64 (Go.bits .xor .u64 IntKind.u64.max a0)] rfl (by (try simp only [List.map_toArray, List.map_cons, List.map_nil]); first | done | rfl | (simp only [List.length_drop, List.length_take]; rfl) | (simp [Act.eval, IntKind.wrap_u64, IntKind.wrap_u8, IntKind.wrap_u32, wrap64]; omega)) ?_; (with_reducible refine (transomref02_Canon.calls k (Go.bits .xor .u64 IntKind.u64.max a0) t126 _ A5.out).mono ?_); rintro e w' ⟨rfl, ⟨nd, rfl⟩⟩; refine ⟨_, rfl, ?_⟩))
      go_ret2
      exact ⟨by first | rfl | (simp; done) | (simp [*]; done), by repeat (first | exact Drawn0.refl _ | apply Drawn0.step)⟩
    · rw [if_neg c6] at H
      have c6b0 : (t126 == (Go.bits .xor .u64 IntKind.u64.max a0)) = false := beq_eq_false_iff_ne.mpr c6
      have c6b1 : (t126 != (Go.bits .xor .u64 IntKind.u64.max a0)) = true := bne_iff_ne.mpr c6
      simp only [Option.some.injEq, Prod.mk.injEq] at H
      obtain ⟨rfl, rfl⟩ := H
      go_enter Try.func20, Try.ntmps20
      go_wp2_with (first | ((with_reducible refine gate_callee (f := 23) rfl ?_); refine goesL_ (some 13) rfl rfl Try.func23 (by kernel_rfl) rfl #[.int .u64 (Go.bits .xor .u64 IntKind.u64.max a0)] rfl (by (try simp only [List.map_toArray, List.map_cons, List.map_nil]); first | done | rfl | (simp only [List.length_drop, List.length_take]; rfl) | (simp [Act.eval, IntKind.wrap_u64, IntKind.wrap_u8, IntKind.wrap_u32, wrap64]; omega)) ?_; (with_reducible refine (transomref02_Canon.calls k (Go.bits .xor .u64 IntKind.u64.max a0) t126 _ A5.out).mono ?_); rintro e w' ⟨rfl, ⟨nd, rfl⟩⟩; refine ⟨_, rfl, ?_⟩))
      go_ret2
      exact ⟨by first | rfl | (simp; done) | (simp [*]; done), by repeat (first | exact Drawn0.refl _ | apply Drawn0.step)⟩

/-! ### transomref02_Key: function 25 -/
def transomref02_Key.f (k : Nat) (a0 : Int) : Option (Int) := (transomref02_Canon.f k a0).bind fun t127 => (if (t127 / 9223372036854775808) = 0 then (some (Go.bits .or .u64 t127 9223372036854775808)) else (some (Go.bits .xor .u64 IntKind.u64.max t127)))
theorem transomref02_Key.mono : ∀ a0 k, LeO (transomref02_Key.f k a0) (transomref02_Key.f (k + 1) a0) := by
  intro a0 k
  unfold transomref02_Key.f
  repeat' first
      | (with_reducible exact transomref02_Canon.mono _ _)
      | (with_reducible exact LeO.refl _)
      | (with_reducible exact LeO.none _)
      | (with_reducible refine LeO.ite ?_ ?_)
      | (with_reducible refine LeO.bind ?_ (fun _ => ?_))
      | exact transomref02_Canon.mono _ _
      | exact LeO.none _
      | refine LeO.ite ?_ ?_
      | refine LeO.bind ?_ (fun _ => ?_)
set_option maxHeartbeats 8000000 in
set_option maxRecDepth 100000 in
theorem transomref02_Key.calls (k : Nat) (a0 : Int) (r : Int) (w : World) (h : transomref02_Key.f k a0 = some r) :
    Calls Try.prog 25 #[.int .u64 a0] w fun e w' => e = .returned (.int .u64 r) ∧ Drawn0 w w' := by
  have hsg_ : IntKind.u64.signed = false := rfl
  have H : ((transomref02_Canon.f k a0).bind fun t127 => (if (t127 / 9223372036854775808) = 0 then (some (Go.bits .or .u64 t127 9223372036854775808)) else (some (Go.bits .xor .u64 IntKind.u64.max t127)))) = some r := h
  clear h
  replace H := Option.bind_eq_some_iff.mp H
  obtain ⟨t127, A20, H⟩ := H
  replace H : (if (t127 / 9223372036854775808) = 0 then (some (Go.bits .or .u64 t127 9223372036854775808)) else (some (Go.bits .xor .u64 IntKind.u64.max t127))) = some r := H
  have A2 := Aside0.mk A20
  clear A20
  by_cases c3 : (t127 / 9223372036854775808) = 0
  · rw [if_pos c3] at H
    have c3b0 : ((t127 / 9223372036854775808) == 0) = true := beq_iff_eq.mpr c3
    have c3b1 : ((t127 / 9223372036854775808) != 0) = false := bne_eq_false_iff_eq.mpr c3
    clear c3
    obtain rfl := Option.some.inj H
    go_enter Try.func25, Try.ntmps25
    go_wp2_with (first | ((with_reducible refine gate_callee (f := 23) rfl ?_); refine goesL_ (some 4) rfl rfl Try.func23 (by kernel_rfl) rfl #[.int .u64 a0] rfl (by (try simp only [List.map_toArray, List.map_cons, List.map_nil]); first | done | rfl | (simp only [List.length_drop, List.length_take]; rfl) | (simp [Act.eval, IntKind.wrap_u64, IntKind.wrap_u8, IntKind.wrap_u32, wrap64]; omega)) ?_; (with_reducible refine (transomref02_Canon.calls k a0 t127 _ A2.out).mono ?_); rintro e w' ⟨rfl, ⟨nd, rfl⟩⟩; refine ⟨_, rfl, ?_⟩))
    go_ret
    exact ⟨by first | rfl | (simp; done) | (simp [*]; done), by repeat (first | exact Drawn0.refl _ | apply Drawn0.step)⟩
  · rw [if_neg c3] at H
    have c3b0 : ((t127 / 9223372036854775808) == 0) = false := beq_eq_false_iff_ne.mpr c3
    have c3b1 : ((t127 / 9223372036854775808) != 0) = true := bne_iff_ne.mpr c3
    obtain rfl := Option.some.inj H
    go_enter Try.func25, Try.ntmps25
    go_wp2_with (first | ((with_reducible refine gate_callee (f := 23) rfl ?_); refine goesL_ (some 4) rfl rfl Try.func23 (by kernel_rfl) rfl #[.int .u64 a0] rfl (by (try simp only [List.map_toArray, List.map_cons, List.map_nil]); first | done | rfl | (simp only [List.length_drop, List.length_take]; rfl) | (simp [Act.eval, IntKind.wrap_u64, IntKind.wrap_u8, IntKind.wrap_u32, wrap64]; omega)) ?_; (with_reducible refine (transomref02_Canon.calls k a0 t127 _ A2.out).mono ?_); rintro e w' ⟨rfl, ⟨nd, rfl⟩⟩; refine ⟨_, rfl, ?_⟩))
    go_ret
    exact ⟨by first | rfl | (simp; done) | (simp [*]; done), by repeat (first | exact Drawn0.refl _ | apply Drawn0.step)⟩

/-! ### transomlaw02_RealsKinds: function 7 -/
def transomlaw02_RealsKinds.f (k : Nat) (a0 : Int) : Option (Bool) := (reals_Back.f a0).bind fun bt128 => ((transomref02_Back.f k a0).bind fun bt130 => ((reals_Class.f a0).bind fun t132 => ((transomref02_Class.f k a0).bind fun t133 => (if t132 = t133 then ((reals_Canon.f a0).bind fun t134 => ((transomref02_Canon.f k a0).bind fun t135 => (if t134 = t135 then ((reals_Key.f a0).bind fun t136 => ((transomref02_Key.f k a0).bind fun t137 => (if t136 = t137 then (if bt128.1 = bt130.1 then (if (bt128.2 == bt130.2) = true then ((transomlaw02_awake.f).bind fun t138 => (some t138)) else (some false)) else (some false)) else (some false)))) else (some false)))) else (some false)))))
theorem transomlaw02_RealsKinds.mono : ∀ a0 k, LeO (transomlaw02_RealsKinds.f k a0) (transomlaw02_RealsKinds.f (k + 1) a0) := by
  intro a0 k
  unfold transomlaw02_RealsKinds.f
  repeat' first
      | (with_reducible exact transomref02_Back.mono _ _)
      | (with_reducible exact transomref02_Canon.mono _ _)
      | (with_reducible exact transomref02_Class.mono _ _)
      | (with_reducible exact transomref02_Key.mono _ _)
      | (with_reducible exact LeO.refl _)
      | (with_reducible exact LeO.none _)
      | (with_reducible refine LeO.ite ?_ ?_)
      | (with_reducible refine LeO.bind ?_ (fun _ => ?_))
      | exact transomref02_Back.mono _ _
      | exact transomref02_Canon.mono _ _
      | exact transomref02_Class.mono _ _
      | exact transomref02_Key.mono _ _
      | exact LeO.none _
      | refine LeO.ite ?_ ?_
      | refine LeO.bind ?_ (fun _ => ?_)
set_option maxHeartbeats 8000000 in
set_option maxRecDepth 100000 in
theorem transomlaw02_RealsKinds.calls (k : Nat) (a0 : Int) (r : Bool) (w : World) (h : transomlaw02_RealsKinds.f k a0 = some r) :
    Calls Try.prog 7 #[.int .u64 a0] w fun e w' => e = .returned (.bool r) ∧ Below w.heap.size w w' := by
  have HB := Aside0.mk (Below.refl w.heap.size w)
  have H : ((reals_Back.f a0).bind fun bt128 => ((transomref02_Back.f k a0).bind fun bt130 => ((reals_Class.f a0).bind fun t132 => ((transomref02_Class.f k a0).bind fun t133 => (if t132 = t133 then ((reals_Canon.f a0).bind fun t134 => ((transomref02_Canon.f k a0).bind fun t135 => (if t134 = t135 then ((reals_Key.f a0).bind fun t136 => ((transomref02_Key.f k a0).bind fun t137 => (if t136 = t137 then (if bt128.1 = bt130.1 then (if (bt128.2 == bt130.2) = true then ((transomlaw02_awake.f).bind fun t138 => (some t138)) else (some false)) else (some false)) else (some false)))) else (some false)))) else (some false)))))) = some r := h
  clear h
  replace H := Option.bind_eq_some_iff.mp H
  obtain ⟨⟨t128, t129⟩, A20, H⟩ := H
  replace H : ((transomref02_Back.f k a0).bind fun bt130 => ((reals_Class.f a0).bind fun t132 => ((transomref02_Class.f k a0).bind fun t133 => (if t132 = t133 then ((reals_Canon.f a0).bind fun t134 => ((transomref02_Canon.f k a0).bind fun t135 => (if t134 = t135 then ((reals_Key.f a0).bind fun t136 => ((transomref02_Key.f k a0).bind fun t137 => (if t136 = t137 then (if t128 = bt130.1 then (if (t129 == bt130.2) = true then ((transomlaw02_awake.f).bind fun t138 => (some t138)) else (some false)) else (some false)) else (some false)))) else (some false)))) else (some false))))) = some r := H
  have A2 := Aside0.mk A20
  clear A20
  replace H := Option.bind_eq_some_iff.mp H
  obtain ⟨⟨t130, t131⟩, A30, H⟩ := H
  replace H : ((reals_Class.f a0).bind fun t132 => ((transomref02_Class.f k a0).bind fun t133 => (if t132 = t133 then ((reals_Canon.f a0).bind fun t134 => ((transomref02_Canon.f k a0).bind fun t135 => (if t134 = t135 then ((reals_Key.f a0).bind fun t136 => ((transomref02_Key.f k a0).bind fun t137 => (if t136 = t137 then (if t128 = t130 then (if (t129 == t131) = true then ((transomlaw02_awake.f).bind fun t138 => (some t138)) else (some false)) else (some false)) else (some false)))) else (some false)))) else (some false)))) = some r := H
  have A3 := Aside0.mk A30
  clear A30
  replace H := Option.bind_eq_some_iff.mp H
  obtain ⟨t132, A40, H⟩ := H
  replace H : ((transomref02_Class.f k a0).bind fun t133 => (if t132 = t133 then ((reals_Canon.f a0).bind fun t134 => ((transomref02_Canon.f k a0).bind fun t135 => (if t134 = t135 then ((reals_Key.f a0).bind fun t136 => ((transomref02_Key.f k a0).bind fun t137 => (if t136 = t137 then (if t128 = t130 then (if (t129 == t131) = true then ((transomlaw02_awake.f).bind fun t138 => (some t138)) else (some false)) else (some false)) else (some false)))) else (some false)))) else (some false))) = some r := H
  have A4 := Aside0.mk A40
  clear A40
  replace H := Option.bind_eq_some_iff.mp H
  obtain ⟨t133, A50, H⟩ := H
  replace H : (if t132 = t133 then ((reals_Canon.f a0).bind fun t134 => ((transomref02_Canon.f k a0).bind fun t135 => (if t134 = t135 then ((reals_Key.f a0).bind fun t136 => ((transomref02_Key.f k a0).bind fun t137 => (if t136 = t137 then (if t128 = t130 then (if (t129 == t131) = true then ((transomlaw02_awake.f).bind fun t138 => (some t138)) else (some false)) else (some false)) else (some false)))) else (some false)))) else (some false)) = some r := H
  have A5 := Aside0.mk A50
  clear A50
  by_cases c6 : t132 = t133
  · rw [if_pos c6] at H
    have c6b0 : (t132 == t133) = true := beq_iff_eq.mpr c6
    have c6b1 : (t132 != t133) = false := bne_eq_false_iff_eq.mpr c6
    clear c6
    replace H := Option.bind_eq_some_iff.mp H
    obtain ⟨t134, A70, H⟩ := H
    replace H : ((transomref02_Canon.f k a0).bind fun t135 => (if t134 = t135 then ((reals_Key.f a0).bind fun t136 => ((transomref02_Key.f k a0).bind fun t137 => (if t136 = t137 then (if t128 = t130 then (if (t129 == t131) = true then ((transomlaw02_awake.f).bind fun t138 => (some t138)) else (some false)) else (some false)) else (some false)))) else (some false))) = some r := H
    have A7 := Aside0.mk A70
    clear A70
    replace H := Option.bind_eq_some_iff.mp H
    obtain ⟨t135, A80, H⟩ := H
    replace H : (if t134 = t135 then ((reals_Key.f a0).bind fun t136 => ((transomref02_Key.f k a0).bind fun t137 => (if t136 = t137 then (if t128 = t130 then (if (t129 == t131) = true then ((transomlaw02_awake.f).bind fun t138 => (some t138)) else (some false)) else (some false)) else (some false)))) else (some false)) = some r := H
    have A8 := Aside0.mk A80
    clear A80
    by_cases c9 : t134 = t135
    · rw [if_pos c9] at H
      have c9b0 : (t134 == t135) = true := beq_iff_eq.mpr c9
      have c9b1 : (t134 != t135) = false := bne_eq_false_iff_eq.mpr c9
      clear c9
      replace H := Option.bind_eq_some_iff.mp H
      obtain ⟨t136, A100, H⟩ := H
      replace H : ((transomref02_Key.f k a0).bind fun t137 => (if t136 = t137 then (if t128 = t130 then (if (t129 == t131) = true then ((transomlaw02_awake.f).bind fun t138 => (some t138)) else (some false)) else (some false)) else (some false))) = some r := H
      have A10 := Aside0.mk A100
      clear A100
      replace H := Option.bind_eq_some_iff.mp H
      obtain ⟨t137, A110, H⟩ := H
      replace H : (if t136 = t137 then (if t128 = t130 then (if (t129 == t131) = true then ((transomlaw02_awake.f).bind fun t138 => (some t138)) else (some false)) else (some false)) else (some false)) = some r := H
      have A11 := Aside0.mk A110
      clear A110
      by_cases c12 : t136 = t137
      · rw [if_pos c12] at H
        have c12b0 : (t136 == t137) = true := beq_iff_eq.mpr c12
        have c12b1 : (t136 != t137) = false := bne_eq_false_iff_eq.mpr c12
        clear c12
        by_cases c13 : t128 = t130
        · rw [if_pos c13] at H
          have c13b0 : (t128 == t130) = true := beq_iff_eq.mpr c13
          have c13b1 : (t128 != t130) = false := bne_eq_false_iff_eq.mpr c13
          clear c13
          by_cases c14 : (t129 == t131) = true
          · rw [if_pos c14] at H
            have c14b0 : (t129 == t131) = true := c14
            (try (have c14b1 : decide (t129 = t131) = true := by simpa using c14))
            (try (have c14b2 : (t129 == t131) = true := by simpa using c14))
            clear c14
            replace H := Option.bind_eq_some_iff.mp H
            obtain ⟨t138, A150, H⟩ := H
            replace H : (some t138) = some r := H
            have A15 := Aside0.mk A150
            clear A150
            obtain rfl := Option.some.inj H
            go_enter Try.func7, Try.ntmps7
            go_wp2_with (first | ((with_reducible refine gate_callee (f := 19) rfl ?_); refine goesL_ (some 9) rfl rfl Try.func19 (by kernel_rfl) rfl #[.int .u64 a0] rfl (by (try simp only [List.map_toArray, List.map_cons, List.map_nil]); first | done | rfl | (simp only [List.length_drop, List.length_take]; rfl) | (simp [Act.eval, IntKind.wrap_u64, IntKind.wrap_u8, IntKind.wrap_u32, wrap64]; omega)) ?_; (with_reducible refine (reals_Back.calls a0 t128 t129 _ A2.out).mono ?_); rintro e w16 ⟨rfl, hb⟩; refine ⟨_, rfl, ?_⟩; have n0_ := Aside0.mk (below_step (by repeat (first | (with_reducible first | exact HB.out | apply below_alloc | apply pw_below_drewN | apply below_drew1) | exact HB.out)) hb); clear HB; have HB := n0_; clear n0_; (try clear hb); (try clear hb2); (try clear hk); (try clear hi)) | ((with_reducible refine gate_callee (f := 20) rfl ?_); refine goesL_ (some 14) rfl rfl Try.func20 (by kernel_rfl) rfl #[.int .u64 a0] rfl (by (try simp only [List.map_toArray, List.map_cons, List.map_nil]); first | done | rfl | (simp only [List.length_drop, List.length_take]; rfl) | (simp [Act.eval, IntKind.wrap_u64, IntKind.wrap_u8, IntKind.wrap_u32, wrap64]; omega)) ?_; (with_reducible refine (transomref02_Back.calls k a0 t130 t131 _ A3.out).mono ?_); rintro e w' ⟨rfl, ⟨nd, rfl⟩⟩; refine ⟨_, rfl, ?_⟩) | ((with_reducible refine gate_callee (f := 21) rfl ?_); refine goesL_ (some 18) rfl rfl Try.func21 (by kernel_rfl) rfl #[.int .u64 a0] rfl (by (try simp only [List.map_toArray, List.map_cons, List.map_nil]); first | done | rfl | (simp only [List.length_drop, List.length_take]; rfl) | (simp [Act.eval, IntKind.wrap_u64, IntKind.wrap_u8, IntKind.wrap_u32, wrap64]; omega)) ?_; (with_reducible refine (reals_Class.calls a0 t132 _ A4.out).mono ?_); rintro e w' ⟨rfl, ⟨nd, rfl⟩⟩; refine ⟨_, rfl, ?_⟩) | ((with_reducible refine gate_callee (f := 22) rfl ?_); refine goesL_ (some 20) rfl rfl Try.func22 (by kernel_rfl) rfl #[.int .u64 a0] rfl (by (try simp only [List.map_toArray, List.map_cons, List.map_nil]); first | done | rfl | (simp only [List.length_drop, List.length_take]; rfl) | (simp [Act.eval, IntKind.wrap_u64, IntKind.wrap_u8, IntKind.wrap_u32, wrap64]; omega)) ?_; (with_reducible refine (transomref02_Class.calls k a0 t133 _ A5.out).mono ?_); rintro e w' ⟨rfl, ⟨nd, rfl⟩⟩; refine ⟨_, rfl, ?_⟩) | (go_at_call 18; (with_reducible refine (reals_Canon.calls a0 t134 _ A7.out).mono ?_); rintro e w' ⟨rfl, ⟨nd, rfl⟩⟩) | (go_at_call 23; (with_reducible refine (transomref02_Canon.calls k a0 t135 _ A8.out).mono ?_); rintro e w' ⟨rfl, ⟨nd, rfl⟩⟩) | (go_at_call 24; (with_reducible refine (reals_Key.calls a0 t136 _ A10.out).mono ?_); rintro e w' ⟨rfl, ⟨nd, rfl⟩⟩) | (go_at_call 25; (with_reducible refine (transomref02_Key.calls k a0 t137 _ A11.out).mono ?_); rintro e w' ⟨rfl, ⟨nd, rfl⟩⟩) | (go_at_call 13; (with_reducible refine (transomlaw02_awake.calls  t138 _ A15.out).mono ?_); rintro e w' ⟨rfl, ⟨nd, rfl⟩⟩))
            go_ret
            exact ⟨by first | rfl | (simp [errW_none, errW_some] <;> rfl) | (simp [*, errW_none, errW_some] <;> rfl), by repeat (first | (with_reducible first | exact HB.out | apply below_alloc | apply pw_below_drewN | apply below_drew1) | exact HB.out)⟩
          · rw [if_neg c14] at H
            have c14b0 : (t129 == t131) = false := by simpa using c14
            (try (have c14b1 : decide (t129 = t131) = false := by simpa using c14))
            (try (have c14b2 : (t129 == t131) = false := by simpa using c14))
            (try (have c14b3 : ¬ (t129 = t131) := by simpa using c14))
            clear c14
            obtain rfl := Option.some.inj H
            go_enter Try.func7, Try.ntmps7
            go_wp2_with (first | ((with_reducible refine gate_callee (f := 19) rfl ?_); refine goesL_ (some 9) rfl rfl Try.func19 (by kernel_rfl) rfl #[.int .u64 a0] rfl (by (try simp only [List.map_toArray, List.map_cons, List.map_nil]); first | done | rfl | (simp only [List.length_drop, List.length_take]; rfl) | (simp [Act.eval, IntKind.wrap_u64, IntKind.wrap_u8, IntKind.wrap_u32, wrap64]; omega)) ?_; (with_reducible refine (reals_Back.calls a0 t128 t129 _ A2.out).mono ?_); rintro e w17 ⟨rfl, hb⟩; refine ⟨_, rfl, ?_⟩; have n0_ := Aside0.mk (below_step (by repeat (first | (with_reducible first | exact HB.out | apply below_alloc | apply pw_below_drewN | apply below_drew1) | exact HB.out)) hb); clear HB; have HB := n0_; clear n0_; (try clear hb); (try clear hb2); (try clear hk); (try clear hi)) | ((with_reducible refine gate_callee (f := 20) rfl ?_); refine goesL_ (some 14) rfl rfl Try.func20 (by kernel_rfl) rfl #[.int .u64 a0] rfl (by (try simp only [List.map_toArray, List.map_cons, List.map_nil]); first | done | rfl | (simp only [List.length_drop, List.length_take]; rfl) | (simp [Act.eval, IntKind.wrap_u64, IntKind.wrap_u8, IntKind.wrap_u32, wrap64]; omega)) ?_; (with_reducible refine (transomref02_Back.calls k a0 t130 t131 _ A3.out).mono ?_); rintro e w' ⟨rfl, ⟨nd, rfl⟩⟩; refine ⟨_, rfl, ?_⟩) | ((with_reducible refine gate_callee (f := 21) rfl ?_); refine goesL_ (some 18) rfl rfl Try.func21 (by kernel_rfl) rfl #[.int .u64 a0] rfl (by (try simp only [List.map_toArray, List.map_cons, List.map_nil]); first | done | rfl | (simp only [List.length_drop, List.length_take]; rfl) | (simp [Act.eval, IntKind.wrap_u64, IntKind.wrap_u8, IntKind.wrap_u32, wrap64]; omega)) ?_; (with_reducible refine (reals_Class.calls a0 t132 _ A4.out).mono ?_); rintro e w' ⟨rfl, ⟨nd, rfl⟩⟩; refine ⟨_, rfl, ?_⟩) | ((with_reducible refine gate_callee (f := 22) rfl ?_); refine goesL_ (some 20) rfl rfl Try.func22 (by kernel_rfl) rfl #[.int .u64 a0] rfl (by (try simp only [List.map_toArray, List.map_cons, List.map_nil]); first | done | rfl | (simp only [List.length_drop, List.length_take]; rfl) | (simp [Act.eval, IntKind.wrap_u64, IntKind.wrap_u8, IntKind.wrap_u32, wrap64]; omega)) ?_; (with_reducible refine (transomref02_Class.calls k a0 t133 _ A5.out).mono ?_); rintro e w' ⟨rfl, ⟨nd, rfl⟩⟩; refine ⟨_, rfl, ?_⟩) | (go_at_call 18; (with_reducible refine (reals_Canon.calls a0 t134 _ A7.out).mono ?_); rintro e w' ⟨rfl, ⟨nd, rfl⟩⟩) | (go_at_call 23; (with_reducible refine (transomref02_Canon.calls k a0 t135 _ A8.out).mono ?_); rintro e w' ⟨rfl, ⟨nd, rfl⟩⟩) | (go_at_call 24; (with_reducible refine (reals_Key.calls a0 t136 _ A10.out).mono ?_); rintro e w' ⟨rfl, ⟨nd, rfl⟩⟩) | (go_at_call 25; (with_reducible refine (transomref02_Key.calls k a0 t137 _ A11.out).mono ?_); rintro e w' ⟨rfl, ⟨nd, rfl⟩⟩))
            go_ret
            exact ⟨by first | rfl | (simp [errW_none, errW_some] <;> rfl) | (simp [*, errW_none, errW_some] <;> rfl), by repeat (first | (with_reducible first | exact HB.out | apply below_alloc | apply pw_below_drewN | apply below_drew1) | exact HB.out)⟩
        · rw [if_neg c13] at H
          have c13b0 : (t128 == t130) = false := beq_eq_false_iff_ne.mpr c13
          have c13b1 : (t128 != t130) = true := bne_iff_ne.mpr c13
          obtain rfl := Option.some.inj H
          go_enter Try.func7, Try.ntmps7
          go_wp2_with (first | ((with_reducible refine gate_callee (f := 19) rfl ?_); refine goesL_ (some 9) rfl rfl Try.func19 (by kernel_rfl) rfl #[.int .u64 a0] rfl (by (try simp only [List.map_toArray, List.map_cons, List.map_nil]); first | done | rfl | (simp only [List.length_drop, List.length_take]; rfl) | (simp [Act.eval, IntKind.wrap_u64, IntKind.wrap_u8, IntKind.wrap_u32, wrap64]; omega)) ?_; (with_reducible refine (reals_Back.calls a0 t128 t129 _ A2.out).mono ?_); rintro e w18 ⟨rfl, hb⟩; refine ⟨_, rfl, ?_⟩; have n0_ := Aside0.mk (below_step (by repeat (first | (with_reducible first | exact HB.out | apply below_alloc | apply pw_below_drewN | apply below_drew1) | exact HB.out)) hb); clear HB; have HB := n0_; clear n0_; (try clear hb); (try clear hb2); (try clear hk); (try clear hi)) | ((with_reducible refine gate_callee (f := 20) rfl ?_); refine goesL_ (some 14) rfl rfl Try.func20 (by kernel_rfl) rfl #[.int .u64 a0] rfl (by (try simp only [List.map_toArray, List.map_cons, List.map_nil]); first | done | rfl | (simp only [List.length_drop, List.length_take]; rfl) | (simp [Act.eval, IntKind.wrap_u64, IntKind.wrap_u8, IntKind.wrap_u32, wrap64]; omega)) ?_; (with_reducible refine (transomref02_Back.calls k a0 t130 t131 _ A3.out).mono ?_); rintro e w' ⟨rfl, ⟨nd, rfl⟩⟩; refine ⟨_, rfl, ?_⟩) | ((with_reducible refine gate_callee (f := 21) rfl ?_); refine goesL_ (some 18) rfl rfl Try.func21 (by kernel_rfl) rfl #[.int .u64 a0] rfl (by (try simp only [List.map_toArray, List.map_cons, List.map_nil]); first | done | rfl | (simp only [List.length_drop, List.length_take]; rfl) | (simp [Act.eval, IntKind.wrap_u64, IntKind.wrap_u8, IntKind.wrap_u32, wrap64]; omega)) ?_; (with_reducible refine (reals_Class.calls a0 t132 _ A4.out).mono ?_); rintro e w' ⟨rfl, ⟨nd, rfl⟩⟩; refine ⟨_, rfl, ?_⟩) | ((with_reducible refine gate_callee (f := 22) rfl ?_); refine goesL_ (some 20) rfl rfl Try.func22 (by kernel_rfl) rfl #[.int .u64 a0] rfl (by (try simp only [List.map_toArray, List.map_cons, List.map_nil]); first | done | rfl | (simp only [List.length_drop, List.length_take]; rfl) | (simp [Act.eval, IntKind.wrap_u64, IntKind.wrap_u8, IntKind.wrap_u32, wrap64]; omega)) ?_; (with_reducible refine (transomref02_Class.calls k a0 t133 _ A5.out).mono ?_); rintro e w' ⟨rfl, ⟨nd, rfl⟩⟩; refine ⟨_, rfl, ?_⟩) | (go_at_call 18; (with_reducible refine (reals_Canon.calls a0 t134 _ A7.out).mono ?_); rintro e w' ⟨rfl, ⟨nd, rfl⟩⟩) | (go_at_call 23; (with_reducible refine (transomref02_Canon.calls k a0 t135 _ A8.out).mono ?_); rintro e w' ⟨rfl, ⟨nd, rfl⟩⟩) | (go_at_call 24; (with_reducible refine (reals_Key.calls a0 t136 _ A10.out).mono ?_); rintro e w' ⟨rfl, ⟨nd, rfl⟩⟩) | (go_at_call 25; (with_reducible refine (transomref02_Key.calls k a0 t137 _ A11.out).mono ?_); rintro e w' ⟨rfl, ⟨nd, rfl⟩⟩))
          go_ret
          exact ⟨by first | rfl | (simp [errW_none, errW_some] <;> rfl) | (simp [*, errW_none, errW_some] <;> rfl), by repeat (first | (with_reducible first | exact HB.out | apply below_alloc | apply pw_below_drewN | apply below_drew1) | exact HB.out)⟩
      · rw [if_neg c12] at H
        have c12b0 : (t136 == t137) = false := beq_eq_false_iff_ne.mpr c12
        have c12b1 : (t136 != t137) = true := bne_iff_ne.mpr c12
        obtain rfl := Option.some.inj H
        go_enter Try.func7, Try.ntmps7
        go_wp2_with (first | ((with_reducible refine gate_callee (f := 19) rfl ?_); refine goesL_ (some 9) rfl rfl Try.func19 (by kernel_rfl) rfl #[.int .u64 a0] rfl (by (try simp only [List.map_toArray, List.map_cons, List.map_nil]); first | done | rfl | (simp only [List.length_drop, List.length_take]; rfl) | (simp [Act.eval, IntKind.wrap_u64, IntKind.wrap_u8, IntKind.wrap_u32, wrap64]; omega)) ?_; (with_reducible refine (reals_Back.calls a0 t128 t129 _ A2.out).mono ?_); rintro e w19 ⟨rfl, hb⟩; refine ⟨_, rfl, ?_⟩; have n0_ := Aside0.mk (below_step (by repeat (first | (with_reducible first | exact HB.out | apply below_alloc | apply pw_below_drewN | apply below_drew1) | exact HB.out)) hb); clear HB; have HB := n0_; clear n0_; (try clear hb); (try clear hb2); (try clear hk); (try clear hi)) | ((with_reducible refine gate_callee (f := 20) rfl ?_); refine goesL_ (some 14) rfl rfl Try.func20 (by kernel_rfl) rfl #[.int .u64 a0] rfl (by (try simp only [List.map_toArray, List.map_cons, List.map_nil]); first | done | rfl | (simp only [List.length_drop, List.length_take]; rfl) | (simp [Act.eval, IntKind.wrap_u64, IntKind.wrap_u8, IntKind.wrap_u32, wrap64]; omega)) ?_; (with_reducible refine (transomref02_Back.calls k a0 t130 t131 _ A3.out).mono ?_); rintro e w' ⟨rfl, ⟨nd, rfl⟩⟩; refine ⟨_, rfl, ?_⟩) | ((with_reducible refine gate_callee (f := 21) rfl ?_); refine goesL_ (some 18) rfl rfl Try.func21 (by kernel_rfl) rfl #[.int .u64 a0] rfl (by (try simp only [List.map_toArray, List.map_cons, List.map_nil]); first | done | rfl | (simp only [List.length_drop, List.length_take]; rfl) | (simp [Act.eval, IntKind.wrap_u64, IntKind.wrap_u8, IntKind.wrap_u32, wrap64]; omega)) ?_; (with_reducible refine (reals_Class.calls a0 t132 _ A4.out).mono ?_); rintro e w' ⟨rfl, ⟨nd, rfl⟩⟩; refine ⟨_, rfl, ?_⟩) | ((with_reducible refine gate_callee (f := 22) rfl ?_); refine goesL_ (some 20) rfl rfl Try.func22 (by kernel_rfl) rfl #[.int .u64 a0] rfl (by (try simp only [List.map_toArray, List.map_cons, List.map_nil]); first | done | rfl | (simp only [List.length_drop, List.length_take]; rfl) | (simp [Act.eval, IntKind.wrap_u64, IntKind.wrap_u8, IntKind.wrap_u32, wrap64]; omega)) ?_; (with_reducible refine (transomref02_Class.calls k a0 t133 _ A5.out).mono ?_); rintro e w' ⟨rfl, ⟨nd, rfl⟩⟩; refine ⟨_, rfl, ?_⟩) | (go_at_call 18; (with_reducible refine (reals_Canon.calls a0 t134 _ A7.out).mono ?_); rintro e w' ⟨rfl, ⟨nd, rfl⟩⟩) | (go_at_call 23; (with_reducible refine (transomref02_Canon.calls k a0 t135 _ A8.out).mono ?_); rintro e w' ⟨rfl, ⟨nd, rfl⟩⟩) | (go_at_call 24; (with_reducible refine (reals_Key.calls a0 t136 _ A10.out).mono ?_); rintro e w' ⟨rfl, ⟨nd, rfl⟩⟩) | (go_at_call 25; (with_reducible refine (transomref02_Key.calls k a0 t137 _ A11.out).mono ?_); rintro e w' ⟨rfl, ⟨nd, rfl⟩⟩))
        go_ret
        exact ⟨by first | rfl | (simp [errW_none, errW_some] <;> rfl) | (simp [*, errW_none, errW_some] <;> rfl), by repeat (first | (with_reducible first | exact HB.out | apply below_alloc | apply pw_below_drewN | apply below_drew1) | exact HB.out)⟩
    · rw [if_neg c9] at H
      have c9b0 : (t134 == t135) = false := beq_eq_false_iff_ne.mpr c9
      have c9b1 : (t134 != t135) = true := bne_iff_ne.mpr c9
      obtain rfl := Option.some.inj H
      go_enter Try.func7, Try.ntmps7
      go_wp2_with (first | ((with_reducible refine gate_callee (f := 19) rfl ?_); refine goesL_ (some 9) rfl rfl Try.func19 (by kernel_rfl) rfl #[.int .u64 a0] rfl (by (try simp only [List.map_toArray, List.map_cons, List.map_nil]); first | done | rfl | (simp only [List.length_drop, List.length_take]; rfl) | (simp [Act.eval, IntKind.wrap_u64, IntKind.wrap_u8, IntKind.wrap_u32, wrap64]; omega)) ?_; (with_reducible refine (reals_Back.calls a0 t128 t129 _ A2.out).mono ?_); rintro e w20 ⟨rfl, hb⟩; refine ⟨_, rfl, ?_⟩; have n0_ := Aside0.mk (below_step (by repeat (first | (with_reducible first | exact HB.out | apply below_alloc | apply pw_below_drewN | apply below_drew1) | exact HB.out)) hb); clear HB; have HB := n0_; clear n0_; (try clear hb); (try clear hb2); (try clear hk); (try clear hi)) | ((with_reducible refine gate_callee (f := 20) rfl ?_); refine goesL_ (some 14) rfl rfl Try.func20 (by kernel_rfl) rfl #[.int .u64 a0] rfl (by (try simp only [List.map_toArray, List.map_cons, List.map_nil]); first | done | rfl | (simp only [List.length_drop, List.length_take]; rfl) | (simp [Act.eval, IntKind.wrap_u64, IntKind.wrap_u8, IntKind.wrap_u32, wrap64]; omega)) ?_; (with_reducible refine (transomref02_Back.calls k a0 t130 t131 _ A3.out).mono ?_); rintro e w' ⟨rfl, ⟨nd, rfl⟩⟩; refine ⟨_, rfl, ?_⟩) | ((with_reducible refine gate_callee (f := 21) rfl ?_); refine goesL_ (some 18) rfl rfl Try.func21 (by kernel_rfl) rfl #[.int .u64 a0] rfl (by (try simp only [List.map_toArray, List.map_cons, List.map_nil]); first | done | rfl | (simp only [List.length_drop, List.length_take]; rfl) | (simp [Act.eval, IntKind.wrap_u64, IntKind.wrap_u8, IntKind.wrap_u32, wrap64]; omega)) ?_; (with_reducible refine (reals_Class.calls a0 t132 _ A4.out).mono ?_); rintro e w' ⟨rfl, ⟨nd, rfl⟩⟩; refine ⟨_, rfl, ?_⟩) | ((with_reducible refine gate_callee (f := 22) rfl ?_); refine goesL_ (some 20) rfl rfl Try.func22 (by kernel_rfl) rfl #[.int .u64 a0] rfl (by (try simp only [List.map_toArray, List.map_cons, List.map_nil]); first | done | rfl | (simp only [List.length_drop, List.length_take]; rfl) | (simp [Act.eval, IntKind.wrap_u64, IntKind.wrap_u8, IntKind.wrap_u32, wrap64]; omega)) ?_; (with_reducible refine (transomref02_Class.calls k a0 t133 _ A5.out).mono ?_); rintro e w' ⟨rfl, ⟨nd, rfl⟩⟩; refine ⟨_, rfl, ?_⟩) | (go_at_call 18; (with_reducible refine (reals_Canon.calls a0 t134 _ A7.out).mono ?_); rintro e w' ⟨rfl, ⟨nd, rfl⟩⟩) | (go_at_call 23; (with_reducible refine (transomref02_Canon.calls k a0 t135 _ A8.out).mono ?_); rintro e w' ⟨rfl, ⟨nd, rfl⟩⟩))
      go_ret
      exact ⟨by first | rfl | (simp [errW_none, errW_some] <;> rfl) | (simp [*, errW_none, errW_some] <;> rfl), by repeat (first | (with_reducible first | exact HB.out | apply below_alloc | apply pw_below_drewN | apply below_drew1) | exact HB.out)⟩
  · rw [if_neg c6] at H
    have c6b0 : (t132 == t133) = false := beq_eq_false_iff_ne.mpr c6
    have c6b1 : (t132 != t133) = true := bne_iff_ne.mpr c6
    obtain rfl := Option.some.inj H
    go_enter Try.func7, Try.ntmps7
    go_wp2_with (first | ((with_reducible refine gate_callee (f := 19) rfl ?_); refine goesL_ (some 9) rfl rfl Try.func19 (by kernel_rfl) rfl #[.int .u64 a0] rfl (by (try simp only [List.map_toArray, List.map_cons, List.map_nil]); first | done | rfl | (simp only [List.length_drop, List.length_take]; rfl) | (simp [Act.eval, IntKind.wrap_u64, IntKind.wrap_u8, IntKind.wrap_u32, wrap64]; omega)) ?_; (with_reducible refine (reals_Back.calls a0 t128 t129 _ A2.out).mono ?_); rintro e w21 ⟨rfl, hb⟩; refine ⟨_, rfl, ?_⟩; have n0_ := Aside0.mk (below_step (by repeat (first | (with_reducible first | exact HB.out | apply below_alloc | apply pw_below_drewN | apply below_drew1) | exact HB.out)) hb); clear HB; have HB := n0_; clear n0_; (try clear hb); (try clear hb2); (try clear hk); (try clear hi)) | ((with_reducible refine gate_callee (f := 20) rfl ?_); refine goesL_ (some 14) rfl rfl Try.func20 (by kernel_rfl) rfl #[.int .u64 a0] rfl (by (try simp only [List.map_toArray, List.map_cons, List.map_nil]); first | done | rfl | (simp only [List.length_drop, List.length_take]; rfl) | (simp [Act.eval, IntKind.wrap_u64, IntKind.wrap_u8, IntKind.wrap_u32, wrap64]; omega)) ?_; (with_reducible refine (transomref02_Back.calls k a0 t130 t131 _ A3.out).mono ?_); rintro e w' ⟨rfl, ⟨nd, rfl⟩⟩; refine ⟨_, rfl, ?_⟩) | ((with_reducible refine gate_callee (f := 21) rfl ?_); refine goesL_ (some 18) rfl rfl Try.func21 (by kernel_rfl) rfl #[.int .u64 a0] rfl (by (try simp only [List.map_toArray, List.map_cons, List.map_nil]); first | done | rfl | (simp only [List.length_drop, List.length_take]; rfl) | (simp [Act.eval, IntKind.wrap_u64, IntKind.wrap_u8, IntKind.wrap_u32, wrap64]; omega)) ?_; (with_reducible refine (reals_Class.calls a0 t132 _ A4.out).mono ?_); rintro e w' ⟨rfl, ⟨nd, rfl⟩⟩; refine ⟨_, rfl, ?_⟩) | ((with_reducible refine gate_callee (f := 22) rfl ?_); refine goesL_ (some 20) rfl rfl Try.func22 (by kernel_rfl) rfl #[.int .u64 a0] rfl (by (try simp only [List.map_toArray, List.map_cons, List.map_nil]); first | done | rfl | (simp only [List.length_drop, List.length_take]; rfl) | (simp [Act.eval, IntKind.wrap_u64, IntKind.wrap_u8, IntKind.wrap_u32, wrap64]; omega)) ?_; (with_reducible refine (transomref02_Class.calls k a0 t133 _ A5.out).mono ?_); rintro e w' ⟨rfl, ⟨nd, rfl⟩⟩; refine ⟨_, rfl, ?_⟩))
    go_ret
    exact ⟨by first | rfl | (simp [errW_none, errW_some] <;> rfl) | (simp [*, errW_none, errW_some] <;> rfl), by repeat (first | (with_reducible first | exact HB.out | apply below_alloc | apply pw_below_drewN | apply below_drew1) | exact HB.out)⟩

/-- THE ONE PURE STATEMENT of transomlaw02_RealsKinds: yours. -/
def transomlaw02_RealsKinds.Pure : Prop := ∀ (a0 : Int), (Lit.int .u64 a0).wf = true → ∃ k, transomlaw02_RealsKinds.f k a0 = some true
theorem transomlaw02_RealsKinds.walk (P : transomlaw02_RealsKinds.Pure) (a0 : Int) (w : World) (w0 : (Lit.int .u64 a0).wf = true) :
    Calls Try.prog 7 #[.int .u64 a0] w fun e w' => e = .returned (.bool true) ∧ Below w.heap.size w w' := by
  obtain ⟨k, h⟩ := P a0 w0
  refine (transomlaw02_RealsKinds.calls k a0 true w h).mono ?_
  rintro e w' ⟨rfl, hd⟩
  exact ⟨rfl, hd⟩

end Go.Proofs.Ytdcodlbelhbihaa.PRealsKinds
