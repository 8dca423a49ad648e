-- By a program of this session (a print over functions that are proved by hand), for this claim.
import Derived.Test.YtdcodlbelhbihaaPRealsBackx0
import Derived.Test.YtdcodlbelhbihaaPRealsBackx1
namespace Go.Proofs.Ytdcodlbelhbihaa.PRealsBack
open Go.RowKit Go.Proofs.YtdcodlbelhbihaaW.PrintWords Go.Proofs.YtdcodlbelhbihaaW.PrintLast Go.Proofs.YtdcodlbelhbihaaW.PrintMore
attribute [local go_sem] max2_int min2_int max_two min_two max_three min_three max_four min_four   -- for this text's walks alone
set_option linter.unusedVariables false
set_option linter.unusedSimpArgs false

/-! ### reals_Back: function 19 -/
def reals_Back.eight (b : Int) : Value := .agg #[.int .u8 (b / 72057594037927936), .int .u8 (b / 281474976710656 % 256), .int .u8 (b / 1099511627776 % 256), .int .u8 (b / 4294967296 % 256), .int .u8 (b / 16777216 % 256), .int .u8 (b / 65536 % 256), .int .u8 (b / 256 % 256), .int .u8 (b % 256)]
theorem reals_Back.bytes (b : Int) (h0 : 0 ≤ b) (h1 : b ≤ 18446744073709551615) (w : World) :
    Calls Try.prog 31 #[.int .u64 b] w fun e w' => e = .returned (reals_Back.eight b) ∧ Below w.heap.size w w' := by
  go_enter Try.func31, Try.ntmps31
  go_wp2
  refine wp_loop_rounds 9 ?_
  iterate 9 (rw [rounds_succ]; go_wp2)
  exact bodyPost_ret (v := reals_Back.eight b) (by simp [results, Try.results31, go_sem, reals_Back.eight]) rfl ⟨rfl, ((Below.refl _ _).alloc (Nat.le_refl _) _).alloc (by simp) _⟩
theorem reals_Back.forIn_all {P : Program} (W : World) (b : Nat → Sem (ForInStep (Option Bool × Unit))) (r : Nat → Bool) : ∀ l : List Nat, (∀ i ∈ l, (b i).run P W = .ok (if r i = true then ForInStep.yield (none, ()) else ForInStep.done (some false, ())) W) →
    (forIn l ((none, ()) : Option Bool × Unit) (fun i _ => b i)).run P W = .ok (if l.all r = true then (none, ()) else (some false, ())) W := by
  intro l
  induction l with
  | nil => intro h; rfl
  | cons i l ih =>
    intro h
    have h1 := h i (by simp)
    have h2 := ih (fun j hj => h j (by simp [hj]))
    rw [List.forIn_cons, Sem.run_bind, h1, Result.andThen_ok]
    cases hr : r i
    · simp [hr, Sem.run_pure]
    · simp only [if_true]
      rw [h2]
      simp [hr]
theorem reals_Back.apart {x y : Int} (hx0 : 0 ≤ x) (hx : x ≤ 18446744073709551615) (hy0 : 0 ≤ y) (hy : y ≤ 18446744073709551615) (w : World) :
    (binOp .neq 43 (reals_Back.eight x) (reals_Back.eight y)).run Try.prog w = .ok (.bool (decide (x ≠ y))) w := by
  unfold reals_Back.eight
  have h : ∀ (a0 a1 a2 a3 a4 a5 a6 a7 b0 b1 b2 b3 b4 b5 b6 b7 : Int), (Op.equalIn Op.maxDepth 43 (.agg #[.int .u8 a0, .int .u8 a1, .int .u8 a2, .int .u8 a3, .int .u8 a4, .int .u8 a5, .int .u8 a6, .int .u8 a7]) (.agg #[.int .u8 b0, .int .u8 b1, .int .u8 b2, .int .u8 b3, .int .u8 b4, .int .u8 b5, .int .u8 b6, .int .u8 b7])).run Try.prog w = .ok (a0 == b0 && (a1 == b1 && (a2 == b2 && (a3 == b3 && (a4 == b4 && (a5 == b5 && (a6 == b6 && a7 == b7))))))) w := by
    intro a0 a1 a2 a3 a4 a5 a6 a7 b0 b1 b2 b3 b4 b5 b6 b7
    have he : ∀ (d : Nat) (a b : Int) (W : World), (Op.equalIn (d + 1) 5 (.int .u8 a) (.int .u8 b)).run Try.prog W = .ok (a == b) W := by
      intro d a b W
      simp only [Op.equalIn, Sem.run_bind, run_underlying Try.underlying5, Result.andThen_ok, if_true]
      go_simp
    rw [show Op.maxDepth = 9998 + 1 + 1 from rfl]
    generalize 9998 = d
    rw [Op.equalIn]
    simp only [Sem.run_bind, run_underlying Try.underlying43, Result.andThen_ok]
    have hs : ∀ W, (sizeOf 5).run Try.prog W = .ok 1 W := fun W => by go_simp
    have hp0 : ∀ (c0 c1 c2 c3 c4 c5 c6 c7 : Value) (W : World), (part 5 #[c0, c1, c2, c3, c4, c5, c6, c7] 0).run Try.prog W = .ok c0 W := fun c0 c1 c2 c3 c4 c5 c6 c7 W => by go_simp
    have hp1 : ∀ (c0 c1 c2 c3 c4 c5 c6 c7 : Value) (W : World), (part 5 #[c0, c1, c2, c3, c4, c5, c6, c7] 1).run Try.prog W = .ok c1 W := fun c0 c1 c2 c3 c4 c5 c6 c7 W => by go_simp
    have hp2 : ∀ (c0 c1 c2 c3 c4 c5 c6 c7 : Value) (W : World), (part 5 #[c0, c1, c2, c3, c4, c5, c6, c7] 2).run Try.prog W = .ok c2 W := fun c0 c1 c2 c3 c4 c5 c6 c7 W => by go_simp
    have hp3 : ∀ (c0 c1 c2 c3 c4 c5 c6 c7 : Value) (W : World), (part 5 #[c0, c1, c2, c3, c4, c5, c6, c7] 3).run Try.prog W = .ok c3 W := fun c0 c1 c2 c3 c4 c5 c6 c7 W => by go_simp
    have hp4 : ∀ (c0 c1 c2 c3 c4 c5 c6 c7 : Value) (W : World), (part 5 #[c0, c1, c2, c3, c4, c5, c6, c7] 4).run Try.prog W = .ok c4 W := fun c0 c1 c2 c3 c4 c5 c6 c7 W => by go_simp
    have hp5 : ∀ (c0 c1 c2 c3 c4 c5 c6 c7 : Value) (W : World), (part 5 #[c0, c1, c2, c3, c4, c5, c6, c7] 5).run Try.prog W = .ok c5 W := fun c0 c1 c2 c3 c4 c5 c6 c7 W => by go_simp
    have hp6 : ∀ (c0 c1 c2 c3 c4 c5 c6 c7 : Value) (W : World), (part 5 #[c0, c1, c2, c3, c4, c5, c6, c7] 6).run Try.prog W = .ok c6 W := fun c0 c1 c2 c3 c4 c5 c6 c7 W => by go_simp
    have hp7 : ∀ (c0 c1 c2 c3 c4 c5 c6 c7 : Value) (W : World), (part 5 #[c0, c1, c2, c3, c4, c5, c6, c7] 7).run Try.prog W = .ok c7 W := fun c0 c1 c2 c3 c4 c5 c6 c7 W => by go_simp
    simp only [Std.Legacy.Range.forIn_eq_forIn_range', hs, Result.andThen_ok, Nat.mul_one]
    rw [show List.range' 0 ([:8] : Std.Legacy.Range).size = [0, 1, 2, 3, 4, 5, 6, 7] from rfl]
    rw [reals_Back.forIn_all w _ (fun i => [a0 == b0, a1 == b1, a2 == b2, a3 == b3, a4 == b4, a5 == b5, a6 == b6, a7 == b7].getD i true) [0, 1, 2, 3, 4, 5, 6, 7] ?_, Result.andThen_ok]
    · simp only [List.all_cons, List.all_nil, List.getD_cons_zero, List.getD_cons_succ, Bool.and_true]
      generalize (a0 == b0 && (a1 == b1 && (a2 == b2 && (a3 == b3 && (a4 == b4 && (a5 == b5 && (a6 == b6 && a7 == b7))))))) = r
      cases r <;> rfl
    · intro i hi
      simp only [List.mem_cons, List.not_mem_nil, or_false] at hi
      rcases hi with rfl | rfl | rfl | rfl | rfl | rfl | rfl | rfl
      all_goals
        simp only [Sem.run_bind, hp0, hp1, hp2, hp3, hp4, hp5, hp6, hp7, he, Result.andThen_ok, List.getD_cons_zero, List.getD_cons_succ]
        split
        · rename_i hq
          rw [if_neg (by simpa using hq)]; rfl
        · rename_i hq
          rw [if_pos (by simpa using hq)]; rfl
  have e : (binOp .neq 43 (.agg #[.int .u8 (x / 72057594037927936), .int .u8 (x / 281474976710656 % 256), .int .u8 (x / 1099511627776 % 256), .int .u8 (x / 4294967296 % 256), .int .u8 (x / 16777216 % 256), .int .u8 (x / 65536 % 256), .int .u8 (x / 256 % 256), .int .u8 (x % 256)]) (.agg #[.int .u8 (y / 72057594037927936), .int .u8 (y / 281474976710656 % 256), .int .u8 (y / 1099511627776 % 256), .int .u8 (y / 4294967296 % 256), .int .u8 (y / 16777216 % 256), .int .u8 (y / 65536 % 256), .int .u8 (y / 256 % 256), .int .u8 (y % 256)])) = (do pure (.bool (!(← Op.equal 43 (.agg #[.int .u8 (x / 72057594037927936), .int .u8 (x / 281474976710656 % 256), .int .u8 (x / 1099511627776 % 256), .int .u8 (x / 4294967296 % 256), .int .u8 (x / 16777216 % 256), .int .u8 (x / 65536 % 256), .int .u8 (x / 256 % 256), .int .u8 (x % 256)]) (.agg #[.int .u8 (y / 72057594037927936), .int .u8 (y / 281474976710656 % 256), .int .u8 (y / 1099511627776 % 256), .int .u8 (y / 4294967296 % 256), .int .u8 (y / 16777216 % 256), .int .u8 (y / 65536 % 256), .int .u8 (y / 256 % 256), .int .u8 (y % 256)])))) : Sem Value) := rfl
  rw [e, Sem.run_bind]
  unfold Op.equal
  rw [h, Result.andThen_ok, Sem.run_pure]
  congr 2
  by_cases c : x = y
  · subst c; simp
  · rw [decide_eq_true c]
    simp only [Bool.not_eq_true', Bool.and_eq_false_iff, beq_eq_false_iff_ne]
    omega
def reals_Back.b (k : Int) : Int := if 9223372036854775808 ≤ k then k - 9223372036854775808 else 18446744073709551615 - k
def reals_Back.f (k : Int) : Option (Int × Bool) :=
  if 0 ≤ k ∧ k < 18446744073709551616 then some (if Fl.inf < Fl.rung (reals_Back.b k).toNat ∧ reals_Back.b k ≠ 9221120237041090560 then (0, false) else (reals_Back.b k, true)) else none
theorem reals_Back.guard (x y : Int) (p q : Operand) (W : World) : (eqGuard .neq 43 p q (reals_Back.eight x) (reals_Back.eight y)).run Try.prog W = .ok () W := by
  have h : Try.prog.eqGuardType Try.prog.depth 43 = false := by kernel_rfl
  unfold eqGuard reals_Back.eight
  simp [h]
theorem reals_Back.walk (k b c : Int) (hi : Bool) (hb0 : 0 ≤ b) (hb1 : b ≤ 18446744073709551615) (hc0 : 0 ≤ c) (hc1 : c ≤ 18446744073709551615)
    (hcan : reals_Canon.f b = some c) (h1 : (Go.bits .and .u64 k 9223372036854775808 == 0) = !hi) (h2 : hi = true → Go.bits .andNot .u64 k 9223372036854775808 = b) (h3 : hi = false → Go.bits .xor .u64 IntKind.u64.max k = b) (w : World) :
    Calls Try.prog 19 #[.int .u64 k] w fun e w' => e = .returned (.tuple #[.int .u64 (if c = b then b else 0), .bool (decide (c = b))]) ∧ Below w.heap.size w w' := by
  have hsg : IntKind.u64.signed = false := rfl
  have hap := reals_Back.apart hc0 hc1 hb0 hb1
  have hgu := reals_Back.guard c b
  have hby := reals_Back.bytes c hc0 hc1
  have hbz := reals_Back.bytes b hb0 hb1
  have hcc := fun w => reals_Canon.calls b c w hcan
  clear hcan hb0 hb1 hc0 hc1
  by_cases hcb : c = b
  · rw [if_pos hcb, decide_eq_true hcb]
    have hd : decide (c ≠ b) = false := decide_eq_false (fun h => h hcb)
    rw [hd] at hap
    clear hcb hd
    cases hi
    · have h4 := h3 rfl
      clear h2 h3
      go_enter Try.func19, Try.ntmps19
      go_wp2_with (go_at_call 18; ((with_reducible refine (hcc _).mono ?_); rintro e w' ⟨rfl, ⟨m, rfl⟩⟩))
      with_reducible refine (hby _).mono ?_
      rintro e w1 ⟨rfl, hb1⟩
      go_wp2_with (fail)
      with_reducible refine (hbz _).mono ?_
      rintro e w2 ⟨rfl, hb2⟩
      go_wp2_with (fail)
      go_ret2
      exact ⟨rfl, below_step (below_step (pw_below_drewN (Below.refl _ _) _) hb1) hb2⟩
    · have h4 := h2 rfl
      clear h2 h3
      go_enter Try.func19, Try.ntmps19
      go_wp2_with (go_at_call 18; ((with_reducible refine (hcc _).mono ?_); rintro e w' ⟨rfl, ⟨m, rfl⟩⟩))
      with_reducible refine (hby _).mono ?_
      rintro e w1 ⟨rfl, hb1⟩
      go_wp2_with (fail)
      with_reducible refine (hbz _).mono ?_
      rintro e w2 ⟨rfl, hb2⟩
      go_wp2_with (fail)
      go_ret2
      exact ⟨rfl, below_step (below_step (pw_below_drewN (Below.refl _ _) _) hb1) hb2⟩
  · rw [if_neg hcb, decide_eq_false hcb]
    have hd : decide (c ≠ b) = true := decide_eq_true hcb
    rw [hd] at hap
    clear hcb hd
    cases hi
    · have h4 := h3 rfl
      clear h2 h3
      go_enter Try.func19, Try.ntmps19
      go_wp2_with (go_at_call 18; ((with_reducible refine (hcc _).mono ?_); rintro e w' ⟨rfl, ⟨m, rfl⟩⟩))
      with_reducible refine (hby _).mono ?_
      rintro e w1 ⟨rfl, hb1⟩
      go_wp2_with (fail)
      with_reducible refine (hbz _).mono ?_
      rintro e w2 ⟨rfl, hb2⟩
      go_wp2_with (fail)
      go_ret2
      exact ⟨rfl, below_step (below_step (pw_below_drewN (Below.refl _ _) _) hb1) hb2⟩
    · have h4 := h2 rfl
      clear h2 h3
      go_enter Try.func19, Try.ntmps19
      go_wp2_with (go_at_call 18; ((with_reducible refine (hcc _).mono ?_); rintro e w' ⟨rfl, ⟨m, rfl⟩⟩))
      with_reducible refine (hby _).mono ?_
      rintro e w1 ⟨rfl, hb1⟩
      go_wp2_with (fail)
      with_reducible refine (hbz _).mono ?_
      rintro e w2 ⟨rfl, hb2⟩
      go_wp2_with (fail)
      go_ret2
      exact ⟨rfl, below_step (below_step (pw_below_drewN (Below.refl _ _) _) hb1) hb2⟩
theorem reals_Back.and_top {n : Nat} (h : n < 18446744073709551616) : Go.bits .and .u64 (n : Int) 9223372036854775808 = if n < 9223372036854775808 then 0 else 9223372036854775808 := by
  have h1 := Go.u64_and_nat n 9223372036854775808 h (by omega)
  have h2 : n &&& 9223372036854775808 = (n.testBit 63).toNat * 9223372036854775808 := by
    have : n &&& 2 ^ 63 = (n.testBit 63).toNat * 2 ^ 63 := by
      apply Nat.eq_of_testBit_eq
      intro j
      rw [Nat.testBit_and, Nat.testBit_two_pow]
      by_cases e : 63 = j
      · subst e
        cases n.testBit 63 <;> decide
      · rw [decide_eq_false e, Bool.and_false]
        cases n.testBit 63
        · simp
        · rw [Bool.toNat_true, Nat.one_mul, Nat.testBit_two_pow, decide_eq_false e]
    exact this
  have h3 : n.testBit 63 = decide (9223372036854775808 ≤ n) := by
    rw [Nat.testBit_eq_decide_div_mod_eq, show (2 : Nat) ^ 63 = 9223372036854775808 from rfl]
    by_cases c : 9223372036854775808 ≤ n
    · rw [decide_eq_true c, decide_eq_true (by omega)]
    · rw [decide_eq_false c, decide_eq_false (by omega)]
  rw [h2, h3] at h1
  by_cases c : 9223372036854775808 ≤ n
  · rw [if_neg (by omega)]; rw [decide_eq_true c] at h1; exact h1
  · rw [if_pos (by omega)]; rw [decide_eq_false c] at h1; exact h1
theorem reals_Back.andnot_top {n : Nat} (h : n < 18446744073709551616) : Go.bits .andNot .u64 (n : Int) 9223372036854775808 = ((n % 9223372036854775808 : Nat) : Int) := by
  have h1 := Go.u64_andNot_nat n 9223372036854775808 h (by omega)
  have h2 : n &&& (18446744073709551615 - 9223372036854775808) = n % 2 ^ 63 := Nat.and_two_pow_sub_one_eq_mod n 63
  rw [h2] at h1
  exact h1
theorem reals_Back.not_u64 {n : Nat} (h : n < 18446744073709551616) : Go.bits .xor .u64 IntKind.u64.max (n : Int) = ((18446744073709551615 - n : Nat) : Int) := by
  have h1 := Go.u64_xor_nat 18446744073709551615 n (by omega) h
  have e : 18446744073709551615 ^^^ n = 18446744073709551615 - n := by
    have := congrArg BitVec.toNat (BitVec.allOnes_xor (x := BitVec.ofNat 64 n))
    rw [BitVec.toNat_xor, BitVec.toNat_not, BitVec.toNat_allOnes, BitVec.toNat_ofNat, Nat.mod_eq_of_lt h] at this
    exact this
  rw [e] at h1
  have hm : IntKind.u64.max = 18446744073709551615 := by decide
  rw [hm]
  exact h1
theorem reals_Back.calls (a0 : Int) (r1 : Int) (r2 : Bool) (w : World) (h : reals_Back.f a0 = some (r1, r2)) :
    Calls Try.prog 19 #[.int .u64 a0] w fun e w' => e = .returned (.tuple #[.int .u64 r1, .bool r2]) ∧ Below w.heap.size w w' := by
  unfold reals_Back.f at h
  by_cases hd : 0 ≤ a0 ∧ a0 < 18446744073709551616
  case neg => rw [if_neg hd] at h; exact absurd h (by simp)
  rw [if_pos hd] at h
  obtain ⟨n, rfl⟩ : ∃ n : Nat, a0 = (n : Int) := ⟨a0.toNat, by omega⟩
  have hn : n < 18446744073709551616 := by omega
  have hb0 : 0 ≤ reals_Back.b n := by unfold reals_Back.b; split <;> omega
  have hb1 : reals_Back.b n ≤ 18446744073709551615 := by unfold reals_Back.b; split <;> omega
  have h1 := reals_Back.and_top hn
  have h2 := reals_Back.andnot_top hn
  have h3 := reals_Back.not_u64 hn
  have key : ∀ c, reals_Canon.f (reals_Back.b n) = some c → 0 ≤ c → c ≤ 18446744073709551615 → Calls Try.prog 19 #[.int .u64 n] w fun e w' => e = .returned (.tuple #[.int .u64 (if c = reals_Back.b n then reals_Back.b n else 0), .bool (decide (c = reals_Back.b n))]) ∧ Below w.heap.size w w' := by
    intro c hc hc0 hc1
    refine reals_Back.walk n (reals_Back.b n) c (decide (9223372036854775808 ≤ n)) hb0 hb1 hc0 hc1 hc ?_ ?_ ?_ w
    · rw [h1]
      by_cases c : 9223372036854775808 ≤ n
      · rw [if_neg (by omega), decide_eq_true c]; rfl
      · rw [if_pos (by omega), decide_eq_false c]; rfl
    · intro hd
      have := of_decide_eq_true hd
      rw [h2]; unfold reals_Back.b; rw [if_pos (by omega)]; omega
    · intro hd
      have := of_decide_eq_false hd
      rw [h3]; unfold reals_Back.b; rw [if_neg (by omega)]; omega
  by_cases c : Fl.inf < Fl.rung (reals_Back.b n).toNat
  · have := key 9221120237041090560 (by unfold reals_Canon.f; rw [if_pos c]) (by omega) (by omega)
    by_cases e : reals_Back.b n = 9221120237041090560
    · rw [if_neg (fun h => h.2 e)] at h
      rw [if_pos e.symm, decide_eq_true e.symm] at this
      simp only [Option.some.injEq, Prod.mk.injEq] at h
      obtain ⟨rfl, rfl⟩ := h
      exact this
    · rw [if_pos ⟨c, e⟩] at h
      rw [if_neg (fun h => e h.symm), decide_eq_false (fun h => e h.symm)] at this
      simp only [Option.some.injEq, Prod.mk.injEq] at h
      obtain ⟨rfl, rfl⟩ := h
      exact this
  · have := key (reals_Back.b n) (by unfold reals_Canon.f; rw [if_neg c]) hb0 hb1
    rw [if_neg (fun h => c h.1)] at h
    rw [if_pos rfl, decide_eq_true rfl] at this
    simp only [Option.some.injEq, Prod.mk.injEq] at h
    obtain ⟨rfl, rfl⟩ := h
    exact this

/-! ### transomlaw02_RealsBack: function 8 -/
mutual
def transomlaw02_RealsBack.j0 : Nat → Int → Int → Bool → Option (Bool)
  | 0, _, _, _ => none
  | k + 1, x0, x1, x28 => if x28 = true then (some false) else ((reals_FromInt.f x0).bind fun bt122 => (if bt122.2 = true then ((reals_ToInt.f bt122.1).bind fun bt124 => (if bt124.1 = x0 then (if bt124.2 = true then (transomlaw02_RealsBack.j1 k x1) else (some false)) else (some false))) else (transomlaw02_RealsBack.j1 k x1)))
def transomlaw02_RealsBack.j1 : Nat → Int → Option (Bool)
  | 0, _ => none
  | k + 1, x1 => (reals_ToInt.f x1).bind fun bt126 => (if bt126.2 = true then ((reals_FromInt.f bt126.1).bind fun bt128 => (if bt128.2 = true then ((reals_Equal.f bt128.1 x1).bind fun t130 => (if t130 = true then (if bt128.1 = x1 then ((transomlaw02_awake.f).bind fun t131 => (some t131)) else ((reals_Class.f x1).bind fun t132 => (if t132 = 3 then ((transomlaw02_awake.f).bind fun t133 => (some t133)) else (some false)))) else (some false))) else (some false))) else ((transomlaw02_awake.f).bind fun t134 => (some t134)))
end
def transomlaw02_RealsBack.f (k : Nat) (a0 : Int) (a1 : Int) : Option (Bool) := (reals_Key.f a1).bind fun t118 => ((reals_Back.f t118).bind fun bt119 => (if bt119.2 = true then ((reals_Canon.f a1).bind fun t121 => (transomlaw02_RealsBack.j0 k a0 a1 (bt119.1 != t121))) else (transomlaw02_RealsBack.j0 k a0 a1 true)))
theorem transomlaw02_RealsBack.mono_l : ∀ k, (∀ y0 y1 y2, LeO (transomlaw02_RealsBack.j0 k y0 y1 y2) (transomlaw02_RealsBack.j0 (k + 1) y0 y1 y2)) ∧ (∀ y0, LeO (transomlaw02_RealsBack.j1 k y0) (transomlaw02_RealsBack.j1 (k + 1) y0))
  | 0 => ⟨fun _ _ _ r h => by simp [transomlaw02_RealsBack.j0] at h, fun _ r h => by simp [transomlaw02_RealsBack.j1] at h⟩
  | k + 1 => by
    obtain ⟨ih0, ih1⟩ := transomlaw02_RealsBack.mono_l k
    refine ⟨?_, ?_⟩
    · intro y0 y1 y2
      unfold transomlaw02_RealsBack.j0
      repeat' first
      | (with_reducible exact ih0 _ _ _)
      | (with_reducible exact ih1 _)
      | (with_reducible exact LeO.refl _)
      | (with_reducible exact LeO.none _)
      | (with_reducible refine LeO.ite ?_ ?_)
      | (with_reducible refine LeO.bind ?_ (fun _ => ?_))
      | exact ih0 _ _ _
      | exact ih1 _
      | exact LeO.none _
      | refine LeO.ite ?_ ?_
      | refine LeO.bind ?_ (fun _ => ?_)
    · intro y0
      unfold transomlaw02_RealsBack.j1
      repeat' first
      | (with_reducible exact ih0 _ _ _)
      | (with_reducible exact ih1 _)
      | (with_reducible exact LeO.refl _)
      | (with_reducible exact LeO.none _)
      | (with_reducible refine LeO.ite ?_ ?_)
      | (with_reducible refine LeO.bind ?_ (fun _ => ?_))
      | exact ih0 _ _ _
      | exact ih1 _
      | exact LeO.none _
      | refine LeO.ite ?_ ?_
      | refine LeO.bind ?_ (fun _ => ?_)
theorem transomlaw02_RealsBack.mono : ∀ a0 a1 k, LeO (transomlaw02_RealsBack.f k a0 a1) (transomlaw02_RealsBack.f (k + 1) a0 a1) := by
  intro a0 a1 k
  obtain ⟨ih0, ih1⟩ := transomlaw02_RealsBack.mono_l k
  unfold transomlaw02_RealsBack.f
  repeat' first
      | (with_reducible exact ih0 _ _ _)
      | (with_reducible exact ih1 _)
      | (with_reducible exact LeO.refl _)
      | (with_reducible exact LeO.none _)
      | (with_reducible refine LeO.ite ?_ ?_)
      | (with_reducible refine LeO.bind ?_ (fun _ => ?_))
      | exact ih0 _ _ _
      | exact ih1 _
      | exact LeO.none _
      | refine LeO.ite ?_ ?_
      | refine LeO.bind ?_ (fun _ => ?_)
set_option maxHeartbeats 8000000 in
set_option maxRecDepth 100000 in
theorem transomlaw02_RealsBack.calls (k : Nat) (a0 : Int) (a1 : Int) (r : Bool) (w : World) (h : transomlaw02_RealsBack.f k a0 a1 = some r) :
    Calls Try.prog 8 #[.int .i64 a0, .int .u64 a1] w fun e w' => e = .returned (.bool r) ∧ Below w.heap.size w w' := by
  have HB := Aside0.mk (Below.refl w.heap.size w)
  have H : ((reals_Key.f a1).bind fun t118 => ((reals_Back.f t118).bind fun bt119 => (if bt119.2 = true then ((reals_Canon.f a1).bind fun t121 => (transomlaw02_RealsBack.j0 k a0 a1 (bt119.1 != t121))) else (transomlaw02_RealsBack.j0 k a0 a1 true)))) = some r := h
  clear h
  replace H := Option.bind_eq_some_iff.mp H
  obtain ⟨t118, A30, H⟩ := H
  replace H : ((reals_Back.f t118).bind fun bt119 => (if bt119.2 = true then ((reals_Canon.f a1).bind fun t121 => (transomlaw02_RealsBack.j0 k a0 a1 (bt119.1 != t121))) else (transomlaw02_RealsBack.j0 k a0 a1 true))) = some r := H
  have A3 := Aside0.mk A30
  clear A30
  replace H := Option.bind_eq_some_iff.mp H
  obtain ⟨⟨t119, t120⟩, A40, H⟩ := H
  replace H : (if t120 = true then ((reals_Canon.f a1).bind fun t121 => (transomlaw02_RealsBack.j0 k a0 a1 (t119 != t121))) else (transomlaw02_RealsBack.j0 k a0 a1 true)) = some r := H
  have A4 := Aside0.mk A40
  clear A40
  have HC5 := Aside0.mk H
  clear H
  go_enter Try.func8, Try.ntmps8
  go_upto_region 2 with (first | ((with_reducible refine gate_callee (f := 24) rfl ?_); refine goesL_ (some 17) rfl rfl Try.func24 (by kernel_rfl) rfl #[.int .u64 a1] rfl (by (try simp only [List.map_toArray, List.map_cons, List.map_nil]); first | done | rfl | (simp only [List.length_drop, List.length_take]; rfl) | (simp [Act.eval, IntKind.wrap_u64, IntKind.wrap_u8, IntKind.wrap_u32, wrap64]; omega)) ?_; (with_reducible refine (reals_Key.calls a1 t118 _ A3.out).mono ?_); rintro e w' ⟨rfl, ⟨nd, rfl⟩⟩; refine ⟨_, rfl, ?_⟩) | ((with_reducible refine gate_callee (f := 19) rfl ?_); refine goesL_ (some 18) rfl rfl Try.func19 (by kernel_rfl) rfl #[.int .u64 t118] rfl (by (try simp only [List.map_toArray, List.map_cons, List.map_nil]); first | done | rfl | (simp only [List.length_drop, List.length_take]; rfl) | (simp [Act.eval, IntKind.wrap_u64, IntKind.wrap_u8, IntKind.wrap_u32, wrap64]; omega)) ?_; (with_reducible refine (reals_Back.calls t118 t119 t120 _ A4.out).mono ?_); rintro e w6 ⟨rfl, hb⟩; refine ⟨_, rfl, ?_⟩; have n0_ := Aside0.mk (below_step (by repeat (first | (with_reducible first | exact HB.out | apply below_alloc | apply pw_below_drewN | apply below_drew1) | exact HB.out)) hb); clear HB; have HB := n0_; clear n0_; (try clear hb); (try clear hb2); (try clear hk); (try clear hi)))
  (try simp only [Act.put, List.setIfInBounds_toArray, List.set_cons_zero, List.set_cons_succ])
  go_cut [28] (fun v28 wc => ∃ (kq : Nat) (x28_4 : Bool), v28 = .bool x28_4 ∧ Aside0 (transomlaw02_RealsBack.j0 kq a0 a1 x28_4 = some r) ∧ Aside0 (kq ≤ k) ∧ Aside0 (Below w.heap.size w wc))
  case first =>
    have H := HC5.out
    clear HC5
    by_cases c7 : t120 = true
    · subst c7
      have H1 : ((reals_Canon.f a1).bind fun t121 => (transomlaw02_RealsBack.j0 k a0 a1 (t119 != t121))) = some r := by rw [if_pos rfl] at H; exact H
      clear H
      have H := H1
      clear H1
      replace H := Option.bind_eq_some_iff.mp H
      obtain ⟨t121, A80, H⟩ := H
      replace H : (transomlaw02_RealsBack.j0 k a0 a1 (t119 != t121)) = some r := H
      have A8 := Aside0.mk A80
      clear A80
      have H' := Aside0.mk H
      clear H
      go_wp2_with (first | (go_at_call 18; (with_reducible refine (reals_Canon.calls a1 t121 _ A8.out).mono ?_); rintro e w' ⟨rfl, ⟨nd, rfl⟩⟩))
      go_meet
      case rel => exact ⟨_, ((t119 != t121)), (by first | rfl | (simp; done) | (simp [*]; done)), H', ⟨by first | omega | exact Nat.le_refl _⟩, ⟨by repeat (first | (with_reducible first | exact HB.out | apply below_alloc | apply pw_below_drewN | apply below_drew1) | exact HB.out)⟩⟩
    · replace c7 := Bool.eq_false_iff.mpr c7
      subst c7
      have H1 : (transomlaw02_RealsBack.j0 k a0 a1 true) = some r := by rw [if_neg (show ¬ (false = true) by decide)] at H; exact H
      clear H
      have H := H1
      clear H1
      have H' := Aside0.mk H
      clear H
      go_wp2
      go_meet
      case rel => exact ⟨_, (true), (by first | rfl | (simp; done) | (simp [*]; done)), H', ⟨by first | omega | exact Nat.le_refl _⟩, ⟨by repeat (first | (with_reducible first | exact HB.out | apply below_alloc | apply pw_below_drewN | apply below_drew1) | exact HB.out)⟩⟩
  case rest =>
    clear HC5
    try clear c1
    try clear c2
    try clear p2
    try clear p6
    try clear c7
    try clear c8
    obtain ⟨kq, x28_4, rfl, HA, HJ4, HB⟩ := hcut
    cases kq with
    | zero => exact absurd HA.out (by simp [transomlaw02_RealsBack.j0])
    | succ kj4 =>
      have H := HA.out
      clear HA
      simp only [transomlaw02_RealsBack.j0] at H
      by_cases c9 : x28_4 = true
      · subst c9
        have H1 : (some false) = some r := by rw [if_pos rfl] at H; exact H
        clear H
        have H := H1
        clear H1
        obtain rfl := Option.some.inj H
        go_wp2
        go_ret
        exact ⟨by first | rfl | (simp [errW_none, errW_some] <;> rfl) | (simp [*, errW_none, errW_some] <;> rfl), by repeat (first | (with_reducible first | exact HB.out | apply below_alloc | apply pw_below_drewN | apply below_drew1) | exact HB.out)⟩
      · replace c9 := Bool.eq_false_iff.mpr c9
        subst c9
        have H1 : ((reals_FromInt.f a0).bind fun bt122 => (if bt122.2 = true then ((reals_ToInt.f bt122.1).bind fun bt124 => (if bt124.1 = a0 then (if bt124.2 = true then (transomlaw02_RealsBack.j1 kj4 a1) else (some false)) else (some false))) else (transomlaw02_RealsBack.j1 kj4 a1))) = some r := by rw [if_neg (show ¬ (false = true) by decide)] at H; exact H
        clear H
        have H := H1
        clear H1
        replace H := Option.bind_eq_some_iff.mp H
        obtain ⟨⟨t122, t123⟩, A100, H⟩ := H
        replace H : (if t123 = true then ((reals_ToInt.f t122).bind fun bt124 => (if bt124.1 = a0 then (if bt124.2 = true then (transomlaw02_RealsBack.j1 kj4 a1) else (some false)) else (some false))) else (transomlaw02_RealsBack.j1 kj4 a1)) = some r := H
        have A10 := Aside0.mk A100
        clear A100
        have HC11 := Aside0.mk H
        clear H
        go_upto_if 34 with (first | ((with_reducible refine gate_callee (f := 14) rfl ?_); refine goesL_ (some 31) rfl rfl Try.func14 (by kernel_rfl) rfl #[.int .i64 a0] rfl (by (try simp only [List.map_toArray, List.map_cons, List.map_nil]); first | done | rfl | (simp only [List.length_drop, List.length_take]; rfl) | (simp [Act.eval, IntKind.wrap_u64, IntKind.wrap_u8, IntKind.wrap_u32, wrap64]; omega)) ?_; (with_reducible refine (reals_FromInt.calls a0 t122 t123 _ A10.out).mono ?_); rintro e w' ⟨rfl, ⟨nd, rfl⟩⟩; refine ⟨_, rfl, ?_⟩))
        (try simp only [Act.put, List.setIfInBounds_toArray, List.set_cons_zero, List.set_cons_succ])
        go_cut [] (fun wc => ∃ (kq : Nat), Aside0 (transomlaw02_RealsBack.j1 kq a1 = some r) ∧ Aside0 (kq ≤ kj4) ∧ Aside0 (Below w.heap.size w wc))
        case first =>
          have H := HC11.out
          clear HC11
          by_cases c12 : t123 = true
          · subst c12
            have H1 : ((reals_ToInt.f t122).bind fun bt124 => (if bt124.1 = a0 then (if bt124.2 = true then (transomlaw02_RealsBack.j1 kj4 a1) else (some false)) else (some false))) = some r := by rw [if_pos rfl] at H; exact H
            clear H
            have H := H1
            clear H1
            replace H := Option.bind_eq_some_iff.mp H
            obtain ⟨⟨t124, t125⟩, A130, H⟩ := H
            replace H : (if t124 = a0 then (if t125 = true then (transomlaw02_RealsBack.j1 kj4 a1) else (some false)) else (some false)) = some r := H
            have A13 := Aside0.mk A130
            clear A130
            by_cases c14 : t124 = a0
            · rw [if_pos c14] at H
              have c14b0 : (t124 == a0) = true := beq_iff_eq.mpr c14
              have c14b1 : (t124 != a0) = false := bne_eq_false_iff_eq.mpr c14
              clear c14
              (first | rw [c14b0] | (simp only [i64_w, i32_w]; rw [c14b0]) | skip)
              by_cases c15 : t125 = true
              · subst c15
                have H1 : (transomlaw02_RealsBack.j1 kj4 a1) = some r := by rw [if_pos rfl] at H; exact H
                clear H
                have H := H1
                clear H1
                have H' := Aside0.mk H
                clear H
                go_wp2_with (first | ((with_reducible refine gate_callee (f := 16) rfl ?_); refine goesL_ (some 37) rfl rfl Try.func16 (by kernel_rfl) rfl #[.int .u64 t122] rfl (by (try simp only [List.map_toArray, List.map_cons, List.map_nil]); first | done | rfl | (simp only [List.length_drop, List.length_take]; rfl) | (simp [Act.eval, IntKind.wrap_u64, IntKind.wrap_u8, IntKind.wrap_u32, wrap64]; omega)) ?_; (with_reducible refine (reals_ToInt.calls t122 t124 true _ A13.out).mono ?_); rintro e w' ⟨rfl, ⟨nd, rfl⟩⟩; refine ⟨_, rfl, ?_⟩))
                go_meet
                case rel => exact ⟨_, H', ⟨by have := HJ4.out; first | omega | exact Nat.le_refl _⟩, ⟨by repeat (first | (with_reducible first | exact HB.out | apply below_alloc | apply pw_below_drewN | apply below_drew1) | exact HB.out)⟩⟩
              · replace c15 := Bool.eq_false_iff.mpr c15
                subst c15
                have H1 : (some false) = some r := by rw [if_neg (show ¬ (false = true) by decide)] at H; exact H
                clear H
                have H := H1
                clear H1
                obtain rfl := Option.some.inj H
                go_wp2_with (first | ((with_reducible refine gate_callee (f := 16) rfl ?_); refine goesL_ (some 37) rfl rfl Try.func16 (by kernel_rfl) rfl #[.int .u64 t122] rfl (by (try simp only [List.map_toArray, List.map_cons, List.map_nil]); first | done | rfl | (simp only [List.length_drop, List.length_take]; rfl) | (simp [Act.eval, IntKind.wrap_u64, IntKind.wrap_u8, IntKind.wrap_u32, wrap64]; omega)) ?_; (with_reducible refine (reals_ToInt.calls t122 t124 false _ A13.out).mono ?_); rintro e w' ⟨rfl, ⟨nd, rfl⟩⟩; refine ⟨_, rfl, ?_⟩))
                go_ret
                exact ⟨by first | rfl | (simp [errW_none, errW_some] <;> rfl) | (simp [*, errW_none, errW_some] <;> rfl), by repeat (first | (with_reducible first | exact HB.out | apply below_alloc | apply pw_below_drewN | apply below_drew1) | exact HB.out)⟩
            · rw [if_neg c14] at H
              have c14b0 : (t124 == a0) = false := beq_eq_false_iff_ne.mpr c14
              have c14b1 : (t124 != a0) = true := bne_iff_ne.mpr c14
              (first | rw [c14b0] | (simp only [i64_w, i32_w]; rw [c14b0]) | skip)
              obtain rfl := Option.some.inj H
              go_wp2_with (first | ((with_reducible refine gate_callee (f := 16) rfl ?_); refine goesL_ (some 37) rfl rfl Try.func16 (by kernel_rfl) rfl #[.int .u64 t122] rfl (by (try simp only [List.map_toArray, List.map_cons, List.map_nil]); first | done | rfl | (simp only [List.length_drop, List.length_take]; rfl) | (simp [Act.eval, IntKind.wrap_u64, IntKind.wrap_u8, IntKind.wrap_u32, wrap64]; omega)) ?_; (with_reducible refine (reals_ToInt.calls t122 t124 t125 _ A13.out).mono ?_); rintro e w' ⟨rfl, ⟨nd, rfl⟩⟩; refine ⟨_, rfl, ?_⟩))
              go_ret
              exact ⟨by first | rfl | (simp [errW_none, errW_some] <;> rfl) | (simp [*, errW_none, errW_some] <;> rfl), by repeat (first | (with_reducible first | exact HB.out | apply below_alloc | apply pw_below_drewN | apply below_drew1) | exact HB.out)⟩
          · replace c12 := Bool.eq_false_iff.mpr c12
            subst c12
            have H1 : (transomlaw02_RealsBack.j1 kj4 a1) = some r := by rw [if_neg (show ¬ (false = true) by decide)] at H; exact H
            clear H
            have H := H1
            clear H1
            have H' := Aside0.mk H
            clear H
            go_wp2
            go_meet
            case rel => exact ⟨_, H', ⟨by have := HJ4.out; first | omega | exact Nat.le_refl _⟩, ⟨by repeat (first | (with_reducible first | exact HB.out | apply below_alloc | apply pw_below_drewN | apply below_drew1) | exact HB.out)⟩⟩
        case rest =>
          clear HC11
          try clear c1
          try clear c2
          try clear p2
          try clear p6
          try clear c7
          try clear c8
          try clear c9
          try clear c12
          try clear c14
          try clear c14b0
          try clear c14b1
          try clear c15
          try clear p2
          try clear p6
          obtain ⟨kq, HA, HJ10, HB⟩ := hcut
          cases kq with
          | zero => exact absurd HA.out (by simp [transomlaw02_RealsBack.j1])
          | succ kj10 =>
            have H := HA.out
            clear HA
            simp only [transomlaw02_RealsBack.j1] at H
            replace H := Option.bind_eq_some_iff.mp H
            obtain ⟨⟨t126, t127⟩, A160, H⟩ := H
            replace H : (if t127 = true then ((reals_FromInt.f t126).bind fun bt128 => (if bt128.2 = true then ((reals_Equal.f bt128.1 a1).bind fun t130 => (if t130 = true then (if bt128.1 = a1 then ((transomlaw02_awake.f).bind fun t131 => (some t131)) else ((reals_Class.f a1).bind fun t132 => (if t132 = 3 then ((transomlaw02_awake.f).bind fun t133 => (some t133)) else (some false)))) else (some false))) else (some false))) else ((transomlaw02_awake.f).bind fun t134 => (some t134))) = some r := H
            have A16 := Aside0.mk A160
            clear A160
            by_cases c17 : t127 = true
            · subst c17
              have H1 : ((reals_FromInt.f t126).bind fun bt128 => (if bt128.2 = true then ((reals_Equal.f bt128.1 a1).bind fun t130 => (if t130 = true then (if bt128.1 = a1 then ((transomlaw02_awake.f).bind fun t131 => (some t131)) else ((reals_Class.f a1).bind fun t132 => (if t132 = 3 then ((transomlaw02_awake.f).bind fun t133 => (some t133)) else (some false)))) else (some false))) else (some false))) = some r := by rw [if_pos rfl] at H; exact H
              clear H
              have H := H1
              clear H1
              replace H := Option.bind_eq_some_iff.mp H
              obtain ⟨⟨t128, t129⟩, A180, H⟩ := H
              replace H : (if t129 = true then ((reals_Equal.f t128 a1).bind fun t130 => (if t130 = true then (if t128 = a1 then ((transomlaw02_awake.f).bind fun t131 => (some t131)) else ((reals_Class.f a1).bind fun t132 => (if t132 = 3 then ((transomlaw02_awake.f).bind fun t133 => (some t133)) else (some false)))) else (some false))) else (some false)) = some r := H
              have A18 := Aside0.mk A180
              clear A180
              by_cases c19 : t129 = true
              · subst c19
                have H1 : ((reals_Equal.f t128 a1).bind fun t130 => (if t130 = true then (if t128 = a1 then ((transomlaw02_awake.f).bind fun t131 => (some t131)) else ((reals_Class.f a1).bind fun t132 => (if t132 = 3 then ((transomlaw02_awake.f).bind fun t133 => (some t133)) else (some false)))) else (some false))) = some r := by rw [if_pos rfl] at H; exact H
                clear H
                have H := H1
                clear H1
                replace H := Option.bind_eq_some_iff.mp H
                obtain ⟨t130, A200, H⟩ := H
                replace H : (if t130 = true then (if t128 = a1 then ((transomlaw02_awake.f).bind fun t131 => (some t131)) else ((reals_Class.f a1).bind fun t132 => (if t132 = 3 then ((transomlaw02_awake.f).bind fun t133 => (some t133)) else (some false)))) else (some false)) = some r := H
                have A20 := Aside0.mk A200
                clear A200
                by_cases c21 : t130 = true
                · subst c21
                  have H1 : (if t128 = a1 then ((transomlaw02_awake.f).bind fun t131 => (some t131)) else ((reals_Class.f a1).bind fun t132 => (if t132 = 3 then ((transomlaw02_awake.f).bind fun t133 => (some t133)) else (some false)))) = some r := by rw [if_pos rfl] at H; exact H
                  clear H
                  have H := H1
                  clear H1
                  by_cases c22 : t128 = a1
                  · rw [if_pos c22] at H
                    have c22b0 : (t128 == a1) = true := beq_iff_eq.mpr c22
                    have c22b1 : (t128 != a1) = false := bne_eq_false_iff_eq.mpr c22
                    clear c22
                    replace H := Option.bind_eq_some_iff.mp H
                    obtain ⟨t131, A230, H⟩ := H
                    replace H : (some t131) = some r := H
                    have A23 := Aside0.mk A230
                    clear A230
                    obtain rfl := Option.some.inj H
                    go_wp2_with (first | ((with_reducible refine gate_callee (f := 16) rfl ?_); refine goesL_ (some 49) rfl rfl Try.func16 (by kernel_rfl) rfl #[.int .u64 a1] rfl (by (try simp only [List.map_toArray, List.map_cons, List.map_nil]); first | done | rfl | (simp only [List.length_drop, List.length_take]; rfl) | (simp [Act.eval, IntKind.wrap_u64, IntKind.wrap_u8, IntKind.wrap_u32, wrap64]; omega)) ?_; (with_reducible refine (reals_ToInt.calls a1 t126 true _ A16.out).mono ?_); rintro e w' ⟨rfl, ⟨nd, rfl⟩⟩; refine ⟨_, rfl, ?_⟩) | ((with_reducible refine gate_callee (f := 14) rfl ?_); refine goesL_ (some 55) rfl rfl Try.func14 (by kernel_rfl) rfl #[.int .i64 t126] rfl (by (try simp only [List.map_toArray, List.map_cons, List.map_nil]); first | done | rfl | (simp only [List.length_drop, List.length_take]; rfl) | (simp [Act.eval, IntKind.wrap_u64, IntKind.wrap_u8, IntKind.wrap_u32, wrap64]; omega)) ?_; (with_reducible refine (reals_FromInt.calls t126 t128 true _ A18.out).mono ?_); rintro e w' ⟨rfl, ⟨nd, rfl⟩⟩; refine ⟨_, rfl, ?_⟩) | (go_at_call 11; (with_reducible refine (reals_Equal.calls t128 a1 true _ A20.out).mono ?_); rintro e w' ⟨rfl, ⟨nd, rfl⟩⟩) | ((with_reducible refine gate_callee (f := 13) rfl ?_); refine goesL_ (some 76) rfl rfl Try.func13 (by kernel_rfl) rfl #[] rfl (by (try simp only [List.map_toArray, List.map_cons, List.map_nil]); first | done | rfl | (simp only [List.length_drop, List.length_take]; rfl) | (simp [Act.eval, IntKind.wrap_u64, IntKind.wrap_u8, IntKind.wrap_u32, wrap64]; omega)) ?_; (with_reducible refine (transomlaw02_awake.calls  t131 _ A23.out).mono ?_); rintro e w' ⟨rfl, ⟨nd, rfl⟩⟩; refine ⟨_, rfl, ?_⟩))
                    go_ret
                    exact ⟨by first | rfl | (simp [errW_none, errW_some] <;> rfl) | (simp [*, errW_none, errW_some] <;> rfl), by repeat (first | (with_reducible first | exact HB.out | apply below_alloc | apply pw_below_drewN | apply below_drew1) | exact HB.out)⟩
                  · rw [if_neg c22] at H
                    have c22b0 : (t128 == a1) = false := beq_eq_false_iff_ne.mpr c22
                    have c22b1 : (t128 != a1) = true := bne_iff_ne.mpr c22
                    replace H := Option.bind_eq_some_iff.mp H
                    obtain ⟨t132, A240, H⟩ := H
                    replace H : (if t132 = 3 then ((transomlaw02_awake.f).bind fun t133 => (some t133)) else (some false)) = some r := H
                    have A24 := Aside0.mk A240
                    clear A240
                    by_cases c25 : t132 = 3
                    · rw [if_pos c25] at H
                      have c25b0 : (t132 == 3) = true := beq_iff_eq.mpr c25
                      have c25b1 : (t132 != 3) = false := bne_eq_false_iff_eq.mpr c25
                      clear c25
                      replace H := Option.bind_eq_some_iff.mp H
                      obtain ⟨t133, A260, H⟩ := H
                      replace H : (some t133) = some r := H
                      have A26 := Aside0.mk A260
                      clear A260
                      obtain rfl := Option.some.inj H
                      go_wp2_with (first | ((with_reducible refine gate_callee (f := 16) rfl ?_); refine goesL_ (some 49) rfl rfl Try.func16 (by kernel_rfl) rfl #[.int .u64 a1] rfl (by (try simp only [List.map_toArray, List.map_cons, List.map_nil]); first | done | rfl | (simp only [List.length_drop, List.length_take]; rfl) | (simp [Act.eval, IntKind.wrap_u64, IntKind.wrap_u8, IntKind.wrap_u32, wrap64]; omega)) ?_; (with_reducible refine (reals_ToInt.calls a1 t126 true _ A16.out).mono ?_); rintro e w' ⟨rfl, ⟨nd, rfl⟩⟩; refine ⟨_, rfl, ?_⟩) | ((with_reducible refine gate_callee (f := 14) rfl ?_); refine goesL_ (some 55) rfl rfl Try.func14 (by kernel_rfl) rfl #[.int .i64 t126] rfl (by (try simp only [List.map_toArray, List.map_cons, List.map_nil]); first | done | rfl | (simp only [List.length_drop, List.length_take]; rfl) | (simp [Act.eval, IntKind.wrap_u64, IntKind.wrap_u8, IntKind.wrap_u32, wrap64]; omega)) ?_; (with_reducible refine (reals_FromInt.calls t126 t128 true _ A18.out).mono ?_); rintro e w' ⟨rfl, ⟨nd, rfl⟩⟩; refine ⟨_, rfl, ?_⟩) | (go_at_call 11; (with_reducible refine (reals_Equal.calls t128 a1 true _ A20.out).mono ?_); rintro e w' ⟨rfl, ⟨nd, rfl⟩⟩) | (go_at_call 21; (with_reducible refine (reals_Class.calls a1 t132 _ A24.out).mono ?_); rintro e w' ⟨rfl, ⟨nd, rfl⟩⟩) | ((with_reducible refine gate_callee (f := 13) rfl ?_); refine goesL_ (some 76) rfl rfl Try.func13 (by kernel_rfl) rfl #[] rfl (by (try simp only [List.map_toArray, List.map_cons, List.map_nil]); first | done | rfl | (simp only [List.length_drop, List.length_take]; rfl) | (simp [Act.eval, IntKind.wrap_u64, IntKind.wrap_u8, IntKind.wrap_u32, wrap64]; omega)) ?_; (with_reducible refine (transomlaw02_awake.calls  t133 _ A26.out).mono ?_); rintro e w' ⟨rfl, ⟨nd, rfl⟩⟩; refine ⟨_, rfl, ?_⟩))
                      go_ret
                      exact ⟨by first | rfl | (simp [errW_none, errW_some] <;> rfl) | (simp [*, errW_none, errW_some] <;> rfl), by repeat (first | (with_reducible first | exact HB.out | apply below_alloc | apply pw_below_drewN | apply below_drew1) | exact HB.out)⟩
                    · rw [if_neg c25] at H
                      have c25b0 : (t132 == 3) = false := beq_eq_false_iff_ne.mpr c25
                      have c25b1 : (t132 != 3) = true := bne_iff_ne.mpr c25
                      obtain rfl := Option.some.inj H
                      go_wp2_with (first | ((with_reducible refine gate_callee (f := 16) rfl ?_); refine goesL_ (some 49) rfl rfl Try.func16 (by kernel_rfl) rfl #[.int .u64 a1] rfl (by (try simp only [List.map_toArray, List.map_cons, List.map_nil]); first | done | rfl | (simp only [List.length_drop, List.length_take]; rfl) | (simp [Act.eval, IntKind.wrap_u64, IntKind.wrap_u8, IntKind.wrap_u32, wrap64]; omega)) ?_; (with_reducible refine (reals_ToInt.calls a1 t126 true _ A16.out).mono ?_); rintro e w' ⟨rfl, ⟨nd, rfl⟩⟩; refine ⟨_, rfl, ?_⟩) | ((with_reducible refine gate_callee (f := 14) rfl ?_); refine goesL_ (some 55) rfl rfl Try.func14 (by kernel_rfl) rfl #[.int .i64 t126] rfl (by (try simp only [List.map_toArray, List.map_cons, List.map_nil]); first | done | rfl | (simp only [List.length_drop, List.length_take]; rfl) | (simp [Act.eval, IntKind.wrap_u64, IntKind.wrap_u8, IntKind.wrap_u32, wrap64]; omega)) ?_; (with_reducible refine (reals_FromInt.calls t126 t128 true _ A18.out).mono ?_); rintro e w' ⟨rfl, ⟨nd, rfl⟩⟩; refine ⟨_, rfl, ?_⟩) | (go_at_call 11; (with_reducible refine (reals_Equal.calls t128 a1 true _ A20.out).mono ?_); rintro e w' ⟨rfl, ⟨nd, rfl⟩⟩) | (go_at_call 21; (with_reducible refine (reals_Class.calls a1 t132 _ A24.out).mono ?_); rintro e w' ⟨rfl, ⟨nd, rfl⟩⟩))
                      go_ret
                      exact ⟨by first | rfl | (simp [errW_none, errW_some] <;> rfl) | (simp [*, errW_none, errW_some] <;> rfl), by repeat (first | (with_reducible first | exact HB.out | apply below_alloc | apply pw_below_drewN | apply below_drew1) | exact HB.out)⟩
                · replace c21 := Bool.eq_false_iff.mpr c21
                  subst c21
                  have H1 : (some false) = some r := by rw [if_neg (show ¬ (false = true) by decide)] at H; exact H
                  clear H
                  have H := H1
                  clear H1
                  obtain rfl := Option.some.inj H
                  go_wp2_with (first | ((with_reducible refine gate_callee (f := 16) rfl ?_); refine goesL_ (some 49) rfl rfl Try.func16 (by kernel_rfl) rfl #[.int .u64 a1] rfl (by (try simp only [List.map_toArray, List.map_cons, List.map_nil]); first | done | rfl | (simp only [List.length_drop, List.length_take]; rfl) | (simp [Act.eval, IntKind.wrap_u64, IntKind.wrap_u8, IntKind.wrap_u32, wrap64]; omega)) ?_; (with_reducible refine (reals_ToInt.calls a1 t126 true _ A16.out).mono ?_); rintro e w' ⟨rfl, ⟨nd, rfl⟩⟩; refine ⟨_, rfl, ?_⟩) | ((with_reducible refine gate_callee (f := 14) rfl ?_); refine goesL_ (some 55) rfl rfl Try.func14 (by kernel_rfl) rfl #[.int .i64 t126] rfl (by (try simp only [List.map_toArray, List.map_cons, List.map_nil]); first | done | rfl | (simp only [List.length_drop, List.length_take]; rfl) | (simp [Act.eval, IntKind.wrap_u64, IntKind.wrap_u8, IntKind.wrap_u32, wrap64]; omega)) ?_; (with_reducible refine (reals_FromInt.calls t126 t128 true _ A18.out).mono ?_); rintro e w' ⟨rfl, ⟨nd, rfl⟩⟩; refine ⟨_, rfl, ?_⟩) | (go_at_call 11; (with_reducible refine (reals_Equal.calls t128 a1 false _ A20.out).mono ?_); rintro e w' ⟨rfl, ⟨nd, rfl⟩⟩))
                  go_ret
                  exact ⟨by first | rfl | (simp [errW_none, errW_some] <;> rfl) | (simp [*, errW_none, errW_some] <;> rfl), by repeat (first | (with_reducible first | exact HB.out | apply below_alloc | apply pw_below_drewN | apply below_drew1) | exact HB.out)⟩
              · replace c19 := Bool.eq_false_iff.mpr c19
                subst c19
                have H1 : (some false) = some r := by rw [if_neg (show ¬ (false = true) by decide)] at H; exact H
                clear H
                have H := H1
                clear H1
                obtain rfl := Option.some.inj H
                go_wp2_with (first | ((with_reducible refine gate_callee (f := 16) rfl ?_); refine goesL_ (some 49) rfl rfl Try.func16 (by kernel_rfl) rfl #[.int .u64 a1] rfl (by (try simp only [List.map_toArray, List.map_cons, List.map_nil]); first | done | rfl | (simp only [List.length_drop, List.length_take]; rfl) | (simp [Act.eval, IntKind.wrap_u64, IntKind.wrap_u8, IntKind.wrap_u32, wrap64]; omega)) ?_; (with_reducible refine (reals_ToInt.calls a1 t126 true _ A16.out).mono ?_); rintro e w' ⟨rfl, ⟨nd, rfl⟩⟩; refine ⟨_, rfl, ?_⟩) | ((with_reducible refine gate_callee (f := 14) rfl ?_); refine goesL_ (some 55) rfl rfl Try.func14 (by kernel_rfl) rfl #[.int .i64 t126] rfl (by (try simp only [List.map_toArray, List.map_cons, List.map_nil]); first | done | rfl | (simp only [List.length_drop, List.length_take]; rfl) | (simp [Act.eval, IntKind.wrap_u64, IntKind.wrap_u8, IntKind.wrap_u32, wrap64]; omega)) ?_; (with_reducible refine (reals_FromInt.calls t126 t128 false _ A18.out).mono ?_); rintro e w' ⟨rfl, ⟨nd, rfl⟩⟩; refine ⟨_, rfl, ?_⟩))
                go_ret
                exact ⟨by first | rfl | (simp [errW_none, errW_some] <;> rfl) | (simp [*, errW_none, errW_some] <;> rfl), by repeat (first | (with_reducible first | exact HB.out | apply below_alloc | apply pw_below_drewN | apply below_drew1) | exact HB.out)⟩
            · replace c17 := Bool.eq_false_iff.mpr c17
              subst c17
              have H1 : ((transomlaw02_awake.f).bind fun t134 => (some t134)) = some r := by rw [if_neg (show ¬ (false = true) by decide)] at H; exact H
              clear H
              have H := H1
              clear H1
              replace H := Option.bind_eq_some_iff.mp H
              obtain ⟨t134, A270, H⟩ := H
              replace H : (some t134) = some r := H
              have A27 := Aside0.mk A270
              clear A270
              obtain rfl := Option.some.inj H
              go_wp2_with (first | ((with_reducible refine gate_callee (f := 16) rfl ?_); refine goesL_ (some 49) rfl rfl Try.func16 (by kernel_rfl) rfl #[.int .u64 a1] rfl (by (try simp only [List.map_toArray, List.map_cons, List.map_nil]); first | done | rfl | (simp only [List.length_drop, List.length_take]; rfl) | (simp [Act.eval, IntKind.wrap_u64, IntKind.wrap_u8, IntKind.wrap_u32, wrap64]; omega)) ?_; (with_reducible refine (reals_ToInt.calls a1 t126 false _ A16.out).mono ?_); rintro e w' ⟨rfl, ⟨nd, rfl⟩⟩; refine ⟨_, rfl, ?_⟩) | ((with_reducible refine gate_callee (f := 13) rfl ?_); refine goesL_ (some 76) rfl rfl Try.func13 (by kernel_rfl) rfl #[] rfl (by (try simp only [List.map_toArray, List.map_cons, List.map_nil]); first | done | rfl | (simp only [List.length_drop, List.length_take]; rfl) | (simp [Act.eval, IntKind.wrap_u64, IntKind.wrap_u8, IntKind.wrap_u32, wrap64]; omega)) ?_; (with_reducible refine (transomlaw02_awake.calls  t134 _ A27.out).mono ?_); rintro e w' ⟨rfl, ⟨nd, rfl⟩⟩; refine ⟨_, rfl, ?_⟩))
              go_ret
              exact ⟨by first | rfl | (simp [errW_none, errW_some] <;> rfl) | (simp [*, errW_none, errW_some] <;> rfl), by repeat (first | (with_reducible first | exact HB.out | apply below_alloc | apply pw_below_drewN | apply below_drew1) | exact HB.out)⟩

/-- THE ONE PURE STATEMENT of transomlaw02_RealsBack: yours. -/
def transomlaw02_RealsBack.Pure : Prop := ∀ (a0 : Int) (a1 : Int), (Lit.int .i64 a0).wf = true → (Lit.int .u64 a1).wf = true → ∃ k, transomlaw02_RealsBack.f k a0 a1 = some true
theorem transomlaw02_RealsBack.walk (P : transomlaw02_RealsBack.Pure) (a0 : Int) (a1 : Int) (w : World) (w0 : (Lit.int .i64 a0).wf = true) (w1 : (Lit.int .u64 a1).wf = true) :
    Calls Try.prog 8 #[.int .i64 a0, .int .u64 a1] w fun e w' => e = .returned (.bool true) ∧ Below w.heap.size w w' := by
  obtain ⟨k, h⟩ := P a0 a1 w0 w1
  refine (transomlaw02_RealsBack.calls k a0 a1 true w h).mono ?_
  rintro e w' ⟨rfl, hd⟩
  exact ⟨rfl, hd⟩

end Go.Proofs.Ytdcodlbelhbihaa.PRealsBack
