-- By a program of this session (a print over functions that are proved by hand), for this claim.
import Derived.Test.YtdcodlbelhbihaaPRealsBackx0
namespace Go.Proofs.Ytdcodlbelhbihaa.PRealsBack
open Go.RowKit Go.Proofs.YtdcodlbelhbihaaW.PrintWords Go.Proofs.YtdcodlbelhbihaaW.PrintLast Go.Proofs.YtdcodlbelhbihaaW.PrintMore
attribute [local go_sem] max2_int min2_int max_two min_two max_three min_three max_four min_four   -- for this text's walks alone
set_option linter.unusedVariables false
set_option linter.unusedSimpArgs false

-- NOT PRINTED: function 26 (math_Float64frombits)

/-! ### reals_Equal: function 11 -/
theorem reals_Equal.frombits (b : Int) (W : World) : (callFunc 26 #[.int .u64 b]).run Try.prog W = .ok (.value (.float .f64 b.toNat)) W :=
  run_callFunc_extern (e := Extern.MathFloatBits.float64frombits) Try.func26 (by kernel_rfl) (by kernel_rfl) (by kernel_rfl) (by kernel_rfl) _ W
def reals_Equal.f (a0 : Int) (a1 : Int) : Option Bool := some (decide (Fl.rung a0.toNat ≤ Fl.inf ∧ Fl.rung a1.toNat ≤ Fl.inf ∧ Fl.key a0.toNat = Fl.key a1.toNat))
theorem reals_Equal.calls (a0 : Int) (a1 : Int) (r : Bool) (w : World) (h : reals_Equal.f a0 a1 = some r) :
    Calls Try.prog 11 #[.int .u64 a0, .int .u64 a1] w fun e w' => e = .returned (.bool r) ∧ Drawn0 w w' := by
  have hfb := reals_Equal.frombits a0
  have hfc := reals_Equal.frombits a1
  obtain rfl := Option.some.inj h
  clear h
  have ho : (FloatKind.f64.format.order a0.toNat a1.toNat == some .eq) = decide (Fl.rung a0.toNat ≤ Fl.inf ∧ Fl.rung a1.toNat ≤ Fl.inf ∧ Fl.key a0.toNat = Fl.key a1.toNat) := by
    rw [show FloatKind.f64.format = Ieee.double from rfl]
    by_cases c : Fl.rung a0.toNat ≤ Fl.inf
    · by_cases d : Fl.rung a1.toNat ≤ Fl.inf
      · rw [Fl.order_key c d]
        rcases Int.lt_trichotomy (Fl.key a0.toNat) (Fl.key a1.toNat) with e | e | e
        · rw [Fl.compare_lt e, decide_eq_false (fun h => by omega)]; rfl
        · rw [Fl.compare_eq e, decide_eq_true ⟨c, d, e⟩]; rfl
        · rw [Fl.compare_gt e, decide_eq_false (fun h => by omega)]; rfl
      · rw [Fl.order_nan_right (by omega), decide_eq_false (fun h => d h.2.1)]; rfl
    · rw [Fl.order_nan_left (by omega), decide_eq_false (fun h => c h.1)]; rfl
  generalize decide (Fl.rung a0.toNat ≤ Fl.inf ∧ Fl.rung a1.toNat ≤ Fl.inf ∧ Fl.key a0.toNat = Fl.key a1.toNat) = r at ho
  go_enter Try.func11, Try.ntmps11
  go_wp2
  go_ret
  exact ⟨rfl, Drawn0.refl _⟩

/-! ### reals_Canon: function 18 -/
theorem reals_Canon.frombits (b : Int) (W : World) : (callFunc 26 #[.int .u64 b]).run Try.prog W = .ok (.value (.float .f64 b.toNat)) W :=
  run_callFunc_extern (e := Extern.MathFloatBits.float64frombits) Try.func26 (by kernel_rfl) (by kernel_rfl) (by kernel_rfl) (by kernel_rfl) _ W
def reals_Canon.f (a0 : Int) : Option Int := some (if Fl.inf < Fl.rung a0.toNat then 9221120237041090560 else a0)
theorem reals_Canon.calls (a0 : Int) (r : Int) (w : World) (h : reals_Canon.f a0 = some r) :
    Calls Try.prog 18 #[.int .u64 a0] w fun e w' => e = .returned (.int .u64 r) ∧ Drawn0 w w' := by
  have hfb := reals_Canon.frombits a0
  obtain rfl := Option.some.inj h
  clear h
  by_cases c : Fl.inf < Fl.rung a0.toNat
  · have ho : (FloatKind.f64.format.order a0.toNat a0.toNat != some .eq) = true := by
      rw [show FloatKind.f64.format = Ieee.double from rfl, Fl.order_nan_left c]; rfl
    rw [if_pos c]
    clear c
    go_enter Try.func18, Try.ntmps18
    go_wp2
    go_ret
    exact ⟨rfl, Drawn0.refl _⟩
  · have ho : (FloatKind.f64.format.order a0.toNat a0.toNat != some .eq) = false := by
      rw [show FloatKind.f64.format = Ieee.double from rfl, Fl.order_key (by omega) (by omega), Fl.compare_eq rfl]; rfl
    rw [if_neg c]
    clear c
    go_enter Try.func18, Try.ntmps18
    go_wp2
    go_ret
    exact ⟨rfl, Drawn0.refl _⟩

/-! ### reals_Key: function 24 -/
def reals_Key.f (a0 : Int) : Option (Int) := (reals_Canon.f a0).bind fun t101 => (if (Go.bits .and .u64 t101 9223372036854775808) = 0 then (some (Go.bits .or .u64 t101 9223372036854775808)) else (some (Go.bits .xor .u64 IntKind.u64.max t101)))
set_option maxHeartbeats 8000000 in
set_option maxRecDepth 100000 in
theorem reals_Key.calls (a0 : Int) (r : Int) (w : World) (h : reals_Key.f a0 = some r) :
    Calls Try.prog 24 #[.int .u64 a0] w fun e w' => e = .returned (.int .u64 r) ∧ Drawn0 w w' := by
  have hsg_ : IntKind.u64.signed = false := rfl
  have H : ((reals_Canon.f a0).bind fun t101 => (if (Go.bits .and .u64 t101 9223372036854775808) = 0 then (some (Go.bits .or .u64 t101 9223372036854775808)) else (some (Go.bits .xor .u64 IntKind.u64.max t101)))) = some r := h
  clear h
  replace H := Option.bind_eq_some_iff.mp H
  obtain ⟨t101, A20, H⟩ := H
  replace H : (if (Go.bits .and .u64 t101 9223372036854775808) = 0 then (some (Go.bits .or .u64 t101 9223372036854775808)) else (some (Go.bits .xor .u64 IntKind.u64.max t101))) = some r := H
  have A2 := Aside0.mk A20
  clear A20
  by_cases c3 : (Go.bits .and .u64 t101 9223372036854775808) = 0
  · rw [if_pos c3] at H
    have c3b0 : ((Go.bits .and .u64 t101 9223372036854775808) == 0) = true := beq_iff_eq.mpr c3
    have c3b1 : ((Go.bits .and .u64 t101 9223372036854775808) != 0) = false := bne_eq_false_iff_eq.mpr c3
    clear c3
    obtain rfl := Option.some.inj H
    go_enter Try.func24, Try.ntmps24
    go_wp2_with (first | ((with_reducible refine gate_callee (f := 18) rfl ?_); refine goesL_ (some 4) rfl rfl Try.func18 (by kernel_rfl) rfl #[.int .u64 a0] rfl (by (try simp only [List.map_toArray, List.map_cons, List.map_nil]); first | done | rfl | (simp only [List.length_drop, List.length_take]; rfl) | (simp [Act.eval, IntKind.wrap_u64, IntKind.wrap_u8, IntKind.wrap_u32, wrap64]; omega)) ?_; (with_reducible refine (reals_Canon.calls a0 t101 _ A2.out).mono ?_); rintro e w' ⟨rfl, ⟨nd, rfl⟩⟩; refine ⟨_, rfl, ?_⟩))
    go_ret
    exact ⟨by first | rfl | (simp; done) | (simp [*]; done), by repeat (first | exact Drawn0.refl _ | apply Drawn0.step)⟩
  · rw [if_neg c3] at H
    have c3b0 : ((Go.bits .and .u64 t101 9223372036854775808) == 0) = false := beq_eq_false_iff_ne.mpr c3
    have c3b1 : ((Go.bits .and .u64 t101 9223372036854775808) != 0) = true := bne_iff_ne.mpr c3
    obtain rfl := Option.some.inj H
    go_enter Try.func24, Try.ntmps24
    go_wp2_with (first | ((with_reducible refine gate_callee (f := 18) rfl ?_); refine goesL_ (some 4) rfl rfl Try.func18 (by kernel_rfl) rfl #[.int .u64 a0] rfl (by (try simp only [List.map_toArray, List.map_cons, List.map_nil]); first | done | rfl | (simp only [List.length_drop, List.length_take]; rfl) | (simp [Act.eval, IntKind.wrap_u64, IntKind.wrap_u8, IntKind.wrap_u32, wrap64]; omega)) ?_; (with_reducible refine (reals_Canon.calls a0 t101 _ A2.out).mono ?_); rintro e w' ⟨rfl, ⟨nd, rfl⟩⟩; refine ⟨_, rfl, ?_⟩))
    go_ret
    exact ⟨by first | rfl | (simp; done) | (simp [*]; done), by repeat (first | exact Drawn0.refl _ | apply Drawn0.step)⟩

/-! ### reals_Cmp: function 9 -/
def reals_Cmp.f (a0 : Int) (a1 : Int) : Option (Int) := (reals_Key.f a0).bind fun t102 => ((reals_Key.f a1).bind fun t103 => (if t102 < t103 then (some (-1)) else (if t102 > t103 then (some 1) else (some 0))))
set_option maxHeartbeats 8000000 in
set_option maxRecDepth 100000 in
theorem reals_Cmp.calls (a0 : Int) (a1 : Int) (r : Int) (w : World) (h : reals_Cmp.f a0 a1 = some r) :
    Calls Try.prog 9 #[.int .u64 a0, .int .u64 a1] w fun e w' => e = .returned (.int .i64 r) ∧ Drawn0 w w' := by
  have H : ((reals_Key.f a0).bind fun t102 => ((reals_Key.f a1).bind fun t103 => (if t102 < t103 then (some (-1)) else (if t102 > t103 then (some 1) else (some 0))))) = some r := h
  clear h
  replace H := Option.bind_eq_some_iff.mp H
  obtain ⟨t102, A30, H⟩ := H
  replace H : ((reals_Key.f a1).bind fun t103 => (if t102 < t103 then (some (-1)) else (if t102 > t103 then (some 1) else (some 0)))) = some r := H
  have A3 := Aside0.mk A30
  clear A30
  replace H := Option.bind_eq_some_iff.mp H
  obtain ⟨t103, A40, H⟩ := H
  replace H : (if t102 < t103 then (some (-1)) else (if t102 > t103 then (some 1) else (some 0))) = some r := H
  have A4 := Aside0.mk A40
  clear A40
  by_cases c5 : t102 < t103
  · rw [if_pos c5] at H
    have c5b0 : decide (t102 < t103) = true := decide_eq_true c5
    clear c5
    obtain rfl := Option.some.inj H
    go_enter Try.func9, Try.ntmps9
    go_wp2_with (first | ((with_reducible refine gate_callee (f := 24) rfl ?_); refine goesL_ (some 8) rfl rfl Try.func24 (by kernel_rfl) rfl #[.int .u64 a0] rfl (by (try simp only [List.map_toArray, List.map_cons, List.map_nil]); first | done | rfl | (simp only [List.length_drop, List.length_take]; rfl) | (simp [Act.eval, IntKind.wrap_u64, IntKind.wrap_u8, IntKind.wrap_u32, wrap64]; omega)) ?_; (with_reducible refine (reals_Key.calls a0 t102 _ A3.out).mono ?_); rintro e w' ⟨rfl, ⟨nd, rfl⟩⟩; refine ⟨_, rfl, ?_⟩) | ((with_reducible refine gate_callee (f := 24) rfl ?_); refine goesL_ (some 10) rfl rfl Try.func24 (by kernel_rfl) rfl #[.int .u64 a1] rfl (by (try simp only [List.map_toArray, List.map_cons, List.map_nil]); first | done | rfl | (simp only [List.length_drop, List.length_take]; rfl) | (simp [Act.eval, IntKind.wrap_u64, IntKind.wrap_u8, IntKind.wrap_u32, wrap64]; omega)) ?_; (with_reducible refine (reals_Key.calls a1 t103 _ A4.out).mono ?_); rintro e w' ⟨rfl, ⟨nd, rfl⟩⟩; refine ⟨_, rfl, ?_⟩))
    go_ret
    exact ⟨by first | rfl | (simp; done) | (simp [*]; done), by repeat (first | exact Drawn0.refl _ | apply Drawn0.step)⟩
  · rw [if_neg c5] at H
    have c5b0 : decide (t102 < t103) = false := decide_eq_false c5
    clear c5
    by_cases c6 : t102 > t103
    · rw [if_pos c6] at H
      have c6b0 : decide (t103 < t102) = true := decide_eq_true c6
      clear c6
      obtain rfl := Option.some.inj H
      go_enter Try.func9, Try.ntmps9
      go_wp2_with (first | ((with_reducible refine gate_callee (f := 24) rfl ?_); refine goesL_ (some 8) rfl rfl Try.func24 (by kernel_rfl) rfl #[.int .u64 a0] rfl (by (try simp only [List.map_toArray, List.map_cons, List.map_nil]); first | done | rfl | (simp only [List.length_drop, List.length_take]; rfl) | (simp [Act.eval, IntKind.wrap_u64, IntKind.wrap_u8, IntKind.wrap_u32, wrap64]; omega)) ?_; (with_reducible refine (reals_Key.calls a0 t102 _ A3.out).mono ?_); rintro e w' ⟨rfl, ⟨nd, rfl⟩⟩; refine ⟨_, rfl, ?_⟩) | ((with_reducible refine gate_callee (f := 24) rfl ?_); refine goesL_ (some 10) rfl rfl Try.func24 (by kernel_rfl) rfl #[.int .u64 a1] rfl (by (try simp only [List.map_toArray, List.map_cons, List.map_nil]); first | done | rfl | (simp only [List.length_drop, List.length_take]; rfl) | (simp [Act.eval, IntKind.wrap_u64, IntKind.wrap_u8, IntKind.wrap_u32, wrap64]; omega)) ?_; (with_reducible refine (reals_Key.calls a1 t103 _ A4.out).mono ?_); rintro e w' ⟨rfl, ⟨nd, rfl⟩⟩; refine ⟨_, rfl, ?_⟩))
      go_ret
      exact ⟨by first | rfl | (simp; done) | (simp [*]; done), by repeat (first | exact Drawn0.refl _ | apply Drawn0.step)⟩
    · rw [if_neg c6] at H
      have c6b0 : decide (t103 < t102) = false := decide_eq_false c6
      clear c6
      obtain rfl := Option.some.inj H
      go_enter Try.func9, Try.ntmps9
      go_wp2_with (first | ((with_reducible refine gate_callee (f := 24) rfl ?_); refine goesL_ (some 8) rfl rfl Try.func24 (by kernel_rfl) rfl #[.int .u64 a0] rfl (by (try simp only [List.map_toArray, List.map_cons, List.map_nil]); first | done | rfl | (simp only [List.length_drop, List.length_take]; rfl) | (simp [Act.eval, IntKind.wrap_u64, IntKind.wrap_u8, IntKind.wrap_u32, wrap64]; omega)) ?_; (with_reducible refine (reals_Key.calls a0 t102 _ A3.out).mono ?_); rintro e w' ⟨rfl, ⟨nd, rfl⟩⟩; refine ⟨_, rfl, ?_⟩) | ((with_reducible refine gate_callee (f := 24) rfl ?_); refine goesL_ (some 10) rfl rfl Try.func24 (by kernel_rfl) rfl #[.int .u64 a1] rfl (by (try simp only [List.map_toArray, List.map_cons, List.map_nil]); first | done | rfl | (simp only [List.length_drop, List.length_take]; rfl) | (simp [Act.eval, IntKind.wrap_u64, IntKind.wrap_u8, IntKind.wrap_u32, wrap64]; omega)) ?_; (with_reducible refine (reals_Key.calls a1 t103 _ A4.out).mono ?_); rintro e w' ⟨rfl, ⟨nd, rfl⟩⟩; refine ⟨_, rfl, ?_⟩))
      go_ret
      exact ⟨by first | rfl | (simp; done) | (simp [*]; done), by repeat (first | exact Drawn0.refl _ | apply Drawn0.step)⟩

-- NOT PRINTED: function 27 (math_Float64bits)

/-! ### reals_FromInt: function 14 -/
theorem reals_FromInt.tobits (b : Nat) (W : World) : (callFunc 27 #[.float .f64 b]).run Try.prog W = .ok (.value (.int .u64 b)) W :=
  run_callFunc_extern (e := Extern.MathFloatBits.float64bits) Try.func27 (by kernel_rfl) (by kernel_rfl) (by kernel_rfl) (by kernel_rfl) _ W
def reals_FromInt.f (a0 : Int) : Option (Int × Bool) :=
  if -9223372036854775808 ≤ a0 ∧ a0 ≤ 9223372036854775807 then some (if Fl.exact a0.natAbs = true then (((Ieee.double.word (decide (a0 < 0)) (Fl.near a0.natAbs) : Nat) : Int), true) else (0, false)) else none
theorem reals_FromInt.edge : Fl.key 4890909195324358656 = 4890909195324358656 ∧ Fl.rung 4890909195324358656 = 4890909195324358656 := by decide
/-- It is too great. -/
theorem reals_FromInt.high (n : Int) (F : Nat) (hF : floatOfInt .f64 n = F) (ho : (FloatKind.f64.format.order F 4890909195324358656 == some .gt || FloatKind.f64.format.order F 4890909195324358656 == some .eq) = true) (w : World) :
    Calls Try.prog 14 #[.int .i64 n] w fun e w' => e = .returned (.tuple #[.int .u64 0, .bool false]) ∧ Drawn0 w w' := by
  have hc : ∀ W, (convert 3 37 (.int .i64 n)).run Try.prog W = .ok (.float .f64 F) W := fun W => by rw [← hF]; exact run_convert_int_float W 3 37 .i64 .f64 n (by kernel_rfl) Try.underlying37
  clear hF
  go_enter Try.func14, Try.ntmps14
  go_wp2
  go_ret2
  exact ⟨rfl, Drawn0.refl _⟩
theorem reals_FromInt.low (n m : Int) (F : Nat) (hF : floatOfInt .f64 n = F) (ho : (FloatKind.f64.format.order F 4890909195324358656 == some .gt || FloatKind.f64.format.order F 4890909195324358656 == some .eq) = false)
    (hm : floatToIntVal .f64 F .i64 = some m) (w : World) :
    Calls Try.prog 14 #[.int .i64 n] w fun e w' => e = .returned (.tuple #[.int .u64 (if m = n then F else 0), .bool (decide (m = n))]) ∧ Drawn0 w w' := by
  have hc : ∀ W, (convert 3 37 (.int .i64 n)).run Try.prog W = .ok (.float .f64 F) W := fun W => by rw [← hF]; exact run_convert_int_float W 3 37 .i64 .f64 n (by kernel_rfl) Try.underlying37
  have hd : ∀ W, (convert 37 3 (.float .f64 F)).run Try.prog W = .ok (.int .i64 m) W := fun W => run_convert_float_int W 37 3 .f64 .i64 F m (by kernel_rfl) Try.underlying3 hm
  have hb := reals_FromInt.tobits F
  clear hF hm
  by_cases c : m = n
  · rw [if_pos c, decide_eq_true c]
    have c1 : (m != n) = false := bne_eq_false_iff_eq.mpr c
    clear c
    go_enter Try.func14, Try.ntmps14
    go_wp2
    go_ret2
    exact ⟨rfl, Drawn0.refl _⟩
  · rw [if_neg c, decide_eq_false c]
    have c1 : (m != n) = true := bne_iff_ne.mpr c
    clear c
    go_enter Try.func14, Try.ntmps14
    go_wp2
    go_ret2
    exact ⟨rfl, Drawn0.refl _⟩
theorem reals_FromInt.calls (a0 : Int) (r1 : Int) (r2 : Bool) (w : World) (h : reals_FromInt.f a0 = some (r1, r2)) :
    Calls Try.prog 14 #[.int .i64 a0] w fun e w' => e = .returned (.tuple #[.int .u64 r1, .bool r2]) ∧ Drawn0 w w' := by
  unfold reals_FromInt.f at h
  by_cases hd : -9223372036854775808 ≤ a0 ∧ a0 ≤ 9223372036854775807
  case neg => rw [if_neg hd] at h; exact absurd h (by simp)
  rw [if_pos hd] at h
  obtain ⟨he1, he2⟩ := reals_FromInt.edge
  have hm : a0.natAbs < 18446744073709551616 := by omega
  have hF := Fl.ofInt_eq (n := a0) hm
  have hlt := Fl.near_lt hm
  obtain ⟨hr, hs⟩ := Fl.word_rung (s := decide (a0 < 0)) (r := Fl.near a0.natAbs) (Nat.le_of_lt hlt)
  generalize hFe : Ieee.double.word (decide (a0 < 0)) (Fl.near a0.natAbs) = F at hF hr hs h
  have hk : Fl.key F = if a0 < 0 then -(Fl.near a0.natAbs : Int) else (Fl.near a0.natAbs : Int) := by
    unfold Fl.key; rw [hr, hs]
    by_cases c : a0 < 0
    · rw [decide_eq_true c, if_pos rfl, if_pos c]
    · rw [decide_eq_false c, if_neg (by simp), if_neg c]
  have hord := Fl.order_key (x := F) (y := 4890909195324358656) (by rw [hr]; omega) (by rw [he2]; decide)
  rw [he1] at hord
  have fm : FloatKind.f64.format = Ieee.double := rfl
  have hsg : Fl.sg (Fl.neg F) (Fl.T (Fl.rung F)) = if a0 < 0 then -(Fl.T (Fl.near a0.natAbs) : Int) else (Fl.T (Fl.near a0.natAbs) : Int) := by
    unfold Fl.sg; rw [hr, hs]
    by_cases c : a0 < 0
    · rw [decide_eq_true c, if_pos rfl, if_pos c]
    · rw [decide_eq_false c, if_neg (by simp), if_neg c]
  have hval := Fl.toIntVal (b := F) (by rw [hr]; exact hlt)
  rw [hsg] at hval
  by_cases hx : Fl.exact a0.natAbs = true
  · rw [if_pos hx] at h
    simp only [Option.some.injEq, Prod.mk.injEq] at h
    obtain ⟨rfl, rfl⟩ := h
    have hT := Fl.T_exact hx
    rw [hT] at hval
    have hn : (if a0 < 0 then -(a0.natAbs : Int) else (a0.natAbs : Int)) = a0 := by split <;> omega
    rw [hn] at hval
    have hkl : Fl.key F < 4890909195324358656 := by
      rw [hk]
      by_cases c : a0 < 0
      · rw [if_pos c]; omega
      · rw [if_neg c]
        rcases Nat.lt_or_ge (Fl.near a0.natAbs) 4890909195324358656 with d | d
        · omega
        · have := Fl.T_mono d
          rw [Fl.T_edge, hT] at this
          omega
    have := reals_FromInt.low a0 a0 F hF (by rw [fm, hord, Fl.compare_lt hkl]; rfl) (hval hd.1 hd.2) w
    rw [if_pos rfl, decide_eq_true rfl] at this
    exact this
  · rw [if_neg hx] at h
    simp only [Option.some.injEq, Prod.mk.injEq] at h
    obtain ⟨rfl, rfl⟩ := h
    have hx' : Fl.exact a0.natAbs = false := by simpa using hx
    obtain ⟨hne, hT⟩ := Fl.T_inexact hx'
    by_cases hkl : Fl.key F < 4890909195324358656
    · have h0 : a0.natAbs ≠ 0 := by intro e; rw [e] at hx'; exact absurd hx' (by decide)
      have hK : Fl.T (Fl.near a0.natAbs) ≤ (if a0 < 0 then 9223372036854775808 else 9223372036854775807) := by
        by_cases c : a0 < 0
        · rw [if_pos c, hT]
          have hne2 : a0.natAbs ≠ 9223372036854775808 := by intro e; rw [e] at hx'; exact absurd hx' (by decide +kernel)
          have hl : a0.natAbs.log2 ≤ 62 := by
            have := (Nat.log2_lt h0).2 (show a0.natAbs < 2 ^ 63 by omega)
            omega
          have hk2 := (Fl.kept_range h0).2
          calc Fl.kept a0.natAbs * 2 ^ (a0.natAbs.log2 - 52) ≤ 9007199254740992 * 2 ^ (a0.natAbs.log2 - 52) := Nat.mul_le_mul_right _ hk2
            _ ≤ 9007199254740992 * 2 ^ 10 := Nat.mul_le_mul_left _ (Nat.pow_le_pow_right (by omega) (by omega))
            _ = 9223372036854775808 := by decide
        · rw [if_neg c]
          rw [hk, if_neg c] at hkl
          have := Fl.T_mono (show Fl.near a0.natAbs ≤ 4890909195324358655 by omega)
          rw [Fl.T_below] at this
          omega
      have := reals_FromInt.low a0 _ F hF (by rw [fm, hord, Fl.compare_lt hkl]; rfl) (hval (by split at hK <;> split <;> omega) (by split at hK <;> split <;> omega)) w
      have hne3 : ¬ (if a0 < 0 then -(Fl.T (Fl.near a0.natAbs) : Int) else (Fl.T (Fl.near a0.natAbs) : Int)) = a0 := by split <;> omega
      rw [if_neg hne3, decide_eq_false hne3] at this
      exact this
    · refine reals_FromInt.high a0 F hF ?_ w
      rw [fm, hord]
      rcases Int.lt_or_eq_of_le (Int.not_lt.1 hkl) with e | e
      · rw [Fl.compare_gt e]; rfl
      · rw [Fl.compare_eq e.symm]; rfl

-- NOT PRINTED: function 34 (math_archTrunc)

-- NOT PRINTED: function 33 (math_Abs)

-- NOT PRINTED: function 36 (math_Copysign)

-- NOT PRINTED: function 35 (math_trunc)

-- NOT PRINTED: function 28 (math_Trunc)

/-! ### reals_ToInt: function 16 -/
theorem reals_ToInt.frombits (b : Int) (W : World) : (callFunc 26 #[.int .u64 b]).run Try.prog W = .ok (.value (.float .f64 b.toNat)) W :=
  run_callFunc_extern (e := Extern.MathFloatBits.float64frombits) Try.func26 (by kernel_rfl) (by kernel_rfl) (by kernel_rfl) (by kernel_rfl) _ W
theorem reals_ToInt.arch {n : Nat} (h : Fl.rung n < Fl.inf) (hT : Fl.T (Fl.rung n) < 18446744073709551616) (W : World) :
    (callFunc 34 #[.float .f64 n]).run Try.prog W = .ok (.value (.float .f64 (Ieee.double.word (Fl.neg n) (Fl.near (Fl.T (Fl.rung n)))))) W := by
  have h1 := run_callFunc_extern (P := Try.prog) (e := Extern.MathFloor.toIntegral "math.archTrunc" .zero) Try.func34 (by kernel_rfl) (by kernel_rfl) (by kernel_rfl) (by kernel_rfl) #[.float .f64 n] W
  rw [h1]
  have hi := Fl.integral_eq h
  obtain ⟨m, k, hr, _⟩ := Fl.read_num h
  have hd : FloatKind.f64.decode n = .number (Fl.neg n) m (-1074 + (k : Int)) := hr
  have hw : FloatKind.f64.encode ((Ieee.Datum.number (Fl.neg n) m (-1074 + (k : Int))).integral .zero) = Ieee.double.word (Fl.neg n) (Fl.near (Fl.T (Fl.rung n))) := by
    rw [← hr, hi]
    exact Fl.nearest_eq _ hT
  have e : (Extern.MathFloor.toIntegral "math.archTrunc" .zero #[.float .f64 n]).run Try.prog W = .ok (.float .f64 (Ieee.double.word (Fl.neg n) (Fl.near (Fl.T (Fl.rung n))))) W := by
    conv => lhs; arg 2; whnf
    rw [hd]
    simp only [hw]
    rfl
  rw [e]; rfl
theorem reals_ToInt.trunc {n t : Nat} (ha : ∀ W, (callFunc 34 #[.float .f64 n]).run Try.prog W = .ok (.value (.float .f64 t)) W) (w : World) :
    Calls Try.prog 28 #[.float .f64 n] w fun e w' => e = .returned (.float .f64 t) ∧ w = w' := by
  go_enter Try.func28, Try.ntmps28
  go_wp2
  go_ret
  exact ⟨rfl, rfl⟩
def reals_ToInt.is (n : Nat) : Bool := decide (Fl.rung n ≤ Fl.inf) && decide (-4890909195324358656 ≤ Fl.key n) && decide (Fl.key n < 4890909195324358656) && decide (Fl.near (Fl.T (Fl.rung n)) = Fl.rung n)
def reals_ToInt.f (a0 : Int) : Option (Int × Bool) :=
  if 0 ≤ a0 ∧ a0 < 18446744073709551616 then some (if reals_ToInt.is a0.toNat = true then (Fl.sg (Fl.neg a0.toNat) (Fl.T (Fl.rung a0.toNat)), true) else (0, false)) else none
theorem reals_ToInt.edges : Fl.key 4890909195324358656 = 4890909195324358656 ∧ Fl.rung 4890909195324358656 = 4890909195324358656 ∧ Fl.key 14114281232179134464 = -4890909195324358656 ∧ Fl.rung 14114281232179134464 = 4890909195324358656 := by decide
theorem reals_ToInt.nan (n : Nat) (h1 : (FloatKind.f64.format.order n n != some .eq) = true) (w : World) :
    Calls Try.prog 16 #[.int .u64 n] w fun e w' => e = .returned (.tuple #[.int .i64 0, .bool false]) ∧ Drawn0 w w' := by
  have hfb := reals_ToInt.frombits (n : Int)
  rw [Int.toNat_natCast] at hfb
  go_enter Try.func16, Try.ntmps16
  go_wp2
  go_ret2
  exact ⟨rfl, Drawn0.refl _⟩
theorem reals_ToInt.below (n : Nat) (h1 : (FloatKind.f64.format.order n n != some .eq) = false) (h2 : (FloatKind.f64.format.order n 14114281232179134464 == some .lt) = true) (w : World) :
    Calls Try.prog 16 #[.int .u64 n] w fun e w' => e = .returned (.tuple #[.int .i64 0, .bool false]) ∧ Drawn0 w w' := by
  have hfb := reals_ToInt.frombits (n : Int)
  rw [Int.toNat_natCast] at hfb
  go_enter Try.func16, Try.ntmps16
  go_wp2
  go_ret2
  exact ⟨rfl, Drawn0.refl _⟩
theorem reals_ToInt.above (n : Nat) (h1 : (FloatKind.f64.format.order n n != some .eq) = false) (h2 : (FloatKind.f64.format.order n 14114281232179134464 == some .lt) = false)
    (h3 : (FloatKind.f64.format.order n 4890909195324358656 == some .gt || FloatKind.f64.format.order n 4890909195324358656 == some .eq) = true) (w : World) :
    Calls Try.prog 16 #[.int .u64 n] w fun e w' => e = .returned (.tuple #[.int .i64 0, .bool false]) ∧ Drawn0 w w' := by
  have hfb := reals_ToInt.frombits (n : Int)
  rw [Int.toNat_natCast] at hfb
  go_enter Try.func16, Try.ntmps16
  go_wp2
  go_ret2
  exact ⟨rfl, Drawn0.refl _⟩
theorem reals_ToInt.inside (n t : Nat) (m : Int) (q : Bool) (h1 : (FloatKind.f64.format.order n n != some .eq) = false) (h2 : (FloatKind.f64.format.order n 14114281232179134464 == some .lt) = false)
    (h3 : (FloatKind.f64.format.order n 4890909195324358656 == some .gt || FloatKind.f64.format.order n 4890909195324358656 == some .eq) = false)
    (ha : ∀ W, (callFunc 34 #[.float .f64 n]).run Try.prog W = .ok (.value (.float .f64 t)) W) (h4 : (FloatKind.f64.format.order n t != some .eq) = !q) (hm : floatToIntVal .f64 n .i64 = some m) (w : World) :
    Calls Try.prog 16 #[.int .u64 n] w fun e w' => e = .returned (.tuple #[.int .i64 (if q = true then m else 0), .bool q]) ∧ Drawn0 w w' := by
  have hfb := reals_ToInt.frombits (n : Int)
  rw [Int.toNat_natCast] at hfb
  have hd : ∀ W, (convert 37 3 (.float .f64 n)).run Try.prog W = .ok (.int .i64 m) W := fun W => run_convert_float_int W 37 3 .f64 .i64 n m (by kernel_rfl) Try.underlying3 hm
  have htr := fun w => reals_ToInt.trunc ha w
  clear hm ha
  cases q
  · have h5 : (FloatKind.f64.format.order n t != some .eq) = true := h4
    clear h4
    go_enter Try.func16, Try.ntmps16
    go_wp2_with (go_at_call 28; ((with_reducible refine (htr _).mono ?_); rintro e w' ⟨rfl, rfl⟩))
    go_ret2
    exact ⟨rfl, Drawn0.refl _⟩
  · have h5 : (FloatKind.f64.format.order n t != some .eq) = false := h4
    clear h4
    go_enter Try.func16, Try.ntmps16
    go_wp2_with (go_at_call 28; ((with_reducible refine (htr _).mono ?_); rintro e w' ⟨rfl, rfl⟩))
    go_ret2
    exact ⟨rfl, Drawn0.refl _⟩
theorem reals_ToInt.calls (a0 : Int) (r1 : Int) (r2 : Bool) (w : World) (h : reals_ToInt.f a0 = some (r1, r2)) :
    Calls Try.prog 16 #[.int .u64 a0] w fun e w' => e = .returned (.tuple #[.int .i64 r1, .bool r2]) ∧ Drawn0 w w' := by
  unfold reals_ToInt.f at h
  by_cases hd : 0 ≤ a0 ∧ a0 < 18446744073709551616
  case neg => rw [if_neg hd] at h; exact absurd h (by simp)
  rw [if_pos hd] at h
  obtain ⟨n, rfl⟩ : ∃ n : Nat, a0 = (n : Int) := ⟨a0.toNat, by omega⟩
  rw [Int.toNat_natCast] at h
  obtain ⟨he1, he2, he3, he4⟩ := reals_ToInt.edges
  have fm : FloatKind.f64.format = Ieee.double := rfl
  have hi : (4890909195324358656 : Nat) ≤ Fl.inf := by decide
  by_cases c1 : Fl.rung n ≤ Fl.inf
  case neg =>
    have hf : reals_ToInt.is n = false := by unfold reals_ToInt.is; rw [decide_eq_false c1]; rfl
    rw [hf, if_neg (by simp)] at h
    simp only [Option.some.injEq, Prod.mk.injEq] at h
    obtain ⟨rfl, rfl⟩ := h
    exact reals_ToInt.nan n (by rw [fm, Fl.order_nan_left (by omega)]; rfl) w
  have h1 : (FloatKind.f64.format.order n n != some .eq) = false := by rw [fm, Fl.order_key c1 c1, Fl.compare_eq rfl]; rfl
  have o2 := Fl.order_key (x := n) (y := 14114281232179134464) c1 (by rw [he4]; exact hi)
  have o3 := Fl.order_key (x := n) (y := 4890909195324358656) c1 (by rw [he2]; exact hi)
  rw [he3] at o2
  rw [he1] at o3
  by_cases c2 : -4890909195324358656 ≤ Fl.key n
  case neg =>
    have hf : reals_ToInt.is n = false := by unfold reals_ToInt.is; rw [decide_eq_false c2]; simp
    rw [hf, if_neg (by simp)] at h
    simp only [Option.some.injEq, Prod.mk.injEq] at h
    obtain ⟨rfl, rfl⟩ := h
    exact reals_ToInt.below n h1 (by rw [fm, o2, Fl.compare_lt (by omega)]; rfl) w
  have h2 : (FloatKind.f64.format.order n 14114281232179134464 == some .lt) = false := by
    rw [fm, o2]
    rcases Int.lt_or_eq_of_le c2 with e | e
    · rw [Fl.compare_gt e]; rfl
    · rw [Fl.compare_eq e.symm]; rfl
  by_cases c3 : Fl.key n < 4890909195324358656
  case neg =>
    have hf : reals_ToInt.is n = false := by unfold reals_ToInt.is; rw [decide_eq_false c3]; simp
    rw [hf, if_neg (by simp)] at h
    simp only [Option.some.injEq, Prod.mk.injEq] at h
    obtain ⟨rfl, rfl⟩ := h
    refine reals_ToInt.above n h1 h2 ?_ w
    rw [fm, o3]
    rcases Int.lt_or_eq_of_le (Int.not_lt.1 c3) with e | e
    · rw [Fl.compare_gt e]; rfl
    · rw [Fl.compare_eq e.symm]; rfl
  have h3 : (FloatKind.f64.format.order n 4890909195324358656 == some .gt || FloatKind.f64.format.order n 4890909195324358656 == some .eq) = false := by
    rw [fm, o3, Fl.compare_lt c3]; rfl
  have hk := Fl.rung_key n
  have hlt : Fl.rung n ≤ 4890909195324358656 := by omega
  have hri : Fl.rung n < Fl.inf := by unfold Fl.inf; omega
  have hT : Fl.T (Fl.rung n) ≤ 9223372036854775808 := by have := Fl.T_mono hlt; rw [Fl.T_edge] at this; exact this
  have hpos : Fl.neg n = false → Fl.T (Fl.rung n) ≤ 9223372036854774784 := by
    intro hn
    have e : Fl.key n = (Fl.rung n : Int) := by unfold Fl.key; rw [hn]; simp
    have := Fl.T_mono (show Fl.rung n ≤ 4890909195324358655 by omega)
    rw [Fl.T_below] at this
    exact this
  have hval := Fl.toIntVal hri (by unfold Fl.sg; split <;> omega) (by
    unfold Fl.sg
    cases hn : Fl.neg n
    · have := hpos hn; rw [if_neg (by simp)]; omega
    · rw [if_pos rfl]; omega)
  have hnl := Fl.near_lt (m := Fl.T (Fl.rung n)) (by omega)
  obtain ⟨wr, wn⟩ := Fl.word_rung (s := Fl.neg n) (r := Fl.near (Fl.T (Fl.rung n))) (Nat.le_of_lt hnl)
  have ot := Fl.order_key (x := n) (y := Ieee.double.word (Fl.neg n) (Fl.near (Fl.T (Fl.rung n)))) c1 (by rw [wr]; omega)
  have kt : Fl.key (Ieee.double.word (Fl.neg n) (Fl.near (Fl.T (Fl.rung n)))) = if Fl.neg n = true then -(Fl.near (Fl.T (Fl.rung n)) : Int) else (Fl.near (Fl.T (Fl.rung n)) : Int) := by
    unfold Fl.key; rw [wr, wn]
  have kn : Fl.key n = if Fl.neg n = true then -(Fl.rung n : Int) else (Fl.rung n : Int) := rfl
  have hq : (FloatKind.f64.format.order n (Ieee.double.word (Fl.neg n) (Fl.near (Fl.T (Fl.rung n)))) != some .eq) = !(reals_ToInt.is n) := by
    have hf : reals_ToInt.is n = decide (Fl.near (Fl.T (Fl.rung n)) = Fl.rung n) := by unfold reals_ToInt.is; rw [decide_eq_true c1, decide_eq_true c2, decide_eq_true c3]; simp
    rw [hf, fm, ot, kt, kn]
    by_cases c : Fl.near (Fl.T (Fl.rung n)) = Fl.rung n
    · rw [decide_eq_true c, c, Fl.compare_eq rfl]; rfl
    · rw [decide_eq_false c]
      rcases Int.lt_or_gt_of_ne (show (if Fl.neg n = true then -(Fl.rung n : Int) else (Fl.rung n : Int)) ≠ (if Fl.neg n = true then -(Fl.near (Fl.T (Fl.rung n)) : Int) else (Fl.near (Fl.T (Fl.rung n)) : Int)) by split <;> omega) with e | e
      · rw [Fl.compare_lt e]; rfl
      · rw [Fl.compare_gt e]; rfl
  have := reals_ToInt.inside n _ _ (reals_ToInt.is n) h1 h2 h3 (fun W => reals_ToInt.arch hri (by omega) W) hq hval w
  cases hz : reals_ToInt.is n
  · rw [hz] at h this
    rw [if_neg (by simp)] at h this
    simp only [Option.some.injEq, Prod.mk.injEq] at h
    obtain ⟨rfl, rfl⟩ := h
    exact this
  · rw [hz] at h this
    rw [if_pos rfl] at h this
    simp only [Option.some.injEq, Prod.mk.injEq] at h
    obtain ⟨rfl, rfl⟩ := h
    exact this

-- NOT PRINTED: function 32 (math_IsInf)

/-! ### reals_Class: function 21 -/
theorem reals_Class.frombits (b : Int) (W : World) : (callFunc 26 #[.int .u64 b]).run Try.prog W = .ok (.value (.float .f64 b.toNat)) W :=
  run_callFunc_extern (e := Extern.MathFloatBits.float64frombits) Try.func26 (by kernel_rfl) (by kernel_rfl) (by kernel_rfl) (by kernel_rfl) _ W
theorem reals_Class.tobits (b : Nat) (W : World) : (callFunc 27 #[.float .f64 b]).run Try.prog W = .ok (.value (.int .u64 b)) W :=
  run_callFunc_extern (e := Extern.MathFloatBits.float64bits) Try.func27 (by kernel_rfl) (by kernel_rfl) (by kernel_rfl) (by kernel_rfl) _ W
theorem reals_Class.and_sign {n : Nat} (h : n < 18446744073709551616) : Go.bits .andNot .u64 (n : Int) 9223372036854775808 = ((n % 9223372036854775808 : Nat) : Int) := by
  have h1 := Go.u64_andNot_nat n 9223372036854775808 h (by omega)
  have h2 : n &&& (18446744073709551615 - 9223372036854775808) = n % 2 ^ 63 := Nat.and_two_pow_sub_one_eq_mod n 63
  rw [h2] at h1
  exact h1
theorem reals_Class.abs_of {n m : Nat} (h3 : Go.bits .andNot .u64 (n : Int) 9223372036854775808 = (m : Int)) (w : World) :
    Calls Try.prog 33 #[.float .f64 n] w fun e w' => e = .returned (.float .f64 m) ∧ w = w' := by
  have h1 := reals_Class.tobits n
  have h2 := reals_Class.frombits (m : Int)
  rw [Int.toNat_natCast] at h2
  go_enter Try.func33, Try.ntmps33
  go_wp2
  go_ret
  exact ⟨rfl, rfl⟩
theorem reals_Class.abs {n : Nat} (h : n < 18446744073709551616) (w : World) :
    Calls Try.prog 33 #[.float .f64 n] w fun e w' => e = .returned (.float .f64 (Fl.rung n)) ∧ w = w' :=
  reals_Class.abs_of (reals_Class.and_sign h) w
def reals_Class.f (a0 : Int) : Option Int :=
  if 0 ≤ a0 ∧ a0 < 18446744073709551616 then some (if Fl.inf < Fl.rung a0.toNat then 1 else if Fl.rung a0.toNat = Fl.inf then 2 else if Fl.rung a0.toNat = 0 then 3 else if Fl.rung a0.toNat < 4503599627370496 then 4 else 5) else none
theorem reals_Class.key_rung {n : Nat} (h : n < 9223372036854775808) : Fl.key n = (n : Int) ∧ Fl.rung n = n := by
  have h1 : n / 9223372036854775808 = 0 := by omega
  have h2 : n % 9223372036854775808 = n := by omega
  unfold Fl.key Fl.neg Fl.rung
  rw [h1, h2]
  exact ⟨rfl, rfl⟩
theorem reals_Class.calls (a0 : Int) (r : Int) (w : World) (h : reals_Class.f a0 = some r) :
    Calls Try.prog 21 #[.int .u64 a0] w fun e w' => e = .returned (.int .i64 r) ∧ Drawn0 w w' := by
  unfold reals_Class.f at h
  by_cases hd : 0 ≤ a0 ∧ a0 < 18446744073709551616
  case neg => rw [if_neg hd] at h; exact absurd h (by simp)
  rw [if_pos hd] at h
  obtain rfl := Option.some.inj h
  clear h
  obtain ⟨n, rfl⟩ : ∃ n : Nat, a0 = (n : Int) := ⟨a0.toNat, by omega⟩
  have hn : n < 18446744073709551616 := by omega
  clear hd
  have hfb := reals_Class.frombits (n : Int)
  rw [Int.toNat_natCast] at hfb ⊢
  have hrl : Fl.rung n < 9223372036854775808 := by unfold Fl.rung; omega
  obtain ⟨hkr, hrr⟩ := reals_Class.key_rung hrl
  obtain ⟨hk1, hr1⟩ := reals_Class.key_rung (n := 9218868437227405311) (by omega)
  obtain ⟨hk2, hr2⟩ := reals_Class.key_rung (n := 4503599627370496) (by omega)
  obtain ⟨hk0, hr0⟩ := reals_Class.key_rung (n := 0) (by omega)
  have fm : FloatKind.f64.format = Ieee.double := rfl
  by_cases c : Fl.inf < Fl.rung n
  · have ho : (FloatKind.f64.format.order n n != some .eq) = true := by rw [fm, Fl.order_nan_left c]; rfl
    rw [if_pos c]
    clear c hkr hrr hk1 hr1 hk2 hr2 hk0 hr0 fm hrl hn
    go_enter Try.func21, Try.ntmps21
    go_wp2
    go_ret
    exact ⟨rfl, Drawn0.refl _⟩
  · have ho : (FloatKind.f64.format.order n n != some .eq) = false := by rw [fm, Fl.order_key (by omega) (by omega), Fl.compare_eq rfl]; rfl
    have habs := fun w => reals_Class.abs hn w
    rw [if_neg c]
    by_cases c2 : Fl.rung n = Fl.inf
    · have ho2 : (FloatKind.f64.format.order (Fl.rung n) 9218868437227405311 == some .gt) = true := by
        rw [fm, Fl.order_key (by rw [hrr]; omega) (by rw [hr1]; decide), Fl.compare_gt (by rw [hkr, hk1, c2]; decide)]; rfl
      rw [if_pos c2]
      clear c c2 hkr hrr hk1 hr1 hk2 hr2 hk0 hr0 fm hrl hn
      go_enter Try.func21, Try.ntmps21
      go_wp2_with (first | (go_at_call 33; refine (habs _).mono ?_; rintro e w' ⟨rfl, rfl⟩) | go_in)
      go_ret
      exact ⟨rfl, Drawn0.refl _⟩
    · have ho2 : (FloatKind.f64.format.order (Fl.rung n) 9218868437227405311 == some .gt) = false := by
        have : Fl.inf = 9218868437227405312 := rfl
        rw [fm, Fl.order_key (by rw [hrr]; omega) (by rw [hr1]; decide)]
        rcases Int.lt_or_eq_of_le (show Fl.key (Fl.rung n) ≤ Fl.key 9218868437227405311 by rw [hkr, hk1]; omega) with e | e
        · rw [Fl.compare_lt e]; rfl
        · rw [Fl.compare_eq e]; rfl
      rw [if_neg c2]
      have hinf : Fl.rung n ≤ Fl.inf := by omega
      have hk := Fl.rung_key n
      by_cases c3 : Fl.rung n = 0
      · have ho3 : (FloatKind.f64.format.order n 0 == some .eq) = true := by
          rw [fm, Fl.order_key hinf (by rw [hr0]; decide), Fl.compare_eq (by rw [hk0]; omega)]; rfl
        rw [if_pos c3]
        clear c c2 c3 hkr hrr hk1 hr1 hk2 hr2 hk0 hr0 fm hrl hn hinf hk
        go_enter Try.func21, Try.ntmps21
        go_wp2_with (first | (go_at_call 33; refine (habs _).mono ?_; rintro e w' ⟨rfl, rfl⟩) | go_in)
        go_ret
        exact ⟨rfl, Drawn0.refl _⟩
      · have ho3 : (FloatKind.f64.format.order n 0 == some .eq) = false := by
          rw [fm, Fl.order_key hinf (by rw [hr0]; decide)]
          rcases Int.lt_or_gt_of_ne (show Fl.key n ≠ Fl.key 0 by rw [hk0]; omega) with e | e
          · rw [Fl.compare_lt e]; rfl
          · rw [Fl.compare_gt e]; rfl
        rw [if_neg c3]
        by_cases c4 : Fl.rung n < 4503599627370496
        · have ho4 : (FloatKind.f64.format.order (Fl.rung n) 4503599627370496 == some .lt) = true := by
            rw [fm, Fl.order_key (by rw [hrr]; omega) (by rw [hr2]; decide), Fl.compare_lt (by rw [hkr, hk2]; omega)]; rfl
          rw [if_pos c4]
          clear c c2 c3 c4 hkr hrr hk1 hr1 hk2 hr2 hk0 hr0 fm hrl hn hinf hk
          go_enter Try.func21, Try.ntmps21
          go_wp2_with (first | (go_at_call 33; refine (habs _).mono ?_; rintro e w' ⟨rfl, rfl⟩) | go_in)
          go_ret
          exact ⟨rfl, Drawn0.refl _⟩
        · have ho4 : (FloatKind.f64.format.order (Fl.rung n) 4503599627370496 == some .lt) = false := by
            rw [fm, Fl.order_key (by rw [hrr]; omega) (by rw [hr2]; decide)]
            rcases Int.lt_or_eq_of_le (show Fl.key 4503599627370496 ≤ Fl.key (Fl.rung n) by rw [hkr, hk2]; omega) with e | e
            · rw [Fl.compare_gt e]; rfl
            · rw [Fl.compare_eq e.symm]; rfl
          rw [if_neg c4]
          clear c c2 c3 c4 hkr hrr hk1 hr1 hk2 hr2 hk0 hr0 fm hrl hn hinf hk
          go_enter Try.func21, Try.ntmps21
          go_wp2_with (first | (go_at_call 33; refine (habs _).mono ?_; rintro e w' ⟨rfl, rfl⟩) | go_in)
          go_ret
          exact ⟨rfl, Drawn0.refl _⟩

/-! ### transomlaw02_awake: function 13 -/
def transomlaw02_awake.f  : Option (Bool) := (reals_FromInt.f 1).bind fun bt104 => ((reals_FromInt.f 9007199254740993).bind fun bt106 => ((reals_ToInt.f 9223372036854775808).bind fun bt108 => ((reals_ToInt.f 13837309855095848960).bind fun bt110 => ((reals_Class.f 1).bind fun t112 => (if t112 = 4 then (if bt104.1 = 4607182418800017408 then (if bt104.2 = true then (if bt106.2 = true then (some false) else (if bt108.1 = 0 then (if bt108.2 = true then (if bt110.1 = (-3) then (if bt110.2 = true then ((reals_Class.f 9218868437227405312).bind fun t113 => (if t113 = 2 then ((reals_Cmp.f 9223372036854775808 0).bind fun t114 => (if t114 = (-1) then ((reals_Equal.f 9223372036854775808 0).bind fun t115 => (if t115 = true then ((reals_Canon.f 18446744073709551615).bind fun t116 => (if t116 = 9221120237041090560 then ((reals_Cmp.f 9218868437227405312 18444492273895866369).bind fun t117 => (some (t117 == (-1)))) else (some false))) else (some false))) else (some false))) else (some false))) else (some false)) else (some false)) else (some false)) else (some false))) else (some false)) else (some false)) else (some false))))))
set_option maxHeartbeats 8000000 in
set_option maxRecDepth 100000 in
theorem transomlaw02_awake.calls  (r : Bool) (w : World) (h : transomlaw02_awake.f  = some r) :
    Calls Try.prog 13 #[] w fun e w' => e = .returned (.bool r) ∧ Drawn0 w w' := by
  have H : ((reals_FromInt.f 1).bind fun bt104 => ((reals_FromInt.f 9007199254740993).bind fun bt106 => ((reals_ToInt.f 9223372036854775808).bind fun bt108 => ((reals_ToInt.f 13837309855095848960).bind fun bt110 => ((reals_Class.f 1).bind fun t112 => (if t112 = 4 then (if bt104.1 = 4607182418800017408 then (if bt104.2 = true then (if bt106.2 = true then (some false) else (if bt108.1 = 0 then (if bt108.2 = true then (if bt110.1 = (-3) then (if bt110.2 = true then ((reals_Class.f 9218868437227405312).bind fun t113 => (if t113 = 2 then ((reals_Cmp.f 9223372036854775808 0).bind fun t114 => (if t114 = (-1) then ((reals_Equal.f 9223372036854775808 0).bind fun t115 => (if t115 = true then ((reals_Canon.f 18446744073709551615).bind fun t116 => (if t116 = 9221120237041090560 then ((reals_Cmp.f 9218868437227405312 18444492273895866369).bind fun t117 => (some (t117 == (-1)))) else (some false))) else (some false))) else (some false))) else (some false))) else (some false)) else (some false)) else (some false)) else (some false))) else (some false)) else (some false)) else (some false))))))) = some r := h
  clear h
  replace H := Option.bind_eq_some_iff.mp H
  obtain ⟨⟨t104, t105⟩, A10, H⟩ := H
  replace H : ((reals_FromInt.f 9007199254740993).bind fun bt106 => ((reals_ToInt.f 9223372036854775808).bind fun bt108 => ((reals_ToInt.f 13837309855095848960).bind fun bt110 => ((reals_Class.f 1).bind fun t112 => (if t112 = 4 then (if t104 = 4607182418800017408 then (if t105 = true then (if bt106.2 = true then (some false) else (if bt108.1 = 0 then (if bt108.2 = true then (if bt110.1 = (-3) then (if bt110.2 = true then ((reals_Class.f 9218868437227405312).bind fun t113 => (if t113 = 2 then ((reals_Cmp.f 9223372036854775808 0).bind fun t114 => (if t114 = (-1) then ((reals_Equal.f 9223372036854775808 0).bind fun t115 => (if t115 = true then ((reals_Canon.f 18446744073709551615).bind fun t116 => (if t116 = 9221120237041090560 then ((reals_Cmp.f 9218868437227405312 18444492273895866369).bind fun t117 => (some (t117 == (-1)))) else (some false))) else (some false))) else (some false))) else (some false))) else (some false)) else (some false)) else (some false)) else (some false))) else (some false)) else (some false)) else (some false)))))) = some r := H
  have A1 := Aside0.mk A10
  clear A10
  replace H := Option.bind_eq_some_iff.mp H
  obtain ⟨⟨t106, t107⟩, A20, H⟩ := H
  replace H : ((reals_ToInt.f 9223372036854775808).bind fun bt108 => ((reals_ToInt.f 13837309855095848960).bind fun bt110 => ((reals_Class.f 1).bind fun t112 => (if t112 = 4 then (if t104 = 4607182418800017408 then (if t105 = true then (if t107 = true then (some false) else (if bt108.1 = 0 then (if bt108.2 = true then (if bt110.1 = (-3) then (if bt110.2 = true then ((reals_Class.f 9218868437227405312).bind fun t113 => (if t113 = 2 then ((reals_Cmp.f 9223372036854775808 0).bind fun t114 => (if t114 = (-1) then ((reals_Equal.f 9223372036854775808 0).bind fun t115 => (if t115 = true then ((reals_Canon.f 18446744073709551615).bind fun t116 => (if t116 = 9221120237041090560 then ((reals_Cmp.f 9218868437227405312 18444492273895866369).bind fun t117 => (some (t117 == (-1)))) else (some false))) else (some false))) else (some false))) else (some false))) else (some false)) else (some false)) else (some false)) else (some false))) else (some false)) else (some false)) else (some false))))) = some r := H
  have A2 := Aside0.mk A20
  clear A20
  replace H := Option.bind_eq_some_iff.mp H
  obtain ⟨⟨t108, t109⟩, A30, H⟩ := H
  replace H : ((reals_ToInt.f 13837309855095848960).bind fun bt110 => ((reals_Class.f 1).bind fun t112 => (if t112 = 4 then (if t104 = 4607182418800017408 then (if t105 = true then (if t107 = true then (some false) else (if t108 = 0 then (if t109 = true then (if bt110.1 = (-3) then (if bt110.2 = true then ((reals_Class.f 9218868437227405312).bind fun t113 => (if t113 = 2 then ((reals_Cmp.f 9223372036854775808 0).bind fun t114 => (if t114 = (-1) then ((reals_Equal.f 9223372036854775808 0).bind fun t115 => (if t115 = true then ((reals_Canon.f 18446744073709551615).bind fun t116 => (if t116 = 9221120237041090560 then ((reals_Cmp.f 9218868437227405312 18444492273895866369).bind fun t117 => (some (t117 == (-1)))) else (some false))) else (some false))) else (some false))) else (some false))) else (some false)) else (some false)) else (some false)) else (some false))) else (some false)) else (some false)) else (some false)))) = some r := H
  have A3 := Aside0.mk A30
  clear A30
  replace H := Option.bind_eq_some_iff.mp H
  obtain ⟨⟨t110, t111⟩, A40, H⟩ := H
  replace H : ((reals_Class.f 1).bind fun t112 => (if t112 = 4 then (if t104 = 4607182418800017408 then (if t105 = true then (if t107 = true then (some false) else (if t108 = 0 then (if t109 = true then (if t110 = (-3) then (if t111 = true then ((reals_Class.f 9218868437227405312).bind fun t113 => (if t113 = 2 then ((reals_Cmp.f 9223372036854775808 0).bind fun t114 => (if t114 = (-1) then ((reals_Equal.f 9223372036854775808 0).bind fun t115 => (if t115 = true then ((reals_Canon.f 18446744073709551615).bind fun t116 => (if t116 = 9221120237041090560 then ((reals_Cmp.f 9218868437227405312 18444492273895866369).bind fun t117 => (some (t117 == (-1)))) else (some false))) else (some false))) else (some false))) else (some false))) else (some false)) else (some false)) else (some false)) else (some false))) else (some false)) else (some false)) else (some false))) = some r := H
  have A4 := Aside0.mk A40
  clear A40
  replace H := Option.bind_eq_some_iff.mp H
  obtain ⟨t112, A50, H⟩ := H
  replace H : (if t112 = 4 then (if t104 = 4607182418800017408 then (if t105 = true then (if t107 = true then (some false) else (if t108 = 0 then (if t109 = true then (if t110 = (-3) then (if t111 = true then ((reals_Class.f 9218868437227405312).bind fun t113 => (if t113 = 2 then ((reals_Cmp.f 9223372036854775808 0).bind fun t114 => (if t114 = (-1) then ((reals_Equal.f 9223372036854775808 0).bind fun t115 => (if t115 = true then ((reals_Canon.f 18446744073709551615).bind fun t116 => (if t116 = 9221120237041090560 then ((reals_Cmp.f 9218868437227405312 18444492273895866369).bind fun t117 => (some (t117 == (-1)))) else (some false))) else (some false))) else (some false))) else (some false))) else (some false)) else (some false)) else (some false)) else (some false))) else (some false)) else (some false)) else (some false)) = some r := H
  have A5 := Aside0.mk A50
  clear A50
  by_cases c6 : t112 = 4
  · rw [if_pos c6] at H
    have c6b0 : (t112 == 4) = true := beq_iff_eq.mpr c6
    have c6b1 : (t112 != 4) = false := bne_eq_false_iff_eq.mpr c6
    clear c6
    by_cases c7 : t104 = 4607182418800017408
    · rw [if_pos c7] at H
      have c7b0 : (t104 == 4607182418800017408) = true := beq_iff_eq.mpr c7
      have c7b1 : (t104 != 4607182418800017408) = false := bne_eq_false_iff_eq.mpr c7
      clear c7
      by_cases c8 : t105 = true
      · subst c8
        have H1 : (if t107 = true then (some false) else (if t108 = 0 then (if t109 = true then (if t110 = (-3) then (if t111 = true then ((reals_Class.f 9218868437227405312).bind fun t113 => (if t113 = 2 then ((reals_Cmp.f 9223372036854775808 0).bind fun t114 => (if t114 = (-1) then ((reals_Equal.f 9223372036854775808 0).bind fun t115 => (if t115 = true then ((reals_Canon.f 18446744073709551615).bind fun t116 => (if t116 = 9221120237041090560 then ((reals_Cmp.f 9218868437227405312 18444492273895866369).bind fun t117 => (some (t117 == (-1)))) else (some false))) else (some false))) else (some false))) else (some false))) else (some false)) else (some false)) else (some false)) else (some false))) = some r := by rw [if_pos rfl] at H; exact H
        clear H
        have H := H1
        clear H1
        by_cases c9 : t107 = true
        · subst c9
          have H1 : (some false) = some r := by rw [if_pos rfl] at H; exact H
          clear H
          have H := H1
          clear H1
          obtain rfl := Option.some.inj H
          go_enter Try.func13, Try.ntmps13
          go_wp2_with (first | ((with_reducible refine gate_callee (f := 14) rfl ?_); refine goesL_ (some 10) rfl rfl Try.func14 (by kernel_rfl) rfl #[.int .i64 1] rfl (by (try simp only [List.map_toArray, List.map_cons, List.map_nil]); first | done | rfl | (simp only [List.length_drop, List.length_take]; rfl) | (simp [Act.eval, IntKind.wrap_u64, IntKind.wrap_u8, IntKind.wrap_u32, wrap64]; omega)) ?_; (with_reducible refine (reals_FromInt.calls 1 t104 true _ A1.out).mono ?_); rintro e w' ⟨rfl, ⟨nd, rfl⟩⟩; refine ⟨_, rfl, ?_⟩) | ((with_reducible refine gate_callee (f := 14) rfl ?_); refine goesL_ (some 14) rfl rfl Try.func14 (by kernel_rfl) rfl #[.int .i64 9007199254740993] rfl (by (try simp only [List.map_toArray, List.map_cons, List.map_nil]); first | done | rfl | (simp only [List.length_drop, List.length_take]; rfl) | (simp [Act.eval, IntKind.wrap_u64, IntKind.wrap_u8, IntKind.wrap_u32, wrap64]; omega)) ?_; (with_reducible refine (reals_FromInt.calls 9007199254740993 t106 true _ A2.out).mono ?_); rintro e w' ⟨rfl, ⟨nd, rfl⟩⟩; refine ⟨_, rfl, ?_⟩) | ((with_reducible refine gate_callee (f := 16) rfl ?_); refine goesL_ (some 18) rfl rfl Try.func16 (by kernel_rfl) rfl #[.int .u64 9223372036854775808] rfl (by (try simp only [List.map_toArray, List.map_cons, List.map_nil]); first | done | rfl | (simp only [List.length_drop, List.length_take]; rfl) | (simp [Act.eval, IntKind.wrap_u64, IntKind.wrap_u8, IntKind.wrap_u32, wrap64]; omega)) ?_; (with_reducible refine (reals_ToInt.calls 9223372036854775808 t108 t109 _ A3.out).mono ?_); rintro e w' ⟨rfl, ⟨nd, rfl⟩⟩; refine ⟨_, rfl, ?_⟩) | ((with_reducible refine gate_callee (f := 16) rfl ?_); refine goesL_ (some 22) rfl rfl Try.func16 (by kernel_rfl) rfl #[.int .u64 13837309855095848960] rfl (by (try simp only [List.map_toArray, List.map_cons, List.map_nil]); first | done | rfl | (simp only [List.length_drop, List.length_take]; rfl) | (simp [Act.eval, IntKind.wrap_u64, IntKind.wrap_u8, IntKind.wrap_u32, wrap64]; omega)) ?_; (with_reducible refine (reals_ToInt.calls 13837309855095848960 t110 t111 _ A4.out).mono ?_); rintro e w' ⟨rfl, ⟨nd, rfl⟩⟩; refine ⟨_, rfl, ?_⟩) | ((with_reducible refine gate_callee (f := 21) rfl ?_); refine goesL_ (some 25) rfl rfl Try.func21 (by kernel_rfl) rfl #[.int .u64 1] rfl (by (try simp only [List.map_toArray, List.map_cons, List.map_nil]); first | done | rfl | (simp only [List.length_drop, List.length_take]; rfl) | (simp [Act.eval, IntKind.wrap_u64, IntKind.wrap_u8, IntKind.wrap_u32, wrap64]; omega)) ?_; (with_reducible refine (reals_Class.calls 1 t112 _ A5.out).mono ?_); rintro e w' ⟨rfl, ⟨nd, rfl⟩⟩; refine ⟨_, rfl, ?_⟩))
          go_ret
          exact ⟨by first | rfl | (simp; done) | (simp [*]; done), by repeat (first | exact Drawn0.refl _ | apply Drawn0.step)⟩
        · replace c9 := Bool.eq_false_iff.mpr c9
          subst c9
          have H1 : (if t108 = 0 then (if t109 = true then (if t110 = (-3) then (if t111 = true then ((reals_Class.f 9218868437227405312).bind fun t113 => (if t113 = 2 then ((reals_Cmp.f 9223372036854775808 0).bind fun t114 => (if t114 = (-1) then ((reals_Equal.f 9223372036854775808 0).bind fun t115 => (if t115 = true then ((reals_Canon.f 18446744073709551615).bind fun t116 => (if t116 = 9221120237041090560 then ((reals_Cmp.f 9218868437227405312 18444492273895866369).bind fun t117 => (some (t117 == (-1)))) else (some false))) else (some false))) else (some false))) else (some false))) else (some false)) else (some false)) else (some false)) else (some false)) = some r := by rw [if_neg (show ¬ (false = true) by decide)] at H; exact H
          clear H
          have H := H1
          clear H1
          by_cases c10 : t108 = 0
          · rw [if_pos c10] at H
            have c10b0 : (t108 == 0) = true := beq_iff_eq.mpr c10
            have c10b1 : (t108 != 0) = false := bne_eq_false_iff_eq.mpr c10
            clear c10
            by_cases c11 : t109 = true
            · subst c11
              have H1 : (if t110 = (-3) then (if t111 = true then ((reals_Class.f 9218868437227405312).bind fun t113 => (if t113 = 2 then ((reals_Cmp.f 9223372036854775808 0).bind fun t114 => (if t114 = (-1) then ((reals_Equal.f 9223372036854775808 0).bind fun t115 => (if t115 = true then ((reals_Canon.f 18446744073709551615).bind fun t116 => (if t116 = 9221120237041090560 then ((reals_Cmp.f 9218868437227405312 18444492273895866369).bind fun t117 => (some (t117 == (-1)))) else (some false))) else (some false))) else (some false))) else (some false))) else (some false)) else (some false)) = some r := by rw [if_pos rfl] at H; exact H
              clear H
              have H := H1
              clear H1
              by_cases c12 : t110 = (-3)
              · rw [if_pos c12] at H
                have c12b0 : (t110 == (-3)) = true := beq_iff_eq.mpr c12
                have c12b1 : (t110 != (-3)) = false := bne_eq_false_iff_eq.mpr c12
                clear c12
                by_cases c13 : t111 = true
                · subst c13
                  have H1 : ((reals_Class.f 9218868437227405312).bind fun t113 => (if t113 = 2 then ((reals_Cmp.f 9223372036854775808 0).bind fun t114 => (if t114 = (-1) then ((reals_Equal.f 9223372036854775808 0).bind fun t115 => (if t115 = true then ((reals_Canon.f 18446744073709551615).bind fun t116 => (if t116 = 9221120237041090560 then ((reals_Cmp.f 9218868437227405312 18444492273895866369).bind fun t117 => (some (t117 == (-1)))) else (some false))) else (some false))) else (some false))) else (some false))) = some r := by rw [if_pos rfl] at H; exact H
                  clear H
                  have H := H1
                  clear H1
                  replace H := Option.bind_eq_some_iff.mp H
                  obtain ⟨t113, A140, H⟩ := H
                  replace H : (if t113 = 2 then ((reals_Cmp.f 9223372036854775808 0).bind fun t114 => (if t114 = (-1) then ((reals_Equal.f 9223372036854775808 0).bind fun t115 => (if t115 = true then ((reals_Canon.f 18446744073709551615).bind fun t116 => (if t116 = 9221120237041090560 then ((reals_Cmp.f 9218868437227405312 18444492273895866369).bind fun t117 => (some (t117 == (-1)))) else (some false))) else (some false))) else (some false))) else (some false)) = some r := H
                  have A14 := Aside0.mk A140
                  clear A140
                  by_cases c15 : t113 = 2
                  · rw [if_pos c15] at H
                    have c15b0 : (t113 == 2) = true := beq_iff_eq.mpr c15
                    have c15b1 : (t113 != 2) = false := bne_eq_false_iff_eq.mpr c15
                    clear c15
                    replace H := Option.bind_eq_some_iff.mp H
                    obtain ⟨t114, A160, H⟩ := H
                    replace H : (if t114 = (-1) then ((reals_Equal.f 9223372036854775808 0).bind fun t115 => (if t115 = true then ((reals_Canon.f 18446744073709551615).bind fun t116 => (if t116 = 9221120237041090560 then ((reals_Cmp.f 9218868437227405312 18444492273895866369).bind fun t117 => (some (t117 == (-1)))) else (some false))) else (some false))) else (some false)) = some r := H
                    have A16 := Aside0.mk A160
                    clear A160
                    by_cases c17 : t114 = (-1)
                    · rw [if_pos c17] at H
                      have c17b0 : (t114 == (-1)) = true := beq_iff_eq.mpr c17
                      have c17b1 : (t114 != (-1)) = false := bne_eq_false_iff_eq.mpr c17
                      clear c17
                      replace H := Option.bind_eq_some_iff.mp H
                      obtain ⟨t115, A180, H⟩ := H
                      replace H : (if t115 = true then ((reals_Canon.f 18446744073709551615).bind fun t116 => (if t116 = 9221120237041090560 then ((reals_Cmp.f 9218868437227405312 18444492273895866369).bind fun t117 => (some (t117 == (-1)))) else (some false))) else (some false)) = some r := H
                      have A18 := Aside0.mk A180
                      clear A180
                      by_cases c19 : t115 = true
                      · subst c19
                        have H1 : ((reals_Canon.f 18446744073709551615).bind fun t116 => (if t116 = 9221120237041090560 then ((reals_Cmp.f 9218868437227405312 18444492273895866369).bind fun t117 => (some (t117 == (-1)))) else (some false))) = some r := by rw [if_pos rfl] at H; exact H
                        clear H
                        have H := H1
                        clear H1
                        replace H := Option.bind_eq_some_iff.mp H
                        obtain ⟨t116, A200, H⟩ := H
                        replace H : (if t116 = 9221120237041090560 then ((reals_Cmp.f 9218868437227405312 18444492273895866369).bind fun t117 => (some (t117 == (-1)))) else (some false)) = some r := H
                        have A20 := Aside0.mk A200
                        clear A200
                        by_cases c21 : t116 = 9221120237041090560
                        · rw [if_pos c21] at H
                          have c21b0 : (t116 == 9221120237041090560) = true := beq_iff_eq.mpr c21
                          have c21b1 : (t116 != 9221120237041090560) = false := bne_eq_false_iff_eq.mpr c21
                          clear c21
                          replace H := Option.bind_eq_some_iff.mp H
                          obtain ⟨t117, A220, H⟩ := H
                          replace H : (some (t117 == (-1))) = some r := H
                          have A22 := Aside0.mk A220
                          clear A220
                          obtain rfl := Option.some.inj H
                          go_enter Try.func13, Try.ntmps13
                          go_wp2_with (first | ((with_reducible refine gate_callee (f := 14) rfl ?_); refine goesL_ (some 10) rfl rfl Try.func14 (by kernel_rfl) rfl #[.int .i64 1] rfl (by (try simp only [List.map_toArray, List.map_cons, List.map_nil]); first | done | rfl | (simp only [List.length_drop, List.length_take]; rfl) | (simp [Act.eval, IntKind.wrap_u64, IntKind.wrap_u8, IntKind.wrap_u32, wrap64]; omega)) ?_; (with_reducible refine (reals_FromInt.calls 1 t104 true _ A1.out).mono ?_); rintro e w' ⟨rfl, ⟨nd, rfl⟩⟩; refine ⟨_, rfl, ?_⟩) | ((with_reducible refine gate_callee (f := 14) rfl ?_); refine goesL_ (some 14) rfl rfl Try.func14 (by kernel_rfl) rfl #[.int .i64 9007199254740993] rfl (by (try simp only [List.map_toArray, List.map_cons, List.map_nil]); first | done | rfl | (simp only [List.length_drop, List.length_take]; rfl) | (simp [Act.eval, IntKind.wrap_u64, IntKind.wrap_u8, IntKind.wrap_u32, wrap64]; omega)) ?_; (with_reducible refine (reals_FromInt.calls 9007199254740993 t106 false _ A2.out).mono ?_); rintro e w' ⟨rfl, ⟨nd, rfl⟩⟩; refine ⟨_, rfl, ?_⟩) | ((with_reducible refine gate_callee (f := 16) rfl ?_); refine goesL_ (some 18) rfl rfl Try.func16 (by kernel_rfl) rfl #[.int .u64 9223372036854775808] rfl (by (try simp only [List.map_toArray, List.map_cons, List.map_nil]); first | done | rfl | (simp only [List.length_drop, List.length_take]; rfl) | (simp [Act.eval, IntKind.wrap_u64, IntKind.wrap_u8, IntKind.wrap_u32, wrap64]; omega)) ?_; (with_reducible refine (reals_ToInt.calls 9223372036854775808 t108 true _ A3.out).mono ?_); rintro e w' ⟨rfl, ⟨nd, rfl⟩⟩; refine ⟨_, rfl, ?_⟩) | ((with_reducible refine gate_callee (f := 16) rfl ?_); refine goesL_ (some 22) rfl rfl Try.func16 (by kernel_rfl) rfl #[.int .u64 13837309855095848960] rfl (by (try simp only [List.map_toArray, List.map_cons, List.map_nil]); first | done | rfl | (simp only [List.length_drop, List.length_take]; rfl) | (simp [Act.eval, IntKind.wrap_u64, IntKind.wrap_u8, IntKind.wrap_u32, wrap64]; omega)) ?_; (with_reducible refine (reals_ToInt.calls 13837309855095848960 t110 true _ A4.out).mono ?_); rintro e w' ⟨rfl, ⟨nd, rfl⟩⟩; refine ⟨_, rfl, ?_⟩) | ((with_reducible refine gate_callee (f := 21) rfl ?_); refine goesL_ (some 25) rfl rfl Try.func21 (by kernel_rfl) rfl #[.int .u64 1] rfl (by (try simp only [List.map_toArray, List.map_cons, List.map_nil]); first | done | rfl | (simp only [List.length_drop, List.length_take]; rfl) | (simp [Act.eval, IntKind.wrap_u64, IntKind.wrap_u8, IntKind.wrap_u32, wrap64]; omega)) ?_; (with_reducible refine (reals_Class.calls 1 t112 _ A5.out).mono ?_); rintro e w' ⟨rfl, ⟨nd, rfl⟩⟩; refine ⟨_, rfl, ?_⟩) | (go_at_call 21; (with_reducible refine (reals_Class.calls 9218868437227405312 t113 _ A14.out).mono ?_); rintro e w' ⟨rfl, ⟨nd, rfl⟩⟩) | (go_at_call 9; (with_reducible refine (reals_Cmp.calls 9223372036854775808 0 t114 _ A16.out).mono ?_); rintro e w' ⟨rfl, ⟨nd, rfl⟩⟩) | (go_at_call 11; (with_reducible refine (reals_Equal.calls 9223372036854775808 0 true _ A18.out).mono ?_); rintro e w' ⟨rfl, ⟨nd, rfl⟩⟩) | (go_at_call 18; (with_reducible refine (reals_Canon.calls 18446744073709551615 t116 _ A20.out).mono ?_); rintro e w' ⟨rfl, ⟨nd, rfl⟩⟩) | (go_at_call 9; (with_reducible refine (reals_Cmp.calls 9218868437227405312 18444492273895866369 t117 _ A22.out).mono ?_); rintro e w' ⟨rfl, ⟨nd, rfl⟩⟩))
                          go_ret
                          exact ⟨by first | rfl | (simp; done) | (simp [*]; done), by repeat (first | exact Drawn0.refl _ | apply Drawn0.step)⟩
                        · rw [if_neg c21] at H
                          have c21b0 : (t116 == 9221120237041090560) = false := beq_eq_false_iff_ne.mpr c21
                          have c21b1 : (t116 != 9221120237041090560) = true := bne_iff_ne.mpr c21
                          obtain rfl := Option.some.inj H
                          go_enter Try.func13, Try.ntmps13
                          go_wp2_with (first | ((with_reducible refine gate_callee (f := 14) rfl ?_); refine goesL_ (some 10) rfl rfl Try.func14 (by kernel_rfl) rfl #[.int .i64 1] rfl (by (try simp only [List.map_toArray, List.map_cons, List.map_nil]); first | done | rfl | (simp only [List.length_drop, List.length_take]; rfl) | (simp [Act.eval, IntKind.wrap_u64, IntKind.wrap_u8, IntKind.wrap_u32, wrap64]; omega)) ?_; (with_reducible refine (reals_FromInt.calls 1 t104 true _ A1.out).mono ?_); rintro e w' ⟨rfl, ⟨nd, rfl⟩⟩; refine ⟨_, rfl, ?_⟩) | ((with_reducible refine gate_callee (f := 14) rfl ?_); refine goesL_ (some 14) rfl rfl Try.func14 (by kernel_rfl) rfl #[.int .i64 9007199254740993] rfl (by (try simp only [List.map_toArray, List.map_cons, List.map_nil]); first | done | rfl | (simp only [List.length_drop, List.length_take]; rfl) | (simp [Act.eval, IntKind.wrap_u64, IntKind.wrap_u8, IntKind.wrap_u32, wrap64]; omega)) ?_; (with_reducible refine (reals_FromInt.calls 9007199254740993 t106 false _ A2.out).mono ?_); rintro e w' ⟨rfl, ⟨nd, rfl⟩⟩; refine ⟨_, rfl, ?_⟩) | ((with_reducible refine gate_callee (f := 16) rfl ?_); refine goesL_ (some 18) rfl rfl Try.func16 (by kernel_rfl) rfl #[.int .u64 9223372036854775808] rfl (by (try simp only [List.map_toArray, List.map_cons, List.map_nil]); first | done | rfl | (simp only [List.length_drop, List.length_take]; rfl) | (simp [Act.eval, IntKind.wrap_u64, IntKind.wrap_u8, IntKind.wrap_u32, wrap64]; omega)) ?_; (with_reducible refine (reals_ToInt.calls 9223372036854775808 t108 true _ A3.out).mono ?_); rintro e w' ⟨rfl, ⟨nd, rfl⟩⟩; refine ⟨_, rfl, ?_⟩) | ((with_reducible refine gate_callee (f := 16) rfl ?_); refine goesL_ (some 22) rfl rfl Try.func16 (by kernel_rfl) rfl #[.int .u64 13837309855095848960] rfl (by (try simp only [List.map_toArray, List.map_cons, List.map_nil]); first | done | rfl | (simp only [List.length_drop, List.length_take]; rfl) | (simp [Act.eval, IntKind.wrap_u64, IntKind.wrap_u8, IntKind.wrap_u32, wrap64]; omega)) ?_; (with_reducible refine (reals_ToInt.calls 13837309855095848960 t110 true _ A4.out).mono ?_); rintro e w' ⟨rfl, ⟨nd, rfl⟩⟩; refine ⟨_, rfl, ?_⟩) | ((with_reducible refine gate_callee (f := 21) rfl ?_); refine goesL_ (some 25) rfl rfl Try.func21 (by kernel_rfl) rfl #[.int .u64 1] rfl (by (try simp only [List.map_toArray, List.map_cons, List.map_nil]); first | done | rfl | (simp only [List.length_drop, List.length_take]; rfl) | (simp [Act.eval, IntKind.wrap_u64, IntKind.wrap_u8, IntKind.wrap_u32, wrap64]; omega)) ?_; (with_reducible refine (reals_Class.calls 1 t112 _ A5.out).mono ?_); rintro e w' ⟨rfl, ⟨nd, rfl⟩⟩; refine ⟨_, rfl, ?_⟩) | (go_at_call 21; (with_reducible refine (reals_Class.calls 9218868437227405312 t113 _ A14.out).mono ?_); rintro e w' ⟨rfl, ⟨nd, rfl⟩⟩) | (go_at_call 9; (with_reducible refine (reals_Cmp.calls 9223372036854775808 0 t114 _ A16.out).mono ?_); rintro e w' ⟨rfl, ⟨nd, rfl⟩⟩) | (go_at_call 11; (with_reducible refine (reals_Equal.calls 9223372036854775808 0 true _ A18.out).mono ?_); rintro e w' ⟨rfl, ⟨nd, rfl⟩⟩) | (go_at_call 18; (with_reducible refine (reals_Canon.calls 18446744073709551615 t116 _ A20.out).mono ?_); rintro e w' ⟨rfl, ⟨nd, rfl⟩⟩))
                          go_ret
                          exact ⟨by first | rfl | (simp; done) | (simp [*]; done), by repeat (first | exact Drawn0.refl _ | apply Drawn0.step)⟩
                      · replace c19 := Bool.eq_false_iff.mpr c19
                        subst c19
                        have H1 : (some false) = some r := by rw [if_neg (show ¬ (false = true) by decide)] at H; exact H
                        clear H
                        have H := H1
                        clear H1
                        obtain rfl := Option.some.inj H
                        go_enter Try.func13, Try.ntmps13
                        go_wp2_with (first | ((with_reducible refine gate_callee (f := 14) rfl ?_); refine goesL_ (some 10) rfl rfl Try.func14 (by kernel_rfl) rfl #[.int .i64 1] rfl (by (try simp only [List.map_toArray, List.map_cons, List.map_nil]); first | done | rfl | (simp only [List.length_drop, List.length_take]; rfl) | (simp [Act.eval, IntKind.wrap_u64, IntKind.wrap_u8, IntKind.wrap_u32, wrap64]; omega)) ?_; (with_reducible refine (reals_FromInt.calls 1 t104 true _ A1.out).mono ?_); rintro e w' ⟨rfl, ⟨nd, rfl⟩⟩; refine ⟨_, rfl, ?_⟩) | ((with_reducible refine gate_callee (f := 14) rfl ?_); refine goesL_ (some 14) rfl rfl Try.func14 (by kernel_rfl) rfl #[.int .i64 9007199254740993] rfl (by (try simp only [List.map_toArray, List.map_cons, List.map_nil]); first | done | rfl | (simp only [List.length_drop, List.length_take]; rfl) | (simp [Act.eval, IntKind.wrap_u64, IntKind.wrap_u8, IntKind.wrap_u32, wrap64]; omega)) ?_; (with_reducible refine (reals_FromInt.calls 9007199254740993 t106 false _ A2.out).mono ?_); rintro e w' ⟨rfl, ⟨nd, rfl⟩⟩; refine ⟨_, rfl, ?_⟩) | ((with_reducible refine gate_callee (f := 16) rfl ?_); refine goesL_ (some 18) rfl rfl Try.func16 (by kernel_rfl) rfl #[.int .u64 9223372036854775808] rfl (by (try simp only [List.map_toArray, List.map_cons, List.map_nil]); first | done | rfl | (simp only [List.length_drop, List.length_take]; rfl) | (simp [Act.eval, IntKind.wrap_u64, IntKind.wrap_u8, IntKind.wrap_u32, wrap64]; omega)) ?_; (with_reducible refine (reals_ToInt.calls 9223372036854775808 t108 true _ A3.out).mono ?_); rintro e w' ⟨rfl, ⟨nd, rfl⟩⟩; refine ⟨_, rfl, ?_⟩) | ((with_reducible refine gate_callee (f := 16) rfl ?_); refine goesL_ (some 22) rfl rfl Try.func16 (by kernel_rfl) rfl #[.int .u64 13837309855095848960] rfl (by (try simp only [List.map_toArray, List.map_cons, List.map_nil]); first | done | rfl | (simp only [List.length_drop, List.length_take]; rfl) | (simp [Act.eval, IntKind.wrap_u64, IntKind.wrap_u8, IntKind.wrap_u32, wrap64]; omega)) ?_; (with_reducible refine (reals_ToInt.calls 13837309855095848960 t110 true _ A4.out).mono ?_); rintro e w' ⟨rfl, ⟨nd, rfl⟩⟩; refine ⟨_, rfl, ?_⟩) | ((with_reducible refine gate_callee (f := 21) rfl ?_); refine goesL_ (some 25) rfl rfl Try.func21 (by kernel_rfl) rfl #[.int .u64 1] rfl (by (try simp only [List.map_toArray, List.map_cons, List.map_nil]); first | done | rfl | (simp only [List.length_drop, List.length_take]; rfl) | (simp [Act.eval, IntKind.wrap_u64, IntKind.wrap_u8, IntKind.wrap_u32, wrap64]; omega)) ?_; (with_reducible refine (reals_Class.calls 1 t112 _ A5.out).mono ?_); rintro e w' ⟨rfl, ⟨nd, rfl⟩⟩; refine ⟨_, rfl, ?_⟩) | (go_at_call 21; (with_reducible refine (reals_Class.calls 9218868437227405312 t113 _ A14.out).mono ?_); rintro e w' ⟨rfl, ⟨nd, rfl⟩⟩) | (go_at_call 9; (with_reducible refine (reals_Cmp.calls 9223372036854775808 0 t114 _ A16.out).mono ?_); rintro e w' ⟨rfl, ⟨nd, rfl⟩⟩) | (go_at_call 11; (with_reducible refine (reals_Equal.calls 9223372036854775808 0 false _ A18.out).mono ?_); rintro e w' ⟨rfl, ⟨nd, rfl⟩⟩))
                        go_ret
                        exact ⟨by first | rfl | (simp; done) | (simp [*]; done), by repeat (first | exact Drawn0.refl _ | apply Drawn0.step)⟩
                    · rw [if_neg c17] at H
                      have c17b0 : (t114 == (-1)) = false := beq_eq_false_iff_ne.mpr c17
                      have c17b1 : (t114 != (-1)) = true := bne_iff_ne.mpr c17
                      obtain rfl := Option.some.inj H
                      go_enter Try.func13, Try.ntmps13
                      go_wp2_with (first | ((with_reducible refine gate_callee (f := 14) rfl ?_); refine goesL_ (some 10) rfl rfl Try.func14 (by kernel_rfl) rfl #[.int .i64 1] rfl (by (try simp only [List.map_toArray, List.map_cons, List.map_nil]); first | done | rfl | (simp only [List.length_drop, List.length_take]; rfl) | (simp [Act.eval, IntKind.wrap_u64, IntKind.wrap_u8, IntKind.wrap_u32, wrap64]; omega)) ?_; (with_reducible refine (reals_FromInt.calls 1 t104 true _ A1.out).mono ?_); rintro e w' ⟨rfl, ⟨nd, rfl⟩⟩; refine ⟨_, rfl, ?_⟩) | ((with_reducible refine gate_callee (f := 14) rfl ?_); refine goesL_ (some 14) rfl rfl Try.func14 (by kernel_rfl) rfl #[.int .i64 9007199254740993] rfl (by (try simp only [List.map_toArray, List.map_cons, List.map_nil]); first | done | rfl | (simp only [List.length_drop, List.length_take]; rfl) | (simp [Act.eval, IntKind.wrap_u64, IntKind.wrap_u8, IntKind.wrap_u32, wrap64]; omega)) ?_; (with_reducible refine (reals_FromInt.calls 9007199254740993 t106 false _ A2.out).mono ?_); rintro e w' ⟨rfl, ⟨nd, rfl⟩⟩; refine ⟨_, rfl, ?_⟩) | ((with_reducible refine gate_callee (f := 16) rfl ?_); refine goesL_ (some 18) rfl rfl Try.func16 (by kernel_rfl) rfl #[.int .u64 9223372036854775808] rfl (by (try simp only [List.map_toArray, List.map_cons, List.map_nil]); first | done | rfl | (simp only [List.length_drop, List.length_take]; rfl) | (simp [Act.eval, IntKind.wrap_u64, IntKind.wrap_u8, IntKind.wrap_u32, wrap64]; omega)) ?_; (with_reducible refine (reals_ToInt.calls 9223372036854775808 t108 true _ A3.out).mono ?_); rintro e w' ⟨rfl, ⟨nd, rfl⟩⟩; refine ⟨_, rfl, ?_⟩) | ((with_reducible refine gate_callee (f := 16) rfl ?_); refine goesL_ (some 22) rfl rfl Try.func16 (by kernel_rfl) rfl #[.int .u64 13837309855095848960] rfl (by (try simp only [List.map_toArray, List.map_cons, List.map_nil]); first | done | rfl | (simp only [List.length_drop, List.length_take]; rfl) | (simp [Act.eval, IntKind.wrap_u64, IntKind.wrap_u8, IntKind.wrap_u32, wrap64]; omega)) ?_; (with_reducible refine (reals_ToInt.calls 13837309855095848960 t110 true _ A4.out).mono ?_); rintro e w' ⟨rfl, ⟨nd, rfl⟩⟩; refine ⟨_, rfl, ?_⟩) | ((with_reducible refine gate_callee (f := 21) rfl ?_); refine goesL_ (some 25) rfl rfl Try.func21 (by kernel_rfl) rfl #[.int .u64 1] rfl (by (try simp only [List.map_toArray, List.map_cons, List.map_nil]); first | done | rfl | (simp only [List.length_drop, List.length_take]; rfl) | (simp [Act.eval, IntKind.wrap_u64, IntKind.wrap_u8, IntKind.wrap_u32, wrap64]; omega)) ?_; (with_reducible refine (reals_Class.calls 1 t112 _ A5.out).mono ?_); rintro e w' ⟨rfl, ⟨nd, rfl⟩⟩; refine ⟨_, rfl, ?_⟩) | (go_at_call 21; (with_reducible refine (reals_Class.calls 9218868437227405312 t113 _ A14.out).mono ?_); rintro e w' ⟨rfl, ⟨nd, rfl⟩⟩) | (go_at_call 9; (with_reducible refine (reals_Cmp.calls 9223372036854775808 0 t114 _ A16.out).mono ?_); rintro e w' ⟨rfl, ⟨nd, rfl⟩⟩))
                      go_ret
                      exact ⟨by first | rfl | (simp; done) | (simp [*]; done), by repeat (first | exact Drawn0.refl _ | apply Drawn0.step)⟩
                  · rw [if_neg c15] at H
                    have c15b0 : (t113 == 2) = false := beq_eq_false_iff_ne.mpr c15
                    have c15b1 : (t113 != 2) = true := bne_iff_ne.mpr c15
                    obtain rfl := Option.some.inj H
                    go_enter Try.func13, Try.ntmps13
                    go_wp2_with (first | ((with_reducible refine gate_callee (f := 14) rfl ?_); refine goesL_ (some 10) rfl rfl Try.func14 (by kernel_rfl) rfl #[.int .i64 1] rfl (by (try simp only [List.map_toArray, List.map_cons, List.map_nil]); first | done | rfl | (simp only [List.length_drop, List.length_take]; rfl) | (simp [Act.eval, IntKind.wrap_u64, IntKind.wrap_u8, IntKind.wrap_u32, wrap64]; omega)) ?_; (with_reducible refine (reals_FromInt.calls 1 t104 true _ A1.out).mono ?_); rintro e w' ⟨rfl, ⟨nd, rfl⟩⟩; refine ⟨_, rfl, ?_⟩) | ((with_reducible refine gate_callee (f := 14) rfl ?_); refine goesL_ (some 14) rfl rfl Try.func14 (by kernel_rfl) rfl #[.int .i64 9007199254740993] rfl (by (try simp only [List.map_toArray, List.map_cons, List.map_nil]); first | done | rfl | (simp only [List.length_drop, List.length_take]; rfl) | (simp [Act.eval, IntKind.wrap_u64, IntKind.wrap_u8, IntKind.wrap_u32, wrap64]; omega)) ?_; (with_reducible refine (reals_FromInt.calls 9007199254740993 t106 false _ A2.out).mono ?_); rintro e w' ⟨rfl, ⟨nd, rfl⟩⟩; refine ⟨_, rfl, ?_⟩) | ((with_reducible refine gate_callee (f := 16) rfl ?_); refine goesL_ (some 18) rfl rfl Try.func16 (by kernel_rfl) rfl #[.int .u64 9223372036854775808] rfl (by (try simp only [List.map_toArray, List.map_cons, List.map_nil]); first | done | rfl | (simp only [List.length_drop, List.length_take]; rfl) | (simp [Act.eval, IntKind.wrap_u64, IntKind.wrap_u8, IntKind.wrap_u32, wrap64]; omega)) ?_; (with_reducible refine (reals_ToInt.calls 9223372036854775808 t108 true _ A3.out).mono ?_); rintro e w' ⟨rfl, ⟨nd, rfl⟩⟩; refine ⟨_, rfl, ?_⟩) | ((with_reducible refine gate_callee (f := 16) rfl ?_); refine goesL_ (some 22) rfl rfl Try.func16 (by kernel_rfl) rfl #[.int .u64 13837309855095848960] rfl (by (try simp only [List.map_toArray, List.map_cons, List.map_nil]); first | done | rfl | (simp only [List.length_drop, List.length_take]; rfl) | (simp [Act.eval, IntKind.wrap_u64, IntKind.wrap_u8, IntKind.wrap_u32, wrap64]; omega)) ?_; (with_reducible refine (reals_ToInt.calls 13837309855095848960 t110 true _ A4.out).mono ?_); rintro e w' ⟨rfl, ⟨nd, rfl⟩⟩; refine ⟨_, rfl, ?_⟩) | ((with_reducible refine gate_callee (f := 21) rfl ?_); refine goesL_ (some 25) rfl rfl Try.func21 (by kernel_rfl) rfl #[.int .u64 1] rfl (by (try simp only [List.map_toArray, List.map_cons, List.map_nil]); first | done | rfl | (simp only [List.length_drop, List.length_take]; rfl) | (simp [Act.eval, IntKind.wrap_u64, IntKind.wrap_u8, IntKind.wrap_u32, wrap64]; omega)) ?_; (with_reducible refine (reals_Class.calls 1 t112 _ A5.out).mono ?_); rintro e w' ⟨rfl, ⟨nd, rfl⟩⟩; refine ⟨_, rfl, ?_⟩) | (go_at_call 21; (with_reducible refine (reals_Class.calls 9218868437227405312 t113 _ A14.out).mono ?_); rintro e w' ⟨rfl, ⟨nd, rfl⟩⟩))
                    go_ret
                    exact ⟨by first | rfl | (simp; done) | (simp [*]; done), by repeat (first | exact Drawn0.refl _ | apply Drawn0.step)⟩
                · replace c13 := Bool.eq_false_iff.mpr c13
                  subst c13
                  have H1 : (some false) = some r := by rw [if_neg (show ¬ (false = true) by decide)] at H; exact H
                  clear H
                  have H := H1
                  clear H1
                  obtain rfl := Option.some.inj H
                  go_enter Try.func13, Try.ntmps13
                  go_wp2_with (first | ((with_reducible refine gate_callee (f := 14) rfl ?_); refine goesL_ (some 10) rfl rfl Try.func14 (by kernel_rfl) rfl #[.int .i64 1] rfl (by (try simp only [List.map_toArray, List.map_cons, List.map_nil]); first | done | rfl | (simp only [List.length_drop, List.length_take]; rfl) | (simp [Act.eval, IntKind.wrap_u64, IntKind.wrap_u8, IntKind.wrap_u32, wrap64]; omega)) ?_; (with_reducible refine (reals_FromInt.calls 1 t104 true _ A1.out).mono ?_); rintro e w' ⟨rfl, ⟨nd, rfl⟩⟩; refine ⟨_, rfl, ?_⟩) | ((with_reducible refine gate_callee (f := 14) rfl ?_); refine goesL_ (some 14) rfl rfl Try.func14 (by kernel_rfl) rfl #[.int .i64 9007199254740993] rfl (by (try simp only [List.map_toArray, List.map_cons, List.map_nil]); first | done | rfl | (simp only [List.length_drop, List.length_take]; rfl) | (simp [Act.eval, IntKind.wrap_u64, IntKind.wrap_u8, IntKind.wrap_u32, wrap64]; omega)) ?_; (with_reducible refine (reals_FromInt.calls 9007199254740993 t106 false _ A2.out).mono ?_); rintro e w' ⟨rfl, ⟨nd, rfl⟩⟩; refine ⟨_, rfl, ?_⟩) | ((with_reducible refine gate_callee (f := 16) rfl ?_); refine goesL_ (some 18) rfl rfl Try.func16 (by kernel_rfl) rfl #[.int .u64 9223372036854775808] rfl (by (try simp only [List.map_toArray, List.map_cons, List.map_nil]); first | done | rfl | (simp only [List.length_drop, List.length_take]; rfl) | (simp [Act.eval, IntKind.wrap_u64, IntKind.wrap_u8, IntKind.wrap_u32, wrap64]; omega)) ?_; (with_reducible refine (reals_ToInt.calls 9223372036854775808 t108 true _ A3.out).mono ?_); rintro e w' ⟨rfl, ⟨nd, rfl⟩⟩; refine ⟨_, rfl, ?_⟩) | ((with_reducible refine gate_callee (f := 16) rfl ?_); refine goesL_ (some 22) rfl rfl Try.func16 (by kernel_rfl) rfl #[.int .u64 13837309855095848960] rfl (by (try simp only [List.map_toArray, List.map_cons, List.map_nil]); first | done | rfl | (simp only [List.length_drop, List.length_take]; rfl) | (simp [Act.eval, IntKind.wrap_u64, IntKind.wrap_u8, IntKind.wrap_u32, wrap64]; omega)) ?_; (with_reducible refine (reals_ToInt.calls 13837309855095848960 t110 false _ A4.out).mono ?_); rintro e w' ⟨rfl, ⟨nd, rfl⟩⟩; refine ⟨_, rfl, ?_⟩) | ((with_reducible refine gate_callee (f := 21) rfl ?_); refine goesL_ (some 25) rfl rfl Try.func21 (by kernel_rfl) rfl #[.int .u64 1] rfl (by (try simp only [List.map_toArray, List.map_cons, List.map_nil]); first | done | rfl | (simp only [List.length_drop, List.length_take]; rfl) | (simp [Act.eval, IntKind.wrap_u64, IntKind.wrap_u8, IntKind.wrap_u32, wrap64]; omega)) ?_; (with_reducible refine (reals_Class.calls 1 t112 _ A5.out).mono ?_); rintro e w' ⟨rfl, ⟨nd, rfl⟩⟩; refine ⟨_, rfl, ?_⟩))
                  go_ret
                  exact ⟨by first | rfl | (simp; done) | (simp [*]; done), by repeat (first | exact Drawn0.refl _ | apply Drawn0.step)⟩
              · rw [if_neg c12] at H
                have c12b0 : (t110 == (-3)) = false := beq_eq_false_iff_ne.mpr c12
                have c12b1 : (t110 != (-3)) = true := bne_iff_ne.mpr c12
                obtain rfl := Option.some.inj H
                go_enter Try.func13, Try.ntmps13
                go_wp2_with (first | ((with_reducible refine gate_callee (f := 14) rfl ?_); refine goesL_ (some 10) rfl rfl Try.func14 (by kernel_rfl) rfl #[.int .i64 1] rfl (by (try simp only [List.map_toArray, List.map_cons, List.map_nil]); first | done | rfl | (simp only [List.length_drop, List.length_take]; rfl) | (simp [Act.eval, IntKind.wrap_u64, IntKind.wrap_u8, IntKind.wrap_u32, wrap64]; omega)) ?_; (with_reducible refine (reals_FromInt.calls 1 t104 true _ A1.out).mono ?_); rintro e w' ⟨rfl, ⟨nd, rfl⟩⟩; refine ⟨_, rfl, ?_⟩) | ((with_reducible refine gate_callee (f := 14) rfl ?_); refine goesL_ (some 14) rfl rfl Try.func14 (by kernel_rfl) rfl #[.int .i64 9007199254740993] rfl (by (try simp only [List.map_toArray, List.map_cons, List.map_nil]); first | done | rfl | (simp only [List.length_drop, List.length_take]; rfl) | (simp [Act.eval, IntKind.wrap_u64, IntKind.wrap_u8, IntKind.wrap_u32, wrap64]; omega)) ?_; (with_reducible refine (reals_FromInt.calls 9007199254740993 t106 false _ A2.out).mono ?_); rintro e w' ⟨rfl, ⟨nd, rfl⟩⟩; refine ⟨_, rfl, ?_⟩) | ((with_reducible refine gate_callee (f := 16) rfl ?_); refine goesL_ (some 18) rfl rfl Try.func16 (by kernel_rfl) rfl #[.int .u64 9223372036854775808] rfl (by (try simp only [List.map_toArray, List.map_cons, List.map_nil]); first | done | rfl | (simp only [List.length_drop, List.length_take]; rfl) | (simp [Act.eval, IntKind.wrap_u64, IntKind.wrap_u8, IntKind.wrap_u32, wrap64]; omega)) ?_; (with_reducible refine (reals_ToInt.calls 9223372036854775808 t108 true _ A3.out).mono ?_); rintro e w' ⟨rfl, ⟨nd, rfl⟩⟩; refine ⟨_, rfl, ?_⟩) | ((with_reducible refine gate_callee (f := 16) rfl ?_); refine goesL_ (some 22) rfl rfl Try.func16 (by kernel_rfl) rfl #[.int .u64 13837309855095848960] rfl (by (try simp only [List.map_toArray, List.map_cons, List.map_nil]); first | done | rfl | (simp only [List.length_drop, List.length_take]; rfl) | (simp [Act.eval, IntKind.wrap_u64, IntKind.wrap_u8, IntKind.wrap_u32, wrap64]; omega)) ?_; (with_reducible refine (reals_ToInt.calls 13837309855095848960 t110 t111 _ A4.out).mono ?_); rintro e w' ⟨rfl, ⟨nd, rfl⟩⟩; refine ⟨_, rfl, ?_⟩) | ((with_reducible refine gate_callee (f := 21) rfl ?_); refine goesL_ (some 25) rfl rfl Try.func21 (by kernel_rfl) rfl #[.int .u64 1] rfl (by (try simp only [List.map_toArray, List.map_cons, List.map_nil]); first | done | rfl | (simp only [List.length_drop, List.length_take]; rfl) | (simp [Act.eval, IntKind.wrap_u64, IntKind.wrap_u8, IntKind.wrap_u32, wrap64]; omega)) ?_; (with_reducible refine (reals_Class.calls 1 t112 _ A5.out).mono ?_); rintro e w' ⟨rfl, ⟨nd, rfl⟩⟩; refine ⟨_, rfl, ?_⟩))
                go_ret
                exact ⟨by first | rfl | (simp; done) | (simp [*]; done), by repeat (first | exact Drawn0.refl _ | apply Drawn0.step)⟩
            · replace c11 := Bool.eq_false_iff.mpr c11
              subst c11
              have H1 : (some false) = some r := by rw [if_neg (show ¬ (false = true) by decide)] at H; exact H
              clear H
              have H := H1
              clear H1
              obtain rfl := Option.some.inj H
              go_enter Try.func13, Try.ntmps13
              go_wp2_with (first | ((with_reducible refine gate_callee (f := 14) rfl ?_); refine goesL_ (some 10) rfl rfl Try.func14 (by kernel_rfl) rfl #[.int .i64 1] rfl (by (try simp only [List.map_toArray, List.map_cons, List.map_nil]); first | done | rfl | (simp only [List.length_drop, List.length_take]; rfl) | (simp [Act.eval, IntKind.wrap_u64, IntKind.wrap_u8, IntKind.wrap_u32, wrap64]; omega)) ?_; (with_reducible refine (reals_FromInt.calls 1 t104 true _ A1.out).mono ?_); rintro e w' ⟨rfl, ⟨nd, rfl⟩⟩; refine ⟨_, rfl, ?_⟩) | ((with_reducible refine gate_callee (f := 14) rfl ?_); refine goesL_ (some 14) rfl rfl Try.func14 (by kernel_rfl) rfl #[.int .i64 9007199254740993] rfl (by (try simp only [List.map_toArray, List.map_cons, List.map_nil]); first | done | rfl | (simp only [List.length_drop, List.length_take]; rfl) | (simp [Act.eval, IntKind.wrap_u64, IntKind.wrap_u8, IntKind.wrap_u32, wrap64]; omega)) ?_; (with_reducible refine (reals_FromInt.calls 9007199254740993 t106 false _ A2.out).mono ?_); rintro e w' ⟨rfl, ⟨nd, rfl⟩⟩; refine ⟨_, rfl, ?_⟩) | ((with_reducible refine gate_callee (f := 16) rfl ?_); refine goesL_ (some 18) rfl rfl Try.func16 (by kernel_rfl) rfl #[.int .u64 9223372036854775808] rfl (by (try simp only [List.map_toArray, List.map_cons, List.map_nil]); first | done | rfl | (simp only [List.length_drop, List.length_take]; rfl) | (simp [Act.eval, IntKind.wrap_u64, IntKind.wrap_u8, IntKind.wrap_u32, wrap64]; omega)) ?_; (with_reducible refine (reals_ToInt.calls 9223372036854775808 t108 false _ A3.out).mono ?_); rintro e w' ⟨rfl, ⟨nd, rfl⟩⟩; refine ⟨_, rfl, ?_⟩) | ((with_reducible refine gate_callee (f := 16) rfl ?_); refine goesL_ (some 22) rfl rfl Try.func16 (by kernel_rfl) rfl #[.int .u64 13837309855095848960] rfl (by (try simp only [List.map_toArray, List.map_cons, List.map_nil]); first | done | rfl | (simp only [List.length_drop, List.length_take]; rfl) | (simp [Act.eval, IntKind.wrap_u64, IntKind.wrap_u8, IntKind.wrap_u32, wrap64]; omega)) ?_; (with_reducible refine (reals_ToInt.calls 13837309855095848960 t110 t111 _ A4.out).mono ?_); rintro e w' ⟨rfl, ⟨nd, rfl⟩⟩; refine ⟨_, rfl, ?_⟩) | ((with_reducible refine gate_callee (f := 21) rfl ?_); refine goesL_ (some 25) rfl rfl Try.func21 (by kernel_rfl) rfl #[.int .u64 1] rfl (by (try simp only [List.map_toArray, List.map_cons, List.map_nil]); first | done | rfl | (simp only [List.length_drop, List.length_take]; rfl) | (simp [Act.eval, IntKind.wrap_u64, IntKind.wrap_u8, IntKind.wrap_u32, wrap64]; omega)) ?_; (with_reducible refine (reals_Class.calls 1 t112 _ A5.out).mono ?_); rintro e w' ⟨rfl, ⟨nd, rfl⟩⟩; refine ⟨_, rfl, ?_⟩))
              go_ret
              exact ⟨by first | rfl | (simp; done) | (simp [*]; done), by repeat (first | exact Drawn0.refl _ | apply Drawn0.step)⟩
          · rw [if_neg c10] at H
            have c10b0 : (t108 == 0) = false := beq_eq_false_iff_ne.mpr c10
            have c10b1 : (t108 != 0) = true := bne_iff_ne.mpr c10
            obtain rfl := Option.some.inj H
            go_enter Try.func13, Try.ntmps13
            go_wp2_with (first | ((with_reducible refine gate_callee (f := 14) rfl ?_); refine goesL_ (some 10) rfl rfl Try.func14 (by kernel_rfl) rfl #[.int .i64 1] rfl (by (try simp only [List.map_toArray, List.map_cons, List.map_nil]); first | done | rfl | (simp only [List.length_drop, List.length_take]; rfl) | (simp [Act.eval, IntKind.wrap_u64, IntKind.wrap_u8, IntKind.wrap_u32, wrap64]; omega)) ?_; (with_reducible refine (reals_FromInt.calls 1 t104 true _ A1.out).mono ?_); rintro e w' ⟨rfl, ⟨nd, rfl⟩⟩; refine ⟨_, rfl, ?_⟩) | ((with_reducible refine gate_callee (f := 14) rfl ?_); refine goesL_ (some 14) rfl rfl Try.func14 (by kernel_rfl) rfl #[.int .i64 9007199254740993] rfl (by (try simp only [List.map_toArray, List.map_cons, List.map_nil]); first | done | rfl | (simp only [List.length_drop, List.length_take]; rfl) | (simp [Act.eval, IntKind.wrap_u64, IntKind.wrap_u8, IntKind.wrap_u32, wrap64]; omega)) ?_; (with_reducible refine (reals_FromInt.calls 9007199254740993 t106 false _ A2.out).mono ?_); rintro e w' ⟨rfl, ⟨nd, rfl⟩⟩; refine ⟨_, rfl, ?_⟩) | ((with_reducible refine gate_callee (f := 16) rfl ?_); refine goesL_ (some 18) rfl rfl Try.func16 (by kernel_rfl) rfl #[.int .u64 9223372036854775808] rfl (by (try simp only [List.map_toArray, List.map_cons, List.map_nil]); first | done | rfl | (simp only [List.length_drop, List.length_take]; rfl) | (simp [Act.eval, IntKind.wrap_u64, IntKind.wrap_u8, IntKind.wrap_u32, wrap64]; omega)) ?_; (with_reducible refine (reals_ToInt.calls 9223372036854775808 t108 t109 _ A3.out).mono ?_); rintro e w' ⟨rfl, ⟨nd, rfl⟩⟩; refine ⟨_, rfl, ?_⟩) | ((with_reducible refine gate_callee (f := 16) rfl ?_); refine goesL_ (some 22) rfl rfl Try.func16 (by kernel_rfl) rfl #[.int .u64 13837309855095848960] rfl (by (try simp only [List.map_toArray, List.map_cons, List.map_nil]); first | done | rfl | (simp only [List.length_drop, List.length_take]; rfl) | (simp [Act.eval, IntKind.wrap_u64, IntKind.wrap_u8, IntKind.wrap_u32, wrap64]; omega)) ?_; (with_reducible refine (reals_ToInt.calls 13837309855095848960 t110 t111 _ A4.out).mono ?_); rintro e w' ⟨rfl, ⟨nd, rfl⟩⟩; refine ⟨_, rfl, ?_⟩) | ((with_reducible refine gate_callee (f := 21) rfl ?_); refine goesL_ (some 25) rfl rfl Try.func21 (by kernel_rfl) rfl #[.int .u64 1] rfl (by (try simp only [List.map_toArray, List.map_cons, List.map_nil]); first | done | rfl | (simp only [List.length_drop, List.length_take]; rfl) | (simp [Act.eval, IntKind.wrap_u64, IntKind.wrap_u8, IntKind.wrap_u32, wrap64]; omega)) ?_; (with_reducible refine (reals_Class.calls 1 t112 _ A5.out).mono ?_); rintro e w' ⟨rfl, ⟨nd, rfl⟩⟩; refine ⟨_, rfl, ?_⟩))
            go_ret
            exact ⟨by first | rfl | (simp; done) | (simp [*]; done), by repeat (first | exact Drawn0.refl _ | apply Drawn0.step)⟩
      · replace c8 := Bool.eq_false_iff.mpr c8
        subst c8
        have H1 : (some false) = some r := by rw [if_neg (show ¬ (false = true) by decide)] at H; exact H
        clear H
        have H := H1
        clear H1
        obtain rfl := Option.some.inj H
        go_enter Try.func13, Try.ntmps13
        go_wp2_with (first | ((with_reducible refine gate_callee (f := 14) rfl ?_); refine goesL_ (some 10) rfl rfl Try.func14 (by kernel_rfl) rfl #[.int .i64 1] rfl (by (try simp only [List.map_toArray, List.map_cons, List.map_nil]); first | done | rfl | (simp only [List.length_drop, List.length_take]; rfl) | (simp [Act.eval, IntKind.wrap_u64, IntKind.wrap_u8, IntKind.wrap_u32, wrap64]; omega)) ?_; (with_reducible refine (reals_FromInt.calls 1 t104 false _ A1.out).mono ?_); rintro e w' ⟨rfl, ⟨nd, rfl⟩⟩; refine ⟨_, rfl, ?_⟩) | ((with_reducible refine gate_callee (f := 14) rfl ?_); refine goesL_ (some 14) rfl rfl Try.func14 (by kernel_rfl) rfl #[.int .i64 9007199254740993] rfl (by (try simp only [List.map_toArray, List.map_cons, List.map_nil]); first | done | rfl | (simp only [List.length_drop, List.length_take]; rfl) | (simp [Act.eval, IntKind.wrap_u64, IntKind.wrap_u8, IntKind.wrap_u32, wrap64]; omega)) ?_; (with_reducible refine (reals_FromInt.calls 9007199254740993 t106 t107 _ A2.out).mono ?_); rintro e w' ⟨rfl, ⟨nd, rfl⟩⟩; refine ⟨_, rfl, ?_⟩) | ((with_reducible refine gate_callee (f := 16) rfl ?_); refine goesL_ (some 18) rfl rfl Try.func16 (by kernel_rfl) rfl #[.int .u64 9223372036854775808] rfl (by (try simp only [List.map_toArray, List.map_cons, List.map_nil]); first | done | rfl | (simp only [List.length_drop, List.length_take]; rfl) | (simp [Act.eval, IntKind.wrap_u64, IntKind.wrap_u8, IntKind.wrap_u32, wrap64]; omega)) ?_; (with_reducible refine (reals_ToInt.calls 9223372036854775808 t108 t109 _ A3.out).mono ?_); rintro e w' ⟨rfl, ⟨nd, rfl⟩⟩; refine ⟨_, rfl, ?_⟩) | ((with_reducible refine gate_callee (f := 16) rfl ?_); refine goesL_ (some 22) rfl rfl Try.func16 (by kernel_rfl) rfl #[.int .u64 13837309855095848960] rfl (by (try simp only [List.map_toArray, List.map_cons, List.map_nil]); first | done | rfl | (simp only [List.length_drop, List.length_take]; rfl) | (simp [Act.eval, IntKind.wrap_u64, IntKind.wrap_u8, IntKind.wrap_u32, wrap64]; omega)) ?_; (with_reducible refine (reals_ToInt.calls 13837309855095848960 t110 t111 _ A4.out).mono ?_); rintro e w' ⟨rfl, ⟨nd, rfl⟩⟩; refine ⟨_, rfl, ?_⟩) | ((with_reducible refine gate_callee (f := 21) rfl ?_); refine goesL_ (some 25) rfl rfl Try.func21 (by kernel_rfl) rfl #[.int .u64 1] rfl (by (try simp only [List.map_toArray, List.map_cons, List.map_nil]); first | done | rfl | (simp only [List.length_drop, List.length_take]; rfl) | (simp [Act.eval, IntKind.wrap_u64, IntKind.wrap_u8, IntKind.wrap_u32, wrap64]; omega)) ?_; (with_reducible refine (reals_Class.calls 1 t112 _ A5.out).mono ?_); rintro e w' ⟨rfl, ⟨nd, rfl⟩⟩; refine ⟨_, rfl, ?_⟩))
        go_ret
        exact ⟨by first | rfl | (simp; done) | (simp [*]; done), by repeat (first | exact Drawn0.refl _ | apply Drawn0.step)⟩
    · rw [if_neg c7] at H
      have c7b0 : (t104 == 4607182418800017408) = false := beq_eq_false_iff_ne.mpr c7
      have c7b1 : (t104 != 4607182418800017408) = true := bne_iff_ne.mpr c7
      obtain rfl := Option.some.inj H
      go_enter Try.func13, Try.ntmps13
      go_wp2_with (first | ((with_reducible refine gate_callee (f := 14) rfl ?_); refine goesL_ (some 10) rfl rfl Try.func14 (by kernel_rfl) rfl #[.int .i64 1] rfl (by (try simp only [List.map_toArray, List.map_cons, List.map_nil]); first | done | rfl | (simp only [List.length_drop, List.length_take]; rfl) | (simp [Act.eval, IntKind.wrap_u64, IntKind.wrap_u8, IntKind.wrap_u32, wrap64]; omega)) ?_; (with_reducible refine (reals_FromInt.calls 1 t104 t105 _ A1.out).mono ?_); rintro e w' ⟨rfl, ⟨nd, rfl⟩⟩; refine ⟨_, rfl, ?_⟩) | ((with_reducible refine gate_callee (f := 14) rfl ?_); refine goesL_ (some 14) rfl rfl Try.func14 (by kernel_rfl) rfl #[.int .i64 9007199254740993] rfl (by (try simp only [List.map_toArray, List.map_cons, List.map_nil]); first | done | rfl | (simp only [List.length_drop, List.length_take]; rfl) | (simp [Act.eval, IntKind.wrap_u64, IntKind.wrap_u8, IntKind.wrap_u32, wrap64]; omega)) ?_; (with_reducible refine (reals_FromInt.calls 9007199254740993 t106 t107 _ A2.out).mono ?_); rintro e w' ⟨rfl, ⟨nd, rfl⟩⟩; refine ⟨_, rfl, ?_⟩) | ((with_reducible refine gate_callee (f := 16) rfl ?_); refine goesL_ (some 18) rfl rfl Try.func16 (by kernel_rfl) rfl #[.int .u64 9223372036854775808] rfl (by (try simp only [List.map_toArray, List.map_cons, List.map_nil]); first | done | rfl | (simp only [List.length_drop, List.length_take]; rfl) | (simp [Act.eval, IntKind.wrap_u64, IntKind.wrap_u8, IntKind.wrap_u32, wrap64]; omega)) ?_; (with_reducible refine (reals_ToInt.calls 9223372036854775808 t108 t109 _ A3.out).mono ?_); rintro e w' ⟨rfl, ⟨nd, rfl⟩⟩; refine ⟨_, rfl, ?_⟩) | ((with_reducible refine gate_callee (f := 16) rfl ?_); refine goesL_ (some 22) rfl rfl Try.func16 (by kernel_rfl) rfl #[.int .u64 13837309855095848960] rfl (by (try simp only [List.map_toArray, List.map_cons, List.map_nil]); first | done | rfl | (simp only [List.length_drop, List.length_take]; rfl) | (simp [Act.eval, IntKind.wrap_u64, IntKind.wrap_u8, IntKind.wrap_u32, wrap64]; omega)) ?_; (with_reducible refine (reals_ToInt.calls 13837309855095848960 t110 t111 _ A4.out).mono ?_); rintro e w' ⟨rfl, ⟨nd, rfl⟩⟩; refine ⟨_, rfl, ?_⟩) | ((with_reducible refine gate_callee (f := 21) rfl ?_); refine goesL_ (some 25) rfl rfl Try.func21 (by kernel_rfl) rfl #[.int .u64 1] rfl (by (try simp only [List.map_toArray, List.map_cons, List.map_nil]); first | done | rfl | (simp only [List.length_drop, List.length_take]; rfl) | (simp [Act.eval, IntKind.wrap_u64, IntKind.wrap_u8, IntKind.wrap_u32, wrap64]; omega)) ?_; (with_reducible refine (reals_Class.calls 1 t112 _ A5.out).mono ?_); rintro e w' ⟨rfl, ⟨nd, rfl⟩⟩; refine ⟨_, rfl, ?_⟩))
      go_ret
      exact ⟨by first | rfl | (simp; done) | (simp [*]; done), by repeat (first | exact Drawn0.refl _ | apply Drawn0.step)⟩
  · rw [if_neg c6] at H
    have c6b0 : (t112 == 4) = false := beq_eq_false_iff_ne.mpr c6
    have c6b1 : (t112 != 4) = true := bne_iff_ne.mpr c6
    obtain rfl := Option.some.inj H
    go_enter Try.func13, Try.ntmps13
    go_wp2_with (first | ((with_reducible refine gate_callee (f := 14) rfl ?_); refine goesL_ (some 10) rfl rfl Try.func14 (by kernel_rfl) rfl #[.int .i64 1] rfl (by (try simp only [List.map_toArray, List.map_cons, List.map_nil]); first | done | rfl | (simp only [List.length_drop, List.length_take]; rfl) | (simp [Act.eval, IntKind.wrap_u64, IntKind.wrap_u8, IntKind.wrap_u32, wrap64]; omega)) ?_; (with_reducible refine (reals_FromInt.calls 1 t104 t105 _ A1.out).mono ?_); rintro e w' ⟨rfl, ⟨nd, rfl⟩⟩; refine ⟨_, rfl, ?_⟩) | ((with_reducible refine gate_callee (f := 14) rfl ?_); refine goesL_ (some 14) rfl rfl Try.func14 (by kernel_rfl) rfl #[.int .i64 9007199254740993] rfl (by (try simp only [List.map_toArray, List.map_cons, List.map_nil]); first | done | rfl | (simp only [List.length_drop, List.length_take]; rfl) | (simp [Act.eval, IntKind.wrap_u64, IntKind.wrap_u8, IntKind.wrap_u32, wrap64]; omega)) ?_; (with_reducible refine (reals_FromInt.calls 9007199254740993 t106 t107 _ A2.out).mono ?_); rintro e w' ⟨rfl, ⟨nd, rfl⟩⟩; refine ⟨_, rfl, ?_⟩) | ((with_reducible refine gate_callee (f := 16) rfl ?_); refine goesL_ (some 18) rfl rfl Try.func16 (by kernel_rfl) rfl #[.int .u64 9223372036854775808] rfl (by (try simp only [List.map_toArray, List.map_cons, List.map_nil]); first | done | rfl | (simp only [List.length_drop, List.length_take]; rfl) | (simp [Act.eval, IntKind.wrap_u64, IntKind.wrap_u8, IntKind.wrap_u32, wrap64]; omega)) ?_; (with_reducible refine (reals_ToInt.calls 9223372036854775808 t108 t109 _ A3.out).mono ?_); rintro e w' ⟨rfl, ⟨nd, rfl⟩⟩; refine ⟨_, rfl, ?_⟩) | ((with_reducible refine gate_callee (f := 16) rfl ?_); refine goesL_ (some 22) rfl rfl Try.func16 (by kernel_rfl) rfl #[.int .u64 13837309855095848960] rfl (by (try simp only [List.map_toArray, List.map_cons, List.map_nil]); first | done | rfl | (simp only [List.length_drop, List.length_take]; rfl) | (simp [Act.eval, IntKind.wrap_u64, IntKind.wrap_u8, IntKind.wrap_u32, wrap64]; omega)) ?_; (with_reducible refine (reals_ToInt.calls 13837309855095848960 t110 t111 _ A4.out).mono ?_); rintro e w' ⟨rfl, ⟨nd, rfl⟩⟩; refine ⟨_, rfl, ?_⟩) | ((with_reducible refine gate_callee (f := 21) rfl ?_); refine goesL_ (some 25) rfl rfl Try.func21 (by kernel_rfl) rfl #[.int .u64 1] rfl (by (try simp only [List.map_toArray, List.map_cons, List.map_nil]); first | done | rfl | (simp only [List.length_drop, List.length_take]; rfl) | (simp [Act.eval, IntKind.wrap_u64, IntKind.wrap_u8, IntKind.wrap_u32, wrap64]; omega)) ?_; (with_reducible refine (reals_Class.calls 1 t112 _ A5.out).mono ?_); rintro e w' ⟨rfl, ⟨nd, rfl⟩⟩; refine ⟨_, rfl, ?_⟩))
    go_ret
    exact ⟨by first | rfl | (simp; done) | (simp [*]; done), by repeat (first | exact Drawn0.refl _ | apply Drawn0.step)⟩

-- NOT PRINTED: function 31 (reals_bytes)

end Go.Proofs.Ytdcodlbelhbihaa.PRealsBack
