-- By a program of this session (a print over functions that are proved by hand), for this claim.
import Derived.Test.YtdcodlbelhbihaaPRealsTwox0
namespace Go.Proofs.Ytdcodlbelhbihaa.PRealsTwo
open Go.RowKit Go.Proofs.YtdcodlbelhbihaaW.PrintWords Go.Proofs.YtdcodlbelhbihaaW.PrintLast Go.Proofs.YtdcodlbelhbihaaW.PrintMore
attribute [local go_sem] max2_int min2_int max_two min_two max_three min_three max_four min_four   -- for this text's walks alone
set_option linter.unusedVariables false
set_option linter.unusedSimpArgs false

-- NOT PRINTED: function 26 (math_Float64frombits)

/-! ### reals_Canon: function 18 -/
theorem reals_Canon.frombits (b : Int) (W : World) : (callFunc 26 #[.int .u64 b]).run Try.prog W = .ok (.value (.float .f64 b.toNat)) W :=
  run_callFunc_extern (e := Extern.MathFloatBits.float64frombits) Try.func26 (by kernel_rfl) (by kernel_rfl) (by kernel_rfl) (by kernel_rfl) _ W
def reals_Canon.f (a0 : Int) : Option Int := some (if Fl.inf < Fl.rung a0.toNat then 9221120237041090560 else a0)
theorem reals_Canon.calls (a0 : Int) (r : Int) (w : World) (h : reals_Canon.f a0 = some r) :
    Calls Try.prog 18 #[.int .u64 a0] w fun e w' => e = .returned (.int .u64 r) ∧ Drawn0 w w' := by
  have hfb := reals_Canon.frombits a0
  obtain rfl := Option.some.inj h
  clear h
  by_cases c : Fl.inf < Fl.rung a0.toNat
  · have ho : (FloatKind.f64.format.order a0.toNat a0.toNat != some .eq) = true := by
      rw [show FloatKind.f64.format = Ieee.double from rfl, Fl.order_nan_left c]; rfl
    rw [if_pos c]
    clear c
    go_enter Try.func18, Try.ntmps18
    go_wp2
    go_ret
    exact ⟨rfl, Drawn0.refl _⟩
  · have ho : (FloatKind.f64.format.order a0.toNat a0.toNat != some .eq) = false := by
      rw [show FloatKind.f64.format = Ieee.double from rfl, Fl.order_key (by omega) (by omega), Fl.compare_eq rfl]; rfl
    rw [if_neg c]
    clear c
    go_enter Try.func18, Try.ntmps18
    go_wp2
    go_ret
    exact ⟨rfl, Drawn0.refl _⟩

/-! ### reals_Key: function 24 -/
def reals_Key.f (a0 : Int) : Option (Int) := (reals_Canon.f a0).bind fun t101 => (if (Go.bits .and .u64 t101 9223372036854775808) = 0 then (some (Go.bits .or .u64 t101 9223372036854775808)) else (some (Go.bits .xor .u64 IntKind.u64.max t101)))
set_option maxHeartbeats 8000000 in
set_option maxRecDepth 100000 in
theorem reals_Key.calls (a0 : Int) (r : Int) (w : World) (h : reals_Key.f a0 = some r) :
    Calls Try.prog 24 #[.int .u64 a0] w fun e w' => e = .returned (.int .u64 r) ∧ Drawn0 w w' := by
  have hsg_ : IntKind.u64.signed = false := rfl
  have H : ((reals_Canon.f a0).bind fun t101 => (if (Go.bits .and .u64 t101 9223372036854775808) = 0 then (some (Go.bits .or .u64 t101 9223372036854775808)) else (some (Go.bits .xor .u64 IntKind.u64.max t101)))) = some r := h
  clear h
  replace H := Option.bind_eq_some_iff.mp H
  obtain ⟨t101, A20, H⟩ := H
  replace H : (if (Go.bits .and .u64 t101 9223372036854775808) = 0 then (some (Go.bits .or .u64 t101 9223372036854775808)) else (some (Go.bits .xor .u64 IntKind.u64.max t101))) = some r := H
  have A2 := Aside0.mk A20
  clear A20
  by_cases c3 : (Go.bits .and .u64 t101 9223372036854775808) = 0
  · rw [if_pos c3] at H
    have c3b0 : ((Go.bits .and .u64 t101 9223372036854775808) == 0) = true := beq_iff_eq.mpr c3
    have c3b1 : ((Go.bits .and .u64 t101 9223372036854775808) != 0) = false := bne_eq_false_iff_eq.mpr c3
    clear c3
    obtain rfl := Option.some.inj H
    go_enter Try.func24, Try.ntmps24
    go_wp2_with (first | ((with_reducible refine gate_callee (f := 18) rfl ?_); refine goesL_ (some 4) rfl rfl Try.func18 (by kernel_rfl) rfl #[.int .u64 a0] rfl (by (try simp only [List.map_toArray, List.map_cons, List.map_nil]); first | done | rfl | (simp only [List.length_drop, List.length_take]; rfl) | (simp [Act.eval, IntKind.wrap_u64, IntKind.wrap_u8, IntKind.wrap_u32, wrap64]; omega)) ?_; (with_reducible refine (reals_Canon.calls a0 t101 _ A2.out).mono ?_); rintro e w' ⟨rfl, ⟨nd, rfl⟩⟩; refine ⟨_, rfl, ?_⟩))
    go_ret
    exact ⟨by first | rfl | (simp; done) | (simp [*]; done), by repeat (first | exact Drawn0.refl _ | apply Drawn0.step)⟩
  · rw [if_neg c3] at H
    have c3b0 : ((Go.bits .and .u64 t101 9223372036854775808) == 0) = false := beq_eq_false_iff_ne.mpr c3
    have c3b1 : ((Go.bits .and .u64 t101 9223372036854775808) != 0) = true := bne_iff_ne.mpr c3
    obtain rfl := Option.some.inj H
    go_enter Try.func24, Try.ntmps24
    go_wp2_with (first | ((with_reducible refine gate_callee (f := 18) rfl ?_); refine goesL_ (some 4) rfl rfl Try.func18 (by kernel_rfl) rfl #[.int .u64 a0] rfl (by (try simp only [List.map_toArray, List.map_cons, List.map_nil]); first | done | rfl | (simp only [List.length_drop, List.length_take]; rfl) | (simp [Act.eval, IntKind.wrap_u64, IntKind.wrap_u8, IntKind.wrap_u32, wrap64]; omega)) ?_; (with_reducible refine (reals_Canon.calls a0 t101 _ A2.out).mono ?_); rintro e w' ⟨rfl, ⟨nd, rfl⟩⟩; refine ⟨_, rfl, ?_⟩))
    go_ret
    exact ⟨by first | rfl | (simp; done) | (simp [*]; done), by repeat (first | exact Drawn0.refl _ | apply Drawn0.step)⟩

/-! ### reals_Cmp: function 9 -/
def reals_Cmp.f (a0 : Int) (a1 : Int) : Option (Int) := (reals_Key.f a0).bind fun t102 => ((reals_Key.f a1).bind fun t103 => (if t102 < t103 then (some (-1)) else (if t102 > t103 then (some 1) else (some 0))))
set_option maxHeartbeats 8000000 in
set_option maxRecDepth 100000 in
theorem reals_Cmp.calls (a0 : Int) (a1 : Int) (r : Int) (w : World) (h : reals_Cmp.f a0 a1 = some r) :
    Calls Try.prog 9 #[.int .u64 a0, .int .u64 a1] w fun e w' => e = .returned (.int .i64 r) ∧ Drawn0 w w' := by
  have H : ((reals_Key.f a0).bind fun t102 => ((reals_Key.f a1).bind fun t103 => (if t102 < t103 then (some (-1)) else (if t102 > t103 then (some 1) else (some 0))))) = some r := h
  clear h
  replace H := Option.bind_eq_some_iff.mp H
  obtain ⟨t102, A30, H⟩ := H
  replace H : ((reals_Key.f a1).bind fun t103 => (if t102 < t103 then (some (-1)) else (if t102 > t103 then (some 1) else (some 0)))) = some r := H
  have A3 := Aside0.mk A30
  clear A30
  replace H := Option.bind_eq_some_iff.mp H
  obtain ⟨t103, A40, H⟩ := H
  replace H : (if t102 < t103 then (some (-1)) else (if t102 > t103 then (some 1) else (some 0))) = some r := H
  have A4 := Aside0.mk A40
  clear A40
  by_cases c5 : t102 < t103
  · rw [if_pos c5] at H
    have c5b0 : decide (t102 < t103) = true := decide_eq_true c5
    clear c5
    obtain rfl := Option.some.inj H
    go_enter Try.func9, Try.ntmps9
    go_wp2_with (first | ((with_reducible refine gate_callee (f := 24) rfl ?_); refine goesL_ (some 8) rfl rfl Try.func24 (by kernel_rfl) rfl #[.int .u64 a0] rfl (by (try simp only [List.map_toArray, List.map_cons, List.map_nil]); first | done | rfl | (simp only [List.length_drop, List.length_take]; rfl) | (simp [Act.eval, IntKind.wrap_u64, IntKind.wrap_u8, IntKind.wrap_u32, wrap64]; omega)) ?_; (with_reducible refine (reals_Key.calls a0 t102 _ A3.out).mono ?_); rintro e w' ⟨rfl, ⟨nd, rfl⟩⟩; refine ⟨_, rfl, ?_⟩) | ((with_reducible refine gate_callee (f := 24) rfl ?_); refine goesL_ (some 10) rfl rfl Try.func24 (by kernel_rfl) rfl #[.int .u64 a1] rfl (by (try simp only [List.map_toArray, List.map_cons, List.map_nil]); first | done | rfl | (simp only [List.length_drop, List.length_take]; rfl) | (simp [Act.eval, IntKind.wrap_u64, IntKind.wrap_u8, IntKind.wrap_u32, wrap64]; omega)) ?_; (with_reducible refine (reals_Key.calls a1 t103 _ A4.out).mono ?_); rintro e w' ⟨rfl, ⟨nd, rfl⟩⟩; refine ⟨_, rfl, ?_⟩))
    go_ret
    exact ⟨by first | rfl | (simp; done) | (simp [*]; done), by repeat (first | exact Drawn0.refl _ | apply Drawn0.step)⟩
  · rw [if_neg c5] at H
    have c5b0 : decide (t102 < t103) = false := decide_eq_false c5
    clear c5
    by_cases c6 : t102 > t103
    · rw [if_pos c6] at H
      have c6b0 : decide (t103 < t102) = true := decide_eq_true c6
      clear c6
      obtain rfl := Option.some.inj H
      go_enter Try.func9, Try.ntmps9
      go_wp2_with (first | ((with_reducible refine gate_callee (f := 24) rfl ?_); refine goesL_ (some 8) rfl rfl Try.func24 (by kernel_rfl) rfl #[.int .u64 a0] rfl (by (try simp only [List.map_toArray, List.map_cons, List.map_nil]); first | done | rfl | (simp only [List.length_drop, List.length_take]; rfl) | (simp [Act.eval, IntKind.wrap_u64, IntKind.wrap_u8, IntKind.wrap_u32, wrap64]; omega)) ?_; (with_reducible refine (reals_Key.calls a0 t102 _ A3.out).mono ?_); rintro e w' ⟨rfl, ⟨nd, rfl⟩⟩; refine ⟨_, rfl, ?_⟩) | ((with_reducible refine gate_callee (f := 24) rfl ?_); refine goesL_ (some 10) rfl rfl Try.func24 (by kernel_rfl) rfl #[.int .u64 a1] rfl (by (try simp only [List.map_toArray, List.map_cons, List.map_nil]); first | done | rfl | (simp only [List.length_drop, List.length_take]; rfl) | (simp [Act.eval, IntKind.wrap_u64, IntKind.wrap_u8, IntKind.wrap_u32, wrap64]; omega)) ?_; (with_reducible refine (reals_Key.calls a1 t103 _ A4.out).mono ?_); rintro e w' ⟨rfl, ⟨nd, rfl⟩⟩; refine ⟨_, rfl, ?_⟩))
      go_ret
      exact ⟨by first | rfl | (simp; done) | (simp [*]; done), by repeat (first | exact Drawn0.refl _ | apply Drawn0.step)⟩
    · rw [if_neg c6] at H
      have c6b0 : decide (t103 < t102) = false := decide_eq_false c6
      clear c6
      obtain rfl := Option.some.inj H
      go_enter Try.func9, Try.ntmps9
      go_wp2_with (first | ((with_reducible refine gate_callee (f := 24) rfl ?_); refine goesL_ (some 8) rfl rfl Try.func24 (by kernel_rfl) rfl #[.int .u64 a0] rfl (by (try simp only [List.map_toArray, List.map_cons, List.map_nil]); first | done | rfl | (simp only [List.length_drop, List.length_take]; rfl) | (simp [Act.eval, IntKind.wrap_u64, IntKind.wrap_u8, IntKind.wrap_u32, wrap64]; omega)) ?_; (with_reducible refine (reals_Key.calls a0 t102 _ A3.out).mono ?_); rintro e w' ⟨rfl, ⟨nd, rfl⟩⟩; refine ⟨_, rfl, ?_⟩) | ((with_reducible refine gate_callee (f := 24) rfl ?_); refine goesL_ (some 10) rfl rfl Try.func24 (by kernel_rfl) rfl #[.int .u64 a1] rfl (by (try simp only [List.map_toArray, List.map_cons, List.map_nil]); first | done | rfl | (simp only [List.length_drop, List.length_take]; rfl) | (simp [Act.eval, IntKind.wrap_u64, IntKind.wrap_u8, IntKind.wrap_u32, wrap64]; omega)) ?_; (with_reducible refine (reals_Key.calls a1 t103 _ A4.out).mono ?_); rintro e w' ⟨rfl, ⟨nd, rfl⟩⟩; refine ⟨_, rfl, ?_⟩))
      go_ret
      exact ⟨by first | rfl | (simp; done) | (simp [*]; done), by repeat (first | exact Drawn0.refl _ | apply Drawn0.step)⟩

/-! ### transomref02_fraction: function 29 -/
def transomref02_fraction.f (a0 : Int) : Option (Int) := some (Go.bits .and .u64 a0 4503599627370495)
set_option maxHeartbeats 8000000 in
set_option maxRecDepth 100000 in
theorem transomref02_fraction.calls (a0 : Int) (r : Int) (w : World) (h : transomref02_fraction.f a0 = some r) :
    Calls Try.prog 29 #[.int .u64 a0] w fun e w' => e = .returned (.int .u64 r) ∧ Drawn0 w w' := by
  have H : (some (Go.bits .and .u64 a0 4503599627370495)) = some r := h
  clear h
  obtain rfl := Option.some.inj H
  go_enter Try.func29, Try.ntmps29
  go_wp2
  go_ret
  exact ⟨by first | rfl | (simp; done) | (simp [*]; done), by repeat (first | exact Drawn0.refl _ | apply Drawn0.step)⟩

/-! ### transomref02_exponent: function 30 -/
def transomref02_exponent.f (a0 : Int) : Option (Int) := some (wrap64 (Go.bits .and .u64 (a0 / 4503599627370496) 2047))
set_option maxHeartbeats 8000000 in
set_option maxRecDepth 100000 in
theorem transomref02_exponent.calls (a0 : Int) (r : Int) (w : World) (h : transomref02_exponent.f a0 = some r) :
    Calls Try.prog 30 #[.int .u64 a0] w fun e w' => e = .returned (.int .i64 r) ∧ Drawn0 w w' := by
  have H : (some (wrap64 (Go.bits .and .u64 (a0 / 4503599627370496) 2047))) = some r := h
  clear h
  obtain rfl := Option.some.inj H
  go_enter Try.func30, Try.ntmps30
  go_wp2
  go_ret
  exact ⟨by first | rfl | (simp; done) | (simp [*]; done), by repeat (first | exact Drawn0.refl _ | apply Drawn0.step)⟩

/-! ### transomref02_Class: function 22 -/
mutual
def transomref02_Class.j0 : Nat → Int → Bool → Option (Int)
  | 0, _, _ => none
  | k + 1, x0, x3 => if x3 = true then (some 1) else ((transomref02_exponent.f x0).bind fun t106 => (if t106 = 2047 then (some 2) else ((transomref02_exponent.f x0).bind fun t107 => (if t107 = 0 then ((transomref02_fraction.f x0).bind fun t108 => (transomref02_Class.j1 k x0 (t108 == 0))) else (transomref02_Class.j1 k x0 false)))))
def transomref02_Class.j1 : Nat → Int → Bool → Option (Int)
  | 0, _, _ => none
  | k + 1, x0, x16 => if x16 = true then (some 3) else ((transomref02_exponent.f x0).bind fun t109 => (if t109 = 0 then (some 4) else (some 5)))
end
def transomref02_Class.f (k : Nat) (a0 : Int) : Option (Int) := (transomref02_exponent.f a0).bind fun t104 => (if t104 = 2047 then ((transomref02_fraction.f a0).bind fun t105 => (transomref02_Class.j0 k a0 (t105 != 0))) else (transomref02_Class.j0 k a0 false))
theorem transomref02_Class.mono_l : ∀ k, (∀ y0 y1, LeO (transomref02_Class.j0 k y0 y1) (transomref02_Class.j0 (k + 1) y0 y1)) ∧ (∀ y0 y1, LeO (transomref02_Class.j1 k y0 y1) (transomref02_Class.j1 (k + 1) y0 y1))
  | 0 => ⟨fun _ _ r h => by simp [transomref02_Class.j0] at h, fun _ _ r h => by simp [transomref02_Class.j1] at h⟩
  | k + 1 => by
    obtain ⟨ih0, ih1⟩ := transomref02_Class.mono_l k
    refine ⟨?_, ?_⟩
    · intro y0 y1
      unfold transomref02_Class.j0
      repeat' first
      | (with_reducible exact ih0 _ _)
      | (with_reducible exact ih1 _ _)
      | (with_reducible exact LeO.refl _)
      | (with_reducible exact LeO.none _)
      | (with_reducible refine LeO.ite ?_ ?_)
      | (with_reducible refine LeO.bind ?_ (fun _ => ?_))
      | exact ih0 _ _
      | exact ih1 _ _
      | exact LeO.none _
      | refine LeO.ite ?_ ?_
      | refine LeO.bind ?_ (fun _ => ?_)
    · intro y0 y1
      unfold transomref02_Class.j1
      repeat' first
      | (with_reducible exact ih0 _ _)
      | (with_reducible exact ih1 _ _)
      | (with_reducible exact LeO.refl _)
      | (with_reducible exact LeO.none _)
      | (with_reducible refine LeO.ite ?_ ?_)
      | (with_reducible refine LeO.bind ?_ (fun _ => ?_))
      | exact ih0 _ _
      | exact ih1 _ _
      | exact LeO.none _
      | refine LeO.ite ?_ ?_
      | refine LeO.bind ?_ (fun _ => ?_)
theorem transomref02_Class.mono : ∀ a0 k, LeO (transomref02_Class.f k a0) (transomref02_Class.f (k + 1) a0) := by
  intro a0 k
  obtain ⟨ih0, ih1⟩ := transomref02_Class.mono_l k
  unfold transomref02_Class.f
  repeat' first
      | (with_reducible exact ih0 _ _)
      | (with_reducible exact ih1 _ _)
      | (with_reducible exact LeO.refl _)
      | (with_reducible exact LeO.none _)
      | (with_reducible refine LeO.ite ?_ ?_)
      | (with_reducible refine LeO.bind ?_ (fun _ => ?_))
      | exact ih0 _ _
      | exact ih1 _ _
      | exact LeO.none _
      | refine LeO.ite ?_ ?_
      | refine LeO.bind ?_ (fun _ => ?_)
set_option maxHeartbeats 8000000 in
set_option maxRecDepth 100000 in
theorem transomref02_Class.calls (k : Nat) (a0 : Int) (r : Int) (w : World) (h : transomref02_Class.f k a0 = some r) :
    Calls Try.prog 22 #[.int .u64 a0] w fun e w' => e = .returned (.int .i64 r) ∧ Drawn0 w w' := by
  have H : ((transomref02_exponent.f a0).bind fun t104 => (if t104 = 2047 then ((transomref02_fraction.f a0).bind fun t105 => (transomref02_Class.j0 k a0 (t105 != 0))) else (transomref02_Class.j0 k a0 false))) = some r := h
  clear h
  have HC2 := Aside0.mk H
  clear H
  go_enter Try.func22, Try.ntmps22
  go_upto_region 1 with (fail)
  go_cut [3] (fun v3 wc => ∃ (kq : Nat) (x3_1 : Bool), v3 = .bool x3_1 ∧ Aside0 (transomref02_Class.j0 kq a0 x3_1 = some r) ∧ Aside0 (kq ≤ k) ∧ Drawn0 w wc)
  case first =>
    have H := HC2.out
    clear HC2
    replace H := Option.bind_eq_some_iff.mp H
    obtain ⟨t104, A30, H⟩ := H
    replace H : (if t104 = 2047 then ((transomref02_fraction.f a0).bind fun t105 => (transomref02_Class.j0 k a0 (t105 != 0))) else (transomref02_Class.j0 k a0 false)) = some r := H
    have A3 := Aside0.mk A30
    clear A30
    by_cases c4 : t104 = 2047
    · rw [if_pos c4] at H
      have c4b0 : (t104 == 2047) = true := beq_iff_eq.mpr c4
      have c4b1 : (t104 != 2047) = false := bne_eq_false_iff_eq.mpr c4
      clear c4
      (first | rw [c4b0] | (simp only [i64_w, i32_w]; rw [c4b0]) | skip)
      replace H := Option.bind_eq_some_iff.mp H
      obtain ⟨t105, A50, H⟩ := H
      replace H : (transomref02_Class.j0 k a0 (t105 != 0)) = some r := H
      have A5 := Aside0.mk A50
      clear A50
      have H' := Aside0.mk H
      clear H
      go_wp2_with (first | ((with_reducible refine gate_callee (f := 30) rfl ?_); refine goesL_ (some 5) rfl rfl Try.func30 (by kernel_rfl) rfl #[.int .u64 a0] rfl (by (try simp only [List.map_toArray, List.map_cons, List.map_nil]); first | done | rfl | (simp only [List.length_drop, List.length_take]; rfl) | (simp [Act.eval, IntKind.wrap_u64, IntKind.wrap_u8, IntKind.wrap_u32, wrap64]; omega)) ?_; (with_reducible refine (transomref02_exponent.calls a0 t104 _ A3.out).mono ?_); rintro e w' ⟨rfl, ⟨nd, rfl⟩⟩; refine ⟨_, rfl, ?_⟩) | (go_at_call 29; (with_reducible refine (transomref02_fraction.calls a0 t105 _ A5.out).mono ?_); rintro e w' ⟨rfl, ⟨nd, rfl⟩⟩))
      go_meet
      case rel => exact ⟨_, ((t105 != 0)), (by first | rfl | (simp; done) | (simp [*]; done)), H', ⟨by first | omega | exact Nat.le_refl _⟩, by repeat (first | exact Drawn0.refl _ | apply Drawn0.step)⟩
    · rw [if_neg c4] at H
      have c4b0 : (t104 == 2047) = false := beq_eq_false_iff_ne.mpr c4
      have c4b1 : (t104 != 2047) = true := bne_iff_ne.mpr c4
      (first | rw [c4b0] | (simp only [i64_w, i32_w]; rw [c4b0]) | skip)
      have H' := Aside0.mk H
      clear H
      go_wp2_with (first | ((with_reducible refine gate_callee (f := 30) rfl ?_); refine goesL_ (some 5) rfl rfl Try.func30 (by kernel_rfl) rfl #[.int .u64 a0] rfl (by (try simp only [List.map_toArray, List.map_cons, List.map_nil]); first | done | rfl | (simp only [List.length_drop, List.length_take]; rfl) | (simp [Act.eval, IntKind.wrap_u64, IntKind.wrap_u8, IntKind.wrap_u32, wrap64]; omega)) ?_; (with_reducible refine (transomref02_exponent.calls a0 t104 _ A3.out).mono ?_); rintro e w' ⟨rfl, ⟨nd, rfl⟩⟩; refine ⟨_, rfl, ?_⟩))
      go_meet
      case rel => exact ⟨_, (false), (by first | rfl | (simp; done) | (simp [*]; done)), H', ⟨by first | omega | exact Nat.le_refl _⟩, by repeat (first | exact Drawn0.refl _ | apply Drawn0.step)⟩
  case rest =>
    clear HC2
    try clear c2
    try clear p2
    try clear c3
    try clear c4
    try clear c4b0
    try clear c4b1
    obtain ⟨kq, x3_1, rfl, HA, HJ1, ⟨mc1, rfl⟩⟩ := hcut
    cases kq with
    | zero => exact absurd HA.out (by simp [transomref02_Class.j0])
    | succ kj1 =>
      have H := HA.out
      clear HA
      simp only [transomref02_Class.j0] at H
      by_cases c6 : x3_1 = true
      · subst c6
        have H1 : (some 1) = some r := by rw [if_pos rfl] at H; exact H
        clear H
        have H := H1
        clear H1
        obtain rfl := Option.some.inj H
        go_wp2
        go_ret
        exact ⟨by first | rfl | (simp; done) | (simp [*]; done), by repeat (first | exact Drawn0.refl _ | apply Drawn0.step)⟩
      · replace c6 := Bool.eq_false_iff.mpr c6
        subst c6
        have H1 : ((transomref02_exponent.f a0).bind fun t106 => (if t106 = 2047 then (some 2) else ((transomref02_exponent.f a0).bind fun t107 => (if t107 = 0 then ((transomref02_fraction.f a0).bind fun t108 => (transomref02_Class.j1 kj1 a0 (t108 == 0))) else (transomref02_Class.j1 kj1 a0 false))))) = some r := by rw [if_neg (show ¬ (false = true) by decide)] at H; exact H
        clear H
        have H := H1
        clear H1
        replace H := Option.bind_eq_some_iff.mp H
        obtain ⟨t106, A70, H⟩ := H
        replace H : (if t106 = 2047 then (some 2) else ((transomref02_exponent.f a0).bind fun t107 => (if t107 = 0 then ((transomref02_fraction.f a0).bind fun t108 => (transomref02_Class.j1 kj1 a0 (t108 == 0))) else (transomref02_Class.j1 kj1 a0 false)))) = some r := H
        have A7 := Aside0.mk A70
        clear A70
        by_cases c8 : t106 = 2047
        · rw [if_pos c8] at H
          have c8b0 : (t106 == 2047) = true := beq_iff_eq.mpr c8
          have c8b1 : (t106 != 2047) = false := bne_eq_false_iff_eq.mpr c8
          clear c8
          obtain rfl := Option.some.inj H
          go_wp2_with (first | ((with_reducible refine gate_callee (f := 30) rfl ?_); refine goesL_ (some 14) rfl rfl Try.func30 (by kernel_rfl) rfl #[.int .u64 a0] rfl (by (try simp only [List.map_toArray, List.map_cons, List.map_nil]); first | done | rfl | (simp only [List.length_drop, List.length_take]; rfl) | (simp [Act.eval, IntKind.wrap_u64, IntKind.wrap_u8, IntKind.wrap_u32, wrap64]; omega)) ?_; (with_reducible refine (transomref02_exponent.calls a0 t106 _ A7.out).mono ?_); rintro e w' ⟨rfl, ⟨nd, rfl⟩⟩; refine ⟨_, rfl, ?_⟩))
          go_ret
          exact ⟨by first | rfl | (simp; done) | (simp [*]; done), by repeat (first | exact Drawn0.refl _ | apply Drawn0.step)⟩
        · rw [if_neg c8] at H
          have c8b0 : (t106 == 2047) = false := beq_eq_false_iff_ne.mpr c8
          have c8b1 : (t106 != 2047) = true := bne_iff_ne.mpr c8
          have HC9 := Aside0.mk H
          clear H
          go_upto_region 5 with (first | ((with_reducible refine gate_callee (f := 30) rfl ?_); refine goesL_ (some 14) rfl rfl Try.func30 (by kernel_rfl) rfl #[.int .u64 a0] rfl (by (try simp only [List.map_toArray, List.map_cons, List.map_nil]); first | done | rfl | (simp only [List.length_drop, List.length_take]; rfl) | (simp [Act.eval, IntKind.wrap_u64, IntKind.wrap_u8, IntKind.wrap_u32, wrap64]; omega)) ?_; (with_reducible refine (transomref02_exponent.calls a0 t106 _ A7.out).mono ?_); rintro e w' ⟨rfl, ⟨nd, rfl⟩⟩; refine ⟨_, rfl, ?_⟩))
          (try simp only [Act.put, List.setIfInBounds_toArray, List.set_cons_zero, List.set_cons_succ])
          go_cut [16] (fun v16 wc => ∃ (kq : Nat) (x16_8 : Bool), v16 = .bool x16_8 ∧ Aside0 (transomref02_Class.j1 kq a0 x16_8 = some r) ∧ Aside0 (kq ≤ kj1) ∧ Drawn0 w wc)
          case first =>
            have H := HC9.out
            clear HC9
            replace H := Option.bind_eq_some_iff.mp H
            obtain ⟨t107, A100, H⟩ := H
            replace H : (if t107 = 0 then ((transomref02_fraction.f a0).bind fun t108 => (transomref02_Class.j1 kj1 a0 (t108 == 0))) else (transomref02_Class.j1 kj1 a0 false)) = some r := H
            have A10 := Aside0.mk A100
            clear A100
            by_cases c11 : t107 = 0
            · rw [if_pos c11] at H
              have c11b0 : (t107 == 0) = true := beq_iff_eq.mpr c11
              have c11b1 : (t107 != 0) = false := bne_eq_false_iff_eq.mpr c11
              clear c11
              (first | rw [c11b0] | (simp only [i64_w, i32_w]; rw [c11b0]) | skip)
              replace H := Option.bind_eq_some_iff.mp H
              obtain ⟨t108, A120, H⟩ := H
              replace H : (transomref02_Class.j1 kj1 a0 (t108 == 0)) = some r := H
              have A12 := Aside0.mk A120
              clear A120
              have H' := Aside0.mk H
              clear H
              go_wp2_with (first | ((with_reducible refine gate_callee (f := 30) rfl ?_); refine goesL_ (some 18) rfl rfl Try.func30 (by kernel_rfl) rfl #[.int .u64 a0] rfl (by (try simp only [List.map_toArray, List.map_cons, List.map_nil]); first | done | rfl | (simp only [List.length_drop, List.length_take]; rfl) | (simp [Act.eval, IntKind.wrap_u64, IntKind.wrap_u8, IntKind.wrap_u32, wrap64]; omega)) ?_; (with_reducible refine (transomref02_exponent.calls a0 t107 _ A10.out).mono ?_); rintro e w' ⟨rfl, ⟨nd, rfl⟩⟩; refine ⟨_, rfl, ?_⟩) | (go_at_call 29; (with_reducible refine (transomref02_fraction.calls a0 t108 _ A12.out).mono ?_); rintro e w' ⟨rfl, ⟨nd, rfl⟩⟩))
              go_meet
              case rel => exact ⟨_, ((t108 == 0)), (by first | rfl | (simp; done) | (simp [*]; done)), H', ⟨by have := HJ1.out; first | omega | exact Nat.le_refl _⟩, by repeat (first | exact Drawn0.refl _ | apply Drawn0.step)⟩
            · rw [if_neg c11] at H
              have c11b0 : (t107 == 0) = false := beq_eq_false_iff_ne.mpr c11
              have c11b1 : (t107 != 0) = true := bne_iff_ne.mpr c11
              (first | rw [c11b0] | (simp only [i64_w, i32_w]; rw [c11b0]) | skip)
              have H' := Aside0.mk H
              clear H
              go_wp2_with (first | ((with_reducible refine gate_callee (f := 30) rfl ?_); refine goesL_ (some 18) rfl rfl Try.func30 (by kernel_rfl) rfl #[.int .u64 a0] rfl (by (try simp only [List.map_toArray, List.map_cons, List.map_nil]); first | done | rfl | (simp only [List.length_drop, List.length_take]; rfl) | (simp [Act.eval, IntKind.wrap_u64, IntKind.wrap_u8, IntKind.wrap_u32, wrap64]; omega)) ?_; (with_reducible refine (transomref02_exponent.calls a0 t107 _ A10.out).mono ?_); rintro e w' ⟨rfl, ⟨nd, rfl⟩⟩; refine ⟨_, rfl, ?_⟩))
              go_meet
              case rel => exact ⟨_, (false), (by first | rfl | (simp; done) | (simp [*]; done)), H', ⟨by have := HJ1.out; first | omega | exact Nat.le_refl _⟩, by repeat (first | exact Drawn0.refl _ | apply Drawn0.step)⟩
          case rest =>
            clear HC9
            try clear c1
            try clear c2
            try clear p2
            try clear c3
            try clear c4
            try clear c4b0
            try clear c4b1
            try clear c6
            try clear p6
            try clear c8
            try clear c8b0
            try clear c8b1
            try clear c11
            try clear c11b0
            try clear c11b1
            try clear p2
            obtain ⟨kq, x16_8, rfl, HA, HJ8, ⟨mc8, rfl⟩⟩ := hcut
            cases kq with
            | zero => exact absurd HA.out (by simp [transomref02_Class.j1])
            | succ kj8 =>
              have H := HA.out
              clear HA
              simp only [transomref02_Class.j1] at H
              by_cases c13 : x16_8 = true
              · subst c13
                have H1 : (some 3) = some r := by rw [if_pos rfl] at H; exact H
                clear H
                have H := H1
                clear H1
                obtain rfl := Option.some.inj H
                go_wp2
                go_ret
                exact ⟨by first | rfl | (simp; done) | (simp [*]; done), by repeat (first | exact Drawn0.refl _ | apply Drawn0.step)⟩
              · replace c13 := Bool.eq_false_iff.mpr c13
                subst c13
                have H1 : ((transomref02_exponent.f a0).bind fun t109 => (if t109 = 0 then (some 4) else (some 5))) = some r := by rw [if_neg (show ¬ (false = true) by decide)] at H; exact H
                clear H
                have H := H1
                clear H1
                replace H := Option.bind_eq_some_iff.mp H
                obtain ⟨t109, A140, H⟩ := H
                replace H : (if t109 = 0 then (some 4) else (some 5)) = some r := H
                have A14 := Aside0.mk A140
                clear A140
                by_cases c15 : t109 = 0
                · rw [if_pos c15] at H
                  have c15b0 : (t109 == 0) = true := beq_iff_eq.mpr c15
                  have c15b1 : (t109 != 0) = false := bne_eq_false_iff_eq.mpr c15
                  clear c15
                  obtain rfl := Option.some.inj H
                  go_wp2_with (first | ((with_reducible refine gate_callee (f := 30) rfl ?_); refine goesL_ (some 27) rfl rfl Try.func30 (by kernel_rfl) rfl #[.int .u64 a0] rfl (by (try simp only [List.map_toArray, List.map_cons, List.map_nil]); first | done | rfl | (simp only [List.length_drop, List.length_take]; rfl) | (simp [Act.eval, IntKind.wrap_u64, IntKind.wrap_u8, IntKind.wrap_u32, wrap64]; omega)) ?_; (with_reducible refine (transomref02_exponent.calls a0 t109 _ A14.out).mono ?_); rintro e w' ⟨rfl, ⟨nd, rfl⟩⟩; refine ⟨_, rfl, ?_⟩))
                  go_ret
                  exact ⟨by first | rfl | (simp; done) | (simp [*]; done), by repeat (first | exact Drawn0.refl _ | apply Drawn0.step)⟩
                · rw [if_neg c15] at H
                  have c15b0 : (t109 == 0) = false := beq_eq_false_iff_ne.mpr c15
                  have c15b1 : (t109 != 0) = true := bne_iff_ne.mpr c15
                  obtain rfl := Option.some.inj H
                  go_wp2_with (first | ((with_reducible refine gate_callee (f := 30) rfl ?_); refine goesL_ (some 27) rfl rfl Try.func30 (by kernel_rfl) rfl #[.int .u64 a0] rfl (by (try simp only [List.map_toArray, List.map_cons, List.map_nil]); first | done | rfl | (simp only [List.length_drop, List.length_take]; rfl) | (simp [Act.eval, IntKind.wrap_u64, IntKind.wrap_u8, IntKind.wrap_u32, wrap64]; omega)) ?_; (with_reducible refine (transomref02_exponent.calls a0 t109 _ A14.out).mono ?_); rintro e w' ⟨rfl, ⟨nd, rfl⟩⟩; refine ⟨_, rfl, ?_⟩))
                  go_ret
                  exact ⟨by first | rfl | (simp; done) | (simp [*]; done), by repeat (first | exact Drawn0.refl _ | apply Drawn0.step)⟩

/-! ### transomref02_Canon: function 23 -/
def transomref02_Canon.f (k : Nat) (a0 : Int) : Option (Int) := (transomref02_Class.f k a0).bind fun t110 => (if t110 = 1 then (some 9221120237041090560) else (some a0))
theorem transomref02_Canon.mono : ∀ a0 k, LeO (transomref02_Canon.f k a0) (transomref02_Canon.f (k + 1) a0) := by
  intro a0 k
  unfold transomref02_Canon.f
  repeat' first
      | (with_reducible exact transomref02_Class.mono _ _)
      | (with_reducible exact LeO.refl _)
      | (with_reducible exact LeO.none _)
      | (with_reducible refine LeO.ite ?_ ?_)
      | (with_reducible refine LeO.bind ?_ (fun _ => ?_))
      | exact transomref02_Class.mono _ _
      | exact LeO.none _
      | refine LeO.ite ?_ ?_
      | refine LeO.bind ?_ (fun _ => ?_)
set_option maxHeartbeats 8000000 in
set_option maxRecDepth 100000 in
theorem transomref02_Canon.calls (k : Nat) (a0 : Int) (r : Int) (w : World) (h : transomref02_Canon.f k a0 = some r) :
    Calls Try.prog 23 #[.int .u64 a0] w fun e w' => e = .returned (.int .u64 r) ∧ Drawn0 w w' := by
  have H : ((transomref02_Class.f k a0).bind fun t110 => (if t110 = 1 then (some 9221120237041090560) else (some a0))) = some r := h
  clear h
  replace H := Option.bind_eq_some_iff.mp H
  obtain ⟨t110, A20, H⟩ := H
  replace H : (if t110 = 1 then (some 9221120237041090560) else (some a0)) = some r := H
  have A2 := Aside0.mk A20
  clear A20
  by_cases c3 : t110 = 1
  · rw [if_pos c3] at H
    have c3b0 : (t110 == 1) = true := beq_iff_eq.mpr c3
    have c3b1 : (t110 != 1) = false := bne_eq_false_iff_eq.mpr c3
    clear c3
    obtain rfl := Option.some.inj H
    go_enter Try.func23, Try.ntmps23
    go_wp2_with (first | ((with_reducible refine gate_callee (f := 22) rfl ?_); refine goesL_ (some 4) rfl rfl Try.func22 (by kernel_rfl) rfl #[.int .u64 a0] rfl (by (try simp only [List.map_toArray, List.map_cons, List.map_nil]); first | done | rfl | (simp only [List.length_drop, List.length_take]; rfl) | (simp [Act.eval, IntKind.wrap_u64, IntKind.wrap_u8, IntKind.wrap_u32, wrap64]; omega)) ?_; (with_reducible refine (transomref02_Class.calls k a0 t110 _ A2.out).mono ?_); rintro e w' ⟨rfl, ⟨nd, rfl⟩⟩; refine ⟨_, rfl, ?_⟩))
    go_ret
    exact ⟨by first | rfl | (simp; done) | (simp [*]; done), by repeat (first | exact Drawn0.refl _ | apply Drawn0.step)⟩
  · rw [if_neg c3] at H
    have c3b0 : (t110 == 1) = false := beq_eq_false_iff_ne.mpr c3
    have c3b1 : (t110 != 1) = true := bne_iff_ne.mpr c3
    obtain rfl := Option.some.inj H
    go_enter Try.func23, Try.ntmps23
    go_wp2_with (first | ((with_reducible refine gate_callee (f := 22) rfl ?_); refine goesL_ (some 4) rfl rfl Try.func22 (by kernel_rfl) rfl #[.int .u64 a0] rfl (by (try simp only [List.map_toArray, List.map_cons, List.map_nil]); first | done | rfl | (simp only [List.length_drop, List.length_take]; rfl) | (simp [Act.eval, IntKind.wrap_u64, IntKind.wrap_u8, IntKind.wrap_u32, wrap64]; omega)) ?_; (with_reducible refine (transomref02_Class.calls k a0 t110 _ A2.out).mono ?_); rintro e w' ⟨rfl, ⟨nd, rfl⟩⟩; refine ⟨_, rfl, ?_⟩))
    go_ret
    exact ⟨by first | rfl | (simp; done) | (simp [*]; done), by repeat (first | exact Drawn0.refl _ | apply Drawn0.step)⟩

/-! ### transomref02_Key: function 25 -/
def transomref02_Key.f (k : Nat) (a0 : Int) : Option (Int) := (transomref02_Canon.f k a0).bind fun t111 => (if (t111 / 9223372036854775808) = 0 then (some (Go.bits .or .u64 t111 9223372036854775808)) else (some (Go.bits .xor .u64 IntKind.u64.max t111)))
theorem transomref02_Key.mono : ∀ a0 k, LeO (transomref02_Key.f k a0) (transomref02_Key.f (k + 1) a0) := by
  intro a0 k
  unfold transomref02_Key.f
  repeat' first
      | (with_reducible exact transomref02_Canon.mono _ _)
      | (with_reducible exact LeO.refl _)
      | (with_reducible exact LeO.none _)
      | (with_reducible refine LeO.ite ?_ ?_)
      | (with_reducible refine LeO.bind ?_ (fun _ => ?_))
      | exact transomref02_Canon.mono _ _
      | exact LeO.none _
      | refine LeO.ite ?_ ?_
      | refine LeO.bind ?_ (fun _ => ?_)
set_option maxHeartbeats 8000000 in
set_option maxRecDepth 100000 in
theorem transomref02_Key.calls (k : Nat) (a0 : Int) (r : Int) (w : World) (h : transomref02_Key.f k a0 = some r) :
    Calls Try.prog 25 #[.int .u64 a0] w fun e w' => e = .returned (.int .u64 r) ∧ Drawn0 w w' := by
  have hsg_ : IntKind.u64.signed = false := rfl
  have H : ((transomref02_Canon.f k a0).bind fun t111 => (if (t111 / 9223372036854775808) = 0 then (some (Go.bits .or .u64 t111 9223372036854775808)) else (some (Go.bits .xor .u64 IntKind.u64.max t111)))) = some r := h
  clear h
  replace H := Option.bind_eq_some_iff.mp H
  obtain ⟨t111, A20, H⟩ := H
  replace H : (if (t111 / 9223372036854775808) = 0 then (some (Go.bits .or .u64 t111 9223372036854775808)) else (some (Go.bits .xor .u64 IntKind.u64.max t111))) = some r := H
  have A2 := Aside0.mk A20
  clear A20
  by_cases c3 : (t111 / 9223372036854775808) = 0
  · rw [if_pos c3] at H
    have c3b0 : ((t111 / 9223372036854775808) == 0) = true := beq_iff_eq.mpr c3
    have c3b1 : ((t111 / 9223372036854775808) != 0) = false := bne_eq_false_iff_eq.mpr c3
    clear c3
    obtain rfl := Option.some.inj H
    go_enter Try.func25, Try.ntmps25
    go_wp2_with (first | ((with_reducible refine gate_callee (f := 23) rfl ?_); refine goesL_ (some 4) rfl rfl Try.func23 (by kernel_rfl) rfl #[.int .u64 a0] rfl (by (try simp only [List.map_toArray, List.map_cons, List.map_nil]); first | done | rfl | (simp only [List.length_drop, List.length_take]; rfl) | (simp [Act.eval, IntKind.wrap_u64, IntKind.wrap_u8, IntKind.wrap_u32, wrap64]; omega)) ?_; (with_reducible refine (transomref02_Canon.calls k a0 t111 _ A2.out).mono ?_); rintro e w' ⟨rfl, ⟨nd, rfl⟩⟩; refine ⟨_, rfl, ?_⟩))
    go_ret
    exact ⟨by first | rfl | (simp; done) | (simp [*]; done), by repeat (first | exact Drawn0.refl _ | apply Drawn0.step)⟩
  · rw [if_neg c3] at H
    have c3b0 : ((t111 / 9223372036854775808) == 0) = false := beq_eq_false_iff_ne.mpr c3
    have c3b1 : ((t111 / 9223372036854775808) != 0) = true := bne_iff_ne.mpr c3
    obtain rfl := Option.some.inj H
    go_enter Try.func25, Try.ntmps25
    go_wp2_with (first | ((with_reducible refine gate_callee (f := 23) rfl ?_); refine goesL_ (some 4) rfl rfl Try.func23 (by kernel_rfl) rfl #[.int .u64 a0] rfl (by (try simp only [List.map_toArray, List.map_cons, List.map_nil]); first | done | rfl | (simp only [List.length_drop, List.length_take]; rfl) | (simp [Act.eval, IntKind.wrap_u64, IntKind.wrap_u8, IntKind.wrap_u32, wrap64]; omega)) ?_; (with_reducible refine (transomref02_Canon.calls k a0 t111 _ A2.out).mono ?_); rintro e w' ⟨rfl, ⟨nd, rfl⟩⟩; refine ⟨_, rfl, ?_⟩))
    go_ret
    exact ⟨by first | rfl | (simp; done) | (simp [*]; done), by repeat (first | exact Drawn0.refl _ | apply Drawn0.step)⟩

/-! ### transomref02_Cmp: function 10 -/
def transomref02_Cmp.f (k : Nat) (a0 : Int) (a1 : Int) : Option (Int) := (transomref02_Key.f k a0).bind fun t112 => ((transomref02_Key.f k a1).bind fun t113 => (if t112 < t113 then (some (-1)) else ((transomref02_Key.f k a0).bind fun t114 => ((transomref02_Key.f k a1).bind fun t115 => (if t114 > t115 then (some 1) else (some 0))))))
theorem transomref02_Cmp.mono : ∀ a0 a1 k, LeO (transomref02_Cmp.f k a0 a1) (transomref02_Cmp.f (k + 1) a0 a1) := by
  intro a0 a1 k
  unfold transomref02_Cmp.f
  repeat' first
      | (with_reducible exact transomref02_Key.mono _ _)
      | (with_reducible exact LeO.refl _)
      | (with_reducible exact LeO.none _)
      | (with_reducible refine LeO.ite ?_ ?_)
      | (with_reducible refine LeO.bind ?_ (fun _ => ?_))
      | exact transomref02_Key.mono _ _
      | exact LeO.none _
      | refine LeO.ite ?_ ?_
      | refine LeO.bind ?_ (fun _ => ?_)
set_option maxHeartbeats 8000000 in
set_option maxRecDepth 100000 in
theorem transomref02_Cmp.calls (k : Nat) (a0 : Int) (a1 : Int) (r : Int) (w : World) (h : transomref02_Cmp.f k a0 a1 = some r) :
    Calls Try.prog 10 #[.int .u64 a0, .int .u64 a1] w fun e w' => e = .returned (.int .i64 r) ∧ Drawn0 w w' := by
  have H : ((transomref02_Key.f k a0).bind fun t112 => ((transomref02_Key.f k a1).bind fun t113 => (if t112 < t113 then (some (-1)) else ((transomref02_Key.f k a0).bind fun t114 => ((transomref02_Key.f k a1).bind fun t115 => (if t114 > t115 then (some 1) else (some 0))))))) = some r := h
  clear h
  replace H := Option.bind_eq_some_iff.mp H
  obtain ⟨t112, A30, H⟩ := H
  replace H : ((transomref02_Key.f k a1).bind fun t113 => (if t112 < t113 then (some (-1)) else ((transomref02_Key.f k a0).bind fun t114 => ((transomref02_Key.f k a1).bind fun t115 => (if t114 > t115 then (some 1) else (some 0)))))) = some r := H
  have A3 := Aside0.mk A30
  clear A30
  replace H := Option.bind_eq_some_iff.mp H
  obtain ⟨t113, A40, H⟩ := H
  replace H : (if t112 < t113 then (some (-1)) else ((transomref02_Key.f k a0).bind fun t114 => ((transomref02_Key.f k a1).bind fun t115 => (if t114 > t115 then (some 1) else (some 0))))) = some r := H
  have A4 := Aside0.mk A40
  clear A40
  by_cases c5 : t112 < t113
  · rw [if_pos c5] at H
    have c5b0 : decide (t112 < t113) = true := decide_eq_true c5
    clear c5
    obtain rfl := Option.some.inj H
    go_enter Try.func10, Try.ntmps10
    go_wp2_with (first | ((with_reducible refine gate_callee (f := 25) rfl ?_); refine goesL_ (some 7) rfl rfl Try.func25 (by kernel_rfl) rfl #[.int .u64 a0] rfl (by (try simp only [List.map_toArray, List.map_cons, List.map_nil]); first | done | rfl | (simp only [List.length_drop, List.length_take]; rfl) | (simp [Act.eval, IntKind.wrap_u64, IntKind.wrap_u8, IntKind.wrap_u32, wrap64]; omega)) ?_; (with_reducible refine (transomref02_Key.calls k a0 t112 _ A3.out).mono ?_); rintro e w' ⟨rfl, ⟨nd, rfl⟩⟩; refine ⟨_, rfl, ?_⟩) | ((with_reducible refine gate_callee (f := 25) rfl ?_); refine goesL_ (some 9) rfl rfl Try.func25 (by kernel_rfl) rfl #[.int .u64 a1] rfl (by (try simp only [List.map_toArray, List.map_cons, List.map_nil]); first | done | rfl | (simp only [List.length_drop, List.length_take]; rfl) | (simp [Act.eval, IntKind.wrap_u64, IntKind.wrap_u8, IntKind.wrap_u32, wrap64]; omega)) ?_; (with_reducible refine (transomref02_Key.calls k a1 t113 _ A4.out).mono ?_); rintro e w' ⟨rfl, ⟨nd, rfl⟩⟩; refine ⟨_, rfl, ?_⟩))
    go_ret
    exact ⟨by first | rfl | (simp; done) | (simp [*]; done), by repeat (first | exact Drawn0.refl _ | apply Drawn0.step)⟩
  · rw [if_neg c5] at H
    have c5b0 : decide (t112 < t113) = false := decide_eq_false c5
    clear c5
    replace H := Option.bind_eq_some_iff.mp H
    obtain ⟨t114, A60, H⟩ := H
    replace H : ((transomref02_Key.f k a1).bind fun t115 => (if t114 > t115 then (some 1) else (some 0))) = some r := H
    have A6 := Aside0.mk A60
    clear A60
    replace H := Option.bind_eq_some_iff.mp H
    obtain ⟨t115, A70, H⟩ := H
    replace H : (if t114 > t115 then (some 1) else (some 0)) = some r := H
    have A7 := Aside0.mk A70
    clear A70
    by_cases c8 : t114 > t115
    · rw [if_pos c8] at H
      have c8b0 : decide (t115 < t114) = true := decide_eq_true c8
      clear c8
      obtain rfl := Option.some.inj H
      go_enter Try.func10, Try.ntmps10
      go_wp2_with (first | ((with_reducible refine gate_callee (f := 25) rfl ?_); refine goesL_ (some 7) rfl rfl Try.func25 (by kernel_rfl) rfl #[.int .u64 a0] rfl (by (try simp only [List.map_toArray, List.map_cons, List.map_nil]); first | done | rfl | (simp only [List.length_drop, List.length_take]; rfl) | (simp [Act.eval, IntKind.wrap_u64, IntKind.wrap_u8, IntKind.wrap_u32, wrap64]; omega)) ?_; (with_reducible refine (transomref02_Key.calls k a0 t112 _ A3.out).mono ?_); rintro e w' ⟨rfl, ⟨nd, rfl⟩⟩; refine ⟨_, rfl, ?_⟩) | ((with_reducible refine gate_callee (f := 25) rfl ?_); refine goesL_ (some 9) rfl rfl Try.func25 (by kernel_rfl) rfl #[.int .u64 a1] rfl (by (try simp only [List.map_toArray, List.map_cons, List.map_nil]); first | done | rfl | (simp only [List.length_drop, List.length_take]; rfl) | (simp [Act.eval, IntKind.wrap_u64, IntKind.wrap_u8, IntKind.wrap_u32, wrap64]; omega)) ?_; (with_reducible refine (transomref02_Key.calls k a1 t113 _ A4.out).mono ?_); rintro e w' ⟨rfl, ⟨nd, rfl⟩⟩; refine ⟨_, rfl, ?_⟩) | ((with_reducible refine gate_callee (f := 25) rfl ?_); refine goesL_ (some 13) rfl rfl Try.func25 (by kernel_rfl) rfl #[.int .u64 a0] rfl (by (try simp only [List.map_toArray, List.map_cons, List.map_nil]); first | done | rfl | (simp only [List.length_drop, List.length_take]; rfl) | (simp [Act.eval, IntKind.wrap_u64, IntKind.wrap_u8, IntKind.wrap_u32, wrap64]; omega)) ?_; (with_reducible refine (transomref02_Key.calls k a0 t114 _ A6.out).mono ?_); rintro e w' ⟨rfl, ⟨nd, rfl⟩⟩; refine ⟨_, rfl, ?_⟩) | ((with_reducible refine gate_callee (f := 25) rfl ?_); refine goesL_ (some 15) rfl rfl Try.func25 (by kernel_rfl) rfl #[.int .u64 a1] rfl (by (try simp only [List.map_toArray, List.map_cons, List.map_nil]); first | done | rfl | (simp only [List.length_drop, List.length_take]; rfl) | (simp [Act.eval, IntKind.wrap_u64, IntKind.wrap_u8, IntKind.wrap_u32, wrap64]; omega)) ?_; (with_reducible refine (transomref02_Key.calls k a1 t115 _ A7.out).mono ?_); rintro e w' ⟨rfl, ⟨nd, rfl⟩⟩; refine ⟨_, rfl, ?_⟩))
      go_ret
      exact ⟨by first | rfl | (simp; done) | (simp [*]; done), by repeat (first | exact Drawn0.refl _ | apply Drawn0.step)⟩
    · rw [if_neg c8] at H
      have c8b0 : decide (t115 < t114) = false := decide_eq_false c8
      clear c8
      obtain rfl := Option.some.inj H
      go_enter Try.func10, Try.ntmps10
      go_wp2_with (first | ((with_reducible refine gate_callee (f := 25) rfl ?_); refine goesL_ (some 7) rfl rfl Try.func25 (by kernel_rfl) rfl #[.int .u64 a0] rfl (by (try simp only [List.map_toArray, List.map_cons, List.map_nil]); first | done | rfl | (simp only [List.length_drop, List.length_take]; rfl) | (simp [Act.eval, IntKind.wrap_u64, IntKind.wrap_u8, IntKind.wrap_u32, wrap64]; omega)) ?_; (with_reducible refine (transomref02_Key.calls k a0 t112 _ A3.out).mono ?_); rintro e w' ⟨rfl, ⟨nd, rfl⟩⟩; refine ⟨_, rfl, ?_⟩) | ((with_reducible refine gate_callee (f := 25) rfl ?_); refine goesL_ (some 9) rfl rfl Try.func25 (by kernel_rfl) rfl #[.int .u64 a1] rfl (by (try simp only [List.map_toArray, List.map_cons, List.map_nil]); first | done | rfl | (simp only [List.length_drop, List.length_take]; rfl) | (simp [Act.eval, IntKind.wrap_u64, IntKind.wrap_u8, IntKind.wrap_u32, wrap64]; omega)) ?_; (with_reducible refine (transomref02_Key.calls k a1 t113 _ A4.out).mono ?_); rintro e w' ⟨rfl, ⟨nd, rfl⟩⟩; refine ⟨_, rfl, ?_⟩) | ((with_reducible refine gate_callee (f := 25) rfl ?_); refine goesL_ (some 13) rfl rfl Try.func25 (by kernel_rfl) rfl #[.int .u64 a0] rfl (by (try simp only [List.map_toArray, List.map_cons, List.map_nil]); first | done | rfl | (simp only [List.length_drop, List.length_take]; rfl) | (simp [Act.eval, IntKind.wrap_u64, IntKind.wrap_u8, IntKind.wrap_u32, wrap64]; omega)) ?_; (with_reducible refine (transomref02_Key.calls k a0 t114 _ A6.out).mono ?_); rintro e w' ⟨rfl, ⟨nd, rfl⟩⟩; refine ⟨_, rfl, ?_⟩) | ((with_reducible refine gate_callee (f := 25) rfl ?_); refine goesL_ (some 15) rfl rfl Try.func25 (by kernel_rfl) rfl #[.int .u64 a1] rfl (by (try simp only [List.map_toArray, List.map_cons, List.map_nil]); first | done | rfl | (simp only [List.length_drop, List.length_take]; rfl) | (simp [Act.eval, IntKind.wrap_u64, IntKind.wrap_u8, IntKind.wrap_u32, wrap64]; omega)) ?_; (with_reducible refine (transomref02_Key.calls k a1 t115 _ A7.out).mono ?_); rintro e w' ⟨rfl, ⟨nd, rfl⟩⟩; refine ⟨_, rfl, ?_⟩))
      go_ret
      exact ⟨by first | rfl | (simp; done) | (simp [*]; done), by repeat (first | exact Drawn0.refl _ | apply Drawn0.step)⟩

/-! ### reals_Equal: function 11 -/
theorem reals_Equal.frombits (b : Int) (W : World) : (callFunc 26 #[.int .u64 b]).run Try.prog W = .ok (.value (.float .f64 b.toNat)) W :=
  run_callFunc_extern (e := Extern.MathFloatBits.float64frombits) Try.func26 (by kernel_rfl) (by kernel_rfl) (by kernel_rfl) (by kernel_rfl) _ W
def reals_Equal.f (a0 : Int) (a1 : Int) : Option Bool := some (decide (Fl.rung a0.toNat ≤ Fl.inf ∧ Fl.rung a1.toNat ≤ Fl.inf ∧ Fl.key a0.toNat = Fl.key a1.toNat))
theorem reals_Equal.calls (a0 : Int) (a1 : Int) (r : Bool) (w : World) (h : reals_Equal.f a0 a1 = some r) :
    Calls Try.prog 11 #[.int .u64 a0, .int .u64 a1] w fun e w' => e = .returned (.bool r) ∧ Drawn0 w w' := by
  have hfb := reals_Equal.frombits a0
  have hfc := reals_Equal.frombits a1
  obtain rfl := Option.some.inj h
  clear h
  have ho : (FloatKind.f64.format.order a0.toNat a1.toNat == some .eq) = decide (Fl.rung a0.toNat ≤ Fl.inf ∧ Fl.rung a1.toNat ≤ Fl.inf ∧ Fl.key a0.toNat = Fl.key a1.toNat) := by
    rw [show FloatKind.f64.format = Ieee.double from rfl]
    by_cases c : Fl.rung a0.toNat ≤ Fl.inf
    · by_cases d : Fl.rung a1.toNat ≤ Fl.inf
      · rw [Fl.order_key c d]
        rcases Int.lt_trichotomy (Fl.key a0.toNat) (Fl.key a1.toNat) with e | e | e
        · rw [Fl.compare_lt e, decide_eq_false (fun h => by omega)]; rfl
        · rw [Fl.compare_eq e, decide_eq_true ⟨c, d, e⟩]; rfl
        · rw [Fl.compare_gt e, decide_eq_false (fun h => by omega)]; rfl
      · rw [Fl.order_nan_right (by omega), decide_eq_false (fun h => d h.2.1)]; rfl
    · rw [Fl.order_nan_left (by omega), decide_eq_false (fun h => c h.1)]; rfl
  generalize decide (Fl.rung a0.toNat ≤ Fl.inf ∧ Fl.rung a1.toNat ≤ Fl.inf ∧ Fl.key a0.toNat = Fl.key a1.toNat) = r at ho
  go_enter Try.func11, Try.ntmps11
  go_wp2
  go_ret
  exact ⟨rfl, Drawn0.refl _⟩

/-! ### transomref02_Equal: function 12 -/
def transomref02_Equal.j0 : Nat → Int → Int → Bool → Option (Bool)
  | 0, _, _, _ => none
  | k + 1, x0, x1, x12 => if x12 = true then (some false) else (if x0 = x1 then (some true) else ((transomref02_Class.f k x0).bind fun t118 => (if t118 = 3 then ((transomref02_Class.f k x1).bind fun t119 => (some (t119 == 3))) else (some false))))
def transomref02_Equal.f (k : Nat) (a0 : Int) (a1 : Int) : Option (Bool) := (transomref02_Class.f k a0).bind fun t116 => (if t116 = 1 then (transomref02_Equal.j0 k a0 a1 true) else ((transomref02_Class.f k a1).bind fun t117 => (transomref02_Equal.j0 k a0 a1 (t117 == 1))))
theorem transomref02_Equal.mono_l : ∀ k, (∀ y0 y1 y2, LeO (transomref02_Equal.j0 k y0 y1 y2) (transomref02_Equal.j0 (k + 1) y0 y1 y2))
  | 0 => fun _ _ _ r h => by simp [transomref02_Equal.j0] at h
  | k + 1 => by
    have ih0 := transomref02_Equal.mono_l k
    · intro y0 y1 y2
      unfold transomref02_Equal.j0
      repeat' first
      | (with_reducible exact ih0 _ _ _)
      | (with_reducible exact transomref02_Class.mono _ _)
      | (with_reducible exact LeO.refl _)
      | (with_reducible exact LeO.none _)
      | (with_reducible refine LeO.ite ?_ ?_)
      | (with_reducible refine LeO.bind ?_ (fun _ => ?_))
      | exact ih0 _ _ _
      | exact transomref02_Class.mono _ _
      | exact LeO.none _
      | refine LeO.ite ?_ ?_
      | refine LeO.bind ?_ (fun _ => ?_)
theorem transomref02_Equal.mono : ∀ a0 a1 k, LeO (transomref02_Equal.f k a0 a1) (transomref02_Equal.f (k + 1) a0 a1) := by
  intro a0 a1 k
  have ih0 := transomref02_Equal.mono_l k
  unfold transomref02_Equal.f
  repeat' first
      | (with_reducible exact ih0 _ _ _)
      | (with_reducible exact transomref02_Class.mono _ _)
      | (with_reducible exact LeO.refl _)
      | (with_reducible exact LeO.none _)
      | (with_reducible refine LeO.ite ?_ ?_)
      | (with_reducible refine LeO.bind ?_ (fun _ => ?_))
      | exact ih0 _ _ _
      | exact transomref02_Class.mono _ _
      | exact LeO.none _
      | refine LeO.ite ?_ ?_
      | refine LeO.bind ?_ (fun _ => ?_)
set_option maxHeartbeats 8000000 in
set_option maxRecDepth 100000 in
theorem transomref02_Equal.calls (k : Nat) (a0 : Int) (a1 : Int) (r : Bool) (w : World) (h : transomref02_Equal.f k a0 a1 = some r) :
    Calls Try.prog 12 #[.int .u64 a0, .int .u64 a1] w fun e w' => e = .returned (.bool r) ∧ Drawn0 w w' := by
  have H : ((transomref02_Class.f k a0).bind fun t116 => (if t116 = 1 then (transomref02_Equal.j0 k a0 a1 true) else ((transomref02_Class.f k a1).bind fun t117 => (transomref02_Equal.j0 k a0 a1 (t117 == 1))))) = some r := h
  clear h
  have HC3 := Aside0.mk H
  clear H
  go_enter Try.func12, Try.ntmps12
  go_upto_region 1 with (fail)
  go_cut [12] (fun v12 wc => ∃ (kq : Nat) (x12_2 : Bool), v12 = .bool x12_2 ∧ Aside0 (transomref02_Equal.j0 kq a0 a1 x12_2 = some r) ∧ Aside0 (kq ≤ k) ∧ Drawn0 w wc)
  case first =>
    have H := HC3.out
    clear HC3
    replace H := Option.bind_eq_some_iff.mp H
    obtain ⟨t116, A40, H⟩ := H
    replace H : (if t116 = 1 then (transomref02_Equal.j0 k a0 a1 true) else ((transomref02_Class.f k a1).bind fun t117 => (transomref02_Equal.j0 k a0 a1 (t117 == 1)))) = some r := H
    have A4 := Aside0.mk A40
    clear A40
    by_cases c5 : t116 = 1
    · rw [if_pos c5] at H
      have c5b0 : (t116 == 1) = true := beq_iff_eq.mpr c5
      have c5b1 : (t116 != 1) = false := bne_eq_false_iff_eq.mpr c5
      clear c5
      (first | rw [c5b0] | (simp only [i64_w, i32_w]; rw [c5b0]) | skip)
      have H' := Aside0.mk H
      clear H
      go_wp2_with (first | ((with_reducible refine gate_callee (f := 22) rfl ?_); refine goesL_ (some 6) rfl rfl Try.func22 (by kernel_rfl) rfl #[.int .u64 a0] rfl (by (try simp only [List.map_toArray, List.map_cons, List.map_nil]); first | done | rfl | (simp only [List.length_drop, List.length_take]; rfl) | (simp [Act.eval, IntKind.wrap_u64, IntKind.wrap_u8, IntKind.wrap_u32, wrap64]; omega)) ?_; (with_reducible refine (transomref02_Class.calls k a0 t116 _ A4.out).mono ?_); rintro e w' ⟨rfl, ⟨nd, rfl⟩⟩; refine ⟨_, rfl, ?_⟩))
      go_meet
      case rel => exact ⟨_, (true), (by first | rfl | (simp; done) | (simp [*]; done)), H', ⟨by first | omega | exact Nat.le_refl _⟩, by repeat (first | exact Drawn0.refl _ | apply Drawn0.step)⟩
    · rw [if_neg c5] at H
      have c5b0 : (t116 == 1) = false := beq_eq_false_iff_ne.mpr c5
      have c5b1 : (t116 != 1) = true := bne_iff_ne.mpr c5
      (first | rw [c5b0] | (simp only [i64_w, i32_w]; rw [c5b0]) | skip)
      replace H := Option.bind_eq_some_iff.mp H
      obtain ⟨t117, A60, H⟩ := H
      replace H : (transomref02_Equal.j0 k a0 a1 (t117 == 1)) = some r := H
      have A6 := Aside0.mk A60
      clear A60
      have H' := Aside0.mk H
      clear H
      go_wp2_with (first | ((with_reducible refine gate_callee (f := 22) rfl ?_); refine goesL_ (some 6) rfl rfl Try.func22 (by kernel_rfl) rfl #[.int .u64 a0] rfl (by (try simp only [List.map_toArray, List.map_cons, List.map_nil]); first | done | rfl | (simp only [List.length_drop, List.length_take]; rfl) | (simp [Act.eval, IntKind.wrap_u64, IntKind.wrap_u8, IntKind.wrap_u32, wrap64]; omega)) ?_; (with_reducible refine (transomref02_Class.calls k a0 t116 _ A4.out).mono ?_); rintro e w' ⟨rfl, ⟨nd, rfl⟩⟩; refine ⟨_, rfl, ?_⟩) | (go_at_call 22; (with_reducible refine (transomref02_Class.calls k a1 t117 _ A6.out).mono ?_); rintro e w' ⟨rfl, ⟨nd, rfl⟩⟩))
      go_meet
      case rel => exact ⟨_, ((t117 == 1)), (by first | rfl | (simp; done) | (simp [*]; done)), H', ⟨by first | omega | exact Nat.le_refl _⟩, by repeat (first | exact Drawn0.refl _ | apply Drawn0.step)⟩
  case rest =>
    clear HC3
    try clear c1
    try clear c2
    try clear p2
    try clear c5
    try clear c5b0
    try clear c5b1
    try clear p6
    obtain ⟨kq, x12_2, rfl, HA, HJ2, ⟨mc2, rfl⟩⟩ := hcut
    cases kq with
    | zero => exact absurd HA.out (by simp [transomref02_Equal.j0])
    | succ kj2 =>
      have H := HA.out
      clear HA
      simp only [transomref02_Equal.j0] at H
      by_cases c7 : x12_2 = true
      · subst c7
        have H1 : (some false) = some r := by rw [if_pos rfl] at H; exact H
        clear H
        have H := H1
        clear H1
        obtain rfl := Option.some.inj H
        go_wp2
        go_ret
        exact ⟨by first | rfl | (simp; done) | (simp [*]; done), by repeat (first | exact Drawn0.refl _ | apply Drawn0.step)⟩
      · replace c7 := Bool.eq_false_iff.mpr c7
        subst c7
        have H1 : (if a0 = a1 then (some true) else ((transomref02_Class.f kj2 a0).bind fun t118 => (if t118 = 3 then ((transomref02_Class.f kj2 a1).bind fun t119 => (some (t119 == 3))) else (some false)))) = some r := by rw [if_neg (show ¬ (false = true) by decide)] at H; exact H
        clear H
        have H := H1
        clear H1
        by_cases c8 : a0 = a1
        · rw [if_pos c8] at H
          have c8b0 : (a0 == a1) = true := beq_iff_eq.mpr c8
          have c8b1 : (a0 != a1) = false := bne_eq_false_iff_eq.mpr c8
          clear c8
          obtain rfl := Option.some.inj H
          go_wp2
          go_ret
          exact ⟨by first | rfl | (simp; done) | (simp [*]; done), by repeat (first | exact Drawn0.refl _ | apply Drawn0.step)⟩
        · rw [if_neg c8] at H
          have c8b0 : (a0 == a1) = false := beq_eq_false_iff_ne.mpr c8
          have c8b1 : (a0 != a1) = true := bne_iff_ne.mpr c8
          replace H := Option.bind_eq_some_iff.mp H
          obtain ⟨t118, A90, H⟩ := H
          replace H : (if t118 = 3 then ((transomref02_Class.f kj2 a1).bind fun t119 => (some (t119 == 3))) else (some false)) = some r := H
          have A9 := Aside0.mk A90
          clear A90
          by_cases c10 : t118 = 3
          · rw [if_pos c10] at H
            have c10b0 : (t118 == 3) = true := beq_iff_eq.mpr c10
            have c10b1 : (t118 != 3) = false := bne_eq_false_iff_eq.mpr c10
            clear c10
            replace H := Option.bind_eq_some_iff.mp H
            obtain ⟨t119, A110, H⟩ := H
            replace H : (some (t119 == 3)) = some r := H
            have A11 := Aside0.mk A110
            clear A110
            obtain rfl := Option.some.inj H
            go_wp2_with (first | (go_at_call 22; (with_reducible refine (transomref02_Class.calls kj2 a0 t118 _ A9.out).mono ?_); rintro e w' ⟨rfl, ⟨nd, rfl⟩⟩) | (go_at_call 22; (with_reducible refine (transomref02_Class.calls kj2 a1 t119 _ A11.out).mono ?_); rintro e w' ⟨rfl, ⟨nd, rfl⟩⟩))
            go_ret
            exact ⟨by first | rfl | (simp; done) | (simp [*]; done), by repeat (first | exact Drawn0.refl _ | apply Drawn0.step)⟩
          · rw [if_neg c10] at H
            have c10b0 : (t118 == 3) = false := beq_eq_false_iff_ne.mpr c10
            have c10b1 : (t118 != 3) = true := bne_iff_ne.mpr c10
            obtain rfl := Option.some.inj H
            go_wp2_with (first | (go_at_call 22; (with_reducible refine (transomref02_Class.calls kj2 a0 t118 _ A9.out).mono ?_); rintro e w' ⟨rfl, ⟨nd, rfl⟩⟩))
            go_ret
            exact ⟨by first | rfl | (simp; done) | (simp [*]; done), by repeat (first | exact Drawn0.refl _ | apply Drawn0.step)⟩

-- NOT PRINTED: function 27 (math_Float64bits)

/-! ### reals_FromInt: function 14 -/
theorem reals_FromInt.tobits (b : Nat) (W : World) : (callFunc 27 #[.float .f64 b]).run Try.prog W = .ok (.value (.int .u64 b)) W :=
  run_callFunc_extern (e := Extern.MathFloatBits.float64bits) Try.func27 (by kernel_rfl) (by kernel_rfl) (by kernel_rfl) (by kernel_rfl) _ W
def reals_FromInt.f (a0 : Int) : Option (Int × Bool) :=
  if -9223372036854775808 ≤ a0 ∧ a0 ≤ 9223372036854775807 then some (if Fl.exact a0.natAbs = true then (((Ieee.double.word (decide (a0 < 0)) (Fl.near a0.natAbs) : Nat) : Int), true) else (0, false)) else none
theorem reals_FromInt.edge : Fl.key 4890909195324358656 = 4890909195324358656 ∧ Fl.rung 4890909195324358656 = 4890909195324358656 := by decide
/-- It is too great. -/
theorem reals_FromInt.high (n : Int) (F : Nat) (hF : floatOfInt .f64 n = F) (ho : (FloatKind.f64.format.order F 4890909195324358656 == some .gt || FloatKind.f64.format.order F 4890909195324358656 == some .eq) = true) (w : World) :
    Calls Try.prog 14 #[.int .i64 n] w fun e w' => e = .returned (.tuple #[.int .u64 0, .bool false]) ∧ Drawn0 w w' := by
  have hc : ∀ W, (convert 3 37 (.int .i64 n)).run Try.prog W = .ok (.float .f64 F) W := fun W => by rw [← hF]; exact run_convert_int_float W 3 37 .i64 .f64 n (by kernel_rfl) Try.underlying37
  clear hF
  go_enter Try.func14, Try.ntmps14
  go_wp2
  go_ret2
  exact ⟨rfl, Drawn0.refl _⟩
theorem reals_FromInt.low (n m : Int) (F : Nat) (hF : floatOfInt .f64 n = F) (ho : (FloatKind.f64.format.order F 4890909195324358656 == some .gt || FloatKind.f64.format.order F 4890909195324358656 == some .eq) = false)
    (hm : floatToIntVal .f64 F .i64 = some m) (w : World) :
    Calls Try.prog 14 #[.int .i64 n] w fun e w' => e = .returned (.tuple #[.int .u64 (if m = n then F else 0), .bool (decide (m = n))]) ∧ Drawn0 w w' := by
  have hc : ∀ W, (convert 3 37 (.int .i64 n)).run Try.prog W = .ok (.float .f64 F) W := fun W => by rw [← hF]; exact run_convert_int_float W 3 37 .i64 .f64 n (by kernel_rfl) Try.underlying37
  have hd : ∀ W, (convert 37 3 (.float .f64 F)).run Try.prog W = .ok (.int .i64 m) W := fun W => run_convert_float_int W 37 3 .f64 .i64 F m (by kernel_rfl) Try.underlying3 hm
  have hb := reals_FromInt.tobits F
  clear hF hm
  by_cases c : m = n
  · rw [if_pos c, decide_eq_true c]
    have c1 : (m != n) = false := bne_eq_false_iff_eq.mpr c
    clear c
    go_enter Try.func14, Try.ntmps14
    go_wp2
    go_ret2
    exact ⟨rfl, Drawn0.refl _⟩
  · rw [if_neg c, decide_eq_false c]
    have c1 : (m != n) = true := bne_iff_ne.mpr c
    clear c
    go_enter Try.func14, Try.ntmps14
    go_wp2
    go_ret2
    exact ⟨rfl, Drawn0.refl _⟩
theorem reals_FromInt.calls (a0 : Int) (r1 : Int) (r2 : Bool) (w : World) (h : reals_FromInt.f a0 = some (r1, r2)) :
    Calls Try.prog 14 #[.int .i64 a0] w fun e w' => e = .returned (.tuple #[.int .u64 r1, .bool r2]) ∧ Drawn0 w w' := by
  unfold reals_FromInt.f at h
  by_cases hd : -9223372036854775808 ≤ a0 ∧ a0 ≤ 9223372036854775807
  case neg => rw [if_neg hd] at h; exact absurd h (by simp)
  rw [if_pos hd] at h
  obtain ⟨he1, he2⟩ := reals_FromInt.edge
  have hm : a0.natAbs < 18446744073709551616 := by omega
  have hF := Fl.ofInt_eq (n := a0) hm
  have hlt := Fl.near_lt hm
  obtain ⟨hr, hs⟩ := Fl.word_rung (s := decide (a0 < 0)) (r := Fl.near a0.natAbs) (Nat.le_of_lt hlt)
  generalize hFe : Ieee.double.word (decide (a0 < 0)) (Fl.near a0.natAbs) = F at hF hr hs h
  have hk : Fl.key F = if a0 < 0 then -(Fl.near a0.natAbs : Int) else (Fl.near a0.natAbs : Int) := by
    unfold Fl.key; rw [hr, hs]
    by_cases c : a0 < 0
    · rw [decide_eq_true c, if_pos rfl, if_pos c]
    · rw [decide_eq_false c, if_neg (by simp), if_neg c]
  have hord := Fl.order_key (x := F) (y := 4890909195324358656) (by rw [hr]; omega) (by rw [he2]; decide)
  rw [he1] at hord
  have fm : FloatKind.f64.format = Ieee.double := rfl
  have hsg : Fl.sg (Fl.neg F) (Fl.T (Fl.rung F)) = if a0 < 0 then -(Fl.T (Fl.near a0.natAbs) : Int) else (Fl.T (Fl.near a0.natAbs) : Int) := by
    unfold Fl.sg; rw [hr, hs]
    by_cases c : a0 < 0
    · rw [decide_eq_true c, if_pos rfl, if_pos c]
    · rw [decide_eq_false c, if_neg (by simp), if_neg c]
  have hval := Fl.toIntVal (b := F) (by rw [hr]; exact hlt)
  rw [hsg] at hval
  by_cases hx : Fl.exact a0.natAbs = true
  · rw [if_pos hx] at h
    simp only [Option.some.injEq, Prod.mk.injEq] at h
    obtain ⟨rfl, rfl⟩ := h
    have hT := Fl.T_exact hx
    rw [hT] at hval
    have hn : (if a0 < 0 then -(a0.natAbs : Int) else (a0.natAbs : Int)) = a0 := by split <;> omega
    rw [hn] at hval
    have hkl : Fl.key F < 4890909195324358656 := by
      rw [hk]
      by_cases c : a0 < 0
      · rw [if_pos c]; omega
      · rw [if_neg c]
        rcases Nat.lt_or_ge (Fl.near a0.natAbs) 4890909195324358656 with d | d
        · omega
        · have := Fl.T_mono d
          rw [Fl.T_edge, hT] at this
          omega
    have := reals_FromInt.low a0 a0 F hF (by rw [fm, hord, Fl.compare_lt hkl]; rfl) (hval hd.1 hd.2) w
    rw [if_pos rfl, decide_eq_true rfl] at this
    exact this
  · rw [if_neg hx] at h
    simp only [Option.some.injEq, Prod.mk.injEq] at h
    obtain ⟨rfl, rfl⟩ := h
    have hx' : Fl.exact a0.natAbs = false := by simpa using hx
    obtain ⟨hne, hT⟩ := Fl.T_inexact hx'
    by_cases hkl : Fl.key F < 4890909195324358656
    · have h0 : a0.natAbs ≠ 0 := by intro e; rw [e] at hx'; exact absurd hx' (by decide)
      have hK : Fl.T (Fl.near a0.natAbs) ≤ (if a0 < 0 then 9223372036854775808 else 9223372036854775807) := by
        by_cases c : a0 < 0
        · rw [if_pos c, hT]
          have hne2 : a0.natAbs ≠ 9223372036854775808 := by intro e; rw [e] at hx'; exact absurd hx' (by decide +kernel)
          have hl : a0.natAbs.log2 ≤ 62 := by
            have := (Nat.log2_lt h0).2 (show a0.natAbs < 2 ^ 63 by omega)
            omega
          have hk2 := (Fl.kept_range h0).2
          calc Fl.kept a0.natAbs * 2 ^ (a0.natAbs.log2 - 52) ≤ 9007199254740992 * 2 ^ (a0.natAbs.log2 - 52) := Nat.mul_le_mul_right _ hk2
            _ ≤ 9007199254740992 * 2 ^ 10 := Nat.mul_le_mul_left _ (Nat.pow_le_pow_right (by omega) (by omega))
            _ = 9223372036854775808 := by decide
        · rw [if_neg c]
          rw [hk, if_neg c] at hkl
          have := Fl.T_mono (show Fl.near a0.natAbs ≤ 4890909195324358655 by omega)
          rw [Fl.T_below] at this
          omega
      have := reals_FromInt.low a0 _ F hF (by rw [fm, hord, Fl.compare_lt hkl]; rfl) (hval (by split at hK <;> split <;> omega) (by split at hK <;> split <;> omega)) w
      have hne3 : ¬ (if a0 < 0 then -(Fl.T (Fl.near a0.natAbs) : Int) else (Fl.T (Fl.near a0.natAbs) : Int)) = a0 := by split <;> omega
      rw [if_neg hne3, decide_eq_false hne3] at this
      exact this
    · refine reals_FromInt.high a0 F hF ?_ w
      rw [fm, hord]
      rcases Int.lt_or_eq_of_le (Int.not_lt.1 hkl) with e | e
      · rw [Fl.compare_gt e]; rfl
      · rw [Fl.compare_eq e.symm]; rfl

-- NOT PRINTED: function 34 (math_archTrunc)

-- NOT PRINTED: function 33 (math_Abs)

-- NOT PRINTED: function 36 (math_Copysign)

-- NOT PRINTED: function 35 (math_trunc)

-- NOT PRINTED: function 28 (math_Trunc)

end Go.Proofs.Ytdcodlbelhbihaa.PRealsTwo
