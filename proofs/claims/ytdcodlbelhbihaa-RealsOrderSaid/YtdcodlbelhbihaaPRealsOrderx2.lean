-- By a program of this session (a print over functions that are proved by hand), for this claim.
import Derived.Test.YtdcodlbelhbihaaPRealsOrderx0
import Derived.Test.YtdcodlbelhbihaaPRealsOrderx1
namespace Go.Proofs.Ytdcodlbelhbihaa.PRealsOrder
open Go.RowKit Go.Proofs.YtdcodlbelhbihaaW.PrintWords Go.Proofs.YtdcodlbelhbihaaW.PrintLast Go.Proofs.YtdcodlbelhbihaaW.PrintMore
attribute [local go_sem] max2_int min2_int max_two min_two max_three min_three max_four min_four   -- for this text's walks alone
set_option linter.unusedVariables false
set_option linter.unusedSimpArgs false

/-! ### transomlaw02_RealsOrder: function 5 -/
def transomlaw02_RealsOrder.j0 : Nat → Int → Int → Int → Int → Bool → Option (Bool)
  | 0, _, _, _, _, _ => none
  | k + 1, x0, x1, x5, x7, x24 => if x24 = true then ((transomlaw02_awake.f).bind fun t122 => (some t122)) else ((reals_Cmp.f x5 x7).bind fun t123 => (if ((decide (x0 < x1)) == (decide (t123 < 0))) = true then ((reals_Equal.f x5 x7).bind fun t124 => (if ((x0 == x1) == t124) = true then ((reals_Cmp.f x5 9221120237041090560).bind fun t125 => (if t125 < 0 then ((transomlaw02_awake.f).bind fun t126 => (some t126)) else (some false))) else (some false))) else (some false)))
def transomlaw02_RealsOrder.f (k : Nat) (a0 : Int) (a1 : Int) : Option (Bool) := (reals_FromInt.f a0).bind fun bt118 => ((reals_FromInt.f a1).bind fun bt120 => (if bt118.2 = true then (transomlaw02_RealsOrder.j0 k a0 a1 bt118.1 bt120.1 (!bt120.2)) else (transomlaw02_RealsOrder.j0 k a0 a1 bt118.1 bt120.1 true)))
theorem transomlaw02_RealsOrder.mono_l : ∀ k, (∀ y0 y1 y2 y3 y4, LeO (transomlaw02_RealsOrder.j0 k y0 y1 y2 y3 y4) (transomlaw02_RealsOrder.j0 (k + 1) y0 y1 y2 y3 y4))
  | 0 => fun _ _ _ _ _ r h => by simp [transomlaw02_RealsOrder.j0] at h
  | k + 1 => by
    have ih0 := transomlaw02_RealsOrder.mono_l k
    · intro y0 y1 y2 y3 y4
      unfold transomlaw02_RealsOrder.j0
      repeat' first
      | (with_reducible exact ih0 _ _ _ _ _)
      | (with_reducible exact LeO.refl _)
      | (with_reducible exact LeO.none _)
      | (with_reducible refine LeO.ite ?_ ?_)
      | (with_reducible refine LeO.bind ?_ (fun _ => ?_))
      | exact ih0 _ _ _ _ _
      | exact LeO.none _
      | refine LeO.ite ?_ ?_
      | refine LeO.bind ?_ (fun _ => ?_)
theorem transomlaw02_RealsOrder.mono : ∀ a0 a1 k, LeO (transomlaw02_RealsOrder.f k a0 a1) (transomlaw02_RealsOrder.f (k + 1) a0 a1) := by
  intro a0 a1 k
  have ih0 := transomlaw02_RealsOrder.mono_l k
  unfold transomlaw02_RealsOrder.f
  repeat' first
      | (with_reducible exact ih0 _ _ _ _ _)
      | (with_reducible exact LeO.refl _)
      | (with_reducible exact LeO.none _)
      | (with_reducible refine LeO.ite ?_ ?_)
      | (with_reducible refine LeO.bind ?_ (fun _ => ?_))
      | exact ih0 _ _ _ _ _
      | exact LeO.none _
      | refine LeO.ite ?_ ?_
      | refine LeO.bind ?_ (fun _ => ?_)
set_option maxHeartbeats 8000000 in
set_option maxRecDepth 100000 in
theorem transomlaw02_RealsOrder.calls (k : Nat) (a0 : Int) (a1 : Int) (r : Bool) (w : World) (h : transomlaw02_RealsOrder.f k a0 a1 = some r) :
    Calls Try.prog 5 #[.int .i64 a0, .int .i64 a1] w fun e w' => e = .returned (.bool r) ∧ Drawn0 w w' := by
  have H : ((reals_FromInt.f a0).bind fun bt118 => ((reals_FromInt.f a1).bind fun bt120 => (if bt118.2 = true then (transomlaw02_RealsOrder.j0 k a0 a1 bt118.1 bt120.1 (!bt120.2)) else (transomlaw02_RealsOrder.j0 k a0 a1 bt118.1 bt120.1 true)))) = some r := h
  clear h
  replace H := Option.bind_eq_some_iff.mp H
  obtain ⟨⟨t118, t119⟩, A30, H⟩ := H
  replace H : ((reals_FromInt.f a1).bind fun bt120 => (if t119 = true then (transomlaw02_RealsOrder.j0 k a0 a1 t118 bt120.1 (!bt120.2)) else (transomlaw02_RealsOrder.j0 k a0 a1 t118 bt120.1 true))) = some r := H
  have A3 := Aside0.mk A30
  clear A30
  replace H := Option.bind_eq_some_iff.mp H
  obtain ⟨⟨t120, t121⟩, A40, H⟩ := H
  replace H : (if t119 = true then (transomlaw02_RealsOrder.j0 k a0 a1 t118 t120 (!t121)) else (transomlaw02_RealsOrder.j0 k a0 a1 t118 t120 true)) = some r := H
  have A4 := Aside0.mk A40
  clear A40
  have HC5 := Aside0.mk H
  clear H
  go_enter Try.func5, Try.ntmps5
  go_upto_region 3 with (first | ((with_reducible refine gate_callee (f := 14) rfl ?_); refine goesL_ (some 11) rfl rfl Try.func14 (by kernel_rfl) rfl #[.int .i64 a0] rfl (by (try simp only [List.map_toArray, List.map_cons, List.map_nil]); first | done | rfl | (simp only [List.length_drop, List.length_take]; rfl) | (simp [Act.eval, IntKind.wrap_u64, IntKind.wrap_u8, IntKind.wrap_u32, wrap64]; omega)) ?_; (with_reducible refine (reals_FromInt.calls a0 t118 t119 _ A3.out).mono ?_); rintro e w' ⟨rfl, ⟨nd, rfl⟩⟩; refine ⟨_, rfl, ?_⟩) | ((with_reducible refine gate_callee (f := 14) rfl ?_); refine goesL_ (some 16) rfl rfl Try.func14 (by kernel_rfl) rfl #[.int .i64 a1] rfl (by (try simp only [List.map_toArray, List.map_cons, List.map_nil]); first | done | rfl | (simp only [List.length_drop, List.length_take]; rfl) | (simp [Act.eval, IntKind.wrap_u64, IntKind.wrap_u8, IntKind.wrap_u32, wrap64]; omega)) ?_; (with_reducible refine (reals_FromInt.calls a1 t120 t121 _ A4.out).mono ?_); rintro e w' ⟨rfl, ⟨nd, rfl⟩⟩; refine ⟨_, rfl, ?_⟩))
  (try simp only [Act.put, List.setIfInBounds_toArray, List.set_cons_zero, List.set_cons_succ])
  go_cut [24] (fun v24 wc => ∃ (kq : Nat) (x24_4 : Bool), v24 = .bool x24_4 ∧ Aside0 (transomlaw02_RealsOrder.j0 kq a0 a1 t118 t120 x24_4 = some r) ∧ Aside0 (kq ≤ k) ∧ Drawn0 w wc)
  case first =>
    have H := HC5.out
    clear HC5
    by_cases c6 : t119 = true
    · subst c6
      have H1 : (transomlaw02_RealsOrder.j0 k a0 a1 t118 t120 (!t121)) = some r := by rw [if_pos rfl] at H; exact H
      clear H
      have H := H1
      clear H1
      have H' := Aside0.mk H
      clear H
      go_wp2
      go_meet
      case rel => exact ⟨_, (!t121), (by first | rfl | (simp; done) | (simp [*]; done)), H', ⟨by first | omega | exact Nat.le_refl _⟩, by repeat (first | exact Drawn0.refl _ | apply Drawn0.step)⟩
    · replace c6 := Bool.eq_false_iff.mpr c6
      subst c6
      have H1 : (transomlaw02_RealsOrder.j0 k a0 a1 t118 t120 true) = some r := by rw [if_neg (show ¬ (false = true) by decide)] at H; exact H
      clear H
      have H := H1
      clear H1
      have H' := Aside0.mk H
      clear H
      go_wp2
      go_meet
      case rel => exact ⟨_, (true), (by first | rfl | (simp; done) | (simp [*]; done)), H', ⟨by first | omega | exact Nat.le_refl _⟩, by repeat (first | exact Drawn0.refl _ | apply Drawn0.step)⟩
  case rest =>
    clear HC5
    try clear c1
    try clear p2
    try clear c5
    try clear c6
    try clear p6
    obtain ⟨kq, x24_4, rfl, HA, HJ4, ⟨mc4, rfl⟩⟩ := hcut
    cases kq with
    | zero => exact absurd HA.out (by simp [transomlaw02_RealsOrder.j0])
    | succ kj4 =>
      have H := HA.out
      clear HA
      simp only [transomlaw02_RealsOrder.j0] at H
      by_cases c7 : x24_4 = true
      · subst c7
        have H1 : ((transomlaw02_awake.f).bind fun t122 => (some t122)) = some r := by rw [if_pos rfl] at H; exact H
        clear H
        have H := H1
        clear H1
        replace H := Option.bind_eq_some_iff.mp H
        obtain ⟨t122, A80, H⟩ := H
        replace H : (some t122) = some r := H
        have A8 := Aside0.mk A80
        clear A80
        obtain rfl := Option.some.inj H
        go_wp2_with (first | ((with_reducible refine gate_callee (f := 13) rfl ?_); refine goesL_ (some 25) rfl rfl Try.func13 (by kernel_rfl) rfl #[] rfl (by (try simp only [List.map_toArray, List.map_cons, List.map_nil]); first | done | rfl | (simp only [List.length_drop, List.length_take]; rfl) | (simp [Act.eval, IntKind.wrap_u64, IntKind.wrap_u8, IntKind.wrap_u32, wrap64]; omega)) ?_; (with_reducible refine (transomlaw02_awake.calls  t122 _ A8.out).mono ?_); rintro e w' ⟨rfl, ⟨nd, rfl⟩⟩; refine ⟨_, rfl, ?_⟩))
        go_ret
        exact ⟨by first | rfl | (simp; done) | (simp [*]; done), by repeat (first | exact Drawn0.refl _ | apply Drawn0.step)⟩
      · replace c7 := Bool.eq_false_iff.mpr c7
        subst c7
        have H1 : ((reals_Cmp.f t118 t120).bind fun t123 => (if ((decide (a0 < a1)) == (decide (t123 < 0))) = true then ((reals_Equal.f t118 t120).bind fun t124 => (if ((a0 == a1) == t124) = true then ((reals_Cmp.f t118 9221120237041090560).bind fun t125 => (if t125 < 0 then ((transomlaw02_awake.f).bind fun t126 => (some t126)) else (some false))) else (some false))) else (some false))) = some r := by rw [if_neg (show ¬ (false = true) by decide)] at H; exact H
        clear H
        have H := H1
        clear H1
        replace H := Option.bind_eq_some_iff.mp H
        obtain ⟨t123, A90, H⟩ := H
        replace H : (if ((decide (a0 < a1)) == (decide (t123 < 0))) = true then ((reals_Equal.f t118 t120).bind fun t124 => (if ((a0 == a1) == t124) = true then ((reals_Cmp.f t118 9221120237041090560).bind fun t125 => (if t125 < 0 then ((transomlaw02_awake.f).bind fun t126 => (some t126)) else (some false))) else (some false))) else (some false)) = some r := H
        have A9 := Aside0.mk A90
        clear A90
        by_cases c10 : ((decide (a0 < a1)) == (decide (t123 < 0))) = true
        · rw [if_pos c10] at H
          have c10b0 : ((decide (a0 < a1)) == (decide (t123 < 0))) = true := c10
          (try (have c10b1 : decide ((decide (a0 < a1)) = (decide (t123 < 0))) = true := by simpa using c10))
          (try (have c10b2 : ((decide (a0 < a1)) == (decide (t123 < 0))) = true := by simpa using c10))
          clear c10
          replace H := Option.bind_eq_some_iff.mp H
          obtain ⟨t124, A110, H⟩ := H
          replace H : (if ((a0 == a1) == t124) = true then ((reals_Cmp.f t118 9221120237041090560).bind fun t125 => (if t125 < 0 then ((transomlaw02_awake.f).bind fun t126 => (some t126)) else (some false))) else (some false)) = some r := H
          have A11 := Aside0.mk A110
          clear A110
          by_cases c12 : ((a0 == a1) == t124) = true
          · rw [if_pos c12] at H
            have c12b0 : ((a0 == a1) == t124) = true := c12
            (try (have c12b1 : decide ((a0 == a1) = t124) = true := by simpa using c12))
            (try (have c12b2 : ((a0 == a1) == t124) = true := by simpa using c12))
            clear c12
            replace H := Option.bind_eq_some_iff.mp H
            obtain ⟨t125, A130, H⟩ := H
            replace H : (if t125 < 0 then ((transomlaw02_awake.f).bind fun t126 => (some t126)) else (some false)) = some r := H
            have A13 := Aside0.mk A130
            clear A130
            by_cases c14 : t125 < 0
            · rw [if_pos c14] at H
              have c14b0 : decide (t125 < 0) = true := decide_eq_true c14
              clear c14
              replace H := Option.bind_eq_some_iff.mp H
              obtain ⟨t126, A150, H⟩ := H
              replace H : (some t126) = some r := H
              have A15 := Aside0.mk A150
              clear A150
              obtain rfl := Option.some.inj H
              go_wp2_with (first | ((with_reducible refine gate_callee (f := 9) rfl ?_); refine goesL_ (some 31) rfl rfl Try.func9 (by kernel_rfl) rfl #[.int .u64 t118, .int .u64 t120] rfl (by (try simp only [List.map_toArray, List.map_cons, List.map_nil]); first | done | rfl | (simp only [List.length_drop, List.length_take]; rfl) | (simp [Act.eval, IntKind.wrap_u64, IntKind.wrap_u8, IntKind.wrap_u32, wrap64]; omega)) ?_; (with_reducible refine (reals_Cmp.calls t118 t120 t123 _ A9.out).mono ?_); rintro e w' ⟨rfl, ⟨nd, rfl⟩⟩; refine ⟨_, rfl, ?_⟩) | (go_at_call 11; (with_reducible refine (reals_Equal.calls t118 t120 t124 _ A11.out).mono ?_); rintro e w' ⟨rfl, ⟨nd, rfl⟩⟩) | (go_at_call 9; (with_reducible refine (reals_Cmp.calls t118 9221120237041090560 t125 _ A13.out).mono ?_); rintro e w' ⟨rfl, ⟨nd, rfl⟩⟩) | (go_at_call 13; (with_reducible refine (transomlaw02_awake.calls  t126 _ A15.out).mono ?_); rintro e w' ⟨rfl, ⟨nd, rfl⟩⟩))
              go_ret
              exact ⟨by first | rfl | (simp; done) | (simp [*]; done), by repeat (first | exact Drawn0.refl _ | apply Drawn0.step)⟩
            · rw [if_neg c14] at H
              have c14b0 : decide (t125 < 0) = false := decide_eq_false c14
              clear c14
              obtain rfl := Option.some.inj H
              go_wp2_with (first | ((with_reducible refine gate_callee (f := 9) rfl ?_); refine goesL_ (some 31) rfl rfl Try.func9 (by kernel_rfl) rfl #[.int .u64 t118, .int .u64 t120] rfl (by (try simp only [List.map_toArray, List.map_cons, List.map_nil]); first | done | rfl | (simp only [List.length_drop, List.length_take]; rfl) | (simp [Act.eval, IntKind.wrap_u64, IntKind.wrap_u8, IntKind.wrap_u32, wrap64]; omega)) ?_; (with_reducible refine (reals_Cmp.calls t118 t120 t123 _ A9.out).mono ?_); rintro e w' ⟨rfl, ⟨nd, rfl⟩⟩; refine ⟨_, rfl, ?_⟩) | (go_at_call 11; (with_reducible refine (reals_Equal.calls t118 t120 t124 _ A11.out).mono ?_); rintro e w' ⟨rfl, ⟨nd, rfl⟩⟩) | (go_at_call 9; (with_reducible refine (reals_Cmp.calls t118 9221120237041090560 t125 _ A13.out).mono ?_); rintro e w' ⟨rfl, ⟨nd, rfl⟩⟩))
              go_ret
              exact ⟨by first | rfl | (simp; done) | (simp [*]; done), by repeat (first | exact Drawn0.refl _ | apply Drawn0.step)⟩
          · rw [if_neg c12] at H
            have c12b0 : ((a0 == a1) == t124) = false := by simpa using c12
            (try (have c12b1 : decide ((a0 == a1) = t124) = false := by simpa using c12))
            (try (have c12b2 : ((a0 == a1) == t124) = false := by simpa using c12))
            (try (have c12b3 : ¬ ((a0 == a1) = t124) := by simpa using c12))
            clear c12
            obtain rfl := Option.some.inj H
            go_wp2_with (first | ((with_reducible refine gate_callee (f := 9) rfl ?_); refine goesL_ (some 31) rfl rfl Try.func9 (by kernel_rfl) rfl #[.int .u64 t118, .int .u64 t120] rfl (by (try simp only [List.map_toArray, List.map_cons, List.map_nil]); first | done | rfl | (simp only [List.length_drop, List.length_take]; rfl) | (simp [Act.eval, IntKind.wrap_u64, IntKind.wrap_u8, IntKind.wrap_u32, wrap64]; omega)) ?_; (with_reducible refine (reals_Cmp.calls t118 t120 t123 _ A9.out).mono ?_); rintro e w' ⟨rfl, ⟨nd, rfl⟩⟩; refine ⟨_, rfl, ?_⟩) | (go_at_call 11; (with_reducible refine (reals_Equal.calls t118 t120 t124 _ A11.out).mono ?_); rintro e w' ⟨rfl, ⟨nd, rfl⟩⟩))
            go_ret
            exact ⟨by first | rfl | (simp; done) | (simp [*]; done), by repeat (first | exact Drawn0.refl _ | apply Drawn0.step)⟩
        · rw [if_neg c10] at H
          have c10b0 : ((decide (a0 < a1)) == (decide (t123 < 0))) = false := by simpa using c10
          (try (have c10b1 : decide ((decide (a0 < a1)) = (decide (t123 < 0))) = false := by simpa using c10))
          (try (have c10b2 : ((decide (a0 < a1)) == (decide (t123 < 0))) = false := by simpa using c10))
          (try (have c10b3 : ¬ ((decide (a0 < a1)) = (decide (t123 < 0))) := by simpa using c10))
          clear c10
          obtain rfl := Option.some.inj H
          go_wp2_with (first | ((with_reducible refine gate_callee (f := 9) rfl ?_); refine goesL_ (some 31) rfl rfl Try.func9 (by kernel_rfl) rfl #[.int .u64 t118, .int .u64 t120] rfl (by (try simp only [List.map_toArray, List.map_cons, List.map_nil]); first | done | rfl | (simp only [List.length_drop, List.length_take]; rfl) | (simp [Act.eval, IntKind.wrap_u64, IntKind.wrap_u8, IntKind.wrap_u32, wrap64]; omega)) ?_; (with_reducible refine (reals_Cmp.calls t118 t120 t123 _ A9.out).mono ?_); rintro e w' ⟨rfl, ⟨nd, rfl⟩⟩; refine ⟨_, rfl, ?_⟩))
          go_ret
          exact ⟨by first | rfl | (simp; done) | (simp [*]; done), by repeat (first | exact Drawn0.refl _ | apply Drawn0.step)⟩

/-- THE ONE PURE STATEMENT of transomlaw02_RealsOrder: yours. -/
def transomlaw02_RealsOrder.Pure : Prop := ∀ (a0 : Int) (a1 : Int), (Lit.int .i64 a0).wf = true → (Lit.int .i64 a1).wf = true → ∃ k, transomlaw02_RealsOrder.f k a0 a1 = some true
theorem transomlaw02_RealsOrder.walk (P : transomlaw02_RealsOrder.Pure) (a0 : Int) (a1 : Int) (w : World) (w0 : (Lit.int .i64 a0).wf = true) (w1 : (Lit.int .i64 a1).wf = true) :
    Calls Try.prog 5 #[.int .i64 a0, .int .i64 a1] w fun e w' => e = .returned (.bool true) ∧ Below w.heap.size w w' := by
  obtain ⟨k, h⟩ := P a0 a1 w0 w1
  refine (transomlaw02_RealsOrder.calls k a0 a1 true w h).mono ?_
  rintro e w' ⟨rfl, hd⟩
  exact ⟨rfl, hd.below⟩

end Go.Proofs.Ytdcodlbelhbihaa.PRealsOrder
