-- By a program of this session (a print over functions that are proved by hand), for this claim.
import Derived.Test.YtoojmoefkdobpaaPPackBackx0
import Derived.Test.YtoojmoefkdobpaaPPackBackx1
namespace Go.Proofs.Ytoojmoefkdobpaa.PPackBack
open Go.RowKit Go.Proofs.YtoojmoefkdobpaaW.PrintWords Go.Proofs.YtoojmoefkdobpaaW.PrintLast Go.Proofs.YtoojmoefkdobpaaW.PrintMore
attribute [local go_sem] max2_int min2_int max_two min_two max_three min_three max_four min_four   -- for this text's walks alone
set_option linter.unusedVariables false
set_option linter.unusedSimpArgs false

/-! ### transomlaw03_PackBack: function 5 -/
mutual
def transomlaw03_PackBack.j0 : Nat → Int → ByteArray → ByteArray → Bool → Option (Bool)
  | 0, _, _, _, _ => none
  | k + 1, x0, x1, x2, x27 => if x27 = true then ((transomlaw03_awake.f k).bind fun t130 => (some t130)) else ((pack_Uint.f k (IntKind.u64.wrap (x0))).bind fun t131 => (if t131.size + x2.size ≤ 9223372036854775807 then ((pack_ReadUint.f (t131 ++ x2)).bind fun bt132 => ((pack_Int.f k x0).bind fun t135 => (if t135.size + x2.size ≤ 9223372036854775807 then ((pack_ReadInt.f (t135 ++ x2)).bind fun bt136 => ((pack_Text.f k x1).bind fun t139 => (if t139.size + x2.size ≤ 9223372036854775807 then ((pack_ReadText.f (t139 ++ x2)).bind fun bt140 => (if bt132.1 = (IntKind.u64.wrap (x0)) then (if bt132.2.1.toList = x2.toList then (if bt132.2.2 = 0 then (if bt136.1 = x0 then (if bt136.2.1.toList = x2.toList then (if bt136.2.2 = 0 then (if bt140.1.toList = x1.toList then (if bt140.2.1.toList = x2.toList then (transomlaw03_PackBack.j1 k x1 (bt140.2.2 != 0)) else (transomlaw03_PackBack.j1 k x1 true)) else (transomlaw03_PackBack.j1 k x1 true)) else (transomlaw03_PackBack.j1 k x1 true)) else (transomlaw03_PackBack.j1 k x1 true)) else (transomlaw03_PackBack.j1 k x1 true)) else (transomlaw03_PackBack.j1 k x1 true)) else (transomlaw03_PackBack.j1 k x1 true)) else (transomlaw03_PackBack.j1 k x1 true))) else (none)))) else (none)))) else (none)))
def transomlaw03_PackBack.j1 : Nat → ByteArray → Bool → Option (Bool)
  | 0, _, _ => none
  | k + 1, x1, x97 => if x97 = true then (some false) else ((pack_Text.f k x1).bind fun t143 => (if 0 ≤ (wrap64 ((t143.size : Int) / 2)) then (if (wrap64 ((t143.size : Int) / 2)) ≤ (t143.size : Int) then ((pack_ReadText.f (t143.extract 0 ((wrap64 ((t143.size : Int) / 2)) : Int).toNat)).bind fun bt144 => (if (t143.size : Int) < 1 then ((transomlaw03_awake.f k).bind fun t147 => (some t147)) else (if bt144.2.2 = 3 then ((transomlaw03_awake.f k).bind fun t148 => (some t148)) else (some false)))) else (none)) else (none)))
end
def transomlaw03_PackBack.f (k : Nat) (a0 : Int) (a1 : ByteArray) (a2 : ByteArray) : Option (Bool) := if (a1.size : Int) > 2000 then (transomlaw03_PackBack.j0 k a0 a1 a2 true) else (transomlaw03_PackBack.j0 k a0 a1 a2 (decide ((a2.size : Int) > 2000)))
theorem transomlaw03_PackBack.mono_l : ∀ k, (∀ y0 y1 y2 y3, LeO (transomlaw03_PackBack.j0 k y0 y1 y2 y3) (transomlaw03_PackBack.j0 (k + 1) y0 y1 y2 y3)) ∧ (∀ y0 y1, LeO (transomlaw03_PackBack.j1 k y0 y1) (transomlaw03_PackBack.j1 (k + 1) y0 y1))
  | 0 => ⟨fun _ _ _ _ r h => by simp [transomlaw03_PackBack.j0] at h, fun _ _ r h => by simp [transomlaw03_PackBack.j1] at h⟩
  | k + 1 => by
    obtain ⟨ih0, ih1⟩ := transomlaw03_PackBack.mono_l k
    refine ⟨?_, ?_⟩
    · intro y0 y1 y2 y3
      unfold transomlaw03_PackBack.j0
      repeat' first
      | (with_reducible exact ih0 _ _ _ _)
      | (with_reducible exact ih1 _ _)
      | (with_reducible exact pack_Int.mono _ _)
      | (with_reducible exact pack_Text.mono _ _)
      | (with_reducible exact pack_Uint.mono _ _)
      | (with_reducible exact transomlaw03_awake.mono _)
      | (with_reducible exact LeO.refl _)
      | (with_reducible exact LeO.none _)
      | (with_reducible refine LeO.ite ?_ ?_)
      | (with_reducible refine LeO.bind ?_ (fun _ => ?_))
      | exact ih0 _ _ _ _
      | exact ih1 _ _
      | exact pack_Int.mono _ _
      | exact pack_Text.mono _ _
      | exact pack_Uint.mono _ _
      | exact transomlaw03_awake.mono _
      | exact LeO.none _
      | refine LeO.ite ?_ ?_
      | refine LeO.bind ?_ (fun _ => ?_)
    · intro y0 y1
      unfold transomlaw03_PackBack.j1
      repeat' first
      | (with_reducible exact ih0 _ _ _ _)
      | (with_reducible exact ih1 _ _)
      | (with_reducible exact pack_Int.mono _ _)
      | (with_reducible exact pack_Text.mono _ _)
      | (with_reducible exact pack_Uint.mono _ _)
      | (with_reducible exact transomlaw03_awake.mono _)
      | (with_reducible exact LeO.refl _)
      | (with_reducible exact LeO.none _)
      | (with_reducible refine LeO.ite ?_ ?_)
      | (with_reducible refine LeO.bind ?_ (fun _ => ?_))
      | exact ih0 _ _ _ _
      | exact ih1 _ _
      | exact pack_Int.mono _ _
      | exact pack_Text.mono _ _
      | exact pack_Uint.mono _ _
      | exact transomlaw03_awake.mono _
      | exact LeO.none _
      | refine LeO.ite ?_ ?_
      | refine LeO.bind ?_ (fun _ => ?_)
theorem transomlaw03_PackBack.mono : ∀ a0 a1 a2 k, LeO (transomlaw03_PackBack.f k a0 a1 a2) (transomlaw03_PackBack.f (k + 1) a0 a1 a2) := by
  intro a0 a1 a2 k
  obtain ⟨ih0, ih1⟩ := transomlaw03_PackBack.mono_l k
  unfold transomlaw03_PackBack.f
  repeat' first
      | (with_reducible exact ih0 _ _ _ _)
      | (with_reducible exact ih1 _ _)
      | (with_reducible exact pack_Int.mono _ _)
      | (with_reducible exact pack_Text.mono _ _)
      | (with_reducible exact pack_Uint.mono _ _)
      | (with_reducible exact transomlaw03_awake.mono _)
      | (with_reducible exact LeO.refl _)
      | (with_reducible exact LeO.none _)
      | (with_reducible refine LeO.ite ?_ ?_)
      | (with_reducible refine LeO.bind ?_ (fun _ => ?_))
      | exact ih0 _ _ _ _
      | exact ih1 _ _
      | exact pack_Int.mono _ _
      | exact pack_Text.mono _ _
      | exact pack_Uint.mono _ _
      | exact transomlaw03_awake.mono _
      | exact LeO.none _
      | refine LeO.ite ?_ ?_
      | refine LeO.bind ?_ (fun _ => ?_)
set_option maxHeartbeats 8000000 in
set_option maxRecDepth 100000 in
theorem transomlaw03_PackBack.calls (k : Nat) (a0 : Int) (a1 : ByteArray) (a2 : ByteArray) (r : Bool) (w : World) (h : transomlaw03_PackBack.f k a0 a1 a2 = some r) :
    Calls Try.prog 5 #[.int .i64 a0, .string a1, .string a2] w fun e w' => e = .returned (.bool r) ∧ Below w.heap.size w w' := by
  have HB := Aside0.mk (Below.refl w.heap.size w)
  have H : (if (a1.size : Int) > 2000 then (transomlaw03_PackBack.j0 k a0 a1 a2 true) else (transomlaw03_PackBack.j0 k a0 a1 a2 (decide ((a2.size : Int) > 2000)))) = some r := h
  clear h
  have HC4 := Aside0.mk H
  clear H
  go_enter Try.func5, Try.ntmps5
  go_upto_region 1 with (fail)
  go_cut [27] (fun v27 wc => ∃ (kq : Nat) (x27_3 : Bool), v27 = .bool x27_3 ∧ Aside0 (transomlaw03_PackBack.j0 kq a0 a1 a2 x27_3 = some r) ∧ Aside0 (kq ≤ k) ∧ Aside0 (Below w.heap.size w wc))
  case first =>
    have H := HC4.out
    clear HC4
    by_cases c5 : (a1.size : Int) > 2000
    · rw [if_pos c5] at H
      have c5b0 : decide (2000 < (a1.size : Int)) = true := decide_eq_true c5
      have c5b1 : decide (2000 < a1.size) = true := decide_eq_true (by omega)
      clear c5
      (first | rw [c5b0] | (simp only [i64_w, i32_w]; rw [c5b0]) | skip)
      have H' := Aside0.mk H
      clear H
      go_wp2
      go_meet
      case rel => exact ⟨_, (true), (by first | rfl | (simp; done) | (simp [*]; done)), H', ⟨by first | omega | exact Nat.le_refl _⟩, ⟨by repeat (first | (with_reducible first | exact HB.out | apply below_alloc | apply pw_below_drewN | apply below_drew1) | exact HB.out)⟩⟩
    · rw [if_neg c5] at H
      have c5b0 : decide (2000 < (a1.size : Int)) = false := decide_eq_false c5
      have c5b1 : decide (2000 < a1.size) = false := decide_eq_false (by omega)
      clear c5
      (first | rw [c5b0] | (simp only [i64_w, i32_w]; rw [c5b0]) | skip)
      have H' := Aside0.mk H
      clear H
      go_wp2
      go_meet
      case rel => exact ⟨_, (decide ((a2.size : Int) > 2000)), (by first | rfl | (simp; done) | (simp [*]; done)), H', ⟨by first | omega | exact Nat.le_refl _⟩, ⟨by repeat (first | (with_reducible first | exact HB.out | apply below_alloc | apply pw_below_drewN | apply below_drew1) | exact HB.out)⟩⟩
  case rest =>
    clear HC4
    try clear p2
    try clear c5
    try clear c5b0
    try clear c5b1
    obtain ⟨kq, x27_3, rfl, HA, HJ3, HB⟩ := hcut
    cases kq with
    | zero => exact absurd HA.out (by simp [transomlaw03_PackBack.j0])
    | succ kj3 =>
      have H := HA.out
      clear HA
      simp only [transomlaw03_PackBack.j0] at H
      by_cases c6 : x27_3 = true
      · subst c6
        have H1 : ((transomlaw03_awake.f kj3).bind fun t130 => (some t130)) = some r := by rw [if_pos rfl] at H; exact H
        clear H
        have H := H1
        clear H1
        replace H := Option.bind_eq_some_iff.mp H
        obtain ⟨t130, A70, H⟩ := H
        replace H : (some t130) = some r := H
        have A7 := Aside0.mk A70
        clear A70
        obtain rfl := Option.some.inj H
        go_wp2_with (first | ((with_reducible refine gate_callee (f := 7) rfl ?_); refine goesL_ (some 28) rfl rfl Try.func7 (by kernel_rfl) rfl #[] rfl (by (try simp only [List.map_toArray, List.map_cons, List.map_nil]); first | done | rfl | (simp only [List.length_drop, List.length_take]; rfl) | (simp [Act.eval, IntKind.wrap_u64, IntKind.wrap_u8, IntKind.wrap_u32, wrap64]; omega)) ?_; (with_reducible refine (transomlaw03_awake.calls kj3  t130 _ A7.out).mono ?_); rintro e w8 ⟨rfl, hb⟩; refine ⟨_, rfl, ?_⟩; have n0_ := Aside0.mk (below_step (by repeat (first | (with_reducible first | exact HB.out | apply below_alloc | apply pw_below_drewN | apply below_drew1) | exact HB.out)) hb); clear HB; have HB := n0_; clear n0_; (try clear hb); (try clear hb2); (try clear hk); (try clear hi)))
        go_ret
        exact ⟨by first | rfl | (simp [errW_none, errW_some] <;> rfl) | (simp [*, errW_none, errW_some] <;> rfl), by repeat (first | (with_reducible first | exact HB.out | apply below_alloc | apply pw_below_drewN | apply below_drew1) | exact HB.out)⟩
      · replace c6 := Bool.eq_false_iff.mpr c6
        subst c6
        have H1 : ((pack_Uint.f kj3 (IntKind.u64.wrap (a0))).bind fun t131 => (if t131.size + a2.size ≤ 9223372036854775807 then ((pack_ReadUint.f (t131 ++ a2)).bind fun bt132 => ((pack_Int.f kj3 a0).bind fun t135 => (if t135.size + a2.size ≤ 9223372036854775807 then ((pack_ReadInt.f (t135 ++ a2)).bind fun bt136 => ((pack_Text.f kj3 a1).bind fun t139 => (if t139.size + a2.size ≤ 9223372036854775807 then ((pack_ReadText.f (t139 ++ a2)).bind fun bt140 => (if bt132.1 = (IntKind.u64.wrap (a0)) then (if bt132.2.1.toList = a2.toList then (if bt132.2.2 = 0 then (if bt136.1 = a0 then (if bt136.2.1.toList = a2.toList then (if bt136.2.2 = 0 then (if bt140.1.toList = a1.toList then (if bt140.2.1.toList = a2.toList then (transomlaw03_PackBack.j1 kj3 a1 (bt140.2.2 != 0)) else (transomlaw03_PackBack.j1 kj3 a1 true)) else (transomlaw03_PackBack.j1 kj3 a1 true)) else (transomlaw03_PackBack.j1 kj3 a1 true)) else (transomlaw03_PackBack.j1 kj3 a1 true)) else (transomlaw03_PackBack.j1 kj3 a1 true)) else (transomlaw03_PackBack.j1 kj3 a1 true)) else (transomlaw03_PackBack.j1 kj3 a1 true)) else (transomlaw03_PackBack.j1 kj3 a1 true))) else (none)))) else (none)))) else (none))) = some r := by rw [if_neg (show ¬ (false = true) by decide)] at H; exact H
        clear H
        have H := H1
        clear H1
        replace H := Option.bind_eq_some_iff.mp H
        obtain ⟨t131, A90, H⟩ := H
        replace H : (if t131.size + a2.size ≤ 9223372036854775807 then ((pack_ReadUint.f (t131 ++ a2)).bind fun bt132 => ((pack_Int.f kj3 a0).bind fun t135 => (if t135.size + a2.size ≤ 9223372036854775807 then ((pack_ReadInt.f (t135 ++ a2)).bind fun bt136 => ((pack_Text.f kj3 a1).bind fun t139 => (if t139.size + a2.size ≤ 9223372036854775807 then ((pack_ReadText.f (t139 ++ a2)).bind fun bt140 => (if bt132.1 = (IntKind.u64.wrap (a0)) then (if bt132.2.1.toList = a2.toList then (if bt132.2.2 = 0 then (if bt136.1 = a0 then (if bt136.2.1.toList = a2.toList then (if bt136.2.2 = 0 then (if bt140.1.toList = a1.toList then (if bt140.2.1.toList = a2.toList then (transomlaw03_PackBack.j1 kj3 a1 (bt140.2.2 != 0)) else (transomlaw03_PackBack.j1 kj3 a1 true)) else (transomlaw03_PackBack.j1 kj3 a1 true)) else (transomlaw03_PackBack.j1 kj3 a1 true)) else (transomlaw03_PackBack.j1 kj3 a1 true)) else (transomlaw03_PackBack.j1 kj3 a1 true)) else (transomlaw03_PackBack.j1 kj3 a1 true)) else (transomlaw03_PackBack.j1 kj3 a1 true)) else (transomlaw03_PackBack.j1 kj3 a1 true))) else (none)))) else (none)))) else (none)) = some r := H
        have A9 := Aside0.mk A90
        clear A90
        by_cases c10 : t131.size + a2.size ≤ 9223372036854775807
        · rw [if_pos c10] at H
          have c10b0 := eq_true c10
          have c10b1 : decide (t131.size + a2.size ≤ 9223372036854775807) = true := decide_eq_true c10
          try have c10b2 : (9223372036854775807 < t131.size + a2.size) = False := eq_false (Nat.not_lt.2 c10)
          replace H := Option.bind_eq_some_iff.mp H
          obtain ⟨⟨t132, t133, t134⟩, A110, H⟩ := H
          replace H : ((pack_Int.f kj3 a0).bind fun t135 => (if t135.size + a2.size ≤ 9223372036854775807 then ((pack_ReadInt.f (t135 ++ a2)).bind fun bt136 => ((pack_Text.f kj3 a1).bind fun t139 => (if t139.size + a2.size ≤ 9223372036854775807 then ((pack_ReadText.f (t139 ++ a2)).bind fun bt140 => (if t132 = (IntKind.u64.wrap (a0)) then (if t133.toList = a2.toList then (if t134 = 0 then (if bt136.1 = a0 then (if bt136.2.1.toList = a2.toList then (if bt136.2.2 = 0 then (if bt140.1.toList = a1.toList then (if bt140.2.1.toList = a2.toList then (transomlaw03_PackBack.j1 kj3 a1 (bt140.2.2 != 0)) else (transomlaw03_PackBack.j1 kj3 a1 true)) else (transomlaw03_PackBack.j1 kj3 a1 true)) else (transomlaw03_PackBack.j1 kj3 a1 true)) else (transomlaw03_PackBack.j1 kj3 a1 true)) else (transomlaw03_PackBack.j1 kj3 a1 true)) else (transomlaw03_PackBack.j1 kj3 a1 true)) else (transomlaw03_PackBack.j1 kj3 a1 true)) else (transomlaw03_PackBack.j1 kj3 a1 true))) else (none)))) else (none))) = some r := H
          have A11 := Aside0.mk A110
          clear A110
          replace H := Option.bind_eq_some_iff.mp H
          obtain ⟨t135, A120, H⟩ := H
          replace H : (if t135.size + a2.size ≤ 9223372036854775807 then ((pack_ReadInt.f (t135 ++ a2)).bind fun bt136 => ((pack_Text.f kj3 a1).bind fun t139 => (if t139.size + a2.size ≤ 9223372036854775807 then ((pack_ReadText.f (t139 ++ a2)).bind fun bt140 => (if t132 = (IntKind.u64.wrap (a0)) then (if t133.toList = a2.toList then (if t134 = 0 then (if bt136.1 = a0 then (if bt136.2.1.toList = a2.toList then (if bt136.2.2 = 0 then (if bt140.1.toList = a1.toList then (if bt140.2.1.toList = a2.toList then (transomlaw03_PackBack.j1 kj3 a1 (bt140.2.2 != 0)) else (transomlaw03_PackBack.j1 kj3 a1 true)) else (transomlaw03_PackBack.j1 kj3 a1 true)) else (transomlaw03_PackBack.j1 kj3 a1 true)) else (transomlaw03_PackBack.j1 kj3 a1 true)) else (transomlaw03_PackBack.j1 kj3 a1 true)) else (transomlaw03_PackBack.j1 kj3 a1 true)) else (transomlaw03_PackBack.j1 kj3 a1 true)) else (transomlaw03_PackBack.j1 kj3 a1 true))) else (none)))) else (none)) = some r := H
          have A12 := Aside0.mk A120
          clear A120
          by_cases c13 : t135.size + a2.size ≤ 9223372036854775807
          · rw [if_pos c13] at H
            have c13b0 := eq_true c13
            have c13b1 : decide (t135.size + a2.size ≤ 9223372036854775807) = true := decide_eq_true c13
            try have c13b2 : (9223372036854775807 < t135.size + a2.size) = False := eq_false (Nat.not_lt.2 c13)
            replace H := Option.bind_eq_some_iff.mp H
            obtain ⟨⟨t136, t137, t138⟩, A140, H⟩ := H
            replace H : ((pack_Text.f kj3 a1).bind fun t139 => (if t139.size + a2.size ≤ 9223372036854775807 then ((pack_ReadText.f (t139 ++ a2)).bind fun bt140 => (if t132 = (IntKind.u64.wrap (a0)) then (if t133.toList = a2.toList then (if t134 = 0 then (if t136 = a0 then (if t137.toList = a2.toList then (if t138 = 0 then (if bt140.1.toList = a1.toList then (if bt140.2.1.toList = a2.toList then (transomlaw03_PackBack.j1 kj3 a1 (bt140.2.2 != 0)) else (transomlaw03_PackBack.j1 kj3 a1 true)) else (transomlaw03_PackBack.j1 kj3 a1 true)) else (transomlaw03_PackBack.j1 kj3 a1 true)) else (transomlaw03_PackBack.j1 kj3 a1 true)) else (transomlaw03_PackBack.j1 kj3 a1 true)) else (transomlaw03_PackBack.j1 kj3 a1 true)) else (transomlaw03_PackBack.j1 kj3 a1 true)) else (transomlaw03_PackBack.j1 kj3 a1 true))) else (none))) = some r := H
            have A14 := Aside0.mk A140
            clear A140
            replace H := Option.bind_eq_some_iff.mp H
            obtain ⟨t139, A150, H⟩ := H
            replace H : (if t139.size + a2.size ≤ 9223372036854775807 then ((pack_ReadText.f (t139 ++ a2)).bind fun bt140 => (if t132 = (IntKind.u64.wrap (a0)) then (if t133.toList = a2.toList then (if t134 = 0 then (if t136 = a0 then (if t137.toList = a2.toList then (if t138 = 0 then (if bt140.1.toList = a1.toList then (if bt140.2.1.toList = a2.toList then (transomlaw03_PackBack.j1 kj3 a1 (bt140.2.2 != 0)) else (transomlaw03_PackBack.j1 kj3 a1 true)) else (transomlaw03_PackBack.j1 kj3 a1 true)) else (transomlaw03_PackBack.j1 kj3 a1 true)) else (transomlaw03_PackBack.j1 kj3 a1 true)) else (transomlaw03_PackBack.j1 kj3 a1 true)) else (transomlaw03_PackBack.j1 kj3 a1 true)) else (transomlaw03_PackBack.j1 kj3 a1 true)) else (transomlaw03_PackBack.j1 kj3 a1 true))) else (none)) = some r := H
            have A15 := Aside0.mk A150
            clear A150
            by_cases c16 : t139.size + a2.size ≤ 9223372036854775807
            · rw [if_pos c16] at H
              have c16b0 := eq_true c16
              have c16b1 : decide (t139.size + a2.size ≤ 9223372036854775807) = true := decide_eq_true c16
              try have c16b2 : (9223372036854775807 < t139.size + a2.size) = False := eq_false (Nat.not_lt.2 c16)
              replace H := Option.bind_eq_some_iff.mp H
              obtain ⟨⟨t140, t141, t142⟩, A170, H⟩ := H
              replace H : (if t132 = (IntKind.u64.wrap (a0)) then (if t133.toList = a2.toList then (if t134 = 0 then (if t136 = a0 then (if t137.toList = a2.toList then (if t138 = 0 then (if t140.toList = a1.toList then (if t141.toList = a2.toList then (transomlaw03_PackBack.j1 kj3 a1 (t142 != 0)) else (transomlaw03_PackBack.j1 kj3 a1 true)) else (transomlaw03_PackBack.j1 kj3 a1 true)) else (transomlaw03_PackBack.j1 kj3 a1 true)) else (transomlaw03_PackBack.j1 kj3 a1 true)) else (transomlaw03_PackBack.j1 kj3 a1 true)) else (transomlaw03_PackBack.j1 kj3 a1 true)) else (transomlaw03_PackBack.j1 kj3 a1 true)) else (transomlaw03_PackBack.j1 kj3 a1 true)) = some r := H
              have A17 := Aside0.mk A170
              clear A170
              have HC18 := Aside0.mk H
              clear H
              go_upto_region 6 with (first | ((with_reducible refine gate_callee (f := 8) rfl ?_); refine goesL_ (some 32) rfl rfl Try.func8 (by kernel_rfl) rfl #[.int .u64 (IntKind.u64.wrap (a0))] rfl (by (try simp only [List.map_toArray, List.map_cons, List.map_nil]); first | done | rfl | (simp only [List.length_drop, List.length_take]; rfl) | (simp [Act.eval, IntKind.wrap_u64, IntKind.wrap_u8, IntKind.wrap_u32, wrap64]; omega)) ?_; (with_reducible refine (pack_Uint.calls kj3 (IntKind.u64.wrap (a0)) t131 _ A9.out).mono ?_); rintro e w19 ⟨rfl, hb⟩; refine ⟨_, rfl, ?_⟩; have n0_ := Aside0.mk (below_step (by repeat (first | (with_reducible first | exact HB.out | apply below_alloc | apply pw_below_drewN | apply below_drew1) | exact HB.out)) hb); clear HB; have HB := n0_; clear n0_; (try clear hb); (try clear hb2); (try clear hk); (try clear hi)) | ((with_reducible refine gate_callee (f := 14) rfl ?_); refine goesL_ (some 35) rfl rfl Try.func14 (by kernel_rfl) rfl #[.string (t131 ++ a2)] rfl (by (try simp only [List.map_toArray, List.map_cons, List.map_nil]); first | done | rfl | (simp only [List.length_drop, List.length_take]; rfl) | (simp [Act.eval, IntKind.wrap_u64, IntKind.wrap_u8, IntKind.wrap_u32, wrap64]; omega)) ?_; (with_reducible refine (pack_ReadUint.calls (t131 ++ a2) t132 t133 t134 _ A11.out).mono ?_); rintro e w' ⟨rfl, ⟨nd, rfl⟩⟩; refine ⟨_, rfl, ?_⟩) | ((with_reducible refine gate_callee (f := 10) rfl ?_); refine goesL_ (some 41) rfl rfl Try.func10 (by kernel_rfl) rfl #[.int .i64 a0] rfl (by (try simp only [List.map_toArray, List.map_cons, List.map_nil]); first | done | rfl | (simp only [List.length_drop, List.length_take]; rfl) | (simp [Act.eval, IntKind.wrap_u64, IntKind.wrap_u8, IntKind.wrap_u32, wrap64]; omega)) ?_; (with_reducible refine (pack_Int.calls kj3 a0 t135 _ A12.out).mono ?_); rintro e w20 ⟨rfl, hb⟩; refine ⟨_, rfl, ?_⟩; have n0_ := Aside0.mk (below_step (by repeat (first | (with_reducible first | exact HB.out | apply below_alloc | apply pw_below_drewN | apply below_drew1) | exact HB.out)) hb); clear HB; have HB := n0_; clear n0_; (try clear hb); (try clear hb2); (try clear hk); (try clear hi)) | ((with_reducible refine gate_callee (f := 16) rfl ?_); refine goesL_ (some 44) rfl rfl Try.func16 (by kernel_rfl) rfl #[.string (t135 ++ a2)] rfl (by (try simp only [List.map_toArray, List.map_cons, List.map_nil]); first | done | rfl | (simp only [List.length_drop, List.length_take]; rfl) | (simp [Act.eval, IntKind.wrap_u64, IntKind.wrap_u8, IntKind.wrap_u32, wrap64]; omega)) ?_; (with_reducible refine (pack_ReadInt.calls (t135 ++ a2) t136 t137 t138 _ A14.out).mono ?_); rintro e w' ⟨rfl, ⟨nd, rfl⟩⟩; refine ⟨_, rfl, ?_⟩) | ((with_reducible refine gate_callee (f := 12) rfl ?_); refine goesL_ (some 50) rfl rfl Try.func12 (by kernel_rfl) rfl #[.string a1] rfl (by (try simp only [List.map_toArray, List.map_cons, List.map_nil]); first | done | rfl | (simp only [List.length_drop, List.length_take]; rfl) | (simp [Act.eval, IntKind.wrap_u64, IntKind.wrap_u8, IntKind.wrap_u32, wrap64]; omega)) ?_; (with_reducible refine (pack_Text.calls kj3 a1 t139 _ A15.out).mono ?_); rintro e w21 ⟨rfl, hb⟩; refine ⟨_, rfl, ?_⟩; have n0_ := Aside0.mk (below_step (by repeat (first | (with_reducible first | exact HB.out | apply below_alloc | apply pw_below_drewN | apply below_drew1) | exact HB.out)) hb); clear HB; have HB := n0_; clear n0_; (try clear hb); (try clear hb2); (try clear hk); (try clear hi)) | ((with_reducible refine gate_callee (f := 18) rfl ?_); refine goesL_ (some 53) rfl rfl Try.func18 (by kernel_rfl) rfl #[.string (t139 ++ a2)] rfl (by (try simp only [List.map_toArray, List.map_cons, List.map_nil]); first | done | rfl | (simp only [List.length_drop, List.length_take]; rfl) | (simp [Act.eval, IntKind.wrap_u64, IntKind.wrap_u8, IntKind.wrap_u32, wrap64]; omega)) ?_; (with_reducible refine (pack_ReadText.calls (t139 ++ a2) t140 t141 t142 _ A17.out).mono ?_); rintro e w' ⟨rfl, ⟨nd, rfl⟩⟩; refine ⟨_, rfl, ?_⟩))
              (try simp only [Act.put, List.setIfInBounds_toArray, List.set_cons_zero, List.set_cons_succ])
              go_cut [97] (fun v97 wc => ∃ (kq : Nat) (x97_17 : Bool), v97 = .bool x97_17 ∧ Aside0 (transomlaw03_PackBack.j1 kq a1 x97_17 = some r) ∧ Aside0 (kq ≤ kj3) ∧ Aside0 (Below w.heap.size w wc))
              case first =>
                have H := HC18.out
                clear HC18
                by_cases c22 : t132 = (IntKind.u64.wrap (a0))
                · rw [if_pos c22] at H
                  have c22b0 : (t132 == (IntKind.u64.wrap (a0))) = true := beq_iff_eq.mpr c22
                  have c22b1 : (t132 != (IntKind.u64.wrap (a0))) = false := bne_eq_false_iff_eq.mpr c22
                  clear c22
                  (first | rw [c22b0] | (simp only [i64_w, i32_w]; rw [c22b0]) | skip)
                  by_cases c23 : t133.toList = a2.toList
                  · rw [if_pos c23] at H
                    have c23b0 : (t133.toList == a2.toList) = true := beq_iff_eq.mpr c23
                    have c23b1 : (t133.toList != a2.toList) = false := bne_eq_false_iff_eq.mpr c23
                    clear c23
                    by_cases c24 : t134 = 0
                    · rw [if_pos c24] at H
                      have c24b0 : (t134 == 0) = true := beq_iff_eq.mpr c24
                      have c24b1 : (t134 != 0) = false := bne_eq_false_iff_eq.mpr c24
                      clear c24
                      by_cases c25 : t136 = a0
                      · rw [if_pos c25] at H
                        have c25b0 : (t136 == a0) = true := beq_iff_eq.mpr c25
                        have c25b1 : (t136 != a0) = false := bne_eq_false_iff_eq.mpr c25
                        clear c25
                        by_cases c26 : t137.toList = a2.toList
                        · rw [if_pos c26] at H
                          have c26b0 : (t137.toList == a2.toList) = true := beq_iff_eq.mpr c26
                          have c26b1 : (t137.toList != a2.toList) = false := bne_eq_false_iff_eq.mpr c26
                          clear c26
                          by_cases c27 : t138 = 0
                          · rw [if_pos c27] at H
                            have c27b0 : (t138 == 0) = true := beq_iff_eq.mpr c27
                            have c27b1 : (t138 != 0) = false := bne_eq_false_iff_eq.mpr c27
                            clear c27
                            by_cases c28 : t140.toList = a1.toList
                            · rw [if_pos c28] at H
                              have c28b0 : (t140.toList == a1.toList) = true := beq_iff_eq.mpr c28
                              have c28b1 : (t140.toList != a1.toList) = false := bne_eq_false_iff_eq.mpr c28
                              clear c28
                              by_cases c29 : t141.toList = a2.toList
                              · rw [if_pos c29] at H
                                have c29b0 : (t141.toList == a2.toList) = true := beq_iff_eq.mpr c29
                                have c29b1 : (t141.toList != a2.toList) = false := bne_eq_false_iff_eq.mpr c29
                                clear c29
                                have H' := Aside0.mk H
                                clear H
                                go_wp2
                                go_meet
                                case rel => exact ⟨_, ((t142 != 0)), (by first | rfl | (simp; done) | (simp [*]; done)), H', ⟨by have := HJ3.out; first | omega | exact Nat.le_refl _⟩, ⟨by repeat (first | (with_reducible first | exact HB.out | apply below_alloc | apply pw_below_drewN | apply below_drew1) | exact HB.out)⟩⟩
                              · rw [if_neg c29] at H
                                have c29b0 : (t141.toList == a2.toList) = false := beq_eq_false_iff_ne.mpr c29
                                have c29b1 : (t141.toList != a2.toList) = true := bne_iff_ne.mpr c29
                                have H' := Aside0.mk H
                                clear H
                                go_wp2
                                go_meet
                                case rel => exact ⟨_, (true), (by first | rfl | (simp; done) | (simp [*]; done)), H', ⟨by have := HJ3.out; first | omega | exact Nat.le_refl _⟩, ⟨by repeat (first | (with_reducible first | exact HB.out | apply below_alloc | apply pw_below_drewN | apply below_drew1) | exact HB.out)⟩⟩
                            · rw [if_neg c28] at H
                              have c28b0 : (t140.toList == a1.toList) = false := beq_eq_false_iff_ne.mpr c28
                              have c28b1 : (t140.toList != a1.toList) = true := bne_iff_ne.mpr c28
                              have H' := Aside0.mk H
                              clear H
                              go_wp2
                              go_meet
                              case rel => exact ⟨_, (true), (by first | rfl | (simp; done) | (simp [*]; done)), H', ⟨by have := HJ3.out; first | omega | exact Nat.le_refl _⟩, ⟨by repeat (first | (with_reducible first | exact HB.out | apply below_alloc | apply pw_below_drewN | apply below_drew1) | exact HB.out)⟩⟩
                          · rw [if_neg c27] at H
                            have c27b0 : (t138 == 0) = false := beq_eq_false_iff_ne.mpr c27
                            have c27b1 : (t138 != 0) = true := bne_iff_ne.mpr c27
                            have H' := Aside0.mk H
                            clear H
                            go_wp2
                            go_meet
                            case rel => exact ⟨_, (true), (by first | rfl | (simp; done) | (simp [*]; done)), H', ⟨by have := HJ3.out; first | omega | exact Nat.le_refl _⟩, ⟨by repeat (first | (with_reducible first | exact HB.out | apply below_alloc | apply pw_below_drewN | apply below_drew1) | exact HB.out)⟩⟩
                        · rw [if_neg c26] at H
                          have c26b0 : (t137.toList == a2.toList) = false := beq_eq_false_iff_ne.mpr c26
                          have c26b1 : (t137.toList != a2.toList) = true := bne_iff_ne.mpr c26
                          have H' := Aside0.mk H
                          clear H
                          go_wp2
                          go_meet
                          case rel => exact ⟨_, (true), (by first | rfl | (simp; done) | (simp [*]; done)), H', ⟨by have := HJ3.out; first | omega | exact Nat.le_refl _⟩, ⟨by repeat (first | (with_reducible first | exact HB.out | apply below_alloc | apply pw_below_drewN | apply below_drew1) | exact HB.out)⟩⟩
                      · rw [if_neg c25] at H
                        have c25b0 : (t136 == a0) = false := beq_eq_false_iff_ne.mpr c25
                        have c25b1 : (t136 != a0) = true := bne_iff_ne.mpr c25
                        have H' := Aside0.mk H
                        clear H
                        go_wp2
                        go_meet
                        case rel => exact ⟨_, (true), (by first | rfl | (simp; done) | (simp [*]; done)), H', ⟨by have := HJ3.out; first | omega | exact Nat.le_refl _⟩, ⟨by repeat (first | (with_reducible first | exact HB.out | apply below_alloc | apply pw_below_drewN | apply below_drew1) | exact HB.out)⟩⟩
                    · rw [if_neg c24] at H
                      have c24b0 : (t134 == 0) = false := beq_eq_false_iff_ne.mpr c24
                      have c24b1 : (t134 != 0) = true := bne_iff_ne.mpr c24
                      have H' := Aside0.mk H
                      clear H
                      go_wp2
                      go_meet
                      case rel => exact ⟨_, (true), (by first | rfl | (simp; done) | (simp [*]; done)), H', ⟨by have := HJ3.out; first | omega | exact Nat.le_refl _⟩, ⟨by repeat (first | (with_reducible first | exact HB.out | apply below_alloc | apply pw_below_drewN | apply below_drew1) | exact HB.out)⟩⟩
                  · rw [if_neg c23] at H
                    have c23b0 : (t133.toList == a2.toList) = false := beq_eq_false_iff_ne.mpr c23
                    have c23b1 : (t133.toList != a2.toList) = true := bne_iff_ne.mpr c23
                    have H' := Aside0.mk H
                    clear H
                    go_wp2
                    go_meet
                    case rel => exact ⟨_, (true), (by first | rfl | (simp; done) | (simp [*]; done)), H', ⟨by have := HJ3.out; first | omega | exact Nat.le_refl _⟩, ⟨by repeat (first | (with_reducible first | exact HB.out | apply below_alloc | apply pw_below_drewN | apply below_drew1) | exact HB.out)⟩⟩
                · rw [if_neg c22] at H
                  have c22b0 : (t132 == (IntKind.u64.wrap (a0))) = false := beq_eq_false_iff_ne.mpr c22
                  have c22b1 : (t132 != (IntKind.u64.wrap (a0))) = true := bne_iff_ne.mpr c22
                  (first | rw [c22b0] | (simp only [i64_w, i32_w]; rw [c22b0]) | skip)
                  have H' := Aside0.mk H
                  clear H
                  go_wp2
                  go_meet
                  case rel => exact ⟨_, (true), (by first | rfl | (simp; done) | (simp [*]; done)), H', ⟨by have := HJ3.out; first | omega | exact Nat.le_refl _⟩, ⟨by repeat (first | (with_reducible first | exact HB.out | apply below_alloc | apply pw_below_drewN | apply below_drew1) | exact HB.out)⟩⟩
              case rest =>
                clear HC18
                try clear c1
                try clear c2
                try clear p2
                try clear c5
                try clear c5b0
                try clear c5b1
                try clear c6
                try clear p6
                try clear c7
                try clear c8
                try clear c10
                try clear c10b0
                try clear c10b1
                try clear c10b2
                try clear c12
                try clear c13
                try clear c13b0
                try clear c13b1
                try clear c13b2
                try clear c14
                try clear c16
                try clear c16b0
                try clear c16b1
                try clear c16b2
                try clear c18
                try clear c22
                try clear c22b0
                try clear c22b1
                try clear c23
                try clear c23b0
                try clear c23b1
                try clear c24
                try clear c24b0
                try clear c24b1
                try clear c25
                try clear c25b0
                try clear c25b1
                try clear c26
                try clear c26b0
                try clear c26b1
                try clear c27
                try clear c27b0
                try clear c27b1
                try clear c28
                try clear c28b0
                try clear c28b1
                try clear c29
                try clear c29b0
                try clear c29b1
                try clear p2
                obtain ⟨kq, x97_17, rfl, HA, HJ17, HB⟩ := hcut
                cases kq with
                | zero => exact absurd HA.out (by simp [transomlaw03_PackBack.j1])
                | succ kj17 =>
                  have H := HA.out
                  clear HA
                  simp only [transomlaw03_PackBack.j1] at H
                  by_cases c30 : x97_17 = true
                  · subst c30
                    have H1 : (some false) = some r := by rw [if_pos rfl] at H; exact H
                    clear H
                    have H := H1
                    clear H1
                    obtain rfl := Option.some.inj H
                    go_wp2
                    go_ret
                    exact ⟨by first | rfl | (simp [errW_none, errW_some] <;> rfl) | (simp [*, errW_none, errW_some] <;> rfl), by repeat (first | (with_reducible first | exact HB.out | apply below_alloc | apply pw_below_drewN | apply below_drew1) | exact HB.out)⟩
                  · replace c30 := Bool.eq_false_iff.mpr c30
                    subst c30
                    have H1 : ((pack_Text.f kj17 a1).bind fun t143 => (if 0 ≤ (wrap64 ((t143.size : Int) / 2)) then (if (wrap64 ((t143.size : Int) / 2)) ≤ (t143.size : Int) then ((pack_ReadText.f (t143.extract 0 ((wrap64 ((t143.size : Int) / 2)) : Int).toNat)).bind fun bt144 => (if (t143.size : Int) < 1 then ((transomlaw03_awake.f kj17).bind fun t147 => (some t147)) else (if bt144.2.2 = 3 then ((transomlaw03_awake.f kj17).bind fun t148 => (some t148)) else (some false)))) else (none)) else (none))) = some r := by rw [if_neg (show ¬ (false = true) by decide)] at H; exact H
                    clear H
                    have H := H1
                    clear H1
                    replace H := Option.bind_eq_some_iff.mp H
                    obtain ⟨t143, A310, H⟩ := H
                    replace H : (if 0 ≤ (wrap64 ((t143.size : Int) / 2)) then (if (wrap64 ((t143.size : Int) / 2)) ≤ (t143.size : Int) then ((pack_ReadText.f (t143.extract 0 ((wrap64 ((t143.size : Int) / 2)) : Int).toNat)).bind fun bt144 => (if (t143.size : Int) < 1 then ((transomlaw03_awake.f kj17).bind fun t147 => (some t147)) else (if bt144.2.2 = 3 then ((transomlaw03_awake.f kj17).bind fun t148 => (some t148)) else (some false)))) else (none)) else (none)) = some r := H
                    have A31 := Aside0.mk A310
                    clear A310
                    obtain ⟨ji32, hji32⟩ : ∃ j_ : Int, (wrap64 ((t143.size : Int) / 2)) = j_ := ⟨_, rfl⟩
                    replace H : (if 0 ≤ (ji32) then (if (ji32) ≤ (t143.size : Int) then ((pack_ReadText.f (t143.extract 0 ((ji32) : Int).toNat)).bind fun bt144 => (if (t143.size : Int) < 1 then ((transomlaw03_awake.f kj17).bind fun t147 => (some t147)) else (if bt144.2.2 = 3 then ((transomlaw03_awake.f kj17).bind fun t148 => (some t148)) else (some false)))) else (none)) else (none)) = some r := by first | (rw [hji32] at H; exact H) | (simp only [hji32] at H ⊢; exact H)
                    (try rw [hji32] at A31)
                    have hji32w : (IntKind.i64.wrap ((t143.size : Int) / 2)) = ji32 := (i64_w _).trans hji32
                    by_cases c33 : 0 ≤ (ji32)
                    · rw [if_pos c33] at H
                      have c33b0 := eq_true c33
                      have c33b1 : decide (0 ≤ (ji32)) = true := decide_eq_true c33
                      clear c33
                      by_cases c34 : (ji32) ≤ (t143.size : Int)
                      · rw [if_pos c34] at H
                        have c34b0 := eq_true c34
                        have c34b1 : decide ((ji32) ≤ (t143.size : Int)) = true := decide_eq_true c34
                        clear c34
                        replace H := Option.bind_eq_some_iff.mp H
                        obtain ⟨⟨t144, t145, t146⟩, A350, H⟩ := H
                        replace H : (if (t143.size : Int) < 1 then ((transomlaw03_awake.f kj17).bind fun t147 => (some t147)) else (if t146 = 3 then ((transomlaw03_awake.f kj17).bind fun t148 => (some t148)) else (some false))) = some r := H
                        have A35 := Aside0.mk A350
                        clear A350
                        by_cases c36 : (t143.size : Int) < 1
                        · rw [if_pos c36] at H
                          have c36b0 : decide ((t143.size : Int) < 1) = true := decide_eq_true c36
                          have c36b1 : decide (t143.size < 1) = true := decide_eq_true (by omega)
                          clear c36
                          replace H := Option.bind_eq_some_iff.mp H
                          obtain ⟨t147, A370, H⟩ := H
                          replace H : (some t147) = some r := H
                          have A37 := Aside0.mk A370
                          clear A370
                          obtain rfl := Option.some.inj H
                          go_wp2_with (first | ((with_reducible refine gate_callee (f := 12) rfl ?_); refine goesL_ (some 99) rfl rfl Try.func12 (by kernel_rfl) rfl #[.string a1] rfl (by (try simp only [List.map_toArray, List.map_cons, List.map_nil]); first | done | rfl | (simp only [List.length_drop, List.length_take]; rfl) | (simp [Act.eval, IntKind.wrap_u64, IntKind.wrap_u8, IntKind.wrap_u32, wrap64]; omega)) ?_; (with_reducible refine (pack_Text.calls kj17 a1 t143 _ A31.out).mono ?_); rintro e w38 ⟨rfl, hb⟩; refine ⟨_, rfl, ?_⟩; have n0_ := Aside0.mk (below_step (by repeat (first | (with_reducible first | exact HB.out | apply below_alloc | apply pw_below_drewN | apply below_drew1) | exact HB.out)) hb); clear HB; have HB := n0_; clear n0_; (try clear hb); (try clear hb2); (try clear hk); (try clear hi)) | ((with_reducible refine gate_callee (f := 18) rfl ?_); refine goesL_ (some 106) rfl rfl Try.func18 (by kernel_rfl) rfl #[.string (t143.extract 0 ((ji32) : Int).toNat)] rfl (by (try simp only [List.map_toArray, List.map_cons, List.map_nil]); first | done | (simp only [hji32]; rfl) | rfl | (simp only [List.length_drop, List.length_take]; rfl) | (simp [Act.eval, IntKind.wrap_u64, IntKind.wrap_u8, IntKind.wrap_u32, wrap64]; omega)) ?_; (with_reducible refine (pack_ReadText.calls (t143.extract 0 ((ji32) : Int).toNat) t144 t145 t146 _ A35.out).mono ?_); rintro e w' ⟨rfl, ⟨nd, rfl⟩⟩; refine ⟨_, rfl, ?_⟩) | (go_at_call 7; (with_reducible refine (transomlaw03_awake.calls kj17  t147 _ A37.out).mono ?_); rintro e w39 ⟨rfl, hb⟩; have n0_ := Aside0.mk (below_step (by repeat (first | (with_reducible first | exact HB.out | apply below_alloc | apply pw_below_drewN | apply below_drew1) | exact HB.out)) hb); clear HB; have HB := n0_; clear n0_; (try clear hb); (try clear hb2); (try clear hk); (try clear hi)))
                          go_ret
                          exact ⟨by first | rfl | (simp [errW_none, errW_some] <;> rfl) | (simp only [← hji32]; first | rfl | (simp [errW_none, errW_some] <;> rfl)) | (simp [*, errW_none, errW_some] <;> rfl), by repeat (first | (with_reducible first | exact HB.out | apply below_alloc | apply pw_below_drewN | apply below_drew1) | exact HB.out)⟩
                        · rw [if_neg c36] at H
                          have c36b0 : decide ((t143.size : Int) < 1) = false := decide_eq_false c36
                          have c36b1 : decide (t143.size < 1) = false := decide_eq_false (by omega)
                          clear c36
                          by_cases c40 : t146 = 3
                          · rw [if_pos c40] at H
                            have c40b0 : (t146 == 3) = true := beq_iff_eq.mpr c40
                            have c40b1 : (t146 != 3) = false := bne_eq_false_iff_eq.mpr c40
                            clear c40
                            replace H := Option.bind_eq_some_iff.mp H
                            obtain ⟨t148, A410, H⟩ := H
                            replace H : (some t148) = some r := H
                            have A41 := Aside0.mk A410
                            clear A410
                            obtain rfl := Option.some.inj H
                            go_wp2_with (first | ((with_reducible refine gate_callee (f := 12) rfl ?_); refine goesL_ (some 99) rfl rfl Try.func12 (by kernel_rfl) rfl #[.string a1] rfl (by (try simp only [List.map_toArray, List.map_cons, List.map_nil]); first | done | rfl | (simp only [List.length_drop, List.length_take]; rfl) | (simp [Act.eval, IntKind.wrap_u64, IntKind.wrap_u8, IntKind.wrap_u32, wrap64]; omega)) ?_; (with_reducible refine (pack_Text.calls kj17 a1 t143 _ A31.out).mono ?_); rintro e w42 ⟨rfl, hb⟩; refine ⟨_, rfl, ?_⟩; have n0_ := Aside0.mk (below_step (by repeat (first | (with_reducible first | exact HB.out | apply below_alloc | apply pw_below_drewN | apply below_drew1) | exact HB.out)) hb); clear HB; have HB := n0_; clear n0_; (try clear hb); (try clear hb2); (try clear hk); (try clear hi)) | ((with_reducible refine gate_callee (f := 18) rfl ?_); refine goesL_ (some 106) rfl rfl Try.func18 (by kernel_rfl) rfl #[.string (t143.extract 0 ((ji32) : Int).toNat)] rfl (by (try simp only [List.map_toArray, List.map_cons, List.map_nil]); first | done | (simp only [hji32]; rfl) | rfl | (simp only [List.length_drop, List.length_take]; rfl) | (simp [Act.eval, IntKind.wrap_u64, IntKind.wrap_u8, IntKind.wrap_u32, wrap64]; omega)) ?_; (with_reducible refine (pack_ReadText.calls (t143.extract 0 ((ji32) : Int).toNat) t144 t145 t146 _ A35.out).mono ?_); rintro e w' ⟨rfl, ⟨nd, rfl⟩⟩; refine ⟨_, rfl, ?_⟩) | (go_at_call 7; (with_reducible refine (transomlaw03_awake.calls kj17  t148 _ A41.out).mono ?_); rintro e w43 ⟨rfl, hb⟩; have n0_ := Aside0.mk (below_step (by repeat (first | (with_reducible first | exact HB.out | apply below_alloc | apply pw_below_drewN | apply below_drew1) | exact HB.out)) hb); clear HB; have HB := n0_; clear n0_; (try clear hb); (try clear hb2); (try clear hk); (try clear hi)))
                            go_ret
                            exact ⟨by first | rfl | (simp [errW_none, errW_some] <;> rfl) | (simp only [← hji32]; first | rfl | (simp [errW_none, errW_some] <;> rfl)) | (simp [*, errW_none, errW_some] <;> rfl), by repeat (first | (with_reducible first | exact HB.out | apply below_alloc | apply pw_below_drewN | apply below_drew1) | exact HB.out)⟩
                          · rw [if_neg c40] at H
                            have c40b0 : (t146 == 3) = false := beq_eq_false_iff_ne.mpr c40
                            have c40b1 : (t146 != 3) = true := bne_iff_ne.mpr c40
                            obtain rfl := Option.some.inj H
                            go_wp2_with (first | ((with_reducible refine gate_callee (f := 12) rfl ?_); refine goesL_ (some 99) rfl rfl Try.func12 (by kernel_rfl) rfl #[.string a1] rfl (by (try simp only [List.map_toArray, List.map_cons, List.map_nil]); first | done | rfl | (simp only [List.length_drop, List.length_take]; rfl) | (simp [Act.eval, IntKind.wrap_u64, IntKind.wrap_u8, IntKind.wrap_u32, wrap64]; omega)) ?_; (with_reducible refine (pack_Text.calls kj17 a1 t143 _ A31.out).mono ?_); rintro e w44 ⟨rfl, hb⟩; refine ⟨_, rfl, ?_⟩; have n0_ := Aside0.mk (below_step (by repeat (first | (with_reducible first | exact HB.out | apply below_alloc | apply pw_below_drewN | apply below_drew1) | exact HB.out)) hb); clear HB; have HB := n0_; clear n0_; (try clear hb); (try clear hb2); (try clear hk); (try clear hi)) | ((with_reducible refine gate_callee (f := 18) rfl ?_); refine goesL_ (some 106) rfl rfl Try.func18 (by kernel_rfl) rfl #[.string (t143.extract 0 ((ji32) : Int).toNat)] rfl (by (try simp only [List.map_toArray, List.map_cons, List.map_nil]); first | done | (simp only [hji32]; rfl) | rfl | (simp only [List.length_drop, List.length_take]; rfl) | (simp [Act.eval, IntKind.wrap_u64, IntKind.wrap_u8, IntKind.wrap_u32, wrap64]; omega)) ?_; (with_reducible refine (pack_ReadText.calls (t143.extract 0 ((ji32) : Int).toNat) t144 t145 t146 _ A35.out).mono ?_); rintro e w' ⟨rfl, ⟨nd, rfl⟩⟩; refine ⟨_, rfl, ?_⟩))
                            go_ret
                            exact ⟨by first | rfl | (simp [errW_none, errW_some] <;> rfl) | (simp only [← hji32]; first | rfl | (simp [errW_none, errW_some] <;> rfl)) | (simp [*, errW_none, errW_some] <;> rfl), by repeat (first | (with_reducible first | exact HB.out | apply below_alloc | apply pw_below_drewN | apply below_drew1) | exact HB.out)⟩
                      · rw [if_neg c34] at H
                        exact absurd H (by simp)
                    · rw [if_neg c33] at H
                      exact absurd H (by simp)
            · rw [if_neg c16] at H
              exact absurd H (by simp)
          · rw [if_neg c13] at H
            exact absurd H (by simp)
        · rw [if_neg c10] at H
          exact absurd H (by simp)

/-- THE ONE PURE STATEMENT of transomlaw03_PackBack: yours. -/
def transomlaw03_PackBack.Pure : Prop := ∀ (a0 : Int) (a1 : ByteArray) (a2 : ByteArray), (Lit.int .i64 a0).wf = true → a1.size ≤ 140737488351232 → a2.size ≤ 140737488351232 → ∃ k, transomlaw03_PackBack.f k a0 a1 a2 = some true
theorem transomlaw03_PackBack.walk (P : transomlaw03_PackBack.Pure) (a0 : Int) (a1 : ByteArray) (a2 : ByteArray) (w : World) (w0 : (Lit.int .i64 a0).wf = true) (w1 : a1.size ≤ 140737488351232) (w2 : a2.size ≤ 140737488351232) :
    Calls Try.prog 5 #[.int .i64 a0, .string a1, .string a2] w fun e w' => e = .returned (.bool true) ∧ Below w.heap.size w w' := by
  obtain ⟨k, h⟩ := P a0 a1 a2 w0 w1 w2
  refine (transomlaw03_PackBack.calls k a0 a1 a2 true w h).mono ?_
  rintro e w' ⟨rfl, hd⟩
  exact ⟨rfl, hd⟩

end Go.Proofs.Ytoojmoefkdobpaa.PPackBack
