-- By a program of this session (a print over functions that are proved by hand), for this claim.
import Derived.Test.YtdcodlbelhbihaaPRealsIntsx0
namespace Go.Proofs.Ytdcodlbelhbihaa.PRealsInts
open Go.RowKit Go.Proofs.YtdcodlbelhbihaaW.PrintWords Go.Proofs.YtdcodlbelhbihaaW.PrintLast Go.Proofs.YtdcodlbelhbihaaW.PrintMore
attribute [local go_sem] max2_int min2_int max_two min_two max_three min_three max_four min_four   -- for this text's walks alone
set_option linter.unusedVariables false
set_option linter.unusedSimpArgs false

/-! ### transomref02_FromInt: function 15 -/
mutual
def transomref02_FromInt.j0 : Nat → Int → Int → Option (Int × Bool)
  | 0, _, _ => none
  | k + 1, x4, x5 => transomref02_FromInt.l0 k x4 x5 0 0
def transomref02_FromInt.l0 : Nat → Int → Int → Int → Int → Option (Int × Bool)
  | 0, _, _, _, _ => none
  | k + 1, x4, x5, x6, x7 => if x7 < 64 then (if 0 ≤ (IntKind.u64.wrap (x7)) then (if (Go.bits .and .u64 (shr .u64 x5 (IntKind.u64.wrap (x7))) 1) = 1 then (transomref02_FromInt.l0 k x4 x5 x7 (wrap64 (x7 + 1))) else (transomref02_FromInt.l0 k x4 x5 x6 (wrap64 (x7 + 1)))) else (none)) else (if x6 > 52 then (if 0 ≤ (IntKind.u64.wrap (wrap64 (x6 - 52))) then (if (Go.bits .and .u64 x5 (IntKind.u64.wrap ((shl .u64 1 (IntKind.u64.wrap (wrap64 (x6 - 52)))) - 1))) = 0 then (some (Go.bits .or .u64 (Go.bits .or .u64 x4 (IntKind.u64.wrap ((IntKind.u64.wrap (wrap64 (x6 + 1023))) * 4503599627370496))) (Go.bits .and .u64 (shr .u64 x5 (IntKind.u64.wrap (wrap64 (x6 - 52)))) 4503599627370495), true)) else (some (0, false))) else (none)) else (if 0 ≤ (IntKind.u64.wrap (wrap64 (52 - x6))) then (some (Go.bits .or .u64 (Go.bits .or .u64 x4 (IntKind.u64.wrap ((IntKind.u64.wrap (wrap64 (x6 + 1023))) * 4503599627370496))) (Go.bits .and .u64 (shl .u64 x5 (IntKind.u64.wrap (wrap64 (52 - x6)))) 4503599627370495), true)) else (none)))
end
def transomref02_FromInt.f (k : Nat) (a0 : Int) : Option (Int × Bool) := if a0 = 0 then (some (0, true)) else (if a0 < 0 then (transomref02_FromInt.j0 k 9223372036854775808 (IntKind.u64.wrap (-(IntKind.u64.wrap (a0))))) else (transomref02_FromInt.j0 k 0 (IntKind.u64.wrap (a0))))
theorem transomref02_FromInt.mono_l : ∀ k, (∀ y0 y1, LeO (transomref02_FromInt.j0 k y0 y1) (transomref02_FromInt.j0 (k + 1) y0 y1)) ∧ (∀ y0 y1 y2 y3, LeO (transomref02_FromInt.l0 k y0 y1 y2 y3) (transomref02_FromInt.l0 (k + 1) y0 y1 y2 y3))
  | 0 => ⟨fun _ _ r h => by simp [transomref02_FromInt.j0] at h, fun _ _ _ _ r h => by simp [transomref02_FromInt.l0] at h⟩
  | k + 1 => by
    obtain ⟨ih0, ih1⟩ := transomref02_FromInt.mono_l k
    refine ⟨?_, ?_⟩
    · intro y0 y1
      unfold transomref02_FromInt.j0
      repeat' first
      | (with_reducible exact ih0 _ _)
      | (with_reducible exact ih1 _ _ _ _)
      | (with_reducible exact LeO.refl _)
      | (with_reducible exact LeO.none _)
      | (with_reducible refine LeO.ite ?_ ?_)
      | (with_reducible refine LeO.bind ?_ (fun _ => ?_))
      | exact ih0 _ _
      | exact ih1 _ _ _ _
      | exact LeO.none _
      | refine LeO.ite ?_ ?_
      | refine LeO.bind ?_ (fun _ => ?_)
    · intro y0 y1 y2 y3
      unfold transomref02_FromInt.l0
      repeat' first
      | (with_reducible exact ih0 _ _)
      | (with_reducible exact ih1 _ _ _ _)
      | (with_reducible exact LeO.refl _)
      | (with_reducible exact LeO.none _)
      | (with_reducible refine LeO.ite ?_ ?_)
      | (with_reducible refine LeO.bind ?_ (fun _ => ?_))
      | exact ih0 _ _
      | exact ih1 _ _ _ _
      | exact LeO.none _
      | refine LeO.ite ?_ ?_
      | refine LeO.bind ?_ (fun _ => ?_)
theorem transomref02_FromInt.mono : ∀ a0 k, LeO (transomref02_FromInt.f k a0) (transomref02_FromInt.f (k + 1) a0) := by
  intro a0 k
  obtain ⟨ih0, ih1⟩ := transomref02_FromInt.mono_l k
  unfold transomref02_FromInt.f
  repeat' first
      | (with_reducible exact ih0 _ _)
      | (with_reducible exact ih1 _ _ _ _)
      | (with_reducible exact LeO.refl _)
      | (with_reducible exact LeO.none _)
      | (with_reducible refine LeO.ite ?_ ?_)
      | (with_reducible refine LeO.bind ?_ (fun _ => ?_))
      | exact ih0 _ _
      | exact ih1 _ _ _ _
      | exact LeO.none _
      | refine LeO.ite ?_ ?_
      | refine LeO.bind ?_ (fun _ => ?_)
set_option maxHeartbeats 8000000 in
set_option maxRecDepth 100000 in
theorem transomref02_FromInt.calls (k : Nat) (a0 : Int) (r1 : Int) (r2 : Bool) (w : World) (h : transomref02_FromInt.f k a0 = some (r1, r2)) :
    Calls Try.prog 15 #[.int .i64 a0] w fun e w' => e = .returned (.tuple #[.int .u64 r1, .bool r2]) ∧ Drawn0 w w' := by
  have H : (if a0 = 0 then (some (0, true)) else (if a0 < 0 then (transomref02_FromInt.j0 k 9223372036854775808 (IntKind.u64.wrap (-(IntKind.u64.wrap (a0))))) else (transomref02_FromInt.j0 k 0 (IntKind.u64.wrap (a0))))) = some (r1, r2) := h
  clear h
  by_cases c2 : a0 = 0
  · rw [if_pos c2] at H
    have c2b0 : (a0 == 0) = true := beq_iff_eq.mpr c2
    have c2b1 : (a0 != 0) = false := bne_eq_false_iff_eq.mpr c2
    clear c2
    simp only [Option.some.injEq, Prod.mk.injEq] at H
    obtain ⟨rfl, rfl⟩ := H
    go_enter Try.func15, Try.ntmps15
    go_wp2
    go_ret2
    exact ⟨by first | rfl | (simp; done) | (simp [*]; done), by repeat (first | exact Drawn0.refl _ | apply Drawn0.step)⟩
  · rw [if_neg c2] at H
    have c2b0 : (a0 == 0) = false := beq_eq_false_iff_ne.mpr c2
    have c2b1 : (a0 != 0) = true := bne_iff_ne.mpr c2
    have HC3 := Aside0.mk H
    clear H
    go_enter Try.func15, Try.ntmps15
    go_upto_if 14 with (fail)
    go_cut [4, 5] (fun v4 v5 wc => ∃ (kq : Nat) (x4_2 : Int) (x5_2 : Int), v4 = .int .u64 x4_2 ∧ v5 = .int .u64 x5_2 ∧ Aside0 (transomref02_FromInt.j0 kq x4_2 x5_2 = some (r1, r2)) ∧ Aside0 (kq ≤ k) ∧ Drawn0 w wc)
    case first =>
      have H := HC3.out
      clear HC3
      by_cases c4 : a0 < 0
      · rw [if_pos c4] at H
        have c4b0 : decide (a0 < 0) = true := decide_eq_true c4
        clear c4
        (first | rw [c4b0] | (simp only [i64_w, i32_w]; rw [c4b0]) | skip)
        have H' := Aside0.mk H
        clear H
        go_wp2
        go_meet
        case rel => exact ⟨_, (9223372036854775808), (IntKind.u64.wrap (-(IntKind.u64.wrap (a0)))), (by first | rfl | (simp; done) | (simp [*]; done)), (by first | rfl | (simp; done) | (simp [*]; done)), H', ⟨by first | omega | exact Nat.le_refl _⟩, by repeat (first | exact Drawn0.refl _ | apply Drawn0.step)⟩
      · rw [if_neg c4] at H
        have c4b0 : decide (a0 < 0) = false := decide_eq_false c4
        clear c4
        (first | rw [c4b0] | (simp only [i64_w, i32_w]; rw [c4b0]) | skip)
        have H' := Aside0.mk H
        clear H
        go_wp2
        go_meet
        case rel => exact ⟨_, (0), (IntKind.u64.wrap (a0)), (by first | rfl | (simp; done) | (simp [*]; done)), (by first | rfl | (simp; done) | (simp [*]; done)), H', ⟨by first | omega | exact Nat.le_refl _⟩, by repeat (first | exact Drawn0.refl _ | apply Drawn0.step)⟩
    case rest =>
      clear HC3
      try clear c1
      try clear c2
      try clear c2b0
      try clear c2b1
      try clear p2
      try clear c4
      try clear c4b0
      obtain ⟨kq, x4_2, x5_2, rfl, rfl, HA, HJ2, ⟨mc2, rfl⟩⟩ := hcut
      cases kq with
      | zero => exact absurd HA.out (by simp [transomref02_FromInt.j0])
      | succ kj2 =>
        have H := HA.out
        clear HA
        simp only [transomref02_FromInt.j0] at H
        have H' := Aside0.mk H
        clear H
        go_wp2
        go_loopg [6, 7] kj2 (fun kq v6 v7 w' => ∃ (x6_2 : Int) (x7_2 : Int), v6 = .int .i64 x6_2 ∧ v7 = .int .i64 x7_2 ∧ Aside0 (transomref02_FromInt.l0 kq x4_2 x5_2 x6_2 x7_2 = some (r1, r2)) ∧ Aside0 (kq ≤ kj2) ∧ Drawn0 w w')
        case atStart => exact ⟨(0), (0), (by first | rfl | (simp; done) | (simp [*]; done)), (by first | rfl | (simp; done) | (simp [*]; done)), H', ⟨Nat.le_refl _⟩, by repeat (first | exact Drawn0.refl _ | apply Drawn0.step)⟩
        case round =>
          clear H'
          try clear c1
          try clear c2
          try clear c2b0
          try clear c2b1
          try clear p2
          try clear c4
          try clear c4b0
          try clear p2
          obtain ⟨x6_2, x7_2, rfl, rfl, HA, HK2, ⟨m2, rfl⟩⟩ := hrel
          cases gk with
          | zero => exact absurd HA.out (by simp [transomref02_FromInt.l0])
          | succ k2 =>
            have H := HA.out
            clear HA
            simp only [transomref02_FromInt.l0] at H
            by_cases c5 : x7_2 < 64
            · rw [if_pos c5] at H
              have c5b0 : decide (x7_2 < 64) = true := decide_eq_true c5
              clear c5
              obtain ⟨ji6, hji6⟩ : ∃ j_ : Int, (IntKind.u64.wrap (x7_2)) = j_ := ⟨_, rfl⟩
              replace H : (if 0 ≤ (ji6) then (if (Go.bits .and .u64 (shr .u64 x5_2 (ji6)) 1) = 1 then (transomref02_FromInt.l0 k2 x4_2 x5_2 x7_2 (wrap64 (x7_2 + 1))) else (transomref02_FromInt.l0 k2 x4_2 x5_2 x6_2 (wrap64 (x7_2 + 1)))) else (none)) = some (r1, r2) := by first | (rw [hji6] at H; exact H) | (simp only [hji6] at H ⊢; exact H)
              by_cases c7 : 0 ≤ (ji6)
              · rw [if_pos c7] at H
                have c7b0 := eq_true c7
                have c7b1 : decide (0 ≤ (ji6)) = true := decide_eq_true c7
                clear c7
                obtain ⟨ji8, hji8⟩ : ∃ j_ : Int, (shr .u64 x5_2 (ji6)) = j_ := ⟨_, rfl⟩
                replace H : (if (Go.bits .and .u64 (ji8) 1) = 1 then (transomref02_FromInt.l0 k2 x4_2 x5_2 x7_2 (wrap64 (x7_2 + 1))) else (transomref02_FromInt.l0 k2 x4_2 x5_2 x6_2 (wrap64 (x7_2 + 1)))) = some (r1, r2) := by first | (rw [hji8] at H; exact H) | (simp only [hji8] at H ⊢; exact H)
                have hji8_ : (x5_2 / 2 ^ min (ji6).toNat 64) = ji8 := hji8
                have hji8z : (ji6) ≤ 64 → (x5_2 / 2 ^ (ji6).toNat) = ji8 := shr_small hji8
                by_cases c9 : (Go.bits .and .u64 (ji8) 1) = 1
                · rw [if_pos c9] at H
                  have c9b0 : ((Go.bits .and .u64 (ji8) 1) == 1) = true := beq_iff_eq.mpr c9
                  have c9b1 : ((Go.bits .and .u64 (ji8) 1) != 1) = false := bne_eq_false_iff_eq.mpr c9
                  clear c9
                  have H' := Aside0.mk H
                  clear H
                  go_wp2
                  go_roundg k2
                  case measure => have := HJ2.out; have := HK2.out; omega
                  case rel => exact ⟨(x7_2), (wrap64 (x7_2 + 1)), (by first | rfl | (simp; done) | (simp [*]; done)), (by first | rfl | (simp; done) | (simp [*]; done)), H', ⟨by have := HJ2.out; have := HK2.out; omega⟩, by repeat (first | exact Drawn0.refl _ | apply Drawn0.step)⟩
                · rw [if_neg c9] at H
                  have c9b0 : ((Go.bits .and .u64 (ji8) 1) == 1) = false := beq_eq_false_iff_ne.mpr c9
                  have c9b1 : ((Go.bits .and .u64 (ji8) 1) != 1) = true := bne_iff_ne.mpr c9
                  have H' := Aside0.mk H
                  clear H
                  go_wp2
                  go_roundg k2
                  case measure => have := HJ2.out; have := HK2.out; omega
                  case rel => exact ⟨(x6_2), (wrap64 (x7_2 + 1)), (by first | rfl | (simp; done) | (simp [*]; done)), (by first | rfl | (simp; done) | (simp [*]; done)), H', ⟨by have := HJ2.out; have := HK2.out; omega⟩, by repeat (first | exact Drawn0.refl _ | apply Drawn0.step)⟩
              · rw [if_neg c7] at H
                exact absurd H (by simp)
            · rw [if_neg c5] at H
              have c5b0 : decide (x7_2 < 64) = false := decide_eq_false c5
              clear c5
              by_cases c10 : x6_2 > 52
              · rw [if_pos c10] at H
                have c10b0 : decide (52 < x6_2) = true := decide_eq_true c10
                clear c10
                obtain ⟨ji11, hji11⟩ : ∃ j_ : Int, (IntKind.u64.wrap (wrap64 (x6_2 - 52))) = j_ := ⟨_, rfl⟩
                replace H : (if 0 ≤ (ji11) then (if (Go.bits .and .u64 x5_2 (IntKind.u64.wrap ((shl .u64 1 (ji11)) - 1))) = 0 then (some (Go.bits .or .u64 (Go.bits .or .u64 x4_2 (IntKind.u64.wrap ((IntKind.u64.wrap (wrap64 (x6_2 + 1023))) * 4503599627370496))) (Go.bits .and .u64 (shr .u64 x5_2 (ji11)) 4503599627370495), true)) else (some (0, false))) else (none)) = some (r1, r2) := by first | (rw [hji11] at H; exact H) | (simp only [hji11] at H ⊢; exact H)
                by_cases c12 : 0 ≤ (ji11)
                · rw [if_pos c12] at H
                  have c12b0 := eq_true c12
                  have c12b1 : decide (0 ≤ (ji11)) = true := decide_eq_true c12
                  clear c12
                  obtain ⟨ji13, hji13⟩ : ∃ j_ : Int, (shl .u64 1 (ji11)) = j_ := ⟨_, rfl⟩
                  replace H : (if (Go.bits .and .u64 x5_2 (IntKind.u64.wrap ((ji13) - 1))) = 0 then (some (Go.bits .or .u64 (Go.bits .or .u64 x4_2 (IntKind.u64.wrap ((IntKind.u64.wrap (wrap64 (x6_2 + 1023))) * 4503599627370496))) (Go.bits .and .u64 (shr .u64 x5_2 (ji11)) 4503599627370495), true)) else (some (0, false))) = some (r1, r2) := by first | (rw [hji13] at H; exact H) | (simp only [hji13] at H ⊢; exact H)
                  have hji13_ : (IntKind.u64.wrap (1 * 2 ^ min (ji11).toNat 64)) = ji13 := hji13
                  have hji13z : (ji11) ≤ 64 → (IntKind.u64.wrap (1 * 2 ^ (ji11).toNat)) = ji13 := shl_small hji13
                  have hji13u : (IntKind.u64.wrap (2 ^ min (ji11).toNat 64)) = ji13 := by have h_ := hji13_; rw [Int.one_mul] at h_; exact h_
                  have hji13v : (ji11) ≤ 64 → (IntKind.u64.wrap (2 ^ (ji11).toNat)) = ji13 := fun hle_ => by have h_ := hji13z hle_; rw [Int.one_mul] at h_; exact h_
                  by_cases c14 : (Go.bits .and .u64 x5_2 (IntKind.u64.wrap ((ji13) - 1))) = 0
                  · rw [if_pos c14] at H
                    have c14b0 : ((Go.bits .and .u64 x5_2 (IntKind.u64.wrap ((ji13) - 1))) == 0) = true := beq_iff_eq.mpr c14
                    have c14b1 : ((Go.bits .and .u64 x5_2 (IntKind.u64.wrap ((ji13) - 1))) != 0) = false := bne_eq_false_iff_eq.mpr c14
                    clear c14
                    have c15b0 := eq_true (of_decide_eq_true (by first | (with_reducible assumption) | assumption) : 0 ≤ (ji11))
                    obtain ⟨ji16, hji16⟩ : ∃ j_ : Int, (shr .u64 x5_2 (ji11)) = j_ := ⟨_, rfl⟩
                    replace H : (some (Go.bits .or .u64 (Go.bits .or .u64 x4_2 (IntKind.u64.wrap ((IntKind.u64.wrap (wrap64 (x6_2 + 1023))) * 4503599627370496))) (Go.bits .and .u64 (ji16) 4503599627370495), true)) = some (r1, r2) := by first | (rw [hji16] at H; exact H) | (simp only [hji16] at H ⊢; exact H)
                    have hji16_ : (x5_2 / 2 ^ min (ji11).toNat 64) = ji16 := hji16
                    have hji16z : (ji11) ≤ 64 → (x5_2 / 2 ^ (ji11).toNat) = ji16 := shr_small hji16
                    simp only [Option.some.injEq, Prod.mk.injEq] at H
                    obtain ⟨rfl, rfl⟩ := H
                    go_wp2
                    go_ret2
                    exact ⟨by first | rfl | (simp; done) | (simp only [← hji11, ← hji13, ← hji16] <;> (first | rfl | simp)) | (simp [*]; done), by repeat (first | exact Drawn0.refl _ | apply Drawn0.step)⟩
                  · rw [if_neg c14] at H
                    have c14b0 : ((Go.bits .and .u64 x5_2 (IntKind.u64.wrap ((ji13) - 1))) == 0) = false := beq_eq_false_iff_ne.mpr c14
                    have c14b1 : ((Go.bits .and .u64 x5_2 (IntKind.u64.wrap ((ji13) - 1))) != 0) = true := bne_iff_ne.mpr c14
                    simp only [Option.some.injEq, Prod.mk.injEq] at H
                    obtain ⟨rfl, rfl⟩ := H
                    go_wp2
                    go_ret2
                    exact ⟨by first | rfl | (simp; done) | (simp only [← hji11, ← hji13] <;> (first | rfl | simp)) | (simp [*]; done), by repeat (first | exact Drawn0.refl _ | apply Drawn0.step)⟩
                · rw [if_neg c12] at H
                  exact absurd H (by simp)
              · rw [if_neg c10] at H
                have c10b0 : decide (52 < x6_2) = false := decide_eq_false c10
                clear c10
                obtain ⟨ji17, hji17⟩ : ∃ j_ : Int, (IntKind.u64.wrap (wrap64 (52 - x6_2))) = j_ := ⟨_, rfl⟩
                replace H : (if 0 ≤ (ji17) then (some (Go.bits .or .u64 (Go.bits .or .u64 x4_2 (IntKind.u64.wrap ((IntKind.u64.wrap (wrap64 (x6_2 + 1023))) * 4503599627370496))) (Go.bits .and .u64 (shl .u64 x5_2 (ji17)) 4503599627370495), true)) else (none)) = some (r1, r2) := by first | (rw [hji17] at H; exact H) | (simp only [hji17] at H ⊢; exact H)
                by_cases c18 : 0 ≤ (ji17)
                · rw [if_pos c18] at H
                  have c18b0 := eq_true c18
                  have c18b1 : decide (0 ≤ (ji17)) = true := decide_eq_true c18
                  clear c18
                  obtain ⟨ji19, hji19⟩ : ∃ j_ : Int, (shl .u64 x5_2 (ji17)) = j_ := ⟨_, rfl⟩
                  replace H : (some (Go.bits .or .u64 (Go.bits .or .u64 x4_2 (IntKind.u64.wrap ((IntKind.u64.wrap (wrap64 (x6_2 + 1023))) * 4503599627370496))) (Go.bits .and .u64 (ji19) 4503599627370495), true)) = some (r1, r2) := by first | (rw [hji19] at H; exact H) | (simp only [hji19] at H ⊢; exact H)
                  have hji19_ : (IntKind.u64.wrap (x5_2 * 2 ^ min (ji17).toNat 64)) = ji19 := hji19
                  have hji19z : (ji17) ≤ 64 → (IntKind.u64.wrap (x5_2 * 2 ^ (ji17).toNat)) = ji19 := shl_small hji19
                  simp only [Option.some.injEq, Prod.mk.injEq] at H
                  obtain ⟨rfl, rfl⟩ := H
                  go_wp2
                  go_ret2
                  exact ⟨by first | rfl | (simp; done) | (simp only [← hji17, ← hji19] <;> (first | rfl | simp)) | (simp [*]; done), by repeat (first | exact Drawn0.refl _ | apply Drawn0.step)⟩
                · rw [if_neg c18] at H
                  exact absurd H (by simp)

/-! ### transomref02_fraction: function 29 -/
def transomref02_fraction.f (a0 : Int) : Option (Int) := some (Go.bits .and .u64 a0 4503599627370495)
set_option maxHeartbeats 8000000 in
set_option maxRecDepth 100000 in
theorem transomref02_fraction.calls (a0 : Int) (r : Int) (w : World) (h : transomref02_fraction.f a0 = some r) :
    Calls Try.prog 29 #[.int .u64 a0] w fun e w' => e = .returned (.int .u64 r) ∧ Drawn0 w w' := by
  have H : (some (Go.bits .and .u64 a0 4503599627370495)) = some r := h
  clear h
  obtain rfl := Option.some.inj H
  go_enter Try.func29, Try.ntmps29
  go_wp2
  go_ret
  exact ⟨by first | rfl | (simp; done) | (simp [*]; done), by repeat (first | exact Drawn0.refl _ | apply Drawn0.step)⟩

/-! ### transomref02_exponent: function 30 -/
def transomref02_exponent.f (a0 : Int) : Option (Int) := some (wrap64 (Go.bits .and .u64 (a0 / 4503599627370496) 2047))
set_option maxHeartbeats 8000000 in
set_option maxRecDepth 100000 in
theorem transomref02_exponent.calls (a0 : Int) (r : Int) (w : World) (h : transomref02_exponent.f a0 = some r) :
    Calls Try.prog 30 #[.int .u64 a0] w fun e w' => e = .returned (.int .i64 r) ∧ Drawn0 w w' := by
  have H : (some (wrap64 (Go.bits .and .u64 (a0 / 4503599627370496) 2047))) = some r := h
  clear h
  obtain rfl := Option.some.inj H
  go_enter Try.func30, Try.ntmps30
  go_wp2
  go_ret
  exact ⟨by first | rfl | (simp; done) | (simp [*]; done), by repeat (first | exact Drawn0.refl _ | apply Drawn0.step)⟩

/-! ### transomref02_Class: function 22 -/
mutual
def transomref02_Class.j0 : Nat → Int → Bool → Option (Int)
  | 0, _, _ => none
  | k + 1, x0, x3 => if x3 = true then (some 1) else ((transomref02_exponent.f x0).bind fun t120 => (if t120 = 2047 then (some 2) else ((transomref02_exponent.f x0).bind fun t121 => (if t121 = 0 then ((transomref02_fraction.f x0).bind fun t122 => (transomref02_Class.j1 k x0 (t122 == 0))) else (transomref02_Class.j1 k x0 false)))))
def transomref02_Class.j1 : Nat → Int → Bool → Option (Int)
  | 0, _, _ => none
  | k + 1, x0, x16 => if x16 = true then (some 3) else ((transomref02_exponent.f x0).bind fun t123 => (if t123 = 0 then (some 4) else (some 5)))
end
def transomref02_Class.f (k : Nat) (a0 : Int) : Option (Int) := (transomref02_exponent.f a0).bind fun t118 => (if t118 = 2047 then ((transomref02_fraction.f a0).bind fun t119 => (transomref02_Class.j0 k a0 (t119 != 0))) else (transomref02_Class.j0 k a0 false))
theorem transomref02_Class.mono_l : ∀ k, (∀ y0 y1, LeO (transomref02_Class.j0 k y0 y1) (transomref02_Class.j0 (k + 1) y0 y1)) ∧ (∀ y0 y1, LeO (transomref02_Class.j1 k y0 y1) (transomref02_Class.j1 (k + 1) y0 y1))
  | 0 => ⟨fun _ _ r h => by simp [transomref02_Class.j0] at h, fun _ _ r h => by simp [transomref02_Class.j1] at h⟩
  | k + 1 => by
    obtain ⟨ih0, ih1⟩ := transomref02_Class.mono_l k
    refine ⟨?_, ?_⟩
    · intro y0 y1
      unfold transomref02_Class.j0
      repeat' first
      | (with_reducible exact ih0 _ _)
      | (with_reducible exact ih1 _ _)
      | (with_reducible exact LeO.refl _)
      | (with_reducible exact LeO.none _)
      | (with_reducible refine LeO.ite ?_ ?_)
      | (with_reducible refine LeO.bind ?_ (fun _ => ?_))
      | exact ih0 _ _
      | exact ih1 _ _
      | exact LeO.none _
      | refine LeO.ite ?_ ?_
      | refine LeO.bind ?_ (fun _ => ?_)
    · intro y0 y1
      unfold transomref02_Class.j1
      repeat' first
      | (with_reducible exact ih0 _ _)
      | (with_reducible exact ih1 _ _)
      | (with_reducible exact LeO.refl _)
      | (with_reducible exact LeO.none _)
      | (with_reducible refine LeO.ite ?_ ?_)
      | (with_reducible refine LeO.bind ?_ (fun _ => ?_))
      | exact ih0 _ _
      | exact ih1 _ _
      | exact LeO.none _
      | refine LeO.ite ?_ ?_
      | refine LeO.bind ?_ (fun _ => ?_)
theorem transomref02_Class.mono : ∀ a0 k, LeO (transomref02_Class.f k a0) (transomref02_Class.f (k + 1) a0) := by
  intro a0 k
  obtain ⟨ih0, ih1⟩ := transomref02_Class.mono_l k
  unfold transomref02_Class.f
  repeat' first
      | (with_reducible exact ih0 _ _)
      | (with_reducible exact ih1 _ _)
      | (with_reducible exact LeO.refl _)
      | (with_reducible exact LeO.none _)
      | (with_reducible refine LeO.ite ?_ ?_)
      | (with_reducible refine LeO.bind ?_ (fun _ => ?_))
      | exact ih0 _ _
      | exact ih1 _ _
      | exact LeO.none _
      | refine LeO.ite ?_ ?_
      | refine LeO.bind ?_ (fun _ => ?_)
set_option maxHeartbeats 8000000 in
set_option maxRecDepth 100000 in
theorem transomref02_Class.calls (k : Nat) (a0 : Int) (r : Int) (w : World) (h : transomref02_Class.f k a0 = some r) :
    Calls Try.prog 22 #[.int .u64 a0] w fun e w' => e = .returned (.int .i64 r) ∧ Drawn0 w w' := by
  have H : ((transomref02_exponent.f a0).bind fun t118 => (if t118 = 2047 then ((transomref02_fraction.f a0).bind fun t119 => (transomref02_Class.j0 k a0 (t119 != 0))) else (transomref02_Class.j0 k a0 false))) = some r := h
  clear h
  have HC2 := Aside0.mk H
  clear H
  go_enter Try.func22, Try.ntmps22
  go_upto_region 1 with (fail)
  go_cut [3] (fun v3 wc => ∃ (kq : Nat) (x3_1 : Bool), v3 = .bool x3_1 ∧ Aside0 (transomref02_Class.j0 kq a0 x3_1 = some r) ∧ Aside0 (kq ≤ k) ∧ Drawn0 w wc)
  case first =>
    have H := HC2.out
    clear HC2
    replace H := Option.bind_eq_some_iff.mp H
    obtain ⟨t118, A30, H⟩ := H
    replace H : (if t118 = 2047 then ((transomref02_fraction.f a0).bind fun t119 => (transomref02_Class.j0 k a0 (t119 != 0))) else (transomref02_Class.j0 k a0 false)) = some r := H
    have A3 := Aside0.mk A30
    clear A30
    by_cases c4 : t118 = 2047
    · rw [if_pos c4] at H
      have c4b0 : (t118 == 2047) = true := beq_iff_eq.mpr c4
      have c4b1 : (t118 != 2047) = false := bne_eq_false_iff_eq.mpr c4
      clear c4
      (first | rw [c4b0] | (simp only [i64_w, i32_w]; rw [c4b0]) | skip)
      replace H := Option.bind_eq_some_iff.mp H
      obtain ⟨t119, A50, H⟩ := H
      replace H : (transomref02_Class.j0 k a0 (t119 != 0)) = some r := H
      have A5 := Aside0.mk A50
      clear A50
      have H' := Aside0.mk H
      clear H
      go_wp2_with (first | ((with_reducible refine gate_callee (f := 30) rfl ?_); refine goesL_ (some 5) rfl rfl Try.func30 (by kernel_rfl) rfl #[.int .u64 a0] rfl (by (try simp only [List.map_toArray, List.map_cons, List.map_nil]); first | done | rfl | (simp only [List.length_drop, List.length_take]; rfl) | (simp [Act.eval, IntKind.wrap_u64, IntKind.wrap_u8, IntKind.wrap_u32, wrap64]; omega)) ?_; (with_reducible refine (transomref02_exponent.calls a0 t118 _ A3.out).mono ?_); rintro e w' ⟨rfl, ⟨nd, rfl⟩⟩; refine ⟨_, rfl, ?_⟩) | (go_at_call 29; (with_reducible refine (transomref02_fraction.calls a0 t119 _ A5.out).mono ?_); rintro e w' ⟨rfl, ⟨nd, rfl⟩⟩))
      go_meet
      case rel => exact ⟨_, ((t119 != 0)), (by first | rfl | (simp; done) | (simp [*]; done)), H', ⟨by first | omega | exact Nat.le_refl _⟩, by repeat (first | exact Drawn0.refl _ | apply Drawn0.step)⟩
    · rw [if_neg c4] at H
      have c4b0 : (t118 == 2047) = false := beq_eq_false_iff_ne.mpr c4
      have c4b1 : (t118 != 2047) = true := bne_iff_ne.mpr c4
      (first | rw [c4b0] | (simp only [i64_w, i32_w]; rw [c4b0]) | skip)
      have H' := Aside0.mk H
      clear H
      go_wp2_with (first | ((with_reducible refine gate_callee (f := 30) rfl ?_); refine goesL_ (some 5) rfl rfl Try.func30 (by kernel_rfl) rfl #[.int .u64 a0] rfl (by (try simp only [List.map_toArray, List.map_cons, List.map_nil]); first | done | rfl | (simp only [List.length_drop, List.length_take]; rfl) | (simp [Act.eval, IntKind.wrap_u64, IntKind.wrap_u8, IntKind.wrap_u32, wrap64]; omega)) ?_; (with_reducible refine (transomref02_exponent.calls a0 t118 _ A3.out).mono ?_); rintro e w' ⟨rfl, ⟨nd, rfl⟩⟩; refine ⟨_, rfl, ?_⟩))
      go_meet
      case rel => exact ⟨_, (false), (by first | rfl | (simp; done) | (simp [*]; done)), H', ⟨by first | omega | exact Nat.le_refl _⟩, by repeat (first | exact Drawn0.refl _ | apply Drawn0.step)⟩
  case rest =>
    clear HC2
    try clear c2
    try clear p2
    try clear c3
    try clear c4
    try clear c4b0
    try clear c4b1
    obtain ⟨kq, x3_1, rfl, HA, HJ1, ⟨mc1, rfl⟩⟩ := hcut
    cases kq with
    | zero => exact absurd HA.out (by simp [transomref02_Class.j0])
    | succ kj1 =>
      have H := HA.out
      clear HA
      simp only [transomref02_Class.j0] at H
      by_cases c6 : x3_1 = true
      · subst c6
        have H1 : (some 1) = some r := by rw [if_pos rfl] at H; exact H
        clear H
        have H := H1
        clear H1
        obtain rfl := Option.some.inj H
        go_wp2
        go_ret
        exact ⟨by first | rfl | (simp; done) | (simp [*]; done), by repeat (first | exact Drawn0.refl _ | apply Drawn0.step)⟩
      · replace c6 := Bool.eq_false_iff.mpr c6
        subst c6
        have H1 : ((transomref02_exponent.f a0).bind fun t120 => (if t120 = 2047 then (some 2) else ((transomref02_exponent.f a0).bind fun t121 => (if t121 = 0 then ((transomref02_fraction.f a0).bind fun t122 => (transomref02_Class.j1 kj1 a0 (t122 == 0))) else (transomref02_Class.j1 kj1 a0 false))))) = some r := by rw [if_neg (show ¬ (false = true) by decide)] at H; exact H
        clear H
        have H := H1
        clear H1
        replace H := Option.bind_eq_some_iff.mp H
        obtain ⟨t120, A70, H⟩ := H
        replace H : (if t120 = 2047 then (some 2) else ((transomref02_exponent.f a0).bind fun t121 => (if t121 = 0 then ((transomref02_fraction.f a0).bind fun t122 => (transomref02_Class.j1 kj1 a0 (t122 == 0))) else (transomref02_Class.j1 kj1 a0 false)))) = some r := H
        have A7 := Aside0.mk A70
        clear A70
        by_cases c8 : t120 = 2047
        · rw [if_pos c8] at H
          have c8b0 : (t120 == 2047) = true := beq_iff_eq.mpr c8
          have c8b1 : (t120 != 2047) = false := bne_eq_false_iff_eq.mpr c8
          clear c8
          obtain rfl := Option.some.inj H
          go_wp2_with (first | ((with_reducible refine gate_callee (f := 30) rfl ?_); refine goesL_ (some 14) rfl rfl Try.func30 (by kernel_rfl) rfl #[.int .u64 a0] rfl (by (try simp only [List.map_toArray, List.map_cons, List.map_nil]); first | done | rfl | (simp only [List.length_drop, List.length_take]; rfl) | (simp [Act.eval, IntKind.wrap_u64, IntKind.wrap_u8, IntKind.wrap_u32, wrap64]; omega)) ?_; (with_reducible refine (transomref02_exponent.calls a0 t120 _ A7.out).mono ?_); rintro e w' ⟨rfl, ⟨nd, rfl⟩⟩; refine ⟨_, rfl, ?_⟩))
          go_ret
          exact ⟨by first | rfl | (simp; done) | (simp [*]; done), by repeat (first | exact Drawn0.refl _ | apply Drawn0.step)⟩
        · rw [if_neg c8] at H
          have c8b0 : (t120 == 2047) = false := beq_eq_false_iff_ne.mpr c8
          have c8b1 : (t120 != 2047) = true := bne_iff_ne.mpr c8
          have HC9 := Aside0.mk H
          clear H
          go_upto_region 5 with (first | ((with_reducible refine gate_callee (f := 30) rfl ?_); refine goesL_ (some 14) rfl rfl Try.func30 (by kernel_rfl) rfl #[.int .u64 a0] rfl (by (try simp only [List.map_toArray, List.map_cons, List.map_nil]); first | done | rfl | (simp only [List.length_drop, List.length_take]; rfl) | (simp [Act.eval, IntKind.wrap_u64, IntKind.wrap_u8, IntKind.wrap_u32, wrap64]; omega)) ?_; (with_reducible refine (transomref02_exponent.calls a0 t120 _ A7.out).mono ?_); rintro e w' ⟨rfl, ⟨nd, rfl⟩⟩; refine ⟨_, rfl, ?_⟩))
          (try simp only [Act.put, List.setIfInBounds_toArray, List.set_cons_zero, List.set_cons_succ])
          go_cut [16] (fun v16 wc => ∃ (kq : Nat) (x16_8 : Bool), v16 = .bool x16_8 ∧ Aside0 (transomref02_Class.j1 kq a0 x16_8 = some r) ∧ Aside0 (kq ≤ kj1) ∧ Drawn0 w wc)
          case first =>
            have H := HC9.out
            clear HC9
            replace H := Option.bind_eq_some_iff.mp H
            obtain ⟨t121, A100, H⟩ := H
            replace H : (if t121 = 0 then ((transomref02_fraction.f a0).bind fun t122 => (transomref02_Class.j1 kj1 a0 (t122 == 0))) else (transomref02_Class.j1 kj1 a0 false)) = some r := H
            have A10 := Aside0.mk A100
            clear A100
            by_cases c11 : t121 = 0
            · rw [if_pos c11] at H
              have c11b0 : (t121 == 0) = true := beq_iff_eq.mpr c11
              have c11b1 : (t121 != 0) = false := bne_eq_false_iff_eq.mpr c11
              clear c11
              (first | rw [c11b0] | (simp only [i64_w, i32_w]; rw [c11b0]) | skip)
              replace H := Option.bind_eq_some_iff.mp H
              obtain ⟨t122, A120, H⟩ := H
              replace H : (transomref02_Class.j1 kj1 a0 (t122 == 0)) = some r := H
              have A12 := Aside0.mk A120
              clear A120
              have H' := Aside0.mk H
              clear H
              go_wp2_with (first | ((with_reducible refine gate_callee (f := 30) rfl ?_); refine goesL_ (some 18) rfl rfl Try.func30 (by kernel_rfl) rfl #[.int .u64 a0] rfl (by (try simp only [List.map_toArray, List.map_cons, List.map_nil]); first | done | rfl | (simp only [List.length_drop, List.length_take]; rfl) | (simp [Act.eval, IntKind.wrap_u64, IntKind.wrap_u8, IntKind.wrap_u32, wrap64]; omega)) ?_; (with_reducible refine (transomref02_exponent.calls a0 t121 _ A10.out).mono ?_); rintro e w' ⟨rfl, ⟨nd, rfl⟩⟩; refine ⟨_, rfl, ?_⟩) | (go_at_call 29; (with_reducible refine (transomref02_fraction.calls a0 t122 _ A12.out).mono ?_); rintro e w' ⟨rfl, ⟨nd, rfl⟩⟩))
              go_meet
              case rel => exact ⟨_, ((t122 == 0)), (by first | rfl | (simp; done) | (simp [*]; done)), H', ⟨by have := HJ1.out; first | omega | exact Nat.le_refl _⟩, by repeat (first | exact Drawn0.refl _ | apply Drawn0.step)⟩
            · rw [if_neg c11] at H
              have c11b0 : (t121 == 0) = false := beq_eq_false_iff_ne.mpr c11
              have c11b1 : (t121 != 0) = true := bne_iff_ne.mpr c11
              (first | rw [c11b0] | (simp only [i64_w, i32_w]; rw [c11b0]) | skip)
              have H' := Aside0.mk H
              clear H
              go_wp2_with (first | ((with_reducible refine gate_callee (f := 30) rfl ?_); refine goesL_ (some 18) rfl rfl Try.func30 (by kernel_rfl) rfl #[.int .u64 a0] rfl (by (try simp only [List.map_toArray, List.map_cons, List.map_nil]); first | done | rfl | (simp only [List.length_drop, List.length_take]; rfl) | (simp [Act.eval, IntKind.wrap_u64, IntKind.wrap_u8, IntKind.wrap_u32, wrap64]; omega)) ?_; (with_reducible refine (transomref02_exponent.calls a0 t121 _ A10.out).mono ?_); rintro e w' ⟨rfl, ⟨nd, rfl⟩⟩; refine ⟨_, rfl, ?_⟩))
              go_meet
              case rel => exact ⟨_, (false), (by first | rfl | (simp; done) | (simp [*]; done)), H', ⟨by have := HJ1.out; first | omega | exact Nat.le_refl _⟩, by repeat (first | exact Drawn0.refl _ | apply Drawn0.step)⟩
          case rest =>
            clear HC9
            try clear c1
            try clear c2
            try clear p2
            try clear c3
            try clear c4
            try clear c4b0
            try clear c4b1
            try clear c6
            try clear p6
            try clear c8
            try clear c8b0
            try clear c8b1
            try clear c11
            try clear c11b0
            try clear c11b1
            try clear p2
            obtain ⟨kq, x16_8, rfl, HA, HJ8, ⟨mc8, rfl⟩⟩ := hcut
            cases kq with
            | zero => exact absurd HA.out (by simp [transomref02_Class.j1])
            | succ kj8 =>
              have H := HA.out
              clear HA
              simp only [transomref02_Class.j1] at H
              by_cases c13 : x16_8 = true
              · subst c13
                have H1 : (some 3) = some r := by rw [if_pos rfl] at H; exact H
                clear H
                have H := H1
                clear H1
                obtain rfl := Option.some.inj H
                go_wp2
                go_ret
                exact ⟨by first | rfl | (simp; done) | (simp [*]; done), by repeat (first | exact Drawn0.refl _ | apply Drawn0.step)⟩
              · replace c13 := Bool.eq_false_iff.mpr c13
                subst c13
                have H1 : ((transomref02_exponent.f a0).bind fun t123 => (if t123 = 0 then (some 4) else (some 5))) = some r := by rw [if_neg (show ¬ (false = true) by decide)] at H; exact H
                clear H
                have H := H1
                clear H1
                replace H := Option.bind_eq_some_iff.mp H
                obtain ⟨t123, A140, H⟩ := H
                replace H : (if t123 = 0 then (some 4) else (some 5)) = some r := H
                have A14 := Aside0.mk A140
                clear A140
                by_cases c15 : t123 = 0
                · rw [if_pos c15] at H
                  have c15b0 : (t123 == 0) = true := beq_iff_eq.mpr c15
                  have c15b1 : (t123 != 0) = false := bne_eq_false_iff_eq.mpr c15
                  clear c15
                  obtain rfl := Option.some.inj H
                  go_wp2_with (first | ((with_reducible refine gate_callee (f := 30) rfl ?_); refine goesL_ (some 27) rfl rfl Try.func30 (by kernel_rfl) rfl #[.int .u64 a0] rfl (by (try simp only [List.map_toArray, List.map_cons, List.map_nil]); first | done | rfl | (simp only [List.length_drop, List.length_take]; rfl) | (simp [Act.eval, IntKind.wrap_u64, IntKind.wrap_u8, IntKind.wrap_u32, wrap64]; omega)) ?_; (with_reducible refine (transomref02_exponent.calls a0 t123 _ A14.out).mono ?_); rintro e w' ⟨rfl, ⟨nd, rfl⟩⟩; refine ⟨_, rfl, ?_⟩))
                  go_ret
                  exact ⟨by first | rfl | (simp; done) | (simp [*]; done), by repeat (first | exact Drawn0.refl _ | apply Drawn0.step)⟩
                · rw [if_neg c15] at H
                  have c15b0 : (t123 == 0) = false := beq_eq_false_iff_ne.mpr c15
                  have c15b1 : (t123 != 0) = true := bne_iff_ne.mpr c15
                  obtain rfl := Option.some.inj H
                  go_wp2_with (first | ((with_reducible refine gate_callee (f := 30) rfl ?_); refine goesL_ (some 27) rfl rfl Try.func30 (by kernel_rfl) rfl #[.int .u64 a0] rfl (by (try simp only [List.map_toArray, List.map_cons, List.map_nil]); first | done | rfl | (simp only [List.length_drop, List.length_take]; rfl) | (simp [Act.eval, IntKind.wrap_u64, IntKind.wrap_u8, IntKind.wrap_u32, wrap64]; omega)) ?_; (with_reducible refine (transomref02_exponent.calls a0 t123 _ A14.out).mono ?_); rintro e w' ⟨rfl, ⟨nd, rfl⟩⟩; refine ⟨_, rfl, ?_⟩))
                  go_ret
                  exact ⟨by first | rfl | (simp; done) | (simp [*]; done), by repeat (first | exact Drawn0.refl _ | apply Drawn0.step)⟩

/-! ### transomref02_ToInt: function 17 -/
mutual
def transomref02_ToInt.j0 : Nat → Int → Int → Int → Bool → Option (Int × Bool)
  | 0, _, _, _, _ => none
  | k + 1, x0, x5, x6, x25 => if x25 = true then (some (0, false)) else (if x6 < 0 then (if 0 ≤ (IntKind.u64.wrap (wrap64 (-x6))) then (if (Go.bits .and .u64 x5 (IntKind.u64.wrap ((shl .u64 1 (IntKind.u64.wrap (wrap64 (-x6)))) - 1))) = 0 then (transomref02_ToInt.j1 k x0 (shr .u64 x5 (IntKind.u64.wrap (wrap64 (-x6))))) else (some (0, false))) else (none)) else (if 0 ≤ (IntKind.u64.wrap (x6)) then (transomref02_ToInt.j1 k x0 (shl .u64 x5 (IntKind.u64.wrap (x6)))) else (none)))
def transomref02_ToInt.j1 : Nat → Int → Int → Option (Int × Bool)
  | 0, _, _ => none
  | k + 1, x0, x5 => if (x0 / 9223372036854775808) = 1 then (if x5 > 9223372036854775808 then (some (0, false)) else (some (wrap64 (IntKind.u64.wrap (-x5)), true))) else (if x5 > 9223372036854775807 then (some (0, false)) else (some (wrap64 (x5), true)))
end
def transomref02_ToInt.f (k : Nat) (a0 : Int) : Option (Int × Bool) := (transomref02_Class.f k a0).bind fun t124 => (if t124 = 3 then (some (0, true)) else (if t124 = 5 then ((transomref02_fraction.f a0).bind fun t125 => ((transomref02_exponent.f a0).bind fun t126 => (if (wrap64 ((wrap64 (t126 - 1023)) - 52)) < (-52) then (transomref02_ToInt.j0 k a0 (Go.bits .or .u64 t125 4503599627370496) (wrap64 ((wrap64 (t126 - 1023)) - 52)) true) else (transomref02_ToInt.j0 k a0 (Go.bits .or .u64 t125 4503599627370496) (wrap64 ((wrap64 (t126 - 1023)) - 52)) (decide ((wrap64 ((wrap64 (t126 - 1023)) - 52)) > 11)))))) else (some (0, false))))
theorem transomref02_ToInt.mono_l : ∀ k, (∀ y0 y1 y2 y3, LeO (transomref02_ToInt.j0 k y0 y1 y2 y3) (transomref02_ToInt.j0 (k + 1) y0 y1 y2 y3)) ∧ (∀ y0 y1, LeO (transomref02_ToInt.j1 k y0 y1) (transomref02_ToInt.j1 (k + 1) y0 y1))
  | 0 => ⟨fun _ _ _ _ r h => by simp [transomref02_ToInt.j0] at h, fun _ _ r h => by simp [transomref02_ToInt.j1] at h⟩
  | k + 1 => by
    obtain ⟨ih0, ih1⟩ := transomref02_ToInt.mono_l k
    refine ⟨?_, ?_⟩
    · intro y0 y1 y2 y3
      unfold transomref02_ToInt.j0
      repeat' first
      | (with_reducible exact ih0 _ _ _ _)
      | (with_reducible exact ih1 _ _)
      | (with_reducible exact transomref02_Class.mono _ _)
      | (with_reducible exact LeO.refl _)
      | (with_reducible exact LeO.none _)
      | (with_reducible refine LeO.ite ?_ ?_)
      | (with_reducible refine LeO.bind ?_ (fun _ => ?_))
      | exact ih0 _ _ _ _
      | exact ih1 _ _
      | exact transomref02_Class.mono _ _
      | exact LeO.none _
      | refine LeO.ite ?_ ?_
      | refine LeO.bind ?_ (fun _ => ?_)
    · intro y0 y1
      unfold transomref02_ToInt.j1
      repeat' first
      | (with_reducible exact ih0 _ _ _ _)
      | (with_reducible exact ih1 _ _)
      | (with_reducible exact transomref02_Class.mono _ _)
      | (with_reducible exact LeO.refl _)
      | (with_reducible exact LeO.none _)
      | (with_reducible refine LeO.ite ?_ ?_)
      | (with_reducible refine LeO.bind ?_ (fun _ => ?_))
      | exact ih0 _ _ _ _
      | exact ih1 _ _
      | exact transomref02_Class.mono _ _
      | exact LeO.none _
      | refine LeO.ite ?_ ?_
      | refine LeO.bind ?_ (fun _ => ?_)
theorem transomref02_ToInt.mono : ∀ a0 k, LeO (transomref02_ToInt.f k a0) (transomref02_ToInt.f (k + 1) a0) := by
  intro a0 k
  obtain ⟨ih0, ih1⟩ := transomref02_ToInt.mono_l k
  unfold transomref02_ToInt.f
  repeat' first
      | (with_reducible exact ih0 _ _ _ _)
      | (with_reducible exact ih1 _ _)
      | (with_reducible exact transomref02_Class.mono _ _)
      | (with_reducible exact LeO.refl _)
      | (with_reducible exact LeO.none _)
      | (with_reducible refine LeO.ite ?_ ?_)
      | (with_reducible refine LeO.bind ?_ (fun _ => ?_))
      | exact ih0 _ _ _ _
      | exact ih1 _ _
      | exact transomref02_Class.mono _ _
      | exact LeO.none _
      | refine LeO.ite ?_ ?_
      | refine LeO.bind ?_ (fun _ => ?_)
set_option maxHeartbeats 8000000 in
set_option maxRecDepth 100000 in
theorem transomref02_ToInt.calls (k : Nat) (a0 : Int) (r1 : Int) (r2 : Bool) (w : World) (h : transomref02_ToInt.f k a0 = some (r1, r2)) :
    Calls Try.prog 17 #[.int .u64 a0] w fun e w' => e = .returned (.tuple #[.int .i64 r1, .bool r2]) ∧ Drawn0 w w' := by
  have H : ((transomref02_Class.f k a0).bind fun t124 => (if t124 = 3 then (some (0, true)) else (if t124 = 5 then ((transomref02_fraction.f a0).bind fun t125 => ((transomref02_exponent.f a0).bind fun t126 => (if (wrap64 ((wrap64 (t126 - 1023)) - 52)) < (-52) then (transomref02_ToInt.j0 k a0 (Go.bits .or .u64 t125 4503599627370496) (wrap64 ((wrap64 (t126 - 1023)) - 52)) true) else (transomref02_ToInt.j0 k a0 (Go.bits .or .u64 t125 4503599627370496) (wrap64 ((wrap64 (t126 - 1023)) - 52)) (decide ((wrap64 ((wrap64 (t126 - 1023)) - 52)) > 11)))))) else (some (0, false))))) = some (r1, r2) := h
  clear h
  replace H := Option.bind_eq_some_iff.mp H
  obtain ⟨t124, A20, H⟩ := H
  replace H : (if t124 = 3 then (some (0, true)) else (if t124 = 5 then ((transomref02_fraction.f a0).bind fun t125 => ((transomref02_exponent.f a0).bind fun t126 => (if (wrap64 ((wrap64 (t126 - 1023)) - 52)) < (-52) then (transomref02_ToInt.j0 k a0 (Go.bits .or .u64 t125 4503599627370496) (wrap64 ((wrap64 (t126 - 1023)) - 52)) true) else (transomref02_ToInt.j0 k a0 (Go.bits .or .u64 t125 4503599627370496) (wrap64 ((wrap64 (t126 - 1023)) - 52)) (decide ((wrap64 ((wrap64 (t126 - 1023)) - 52)) > 11)))))) else (some (0, false)))) = some (r1, r2) := H
  have A2 := Aside0.mk A20
  clear A20
  by_cases c3 : t124 = 3
  · rw [if_pos c3] at H
    have c3b0 : (t124 == 3) = true := beq_iff_eq.mpr c3
    have c3b1 : (t124 != 3) = false := bne_eq_false_iff_eq.mpr c3
    clear c3
    simp only [Option.some.injEq, Prod.mk.injEq] at H
    obtain ⟨rfl, rfl⟩ := H
    go_enter Try.func17, Try.ntmps17
    go_wp2_with (first | ((with_reducible refine gate_callee (f := 22) rfl ?_); refine goesL_ (some 8) rfl rfl Try.func22 (by kernel_rfl) rfl #[.int .u64 a0] rfl (by (try simp only [List.map_toArray, List.map_cons, List.map_nil]); first | done | rfl | (simp only [List.length_drop, List.length_take]; rfl) | (simp [Act.eval, IntKind.wrap_u64, IntKind.wrap_u8, IntKind.wrap_u32, wrap64]; omega)) ?_; (with_reducible refine (transomref02_Class.calls k a0 t124 _ A2.out).mono ?_); rintro e w' ⟨rfl, ⟨nd, rfl⟩⟩; refine ⟨_, rfl, ?_⟩))
    go_ret2
    exact ⟨by first | rfl | (simp; done) | (simp [*]; done), by repeat (first | exact Drawn0.refl _ | apply Drawn0.step)⟩
  · rw [if_neg c3] at H
    have c3b0 : (t124 == 3) = false := beq_eq_false_iff_ne.mpr c3
    have c3b1 : (t124 != 3) = true := bne_iff_ne.mpr c3
    by_cases c4 : t124 = 5
    · rw [if_pos c4] at H
      have c4b0 : (t124 == 5) = true := beq_iff_eq.mpr c4
      have c4b1 : (t124 != 5) = false := bne_eq_false_iff_eq.mpr c4
      clear c4
      replace H := Option.bind_eq_some_iff.mp H
      obtain ⟨t125, A50, H⟩ := H
      replace H : ((transomref02_exponent.f a0).bind fun t126 => (if (wrap64 ((wrap64 (t126 - 1023)) - 52)) < (-52) then (transomref02_ToInt.j0 k a0 (Go.bits .or .u64 t125 4503599627370496) (wrap64 ((wrap64 (t126 - 1023)) - 52)) true) else (transomref02_ToInt.j0 k a0 (Go.bits .or .u64 t125 4503599627370496) (wrap64 ((wrap64 (t126 - 1023)) - 52)) (decide ((wrap64 ((wrap64 (t126 - 1023)) - 52)) > 11))))) = some (r1, r2) := H
      have A5 := Aside0.mk A50
      clear A50
      replace H := Option.bind_eq_some_iff.mp H
      obtain ⟨t126, A60, H⟩ := H
      replace H : (if (wrap64 ((wrap64 (t126 - 1023)) - 52)) < (-52) then (transomref02_ToInt.j0 k a0 (Go.bits .or .u64 t125 4503599627370496) (wrap64 ((wrap64 (t126 - 1023)) - 52)) true) else (transomref02_ToInt.j0 k a0 (Go.bits .or .u64 t125 4503599627370496) (wrap64 ((wrap64 (t126 - 1023)) - 52)) (decide ((wrap64 ((wrap64 (t126 - 1023)) - 52)) > 11)))) = some (r1, r2) := H
      have A6 := Aside0.mk A60
      clear A60
      have HC7 := Aside0.mk H
      clear H
      go_enter Try.func17, Try.ntmps17
      go_upto_region 8 with (first | ((with_reducible refine gate_callee (f := 22) rfl ?_); refine goesL_ (some 8) rfl rfl Try.func22 (by kernel_rfl) rfl #[.int .u64 a0] rfl (by (try simp only [List.map_toArray, List.map_cons, List.map_nil]); first | done | rfl | (simp only [List.length_drop, List.length_take]; rfl) | (simp [Act.eval, IntKind.wrap_u64, IntKind.wrap_u8, IntKind.wrap_u32, wrap64]; omega)) ?_; (with_reducible refine (transomref02_Class.calls k a0 t124 _ A2.out).mono ?_); rintro e w' ⟨rfl, ⟨nd, rfl⟩⟩; refine ⟨_, rfl, ?_⟩) | ((with_reducible refine gate_callee (f := 29) rfl ?_); refine goesL_ (some 14) rfl rfl Try.func29 (by kernel_rfl) rfl #[.int .u64 a0] rfl (by (try simp only [List.map_toArray, List.map_cons, List.map_nil]); first | done | rfl | (simp only [List.length_drop, List.length_take]; rfl) | (simp [Act.eval, IntKind.wrap_u64, IntKind.wrap_u8, IntKind.wrap_u32, wrap64]; omega)) ?_; (with_reducible refine (transomref02_fraction.calls a0 t125 _ A5.out).mono ?_); rintro e w' ⟨rfl, ⟨nd, rfl⟩⟩; refine ⟨_, rfl, ?_⟩) | ((with_reducible refine gate_callee (f := 30) rfl ?_); refine goesL_ (some 17) rfl rfl Try.func30 (by kernel_rfl) rfl #[.int .u64 a0] rfl (by (try simp only [List.map_toArray, List.map_cons, List.map_nil]); first | done | rfl | (simp only [List.length_drop, List.length_take]; rfl) | (simp [Act.eval, IntKind.wrap_u64, IntKind.wrap_u8, IntKind.wrap_u32, wrap64]; omega)) ?_; (with_reducible refine (transomref02_exponent.calls a0 t126 _ A6.out).mono ?_); rintro e w' ⟨rfl, ⟨nd, rfl⟩⟩; refine ⟨_, rfl, ?_⟩))
      (try simp only [Act.put, List.setIfInBounds_toArray, List.set_cons_zero, List.set_cons_succ])
      go_cut [25] (fun v25 wc => ∃ (kq : Nat) (x25_6 : Bool), v25 = .bool x25_6 ∧ Aside0 (transomref02_ToInt.j0 kq a0 (Go.bits .or .u64 t125 4503599627370496) (wrap64 ((wrap64 (t126 - 1023)) - 52)) x25_6 = some (r1, r2)) ∧ Aside0 (kq ≤ k) ∧ Drawn0 w wc)
      case first =>
        have H := HC7.out
        clear HC7
        by_cases c8 : (wrap64 ((wrap64 (t126 - 1023)) - 52)) < (-52)
        · rw [if_pos c8] at H
          have c8b0 : decide ((wrap64 ((wrap64 (t126 - 1023)) - 52)) < (-52)) = true := decide_eq_true c8
          clear c8
          (first | rw [c8b0] | (simp only [i64_w, i32_w]; rw [c8b0]) | skip)
          have H' := Aside0.mk H
          clear H
          go_wp2
          go_meet
          case rel => exact ⟨_, (true), (by first | rfl | (simp; done) | (simp [*]; done)), H', ⟨by first | omega | exact Nat.le_refl _⟩, by repeat (first | exact Drawn0.refl _ | apply Drawn0.step)⟩
        · rw [if_neg c8] at H
          have c8b0 : decide ((wrap64 ((wrap64 (t126 - 1023)) - 52)) < (-52)) = false := decide_eq_false c8
          clear c8
          (first | rw [c8b0] | (simp only [i64_w, i32_w]; rw [c8b0]) | skip)
          have H' := Aside0.mk H
          clear H
          go_wp2
          go_meet
          case rel => exact ⟨_, (decide ((wrap64 ((wrap64 (t126 - 1023)) - 52)) > 11)), (by first | rfl | (simp; done) | (simp [*]; done)), H', ⟨by first | omega | exact Nat.le_refl _⟩, by repeat (first | exact Drawn0.refl _ | apply Drawn0.step)⟩
      case rest =>
        clear HC7
        try clear c1
        try clear c2
        try clear p2
        try clear c3
        try clear c3b0
        try clear c3b1
        try clear c4
        try clear c4b0
        try clear c4b1
        try clear p6
        try clear c8
        try clear c8b0
        obtain ⟨kq, x25_6, rfl, HA, HJ6, ⟨mc6, rfl⟩⟩ := hcut
        cases kq with
        | zero => exact absurd HA.out (by simp [transomref02_ToInt.j0])
        | succ kj6 =>
          have H := HA.out
          clear HA
          simp only [transomref02_ToInt.j0] at H
          by_cases c9 : x25_6 = true
          · subst c9
            have H1 : (some (0, false)) = some (r1, r2) := by rw [if_pos rfl] at H; exact H
            clear H
            have H := H1
            clear H1
            simp only [Option.some.injEq, Prod.mk.injEq] at H
            obtain ⟨rfl, rfl⟩ := H
            go_wp2
            go_ret2
            exact ⟨by first | rfl | (simp; done) | (simp [*]; done), by repeat (first | exact Drawn0.refl _ | apply Drawn0.step)⟩
          · replace c9 := Bool.eq_false_iff.mpr c9
            subst c9
            have H1 : (if (wrap64 ((wrap64 (t126 - 1023)) - 52)) < 0 then (if 0 ≤ (IntKind.u64.wrap (wrap64 (-(wrap64 ((wrap64 (t126 - 1023)) - 52))))) then (if (Go.bits .and .u64 (Go.bits .or .u64 t125 4503599627370496) (IntKind.u64.wrap ((shl .u64 1 (IntKind.u64.wrap (wrap64 (-(wrap64 ((wrap64 (t126 - 1023)) - 52)))))) - 1))) = 0 then (transomref02_ToInt.j1 kj6 a0 (shr .u64 (Go.bits .or .u64 t125 4503599627370496) (IntKind.u64.wrap (wrap64 (-(wrap64 ((wrap64 (t126 - 1023)) - 52))))))) else (some (0, false))) else (none)) else (if 0 ≤ (IntKind.u64.wrap ((wrap64 ((wrap64 (t126 - 1023)) - 52)))) then (transomref02_ToInt.j1 kj6 a0 (shl .u64 (Go.bits .or .u64 t125 4503599627370496) (IntKind.u64.wrap ((wrap64 ((wrap64 (t126 - 1023)) - 52)))))) else (none))) = some (r1, r2) := by rw [if_neg (show ¬ (false = true) by decide)] at H; exact H
            clear H
            have H := H1
            clear H1
            have HC10 := Aside0.mk H
            clear H
            go_upto_if 27 with (fail)
            go_cut [5] (fun v5 wc => ∃ (kq : Nat) (x5_9 : Int), v5 = .int .u64 x5_9 ∧ Aside0 (transomref02_ToInt.j1 kq a0 x5_9 = some (r1, r2)) ∧ Aside0 (kq ≤ kj6) ∧ Drawn0 w wc)
            case first =>
              have H := HC10.out
              clear HC10
              by_cases c11 : (wrap64 ((wrap64 (t126 - 1023)) - 52)) < 0
              · rw [if_pos c11] at H
                have c11b0 : decide ((wrap64 ((wrap64 (t126 - 1023)) - 52)) < 0) = true := decide_eq_true c11
                clear c11
                (first | rw [c11b0] | (simp only [i64_w, i32_w]; rw [c11b0]) | skip)
                obtain ⟨ji12, hji12⟩ : ∃ j_ : Int, (IntKind.u64.wrap (wrap64 (-(wrap64 ((wrap64 (t126 - 1023)) - 52))))) = j_ := ⟨_, rfl⟩
                replace H : (if 0 ≤ (ji12) then (if (Go.bits .and .u64 (Go.bits .or .u64 t125 4503599627370496) (IntKind.u64.wrap ((shl .u64 1 (ji12)) - 1))) = 0 then (transomref02_ToInt.j1 kj6 a0 (shr .u64 (Go.bits .or .u64 t125 4503599627370496) (ji12))) else (some (0, false))) else (none)) = some (r1, r2) := by first | (rw [hji12] at H; exact H) | (simp only [hji12] at H ⊢; exact H)
                by_cases c13 : 0 ≤ (ji12)
                · rw [if_pos c13] at H
                  have c13b0 := eq_true c13
                  have c13b1 : decide (0 ≤ (ji12)) = true := decide_eq_true c13
                  clear c13
                  obtain ⟨ji14, hji14⟩ : ∃ j_ : Int, (shl .u64 1 (ji12)) = j_ := ⟨_, rfl⟩
                  replace H : (if (Go.bits .and .u64 (Go.bits .or .u64 t125 4503599627370496) (IntKind.u64.wrap ((ji14) - 1))) = 0 then (transomref02_ToInt.j1 kj6 a0 (shr .u64 (Go.bits .or .u64 t125 4503599627370496) (ji12))) else (some (0, false))) = some (r1, r2) := by first | (rw [hji14] at H; exact H) | (simp only [hji14] at H ⊢; exact H)
                  have hji14_ : (IntKind.u64.wrap (1 * 2 ^ min (ji12).toNat 64)) = ji14 := hji14
                  have hji14z : (ji12) ≤ 64 → (IntKind.u64.wrap (1 * 2 ^ (ji12).toNat)) = ji14 := shl_small hji14
                  have hji14u : (IntKind.u64.wrap (2 ^ min (ji12).toNat 64)) = ji14 := by have h_ := hji14_; rw [Int.one_mul] at h_; exact h_
                  have hji14v : (ji12) ≤ 64 → (IntKind.u64.wrap (2 ^ (ji12).toNat)) = ji14 := fun hle_ => by have h_ := hji14z hle_; rw [Int.one_mul] at h_; exact h_
                  by_cases c15 : (Go.bits .and .u64 (Go.bits .or .u64 t125 4503599627370496) (IntKind.u64.wrap ((ji14) - 1))) = 0
                  · rw [if_pos c15] at H
                    have c15b0 : ((Go.bits .and .u64 (Go.bits .or .u64 t125 4503599627370496) (IntKind.u64.wrap ((ji14) - 1))) == 0) = true := beq_iff_eq.mpr c15
                    have c15b1 : ((Go.bits .and .u64 (Go.bits .or .u64 t125 4503599627370496) (IntKind.u64.wrap ((ji14) - 1))) != 0) = false := bne_eq_false_iff_eq.mpr c15
                    clear c15
                    have c16b0 := eq_true (of_decide_eq_true (by first | (with_reducible assumption) | assumption) : 0 ≤ (ji12))
                    obtain ⟨ji17, hji17⟩ : ∃ j_ : Int, (shr .u64 (Go.bits .or .u64 t125 4503599627370496) (ji12)) = j_ := ⟨_, rfl⟩
                    replace H : (transomref02_ToInt.j1 kj6 a0 ji17) = some (r1, r2) := by first | (rw [hji17] at H; exact H) | (simp only [hji17] at H ⊢; exact H)
                    have hji17_ : ((Go.bits .or .u64 t125 4503599627370496) / 2 ^ min (ji12).toNat 64) = ji17 := hji17
                    have hji17z : (ji12) ≤ 64 → ((Go.bits .or .u64 t125 4503599627370496) / 2 ^ (ji12).toNat) = ji17 := shr_small hji17
                    have H' := Aside0.mk H
                    clear H
                    go_wp2
                    go_meet
                    case rel => exact ⟨_, (ji17), (by first | rfl | (simp; done) | (simp only [← hji17] <;> (first | rfl | simp)) | (simp [*]; done)), H', ⟨by have := HJ6.out; first | omega | exact Nat.le_refl _⟩, by repeat (first | exact Drawn0.refl _ | apply Drawn0.step)⟩
                  · rw [if_neg c15] at H
                    have c15b0 : ((Go.bits .and .u64 (Go.bits .or .u64 t125 4503599627370496) (IntKind.u64.wrap ((ji14) - 1))) == 0) = false := beq_eq_false_iff_ne.mpr c15
                    have c15b1 : ((Go.bits .and .u64 (Go.bits .or .u64 t125 4503599627370496) (IntKind.u64.wrap ((ji14) - 1))) != 0) = true := bne_iff_ne.mpr c15
                    simp only [Option.some.injEq, Prod.mk.injEq] at H
                    obtain ⟨rfl, rfl⟩ := H
                    go_wp2
                    go_ret2
                    exact ⟨by first | rfl | (simp; done) | (simp only [← hji12, ← hji14] <;> (first | rfl | simp)) | (simp [*]; done), by repeat (first | exact Drawn0.refl _ | apply Drawn0.step)⟩
                · rw [if_neg c13] at H
                  exact absurd H (by simp)
              · rw [if_neg c11] at H
                have c11b0 : decide ((wrap64 ((wrap64 (t126 - 1023)) - 52)) < 0) = false := decide_eq_false c11
                clear c11
                (first | rw [c11b0] | (simp only [i64_w, i32_w]; rw [c11b0]) | skip)
                obtain ⟨ji18, hji18⟩ : ∃ j_ : Int, (IntKind.u64.wrap ((wrap64 ((wrap64 (t126 - 1023)) - 52)))) = j_ := ⟨_, rfl⟩
                replace H : (if 0 ≤ (ji18) then (transomref02_ToInt.j1 kj6 a0 (shl .u64 (Go.bits .or .u64 t125 4503599627370496) (ji18))) else (none)) = some (r1, r2) := by first | (rw [hji18] at H; exact H) | (simp only [hji18] at H ⊢; exact H)
                by_cases c19 : 0 ≤ (ji18)
                · rw [if_pos c19] at H
                  have c19b0 := eq_true c19
                  have c19b1 : decide (0 ≤ (ji18)) = true := decide_eq_true c19
                  clear c19
                  obtain ⟨ji20, hji20⟩ : ∃ j_ : Int, (shl .u64 (Go.bits .or .u64 t125 4503599627370496) (ji18)) = j_ := ⟨_, rfl⟩
                  replace H : (transomref02_ToInt.j1 kj6 a0 ji20) = some (r1, r2) := by first | (rw [hji20] at H; exact H) | (simp only [hji20] at H ⊢; exact H)
                  have hji20_ : (IntKind.u64.wrap ((Go.bits .or .u64 t125 4503599627370496) * 2 ^ min (ji18).toNat 64)) = ji20 := hji20
                  have hji20z : (ji18) ≤ 64 → (IntKind.u64.wrap ((Go.bits .or .u64 t125 4503599627370496) * 2 ^ (ji18).toNat)) = ji20 := shl_small hji20
                  have H' := Aside0.mk H
                  clear H
                  go_wp2
                  go_meet
                  case rel => exact ⟨_, (ji20), (by first | rfl | (simp; done) | (simp only [← hji20] <;> (first | rfl | simp)) | (simp [*]; done)), H', ⟨by have := HJ6.out; first | omega | exact Nat.le_refl _⟩, by repeat (first | exact Drawn0.refl _ | apply Drawn0.step)⟩
                · rw [if_neg c19] at H
                  exact absurd H (by simp)
            case rest =>
              clear HC10
              try clear c1
              try clear c2
              try clear p2
              try clear c3
              try clear c3b0
              try clear c3b1
              try clear c4
              try clear c4b0
              try clear c4b1
              try clear c6
              try clear p6
              try clear c8
              try clear c8b0
              try clear c9
              try clear c11
              try clear c11b0
              try clear c13
              try clear c13b0
              try clear c13b1
              try clear c15
              try clear c15b0
              try clear c15b1
              try clear c16
              try clear c16b0
              try clear c17
              try clear c19
              try clear c19b0
              try clear c19b1
              try clear p2
              try clear p6
              obtain ⟨kq, x5_9, rfl, HA, HJ9, ⟨mc9, rfl⟩⟩ := hcut
              cases kq with
              | zero => exact absurd HA.out (by simp [transomref02_ToInt.j1])
              | succ kj9 =>
                have H := HA.out
                clear HA
                simp only [transomref02_ToInt.j1] at H
                by_cases c21 : (a0 / 9223372036854775808) = 1
                · rw [if_pos c21] at H
                  have c21b0 : ((a0 / 9223372036854775808) == 1) = true := beq_iff_eq.mpr c21
                  have c21b1 : ((a0 / 9223372036854775808) != 1) = false := bne_eq_false_iff_eq.mpr c21
                  clear c21
                  by_cases c22 : x5_9 > 9223372036854775808
                  · rw [if_pos c22] at H
                    have c22b0 : decide (9223372036854775808 < x5_9) = true := decide_eq_true c22
                    clear c22
                    simp only [Option.some.injEq, Prod.mk.injEq] at H
                    obtain ⟨rfl, rfl⟩ := H
                    go_wp2
                    go_ret2
                    exact ⟨by first | rfl | (simp; done) | (simp [*]; done), by repeat (first | exact Drawn0.refl _ | apply Drawn0.step)⟩
                  · rw [if_neg c22] at H
                    have c22b0 : decide (9223372036854775808 < x5_9) = false := decide_eq_false c22
                    clear c22
                    simp only [Option.some.injEq, Prod.mk.injEq] at H
                    obtain ⟨rfl, rfl⟩ := H
                    go_wp2
                    go_ret2
                    exact ⟨by first | rfl | (simp; done) | (simp [*]; done), by repeat (first | exact Drawn0.refl _ | apply Drawn0.step)⟩
                · rw [if_neg c21] at H
                  have c21b0 : ((a0 / 9223372036854775808) == 1) = false := beq_eq_false_iff_ne.mpr c21
                  have c21b1 : ((a0 / 9223372036854775808) != 1) = true := bne_iff_ne.mpr c21
                  by_cases c23 : x5_9 > 9223372036854775807
                  · rw [if_pos c23] at H
                    have c23b0 : decide (9223372036854775807 < x5_9) = true := decide_eq_true c23
                    clear c23
                    simp only [Option.some.injEq, Prod.mk.injEq] at H
                    obtain ⟨rfl, rfl⟩ := H
                    go_wp2
                    go_ret2
                    exact ⟨by first | rfl | (simp; done) | (simp [*]; done), by repeat (first | exact Drawn0.refl _ | apply Drawn0.step)⟩
                  · rw [if_neg c23] at H
                    have c23b0 : decide (9223372036854775807 < x5_9) = false := decide_eq_false c23
                    clear c23
                    simp only [Option.some.injEq, Prod.mk.injEq] at H
                    obtain ⟨rfl, rfl⟩ := H
                    go_wp2
                    go_ret2
                    exact ⟨by first | rfl | (simp; done) | (simp [*]; done), by repeat (first | exact Drawn0.refl _ | apply Drawn0.step)⟩
    · rw [if_neg c4] at H
      have c4b0 : (t124 == 5) = false := beq_eq_false_iff_ne.mpr c4
      have c4b1 : (t124 != 5) = true := bne_iff_ne.mpr c4
      simp only [Option.some.injEq, Prod.mk.injEq] at H
      obtain ⟨rfl, rfl⟩ := H
      go_enter Try.func17, Try.ntmps17
      go_wp2_with (first | ((with_reducible refine gate_callee (f := 22) rfl ?_); refine goesL_ (some 8) rfl rfl Try.func22 (by kernel_rfl) rfl #[.int .u64 a0] rfl (by (try simp only [List.map_toArray, List.map_cons, List.map_nil]); first | done | rfl | (simp only [List.length_drop, List.length_take]; rfl) | (simp [Act.eval, IntKind.wrap_u64, IntKind.wrap_u8, IntKind.wrap_u32, wrap64]; omega)) ?_; (with_reducible refine (transomref02_Class.calls k a0 t124 _ A2.out).mono ?_); rintro e w' ⟨rfl, ⟨nd, rfl⟩⟩; refine ⟨_, rfl, ?_⟩))
      go_ret2
      exact ⟨by first | rfl | (simp; done) | (simp [*]; done), by repeat (first | exact Drawn0.refl _ | apply Drawn0.step)⟩

end Go.Proofs.Ytdcodlbelhbihaa.PRealsInts
