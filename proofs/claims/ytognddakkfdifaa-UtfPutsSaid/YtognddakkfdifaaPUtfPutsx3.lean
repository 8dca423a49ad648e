-- By a program of this session (a print over functions that are proved by hand), for this claim.
import Derived.Test.YtognddakkfdifaaPUtfPutsx0
import Derived.Test.YtognddakkfdifaaPUtfPutsx1
import Derived.Test.YtognddakkfdifaaPUtfPutsx2
namespace Go.Proofs.Ytognddakkfdifaa.PUtfPuts
open Go.RowKit Go.Proofs.YtognddakkfdifaaW.PrintWords Go.Proofs.YtognddakkfdifaaW.PrintLast Go.Proofs.YtognddakkfdifaaW.PrintMore
attribute [local go_sem] max2_int min2_int max_two min_two max_three min_three max_four min_four   -- for this text's walks alone
set_option linter.unusedVariables false
set_option linter.unusedSimpArgs false

/-! ### transomlaw01_awake: function 12 -/
def transomlaw01_awake.f (k : Nat)  : Option (Bool) := (utf_Put.f k 228).bind fun bt140 => ((utf_Next.f k (⟨#[195]⟩ : ByteArray)).bind fun bt142 => ((utf_Next.f k (⟨#[192, 128]⟩ : ByteArray)).bind fun bt145 => ((utf_Next.f k (⟨#[226, 130, 172, 120]⟩ : ByteArray)).bind fun bt148 => (if bt140.1.toList = ([195, 164] : List UInt8) then (if bt140.2 = 0 then (if bt142.2.2 = 3 then (if bt145.2.2 = 7 then (if bt148.1 = 8364 then (if bt148.2.1 = 3 then (if bt148.2.2 = 0 then ((utf_Width.f k 55296).bind fun t151 => (if t151 = 0 then ((utf_Count.f k (⟨#[97, 195, 164]⟩ : ByteArray)).bind fun t152 => (if t152 = 2 then ((utf_Valid.f k (⟨#[255]⟩ : ByteArray)).bind fun t153 => (if t153 = true then (some false) else ((utf_Runes.f k (⟨#[97, 98, 255]⟩ : ByteArray)).bind fun t154 => (some ((t154.length : Int) == 2))))) else (some false))) else (some false))) else (some false)) else (some false)) else (some false)) else (some false)) else (some false)) else (some false)) else (some false)))))
theorem transomlaw01_awake.mono : ∀ k, LeO (transomlaw01_awake.f k ) (transomlaw01_awake.f (k + 1) ) := by
  intro  k
  unfold transomlaw01_awake.f
  repeat' first
      | (with_reducible exact utf_Count.mono _ _)
      | (with_reducible exact utf_Next.mono _ _)
      | (with_reducible exact utf_Put.mono _ _)
      | (with_reducible exact utf_Runes.mono _ _)
      | (with_reducible exact utf_Valid.mono _ _)
      | (with_reducible exact utf_Width.mono _ _)
      | (with_reducible exact LeO.refl _)
      | (with_reducible exact LeO.none _)
      | (with_reducible refine LeO.ite ?_ ?_)
      | (with_reducible refine LeO.bind ?_ (fun _ => ?_))
      | exact utf_Count.mono _ _
      | exact utf_Next.mono _ _
      | exact utf_Put.mono _ _
      | exact utf_Runes.mono _ _
      | exact utf_Valid.mono _ _
      | exact utf_Width.mono _ _
      | exact LeO.none _
      | refine LeO.ite ?_ ?_
      | refine LeO.bind ?_ (fun _ => ?_)
set_option maxHeartbeats 8000000 in
set_option maxRecDepth 100000 in
theorem transomlaw01_awake.calls (k : Nat)  (r : Bool) (w : World) (h : transomlaw01_awake.f k  = some r) :
    Calls Try.prog 12 #[] w fun e w' => e = .returned (.bool r) ∧ Below w.heap.size w w' := by
  have HB := Aside0.mk (Below.refl w.heap.size w)
  have H : ((utf_Put.f k 228).bind fun bt140 => ((utf_Next.f k (⟨#[195]⟩ : ByteArray)).bind fun bt142 => ((utf_Next.f k (⟨#[192, 128]⟩ : ByteArray)).bind fun bt145 => ((utf_Next.f k (⟨#[226, 130, 172, 120]⟩ : ByteArray)).bind fun bt148 => (if bt140.1.toList = ([195, 164] : List UInt8) then (if bt140.2 = 0 then (if bt142.2.2 = 3 then (if bt145.2.2 = 7 then (if bt148.1 = 8364 then (if bt148.2.1 = 3 then (if bt148.2.2 = 0 then ((utf_Width.f k 55296).bind fun t151 => (if t151 = 0 then ((utf_Count.f k (⟨#[97, 195, 164]⟩ : ByteArray)).bind fun t152 => (if t152 = 2 then ((utf_Valid.f k (⟨#[255]⟩ : ByteArray)).bind fun t153 => (if t153 = true then (some false) else ((utf_Runes.f k (⟨#[97, 98, 255]⟩ : ByteArray)).bind fun t154 => (some ((t154.length : Int) == 2))))) else (some false))) else (some false))) else (some false)) else (some false)) else (some false)) else (some false)) else (some false)) else (some false)) else (some false)))))) = some r := h
  clear h
  replace H := Option.bind_eq_some_iff.mp H
  obtain ⟨⟨t140, t141⟩, A10, H⟩ := H
  replace H : ((utf_Next.f k (⟨#[195]⟩ : ByteArray)).bind fun bt142 => ((utf_Next.f k (⟨#[192, 128]⟩ : ByteArray)).bind fun bt145 => ((utf_Next.f k (⟨#[226, 130, 172, 120]⟩ : ByteArray)).bind fun bt148 => (if t140.toList = ([195, 164] : List UInt8) then (if t141 = 0 then (if bt142.2.2 = 3 then (if bt145.2.2 = 7 then (if bt148.1 = 8364 then (if bt148.2.1 = 3 then (if bt148.2.2 = 0 then ((utf_Width.f k 55296).bind fun t151 => (if t151 = 0 then ((utf_Count.f k (⟨#[97, 195, 164]⟩ : ByteArray)).bind fun t152 => (if t152 = 2 then ((utf_Valid.f k (⟨#[255]⟩ : ByteArray)).bind fun t153 => (if t153 = true then (some false) else ((utf_Runes.f k (⟨#[97, 98, 255]⟩ : ByteArray)).bind fun t154 => (some ((t154.length : Int) == 2))))) else (some false))) else (some false))) else (some false)) else (some false)) else (some false)) else (some false)) else (some false)) else (some false)) else (some false))))) = some r := H
  have A1 := Aside0.mk A10
  clear A10
  replace H := Option.bind_eq_some_iff.mp H
  obtain ⟨⟨t142, t143, t144⟩, A20, H⟩ := H
  replace H : ((utf_Next.f k (⟨#[192, 128]⟩ : ByteArray)).bind fun bt145 => ((utf_Next.f k (⟨#[226, 130, 172, 120]⟩ : ByteArray)).bind fun bt148 => (if t140.toList = ([195, 164] : List UInt8) then (if t141 = 0 then (if t144 = 3 then (if bt145.2.2 = 7 then (if bt148.1 = 8364 then (if bt148.2.1 = 3 then (if bt148.2.2 = 0 then ((utf_Width.f k 55296).bind fun t151 => (if t151 = 0 then ((utf_Count.f k (⟨#[97, 195, 164]⟩ : ByteArray)).bind fun t152 => (if t152 = 2 then ((utf_Valid.f k (⟨#[255]⟩ : ByteArray)).bind fun t153 => (if t153 = true then (some false) else ((utf_Runes.f k (⟨#[97, 98, 255]⟩ : ByteArray)).bind fun t154 => (some ((t154.length : Int) == 2))))) else (some false))) else (some false))) else (some false)) else (some false)) else (some false)) else (some false)) else (some false)) else (some false)) else (some false)))) = some r := H
  have A2 := Aside0.mk A20
  clear A20
  replace H := Option.bind_eq_some_iff.mp H
  obtain ⟨⟨t145, t146, t147⟩, A30, H⟩ := H
  replace H : ((utf_Next.f k (⟨#[226, 130, 172, 120]⟩ : ByteArray)).bind fun bt148 => (if t140.toList = ([195, 164] : List UInt8) then (if t141 = 0 then (if t144 = 3 then (if t147 = 7 then (if bt148.1 = 8364 then (if bt148.2.1 = 3 then (if bt148.2.2 = 0 then ((utf_Width.f k 55296).bind fun t151 => (if t151 = 0 then ((utf_Count.f k (⟨#[97, 195, 164]⟩ : ByteArray)).bind fun t152 => (if t152 = 2 then ((utf_Valid.f k (⟨#[255]⟩ : ByteArray)).bind fun t153 => (if t153 = true then (some false) else ((utf_Runes.f k (⟨#[97, 98, 255]⟩ : ByteArray)).bind fun t154 => (some ((t154.length : Int) == 2))))) else (some false))) else (some false))) else (some false)) else (some false)) else (some false)) else (some false)) else (some false)) else (some false)) else (some false))) = some r := H
  have A3 := Aside0.mk A30
  clear A30
  replace H := Option.bind_eq_some_iff.mp H
  obtain ⟨⟨t148, t149, t150⟩, A40, H⟩ := H
  replace H : (if t140.toList = ([195, 164] : List UInt8) then (if t141 = 0 then (if t144 = 3 then (if t147 = 7 then (if t148 = 8364 then (if t149 = 3 then (if t150 = 0 then ((utf_Width.f k 55296).bind fun t151 => (if t151 = 0 then ((utf_Count.f k (⟨#[97, 195, 164]⟩ : ByteArray)).bind fun t152 => (if t152 = 2 then ((utf_Valid.f k (⟨#[255]⟩ : ByteArray)).bind fun t153 => (if t153 = true then (some false) else ((utf_Runes.f k (⟨#[97, 98, 255]⟩ : ByteArray)).bind fun t154 => (some ((t154.length : Int) == 2))))) else (some false))) else (some false))) else (some false)) else (some false)) else (some false)) else (some false)) else (some false)) else (some false)) else (some false)) = some r := H
  have A4 := Aside0.mk A40
  clear A40
  by_cases c5 : t140.toList = ([195, 164] : List UInt8)
  · rw [if_pos c5] at H
    have c5b0 : (t140.toList == ([195, 164] : List UInt8)) = true := beq_iff_eq.mpr c5
    have c5b1 : (t140.toList != ([195, 164] : List UInt8)) = false := bne_eq_false_iff_eq.mpr c5
    clear c5
    by_cases c6 : t141 = 0
    · rw [if_pos c6] at H
      have c6b0 : (t141 == 0) = true := beq_iff_eq.mpr c6
      have c6b1 : (t141 != 0) = false := bne_eq_false_iff_eq.mpr c6
      clear c6
      by_cases c7 : t144 = 3
      · rw [if_pos c7] at H
        have c7b0 : (t144 == 3) = true := beq_iff_eq.mpr c7
        have c7b1 : (t144 != 3) = false := bne_eq_false_iff_eq.mpr c7
        clear c7
        by_cases c8 : t147 = 7
        · rw [if_pos c8] at H
          have c8b0 : (t147 == 7) = true := beq_iff_eq.mpr c8
          have c8b1 : (t147 != 7) = false := bne_eq_false_iff_eq.mpr c8
          clear c8
          by_cases c9 : t148 = 8364
          · rw [if_pos c9] at H
            have c9b0 : (t148 == 8364) = true := beq_iff_eq.mpr c9
            have c9b1 : (t148 != 8364) = false := bne_eq_false_iff_eq.mpr c9
            clear c9
            by_cases c10 : t149 = 3
            · rw [if_pos c10] at H
              have c10b0 : (t149 == 3) = true := beq_iff_eq.mpr c10
              have c10b1 : (t149 != 3) = false := bne_eq_false_iff_eq.mpr c10
              clear c10
              by_cases c11 : t150 = 0
              · rw [if_pos c11] at H
                have c11b0 : (t150 == 0) = true := beq_iff_eq.mpr c11
                have c11b1 : (t150 != 0) = false := bne_eq_false_iff_eq.mpr c11
                clear c11
                replace H := Option.bind_eq_some_iff.mp H
                obtain ⟨t151, A120, H⟩ := H
                replace H : (if t151 = 0 then ((utf_Count.f k (⟨#[97, 195, 164]⟩ : ByteArray)).bind fun t152 => (if t152 = 2 then ((utf_Valid.f k (⟨#[255]⟩ : ByteArray)).bind fun t153 => (if t153 = true then (some false) else ((utf_Runes.f k (⟨#[97, 98, 255]⟩ : ByteArray)).bind fun t154 => (some ((t154.length : Int) == 2))))) else (some false))) else (some false)) = some r := H
                have A12 := Aside0.mk A120
                clear A120
                by_cases c13 : t151 = 0
                · rw [if_pos c13] at H
                  have c13b0 : (t151 == 0) = true := beq_iff_eq.mpr c13
                  have c13b1 : (t151 != 0) = false := bne_eq_false_iff_eq.mpr c13
                  clear c13
                  replace H := Option.bind_eq_some_iff.mp H
                  obtain ⟨t152, A140, H⟩ := H
                  replace H : (if t152 = 2 then ((utf_Valid.f k (⟨#[255]⟩ : ByteArray)).bind fun t153 => (if t153 = true then (some false) else ((utf_Runes.f k (⟨#[97, 98, 255]⟩ : ByteArray)).bind fun t154 => (some ((t154.length : Int) == 2))))) else (some false)) = some r := H
                  have A14 := Aside0.mk A140
                  clear A140
                  by_cases c15 : t152 = 2
                  · rw [if_pos c15] at H
                    have c15b0 : (t152 == 2) = true := beq_iff_eq.mpr c15
                    have c15b1 : (t152 != 2) = false := bne_eq_false_iff_eq.mpr c15
                    clear c15
                    replace H := Option.bind_eq_some_iff.mp H
                    obtain ⟨t153, A160, H⟩ := H
                    replace H : (if t153 = true then (some false) else ((utf_Runes.f k (⟨#[97, 98, 255]⟩ : ByteArray)).bind fun t154 => (some ((t154.length : Int) == 2)))) = some r := H
                    have A16 := Aside0.mk A160
                    clear A160
                    by_cases c17 : t153 = true
                    · subst c17
                      have H1 : (some false) = some r := by rw [if_pos rfl] at H; exact H
                      clear H
                      have H := H1
                      clear H1
                      obtain rfl := Option.some.inj H
                      go_enter Try.func12, Try.ntmps12
                      go_wp2_with (first | ((with_reducible refine gate_callee (f := 8) rfl ?_); refine goesL_ (some 13) rfl rfl Try.func8 (by kernel_rfl) rfl #[.int .i64 228] rfl (by (try simp only [List.map_toArray, List.map_cons, List.map_nil]); first | done | rfl | (simp only [List.length_drop, List.length_take]; rfl) | (simp [Act.eval, IntKind.wrap_u64, IntKind.wrap_u8, IntKind.wrap_u32, wrap64]; omega)) ?_; (with_reducible refine (utf_Put.calls k 228 t140 t141 _ A1.out).mono ?_); rintro e w18 ⟨rfl, hb⟩; refine ⟨_, rfl, ?_⟩; have n0_ := Aside0.mk (below_step (by repeat (first | (with_reducible first | exact HB.out | apply below_alloc | apply pw_below_drewN | apply below_drew1) | exact HB.out)) hb); clear HB; have HB := n0_; clear n0_; (try clear hb); (try clear hb2); (try clear hk); (try clear hi)) | ((with_reducible refine gate_callee (f := 13) rfl ?_); refine goesL_ (some 17) rfl rfl Try.func13 (by kernel_rfl) rfl #[.string (⟨#[195]⟩ : ByteArray)] rfl (by (try simp only [List.map_toArray, List.map_cons, List.map_nil]); first | done | rfl | (simp only [List.length_drop, List.length_take]; rfl) | (simp [Act.eval, IntKind.wrap_u64, IntKind.wrap_u8, IntKind.wrap_u32, wrap64]; omega)) ?_; (with_reducible refine (utf_Next.calls k (⟨#[195]⟩ : ByteArray) t142 t143 t144 _ A2.out).mono ?_); rintro e w' ⟨rfl, ⟨nd, rfl⟩⟩; refine ⟨_, rfl, ?_⟩) | ((with_reducible refine gate_callee (f := 13) rfl ?_); refine goesL_ (some 22) rfl rfl Try.func13 (by kernel_rfl) rfl #[.string (⟨#[192, 128]⟩ : ByteArray)] rfl (by (try simp only [List.map_toArray, List.map_cons, List.map_nil]); first | done | rfl | (simp only [List.length_drop, List.length_take]; rfl) | (simp [Act.eval, IntKind.wrap_u64, IntKind.wrap_u8, IntKind.wrap_u32, wrap64]; omega)) ?_; (with_reducible refine (utf_Next.calls k (⟨#[192, 128]⟩ : ByteArray) t145 t146 t147 _ A3.out).mono ?_); rintro e w' ⟨rfl, ⟨nd, rfl⟩⟩; refine ⟨_, rfl, ?_⟩) | ((with_reducible refine gate_callee (f := 13) rfl ?_); refine goesL_ (some 27) rfl rfl Try.func13 (by kernel_rfl) rfl #[.string (⟨#[226, 130, 172, 120]⟩ : ByteArray)] rfl (by (try simp only [List.map_toArray, List.map_cons, List.map_nil]); first | done | rfl | (simp only [List.length_drop, List.length_take]; rfl) | (simp [Act.eval, IntKind.wrap_u64, IntKind.wrap_u8, IntKind.wrap_u32, wrap64]; omega)) ?_; (with_reducible refine (utf_Next.calls k (⟨#[226, 130, 172, 120]⟩ : ByteArray) t148 t149 t150 _ A4.out).mono ?_); rintro e w' ⟨rfl, ⟨nd, rfl⟩⟩; refine ⟨_, rfl, ?_⟩) | (go_at_call 10; (with_reducible refine (utf_Width.calls k 55296 t151 _ A12.out).mono ?_); rintro e w' ⟨rfl, ⟨nd, rfl⟩⟩) | (go_at_call 18; (with_reducible refine (utf_Count.calls k (⟨#[97, 195, 164]⟩ : ByteArray) t152 _ A14.out).mono ?_); rintro e w' ⟨rfl, ⟨nd, rfl⟩⟩) | (go_at_call 20; (with_reducible refine (utf_Valid.calls k (⟨#[255]⟩ : ByteArray) true _ A16.out).mono ?_); rintro e w' ⟨rfl, ⟨nd, rfl⟩⟩))
                      go_ret
                      exact ⟨by first | rfl | (simp [errW_none, errW_some] <;> rfl) | (simp [*, errW_none, errW_some] <;> rfl), by repeat (first | (with_reducible first | exact HB.out | apply below_alloc | apply pw_below_drewN | apply below_drew1) | exact HB.out)⟩
                    · replace c17 := Bool.eq_false_iff.mpr c17
                      subst c17
                      have H1 : ((utf_Runes.f k (⟨#[97, 98, 255]⟩ : ByteArray)).bind fun t154 => (some ((t154.length : Int) == 2))) = some r := by rw [if_neg (show ¬ (false = true) by decide)] at H; exact H
                      clear H
                      have H := H1
                      clear H1
                      replace H := Option.bind_eq_some_iff.mp H
                      obtain ⟨t154, A190, H⟩ := H
                      replace H : (some ((t154.length : Int) == 2)) = some r := H
                      have A19 := Aside0.mk A190
                      clear A190
                      obtain rfl := Option.some.inj H
                      go_enter Try.func12, Try.ntmps12
                      go_wp2_with (first | ((with_reducible refine gate_callee (f := 8) rfl ?_); refine goesL_ (some 13) rfl rfl Try.func8 (by kernel_rfl) rfl #[.int .i64 228] rfl (by (try simp only [List.map_toArray, List.map_cons, List.map_nil]); first | done | rfl | (simp only [List.length_drop, List.length_take]; rfl) | (simp [Act.eval, IntKind.wrap_u64, IntKind.wrap_u8, IntKind.wrap_u32, wrap64]; omega)) ?_; (with_reducible refine (utf_Put.calls k 228 t140 t141 _ A1.out).mono ?_); rintro e w20 ⟨rfl, hb⟩; refine ⟨_, rfl, ?_⟩; have n0_ := Aside0.mk (below_step (by repeat (first | (with_reducible first | exact HB.out | apply below_alloc | apply pw_below_drewN | apply below_drew1) | exact HB.out)) hb); clear HB; have HB := n0_; clear n0_; (try clear hb); (try clear hb2); (try clear hk); (try clear hi)) | ((with_reducible refine gate_callee (f := 13) rfl ?_); refine goesL_ (some 17) rfl rfl Try.func13 (by kernel_rfl) rfl #[.string (⟨#[195]⟩ : ByteArray)] rfl (by (try simp only [List.map_toArray, List.map_cons, List.map_nil]); first | done | rfl | (simp only [List.length_drop, List.length_take]; rfl) | (simp [Act.eval, IntKind.wrap_u64, IntKind.wrap_u8, IntKind.wrap_u32, wrap64]; omega)) ?_; (with_reducible refine (utf_Next.calls k (⟨#[195]⟩ : ByteArray) t142 t143 t144 _ A2.out).mono ?_); rintro e w' ⟨rfl, ⟨nd, rfl⟩⟩; refine ⟨_, rfl, ?_⟩) | ((with_reducible refine gate_callee (f := 13) rfl ?_); refine goesL_ (some 22) rfl rfl Try.func13 (by kernel_rfl) rfl #[.string (⟨#[192, 128]⟩ : ByteArray)] rfl (by (try simp only [List.map_toArray, List.map_cons, List.map_nil]); first | done | rfl | (simp only [List.length_drop, List.length_take]; rfl) | (simp [Act.eval, IntKind.wrap_u64, IntKind.wrap_u8, IntKind.wrap_u32, wrap64]; omega)) ?_; (with_reducible refine (utf_Next.calls k (⟨#[192, 128]⟩ : ByteArray) t145 t146 t147 _ A3.out).mono ?_); rintro e w' ⟨rfl, ⟨nd, rfl⟩⟩; refine ⟨_, rfl, ?_⟩) | ((with_reducible refine gate_callee (f := 13) rfl ?_); refine goesL_ (some 27) rfl rfl Try.func13 (by kernel_rfl) rfl #[.string (⟨#[226, 130, 172, 120]⟩ : ByteArray)] rfl (by (try simp only [List.map_toArray, List.map_cons, List.map_nil]); first | done | rfl | (simp only [List.length_drop, List.length_take]; rfl) | (simp [Act.eval, IntKind.wrap_u64, IntKind.wrap_u8, IntKind.wrap_u32, wrap64]; omega)) ?_; (with_reducible refine (utf_Next.calls k (⟨#[226, 130, 172, 120]⟩ : ByteArray) t148 t149 t150 _ A4.out).mono ?_); rintro e w' ⟨rfl, ⟨nd, rfl⟩⟩; refine ⟨_, rfl, ?_⟩) | (go_at_call 10; (with_reducible refine (utf_Width.calls k 55296 t151 _ A12.out).mono ?_); rintro e w' ⟨rfl, ⟨nd, rfl⟩⟩) | (go_at_call 18; (with_reducible refine (utf_Count.calls k (⟨#[97, 195, 164]⟩ : ByteArray) t152 _ A14.out).mono ?_); rintro e w' ⟨rfl, ⟨nd, rfl⟩⟩) | (go_at_call 20; (with_reducible refine (utf_Valid.calls k (⟨#[255]⟩ : ByteArray) false _ A16.out).mono ?_); rintro e w' ⟨rfl, ⟨nd, rfl⟩⟩) | (go_at_call 16; (with_reducible refine (utf_Runes.calls k (⟨#[97, 98, 255]⟩ : ByteArray) t154 _ A19.out).mono ?_); rintro e w21 ⟨v155, rfl, ho0, hb⟩; have n0_ := Aside0.mk (Kd.R_lower ho0 (below_size (by repeat (first | (with_reducible first | exact HB.out | apply below_alloc | apply pw_below_drewN | apply below_drew1) | exact HB.out)))); have n1_ := Aside0.mk (below_step (by repeat (first | (with_reducible first | exact HB.out | apply below_alloc | apply pw_below_drewN | apply below_drew1) | exact HB.out)) hb); clear HB; have HO156 := n0_; have HB := n1_; clear n0_ n1_; (try clear hb); (try clear hb2); (try clear hk); (try clear hi); (try clear ho0); obtain ⟨Ao22, co22, eo22⟩ := Kd.R_slice HO156.out; subst eo22))
                      go_ret
                      exact ⟨by first | rfl | (simp [errW_none, errW_some] <;> rfl) | (simp [*, errW_none, errW_some] <;> rfl), by repeat (first | (with_reducible first | exact HB.out | apply below_alloc | apply pw_below_drewN | apply below_drew1) | exact HB.out)⟩
                  · rw [if_neg c15] at H
                    have c15b0 : (t152 == 2) = false := beq_eq_false_iff_ne.mpr c15
                    have c15b1 : (t152 != 2) = true := bne_iff_ne.mpr c15
                    obtain rfl := Option.some.inj H
                    go_enter Try.func12, Try.ntmps12
                    go_wp2_with (first | ((with_reducible refine gate_callee (f := 8) rfl ?_); refine goesL_ (some 13) rfl rfl Try.func8 (by kernel_rfl) rfl #[.int .i64 228] rfl (by (try simp only [List.map_toArray, List.map_cons, List.map_nil]); first | done | rfl | (simp only [List.length_drop, List.length_take]; rfl) | (simp [Act.eval, IntKind.wrap_u64, IntKind.wrap_u8, IntKind.wrap_u32, wrap64]; omega)) ?_; (with_reducible refine (utf_Put.calls k 228 t140 t141 _ A1.out).mono ?_); rintro e w23 ⟨rfl, hb⟩; refine ⟨_, rfl, ?_⟩; have n0_ := Aside0.mk (below_step (by repeat (first | (with_reducible first | exact HB.out | apply below_alloc | apply pw_below_drewN | apply below_drew1) | exact HB.out)) hb); clear HB; have HB := n0_; clear n0_; (try clear hb); (try clear hb2); (try clear hk); (try clear hi)) | ((with_reducible refine gate_callee (f := 13) rfl ?_); refine goesL_ (some 17) rfl rfl Try.func13 (by kernel_rfl) rfl #[.string (⟨#[195]⟩ : ByteArray)] rfl (by (try simp only [List.map_toArray, List.map_cons, List.map_nil]); first | done | rfl | (simp only [List.length_drop, List.length_take]; rfl) | (simp [Act.eval, IntKind.wrap_u64, IntKind.wrap_u8, IntKind.wrap_u32, wrap64]; omega)) ?_; (with_reducible refine (utf_Next.calls k (⟨#[195]⟩ : ByteArray) t142 t143 t144 _ A2.out).mono ?_); rintro e w' ⟨rfl, ⟨nd, rfl⟩⟩; refine ⟨_, rfl, ?_⟩) | ((with_reducible refine gate_callee (f := 13) rfl ?_); refine goesL_ (some 22) rfl rfl Try.func13 (by kernel_rfl) rfl #[.string (⟨#[192, 128]⟩ : ByteArray)] rfl (by (try simp only [List.map_toArray, List.map_cons, List.map_nil]); first | done | rfl | (simp only [List.length_drop, List.length_take]; rfl) | (simp [Act.eval, IntKind.wrap_u64, IntKind.wrap_u8, IntKind.wrap_u32, wrap64]; omega)) ?_; (with_reducible refine (utf_Next.calls k (⟨#[192, 128]⟩ : ByteArray) t145 t146 t147 _ A3.out).mono ?_); rintro e w' ⟨rfl, ⟨nd, rfl⟩⟩; refine ⟨_, rfl, ?_⟩) | ((with_reducible refine gate_callee (f := 13) rfl ?_); refine goesL_ (some 27) rfl rfl Try.func13 (by kernel_rfl) rfl #[.string (⟨#[226, 130, 172, 120]⟩ : ByteArray)] rfl (by (try simp only [List.map_toArray, List.map_cons, List.map_nil]); first | done | rfl | (simp only [List.length_drop, List.length_take]; rfl) | (simp [Act.eval, IntKind.wrap_u64, IntKind.wrap_u8, IntKind.wrap_u32, wrap64]; omega)) ?_; (with_reducible refine (utf_Next.calls k (⟨#[226, 130, 172, 120]⟩ : ByteArray) t148 t149 t150 _ A4.out).mono ?_); rintro e w' ⟨rfl, ⟨nd, rfl⟩⟩; refine ⟨_, rfl, ?_⟩) | (go_at_call 10; (with_reducible refine (utf_Width.calls k 55296 t151 _ A12.out).mono ?_); rintro e w' ⟨rfl, ⟨nd, rfl⟩⟩) | (go_at_call 18; (with_reducible refine (utf_Count.calls k (⟨#[97, 195, 164]⟩ : ByteArray) t152 _ A14.out).mono ?_); rintro e w' ⟨rfl, ⟨nd, rfl⟩⟩))
                    go_ret
                    exact ⟨by first | rfl | (simp [errW_none, errW_some] <;> rfl) | (simp [*, errW_none, errW_some] <;> rfl), by repeat (first | (with_reducible first | exact HB.out | apply below_alloc | apply pw_below_drewN | apply below_drew1) | exact HB.out)⟩
                · rw [if_neg c13] at H
                  have c13b0 : (t151 == 0) = false := beq_eq_false_iff_ne.mpr c13
                  have c13b1 : (t151 != 0) = true := bne_iff_ne.mpr c13
                  obtain rfl := Option.some.inj H
                  go_enter Try.func12, Try.ntmps12
                  go_wp2_with (first | ((with_reducible refine gate_callee (f := 8) rfl ?_); refine goesL_ (some 13) rfl rfl Try.func8 (by kernel_rfl) rfl #[.int .i64 228] rfl (by (try simp only [List.map_toArray, List.map_cons, List.map_nil]); first | done | rfl | (simp only [List.length_drop, List.length_take]; rfl) | (simp [Act.eval, IntKind.wrap_u64, IntKind.wrap_u8, IntKind.wrap_u32, wrap64]; omega)) ?_; (with_reducible refine (utf_Put.calls k 228 t140 t141 _ A1.out).mono ?_); rintro e w24 ⟨rfl, hb⟩; refine ⟨_, rfl, ?_⟩; have n0_ := Aside0.mk (below_step (by repeat (first | (with_reducible first | exact HB.out | apply below_alloc | apply pw_below_drewN | apply below_drew1) | exact HB.out)) hb); clear HB; have HB := n0_; clear n0_; (try clear hb); (try clear hb2); (try clear hk); (try clear hi)) | ((with_reducible refine gate_callee (f := 13) rfl ?_); refine goesL_ (some 17) rfl rfl Try.func13 (by kernel_rfl) rfl #[.string (⟨#[195]⟩ : ByteArray)] rfl (by (try simp only [List.map_toArray, List.map_cons, List.map_nil]); first | done | rfl | (simp only [List.length_drop, List.length_take]; rfl) | (simp [Act.eval, IntKind.wrap_u64, IntKind.wrap_u8, IntKind.wrap_u32, wrap64]; omega)) ?_; (with_reducible refine (utf_Next.calls k (⟨#[195]⟩ : ByteArray) t142 t143 t144 _ A2.out).mono ?_); rintro e w' ⟨rfl, ⟨nd, rfl⟩⟩; refine ⟨_, rfl, ?_⟩) | ((with_reducible refine gate_callee (f := 13) rfl ?_); refine goesL_ (some 22) rfl rfl Try.func13 (by kernel_rfl) rfl #[.string (⟨#[192, 128]⟩ : ByteArray)] rfl (by (try simp only [List.map_toArray, List.map_cons, List.map_nil]); first | done | rfl | (simp only [List.length_drop, List.length_take]; rfl) | (simp [Act.eval, IntKind.wrap_u64, IntKind.wrap_u8, IntKind.wrap_u32, wrap64]; omega)) ?_; (with_reducible refine (utf_Next.calls k (⟨#[192, 128]⟩ : ByteArray) t145 t146 t147 _ A3.out).mono ?_); rintro e w' ⟨rfl, ⟨nd, rfl⟩⟩; refine ⟨_, rfl, ?_⟩) | ((with_reducible refine gate_callee (f := 13) rfl ?_); refine goesL_ (some 27) rfl rfl Try.func13 (by kernel_rfl) rfl #[.string (⟨#[226, 130, 172, 120]⟩ : ByteArray)] rfl (by (try simp only [List.map_toArray, List.map_cons, List.map_nil]); first | done | rfl | (simp only [List.length_drop, List.length_take]; rfl) | (simp [Act.eval, IntKind.wrap_u64, IntKind.wrap_u8, IntKind.wrap_u32, wrap64]; omega)) ?_; (with_reducible refine (utf_Next.calls k (⟨#[226, 130, 172, 120]⟩ : ByteArray) t148 t149 t150 _ A4.out).mono ?_); rintro e w' ⟨rfl, ⟨nd, rfl⟩⟩; refine ⟨_, rfl, ?_⟩) | (go_at_call 10; (with_reducible refine (utf_Width.calls k 55296 t151 _ A12.out).mono ?_); rintro e w' ⟨rfl, ⟨nd, rfl⟩⟩))
                  go_ret
                  exact ⟨by first | rfl | (simp [errW_none, errW_some] <;> rfl) | (simp [*, errW_none, errW_some] <;> rfl), by repeat (first | (with_reducible first | exact HB.out | apply below_alloc | apply pw_below_drewN | apply below_drew1) | exact HB.out)⟩
              · rw [if_neg c11] at H
                have c11b0 : (t150 == 0) = false := beq_eq_false_iff_ne.mpr c11
                have c11b1 : (t150 != 0) = true := bne_iff_ne.mpr c11
                obtain rfl := Option.some.inj H
                go_enter Try.func12, Try.ntmps12
                go_wp2_with (first | ((with_reducible refine gate_callee (f := 8) rfl ?_); refine goesL_ (some 13) rfl rfl Try.func8 (by kernel_rfl) rfl #[.int .i64 228] rfl (by (try simp only [List.map_toArray, List.map_cons, List.map_nil]); first | done | rfl | (simp only [List.length_drop, List.length_take]; rfl) | (simp [Act.eval, IntKind.wrap_u64, IntKind.wrap_u8, IntKind.wrap_u32, wrap64]; omega)) ?_; (with_reducible refine (utf_Put.calls k 228 t140 t141 _ A1.out).mono ?_); rintro e w25 ⟨rfl, hb⟩; refine ⟨_, rfl, ?_⟩; have n0_ := Aside0.mk (below_step (by repeat (first | (with_reducible first | exact HB.out | apply below_alloc | apply pw_below_drewN | apply below_drew1) | exact HB.out)) hb); clear HB; have HB := n0_; clear n0_; (try clear hb); (try clear hb2); (try clear hk); (try clear hi)) | ((with_reducible refine gate_callee (f := 13) rfl ?_); refine goesL_ (some 17) rfl rfl Try.func13 (by kernel_rfl) rfl #[.string (⟨#[195]⟩ : ByteArray)] rfl (by (try simp only [List.map_toArray, List.map_cons, List.map_nil]); first | done | rfl | (simp only [List.length_drop, List.length_take]; rfl) | (simp [Act.eval, IntKind.wrap_u64, IntKind.wrap_u8, IntKind.wrap_u32, wrap64]; omega)) ?_; (with_reducible refine (utf_Next.calls k (⟨#[195]⟩ : ByteArray) t142 t143 t144 _ A2.out).mono ?_); rintro e w' ⟨rfl, ⟨nd, rfl⟩⟩; refine ⟨_, rfl, ?_⟩) | ((with_reducible refine gate_callee (f := 13) rfl ?_); refine goesL_ (some 22) rfl rfl Try.func13 (by kernel_rfl) rfl #[.string (⟨#[192, 128]⟩ : ByteArray)] rfl (by (try simp only [List.map_toArray, List.map_cons, List.map_nil]); first | done | rfl | (simp only [List.length_drop, List.length_take]; rfl) | (simp [Act.eval, IntKind.wrap_u64, IntKind.wrap_u8, IntKind.wrap_u32, wrap64]; omega)) ?_; (with_reducible refine (utf_Next.calls k (⟨#[192, 128]⟩ : ByteArray) t145 t146 t147 _ A3.out).mono ?_); rintro e w' ⟨rfl, ⟨nd, rfl⟩⟩; refine ⟨_, rfl, ?_⟩) | ((with_reducible refine gate_callee (f := 13) rfl ?_); refine goesL_ (some 27) rfl rfl Try.func13 (by kernel_rfl) rfl #[.string (⟨#[226, 130, 172, 120]⟩ : ByteArray)] rfl (by (try simp only [List.map_toArray, List.map_cons, List.map_nil]); first | done | rfl | (simp only [List.length_drop, List.length_take]; rfl) | (simp [Act.eval, IntKind.wrap_u64, IntKind.wrap_u8, IntKind.wrap_u32, wrap64]; omega)) ?_; (with_reducible refine (utf_Next.calls k (⟨#[226, 130, 172, 120]⟩ : ByteArray) t148 t149 t150 _ A4.out).mono ?_); rintro e w' ⟨rfl, ⟨nd, rfl⟩⟩; refine ⟨_, rfl, ?_⟩))
                go_ret
                exact ⟨by first | rfl | (simp [errW_none, errW_some] <;> rfl) | (simp [*, errW_none, errW_some] <;> rfl), by repeat (first | (with_reducible first | exact HB.out | apply below_alloc | apply pw_below_drewN | apply below_drew1) | exact HB.out)⟩
            · rw [if_neg c10] at H
              have c10b0 : (t149 == 3) = false := beq_eq_false_iff_ne.mpr c10
              have c10b1 : (t149 != 3) = true := bne_iff_ne.mpr c10
              obtain rfl := Option.some.inj H
              go_enter Try.func12, Try.ntmps12
              go_wp2_with (first | ((with_reducible refine gate_callee (f := 8) rfl ?_); refine goesL_ (some 13) rfl rfl Try.func8 (by kernel_rfl) rfl #[.int .i64 228] rfl (by (try simp only [List.map_toArray, List.map_cons, List.map_nil]); first | done | rfl | (simp only [List.length_drop, List.length_take]; rfl) | (simp [Act.eval, IntKind.wrap_u64, IntKind.wrap_u8, IntKind.wrap_u32, wrap64]; omega)) ?_; (with_reducible refine (utf_Put.calls k 228 t140 t141 _ A1.out).mono ?_); rintro e w26 ⟨rfl, hb⟩; refine ⟨_, rfl, ?_⟩; have n0_ := Aside0.mk (below_step (by repeat (first | (with_reducible first | exact HB.out | apply below_alloc | apply pw_below_drewN | apply below_drew1) | exact HB.out)) hb); clear HB; have HB := n0_; clear n0_; (try clear hb); (try clear hb2); (try clear hk); (try clear hi)) | ((with_reducible refine gate_callee (f := 13) rfl ?_); refine goesL_ (some 17) rfl rfl Try.func13 (by kernel_rfl) rfl #[.string (⟨#[195]⟩ : ByteArray)] rfl (by (try simp only [List.map_toArray, List.map_cons, List.map_nil]); first | done | rfl | (simp only [List.length_drop, List.length_take]; rfl) | (simp [Act.eval, IntKind.wrap_u64, IntKind.wrap_u8, IntKind.wrap_u32, wrap64]; omega)) ?_; (with_reducible refine (utf_Next.calls k (⟨#[195]⟩ : ByteArray) t142 t143 t144 _ A2.out).mono ?_); rintro e w' ⟨rfl, ⟨nd, rfl⟩⟩; refine ⟨_, rfl, ?_⟩) | ((with_reducible refine gate_callee (f := 13) rfl ?_); refine goesL_ (some 22) rfl rfl Try.func13 (by kernel_rfl) rfl #[.string (⟨#[192, 128]⟩ : ByteArray)] rfl (by (try simp only [List.map_toArray, List.map_cons, List.map_nil]); first | done | rfl | (simp only [List.length_drop, List.length_take]; rfl) | (simp [Act.eval, IntKind.wrap_u64, IntKind.wrap_u8, IntKind.wrap_u32, wrap64]; omega)) ?_; (with_reducible refine (utf_Next.calls k (⟨#[192, 128]⟩ : ByteArray) t145 t146 t147 _ A3.out).mono ?_); rintro e w' ⟨rfl, ⟨nd, rfl⟩⟩; refine ⟨_, rfl, ?_⟩) | ((with_reducible refine gate_callee (f := 13) rfl ?_); refine goesL_ (some 27) rfl rfl Try.func13 (by kernel_rfl) rfl #[.string (⟨#[226, 130, 172, 120]⟩ : ByteArray)] rfl (by (try simp only [List.map_toArray, List.map_cons, List.map_nil]); first | done | rfl | (simp only [List.length_drop, List.length_take]; rfl) | (simp [Act.eval, IntKind.wrap_u64, IntKind.wrap_u8, IntKind.wrap_u32, wrap64]; omega)) ?_; (with_reducible refine (utf_Next.calls k (⟨#[226, 130, 172, 120]⟩ : ByteArray) t148 t149 t150 _ A4.out).mono ?_); rintro e w' ⟨rfl, ⟨nd, rfl⟩⟩; refine ⟨_, rfl, ?_⟩))
              go_ret
              exact ⟨by first | rfl | (simp [errW_none, errW_some] <;> rfl) | (simp [*, errW_none, errW_some] <;> rfl), by repeat (first | (with_reducible first | exact HB.out | apply below_alloc | apply pw_below_drewN | apply below_drew1) | exact HB.out)⟩
          · rw [if_neg c9] at H
            have c9b0 : (t148 == 8364) = false := beq_eq_false_iff_ne.mpr c9
            have c9b1 : (t148 != 8364) = true := bne_iff_ne.mpr c9
            obtain rfl := Option.some.inj H
            go_enter Try.func12, Try.ntmps12
            go_wp2_with (first | ((with_reducible refine gate_callee (f := 8) rfl ?_); refine goesL_ (some 13) rfl rfl Try.func8 (by kernel_rfl) rfl #[.int .i64 228] rfl (by (try simp only [List.map_toArray, List.map_cons, List.map_nil]); first | done | rfl | (simp only [List.length_drop, List.length_take]; rfl) | (simp [Act.eval, IntKind.wrap_u64, IntKind.wrap_u8, IntKind.wrap_u32, wrap64]; omega)) ?_; (with_reducible refine (utf_Put.calls k 228 t140 t141 _ A1.out).mono ?_); rintro e w27 ⟨rfl, hb⟩; refine ⟨_, rfl, ?_⟩; have n0_ := Aside0.mk (below_step (by repeat (first | (with_reducible first | exact HB.out | apply below_alloc | apply pw_below_drewN | apply below_drew1) | exact HB.out)) hb); clear HB; have HB := n0_; clear n0_; (try clear hb); (try clear hb2); (try clear hk); (try clear hi)) | ((with_reducible refine gate_callee (f := 13) rfl ?_); refine goesL_ (some 17) rfl rfl Try.func13 (by kernel_rfl) rfl #[.string (⟨#[195]⟩ : ByteArray)] rfl (by (try simp only [List.map_toArray, List.map_cons, List.map_nil]); first | done | rfl | (simp only [List.length_drop, List.length_take]; rfl) | (simp [Act.eval, IntKind.wrap_u64, IntKind.wrap_u8, IntKind.wrap_u32, wrap64]; omega)) ?_; (with_reducible refine (utf_Next.calls k (⟨#[195]⟩ : ByteArray) t142 t143 t144 _ A2.out).mono ?_); rintro e w' ⟨rfl, ⟨nd, rfl⟩⟩; refine ⟨_, rfl, ?_⟩) | ((with_reducible refine gate_callee (f := 13) rfl ?_); refine goesL_ (some 22) rfl rfl Try.func13 (by kernel_rfl) rfl #[.string (⟨#[192, 128]⟩ : ByteArray)] rfl (by (try simp only [List.map_toArray, List.map_cons, List.map_nil]); first | done | rfl | (simp only [List.length_drop, List.length_take]; rfl) | (simp [Act.eval, IntKind.wrap_u64, IntKind.wrap_u8, IntKind.wrap_u32, wrap64]; omega)) ?_; (with_reducible refine (utf_Next.calls k (⟨#[192, 128]⟩ : ByteArray) t145 t146 t147 _ A3.out).mono ?_); rintro e w' ⟨rfl, ⟨nd, rfl⟩⟩; refine ⟨_, rfl, ?_⟩) | ((with_reducible refine gate_callee (f := 13) rfl ?_); refine goesL_ (some 27) rfl rfl Try.func13 (by kernel_rfl) rfl #[.string (⟨#[226, 130, 172, 120]⟩ : ByteArray)] rfl (by (try simp only [List.map_toArray, List.map_cons, List.map_nil]); first | done | rfl | (simp only [List.length_drop, List.length_take]; rfl) | (simp [Act.eval, IntKind.wrap_u64, IntKind.wrap_u8, IntKind.wrap_u32, wrap64]; omega)) ?_; (with_reducible refine (utf_Next.calls k (⟨#[226, 130, 172, 120]⟩ : ByteArray) t148 t149 t150 _ A4.out).mono ?_); rintro e w' ⟨rfl, ⟨nd, rfl⟩⟩; refine ⟨_, rfl, ?_⟩))
            go_ret
            exact ⟨by first | rfl | (simp [errW_none, errW_some] <;> rfl) | (simp [*, errW_none, errW_some] <;> rfl), by repeat (first | (with_reducible first | exact HB.out | apply below_alloc | apply pw_below_drewN | apply below_drew1) | exact HB.out)⟩
        · rw [if_neg c8] at H
          have c8b0 : (t147 == 7) = false := beq_eq_false_iff_ne.mpr c8
          have c8b1 : (t147 != 7) = true := bne_iff_ne.mpr c8
          obtain rfl := Option.some.inj H
          go_enter Try.func12, Try.ntmps12
          go_wp2_with (first | ((with_reducible refine gate_callee (f := 8) rfl ?_); refine goesL_ (some 13) rfl rfl Try.func8 (by kernel_rfl) rfl #[.int .i64 228] rfl (by (try simp only [List.map_toArray, List.map_cons, List.map_nil]); first | done | rfl | (simp only [List.length_drop, List.length_take]; rfl) | (simp [Act.eval, IntKind.wrap_u64, IntKind.wrap_u8, IntKind.wrap_u32, wrap64]; omega)) ?_; (with_reducible refine (utf_Put.calls k 228 t140 t141 _ A1.out).mono ?_); rintro e w28 ⟨rfl, hb⟩; refine ⟨_, rfl, ?_⟩; have n0_ := Aside0.mk (below_step (by repeat (first | (with_reducible first | exact HB.out | apply below_alloc | apply pw_below_drewN | apply below_drew1) | exact HB.out)) hb); clear HB; have HB := n0_; clear n0_; (try clear hb); (try clear hb2); (try clear hk); (try clear hi)) | ((with_reducible refine gate_callee (f := 13) rfl ?_); refine goesL_ (some 17) rfl rfl Try.func13 (by kernel_rfl) rfl #[.string (⟨#[195]⟩ : ByteArray)] rfl (by (try simp only [List.map_toArray, List.map_cons, List.map_nil]); first | done | rfl | (simp only [List.length_drop, List.length_take]; rfl) | (simp [Act.eval, IntKind.wrap_u64, IntKind.wrap_u8, IntKind.wrap_u32, wrap64]; omega)) ?_; (with_reducible refine (utf_Next.calls k (⟨#[195]⟩ : ByteArray) t142 t143 t144 _ A2.out).mono ?_); rintro e w' ⟨rfl, ⟨nd, rfl⟩⟩; refine ⟨_, rfl, ?_⟩) | ((with_reducible refine gate_callee (f := 13) rfl ?_); refine goesL_ (some 22) rfl rfl Try.func13 (by kernel_rfl) rfl #[.string (⟨#[192, 128]⟩ : ByteArray)] rfl (by (try simp only [List.map_toArray, List.map_cons, List.map_nil]); first | done | rfl | (simp only [List.length_drop, List.length_take]; rfl) | (simp [Act.eval, IntKind.wrap_u64, IntKind.wrap_u8, IntKind.wrap_u32, wrap64]; omega)) ?_; (with_reducible refine (utf_Next.calls k (⟨#[192, 128]⟩ : ByteArray) t145 t146 t147 _ A3.out).mono ?_); rintro e w' ⟨rfl, ⟨nd, rfl⟩⟩; refine ⟨_, rfl, ?_⟩) | ((with_reducible refine gate_callee (f := 13) rfl ?_); refine goesL_ (some 27) rfl rfl Try.func13 (by kernel_rfl) rfl #[.string (⟨#[226, 130, 172, 120]⟩ : ByteArray)] rfl (by (try simp only [List.map_toArray, List.map_cons, List.map_nil]); first | done | rfl | (simp only [List.length_drop, List.length_take]; rfl) | (simp [Act.eval, IntKind.wrap_u64, IntKind.wrap_u8, IntKind.wrap_u32, wrap64]; omega)) ?_; (with_reducible refine (utf_Next.calls k (⟨#[226, 130, 172, 120]⟩ : ByteArray) t148 t149 t150 _ A4.out).mono ?_); rintro e w' ⟨rfl, ⟨nd, rfl⟩⟩; refine ⟨_, rfl, ?_⟩))
          go_ret
          exact ⟨by first | rfl | (simp [errW_none, errW_some] <;> rfl) | (simp [*, errW_none, errW_some] <;> rfl), by repeat (first | (with_reducible first | exact HB.out | apply below_alloc | apply pw_below_drewN | apply below_drew1) | exact HB.out)⟩
      · rw [if_neg c7] at H
        have c7b0 : (t144 == 3) = false := beq_eq_false_iff_ne.mpr c7
        have c7b1 : (t144 != 3) = true := bne_iff_ne.mpr c7
        obtain rfl := Option.some.inj H
        go_enter Try.func12, Try.ntmps12
        go_wp2_with (first | ((with_reducible refine gate_callee (f := 8) rfl ?_); refine goesL_ (some 13) rfl rfl Try.func8 (by kernel_rfl) rfl #[.int .i64 228] rfl (by (try simp only [List.map_toArray, List.map_cons, List.map_nil]); first | done | rfl | (simp only [List.length_drop, List.length_take]; rfl) | (simp [Act.eval, IntKind.wrap_u64, IntKind.wrap_u8, IntKind.wrap_u32, wrap64]; omega)) ?_; (with_reducible refine (utf_Put.calls k 228 t140 t141 _ A1.out).mono ?_); rintro e w29 ⟨rfl, hb⟩; refine ⟨_, rfl, ?_⟩; have n0_ := Aside0.mk (below_step (by repeat (first | (with_reducible first | exact HB.out | apply below_alloc | apply pw_below_drewN | apply below_drew1) | exact HB.out)) hb); clear HB; have HB := n0_; clear n0_; (try clear hb); (try clear hb2); (try clear hk); (try clear hi)) | ((with_reducible refine gate_callee (f := 13) rfl ?_); refine goesL_ (some 17) rfl rfl Try.func13 (by kernel_rfl) rfl #[.string (⟨#[195]⟩ : ByteArray)] rfl (by (try simp only [List.map_toArray, List.map_cons, List.map_nil]); first | done | rfl | (simp only [List.length_drop, List.length_take]; rfl) | (simp [Act.eval, IntKind.wrap_u64, IntKind.wrap_u8, IntKind.wrap_u32, wrap64]; omega)) ?_; (with_reducible refine (utf_Next.calls k (⟨#[195]⟩ : ByteArray) t142 t143 t144 _ A2.out).mono ?_); rintro e w' ⟨rfl, ⟨nd, rfl⟩⟩; refine ⟨_, rfl, ?_⟩) | ((with_reducible refine gate_callee (f := 13) rfl ?_); refine goesL_ (some 22) rfl rfl Try.func13 (by kernel_rfl) rfl #[.string (⟨#[192, 128]⟩ : ByteArray)] rfl (by (try simp only [List.map_toArray, List.map_cons, List.map_nil]); first | done | rfl | (simp only [List.length_drop, List.length_take]; rfl) | (simp [Act.eval, IntKind.wrap_u64, IntKind.wrap_u8, IntKind.wrap_u32, wrap64]; omega)) ?_; (with_reducible refine (utf_Next.calls k (⟨#[192, 128]⟩ : ByteArray) t145 t146 t147 _ A3.out).mono ?_); rintro e w' ⟨rfl, ⟨nd, rfl⟩⟩; refine ⟨_, rfl, ?_⟩) | ((with_reducible refine gate_callee (f := 13) rfl ?_); refine goesL_ (some 27) rfl rfl Try.func13 (by kernel_rfl) rfl #[.string (⟨#[226, 130, 172, 120]⟩ : ByteArray)] rfl (by (try simp only [List.map_toArray, List.map_cons, List.map_nil]); first | done | rfl | (simp only [List.length_drop, List.length_take]; rfl) | (simp [Act.eval, IntKind.wrap_u64, IntKind.wrap_u8, IntKind.wrap_u32, wrap64]; omega)) ?_; (with_reducible refine (utf_Next.calls k (⟨#[226, 130, 172, 120]⟩ : ByteArray) t148 t149 t150 _ A4.out).mono ?_); rintro e w' ⟨rfl, ⟨nd, rfl⟩⟩; refine ⟨_, rfl, ?_⟩))
        go_ret
        exact ⟨by first | rfl | (simp [errW_none, errW_some] <;> rfl) | (simp [*, errW_none, errW_some] <;> rfl), by repeat (first | (with_reducible first | exact HB.out | apply below_alloc | apply pw_below_drewN | apply below_drew1) | exact HB.out)⟩
    · rw [if_neg c6] at H
      have c6b0 : (t141 == 0) = false := beq_eq_false_iff_ne.mpr c6
      have c6b1 : (t141 != 0) = true := bne_iff_ne.mpr c6
      obtain rfl := Option.some.inj H
      go_enter Try.func12, Try.ntmps12
      go_wp2_with (first | ((with_reducible refine gate_callee (f := 8) rfl ?_); refine goesL_ (some 13) rfl rfl Try.func8 (by kernel_rfl) rfl #[.int .i64 228] rfl (by (try simp only [List.map_toArray, List.map_cons, List.map_nil]); first | done | rfl | (simp only [List.length_drop, List.length_take]; rfl) | (simp [Act.eval, IntKind.wrap_u64, IntKind.wrap_u8, IntKind.wrap_u32, wrap64]; omega)) ?_; (with_reducible refine (utf_Put.calls k 228 t140 t141 _ A1.out).mono ?_); rintro e w30 ⟨rfl, hb⟩; refine ⟨_, rfl, ?_⟩; have n0_ := Aside0.mk (below_step (by repeat (first | (with_reducible first | exact HB.out | apply below_alloc | apply pw_below_drewN | apply below_drew1) | exact HB.out)) hb); clear HB; have HB := n0_; clear n0_; (try clear hb); (try clear hb2); (try clear hk); (try clear hi)) | ((with_reducible refine gate_callee (f := 13) rfl ?_); refine goesL_ (some 17) rfl rfl Try.func13 (by kernel_rfl) rfl #[.string (⟨#[195]⟩ : ByteArray)] rfl (by (try simp only [List.map_toArray, List.map_cons, List.map_nil]); first | done | rfl | (simp only [List.length_drop, List.length_take]; rfl) | (simp [Act.eval, IntKind.wrap_u64, IntKind.wrap_u8, IntKind.wrap_u32, wrap64]; omega)) ?_; (with_reducible refine (utf_Next.calls k (⟨#[195]⟩ : ByteArray) t142 t143 t144 _ A2.out).mono ?_); rintro e w' ⟨rfl, ⟨nd, rfl⟩⟩; refine ⟨_, rfl, ?_⟩) | ((with_reducible refine gate_callee (f := 13) rfl ?_); refine goesL_ (some 22) rfl rfl Try.func13 (by kernel_rfl) rfl #[.string (⟨#[192, 128]⟩ : ByteArray)] rfl (by (try simp only [List.map_toArray, List.map_cons, List.map_nil]); first | done | rfl | (simp only [List.length_drop, List.length_take]; rfl) | (simp [Act.eval, IntKind.wrap_u64, IntKind.wrap_u8, IntKind.wrap_u32, wrap64]; omega)) ?_; (with_reducible refine (utf_Next.calls k (⟨#[192, 128]⟩ : ByteArray) t145 t146 t147 _ A3.out).mono ?_); rintro e w' ⟨rfl, ⟨nd, rfl⟩⟩; refine ⟨_, rfl, ?_⟩) | ((with_reducible refine gate_callee (f := 13) rfl ?_); refine goesL_ (some 27) rfl rfl Try.func13 (by kernel_rfl) rfl #[.string (⟨#[226, 130, 172, 120]⟩ : ByteArray)] rfl (by (try simp only [List.map_toArray, List.map_cons, List.map_nil]); first | done | rfl | (simp only [List.length_drop, List.length_take]; rfl) | (simp [Act.eval, IntKind.wrap_u64, IntKind.wrap_u8, IntKind.wrap_u32, wrap64]; omega)) ?_; (with_reducible refine (utf_Next.calls k (⟨#[226, 130, 172, 120]⟩ : ByteArray) t148 t149 t150 _ A4.out).mono ?_); rintro e w' ⟨rfl, ⟨nd, rfl⟩⟩; refine ⟨_, rfl, ?_⟩))
      go_ret
      exact ⟨by first | rfl | (simp [errW_none, errW_some] <;> rfl) | (simp [*, errW_none, errW_some] <;> rfl), by repeat (first | (with_reducible first | exact HB.out | apply below_alloc | apply pw_below_drewN | apply below_drew1) | exact HB.out)⟩
  · rw [if_neg c5] at H
    have c5b0 : (t140.toList == ([195, 164] : List UInt8)) = false := beq_eq_false_iff_ne.mpr c5
    have c5b1 : (t140.toList != ([195, 164] : List UInt8)) = true := bne_iff_ne.mpr c5
    obtain rfl := Option.some.inj H
    go_enter Try.func12, Try.ntmps12
    go_wp2_with (first | ((with_reducible refine gate_callee (f := 8) rfl ?_); refine goesL_ (some 13) rfl rfl Try.func8 (by kernel_rfl) rfl #[.int .i64 228] rfl (by (try simp only [List.map_toArray, List.map_cons, List.map_nil]); first | done | rfl | (simp only [List.length_drop, List.length_take]; rfl) | (simp [Act.eval, IntKind.wrap_u64, IntKind.wrap_u8, IntKind.wrap_u32, wrap64]; omega)) ?_; (with_reducible refine (utf_Put.calls k 228 t140 t141 _ A1.out).mono ?_); rintro e w31 ⟨rfl, hb⟩; refine ⟨_, rfl, ?_⟩; have n0_ := Aside0.mk (below_step (by repeat (first | (with_reducible first | exact HB.out | apply below_alloc | apply pw_below_drewN | apply below_drew1) | exact HB.out)) hb); clear HB; have HB := n0_; clear n0_; (try clear hb); (try clear hb2); (try clear hk); (try clear hi)) | ((with_reducible refine gate_callee (f := 13) rfl ?_); refine goesL_ (some 17) rfl rfl Try.func13 (by kernel_rfl) rfl #[.string (⟨#[195]⟩ : ByteArray)] rfl (by (try simp only [List.map_toArray, List.map_cons, List.map_nil]); first | done | rfl | (simp only [List.length_drop, List.length_take]; rfl) | (simp [Act.eval, IntKind.wrap_u64, IntKind.wrap_u8, IntKind.wrap_u32, wrap64]; omega)) ?_; (with_reducible refine (utf_Next.calls k (⟨#[195]⟩ : ByteArray) t142 t143 t144 _ A2.out).mono ?_); rintro e w' ⟨rfl, ⟨nd, rfl⟩⟩; refine ⟨_, rfl, ?_⟩) | ((with_reducible refine gate_callee (f := 13) rfl ?_); refine goesL_ (some 22) rfl rfl Try.func13 (by kernel_rfl) rfl #[.string (⟨#[192, 128]⟩ : ByteArray)] rfl (by (try simp only [List.map_toArray, List.map_cons, List.map_nil]); first | done | rfl | (simp only [List.length_drop, List.length_take]; rfl) | (simp [Act.eval, IntKind.wrap_u64, IntKind.wrap_u8, IntKind.wrap_u32, wrap64]; omega)) ?_; (with_reducible refine (utf_Next.calls k (⟨#[192, 128]⟩ : ByteArray) t145 t146 t147 _ A3.out).mono ?_); rintro e w' ⟨rfl, ⟨nd, rfl⟩⟩; refine ⟨_, rfl, ?_⟩) | ((with_reducible refine gate_callee (f := 13) rfl ?_); refine goesL_ (some 27) rfl rfl Try.func13 (by kernel_rfl) rfl #[.string (⟨#[226, 130, 172, 120]⟩ : ByteArray)] rfl (by (try simp only [List.map_toArray, List.map_cons, List.map_nil]); first | done | rfl | (simp only [List.length_drop, List.length_take]; rfl) | (simp [Act.eval, IntKind.wrap_u64, IntKind.wrap_u8, IntKind.wrap_u32, wrap64]; omega)) ?_; (with_reducible refine (utf_Next.calls k (⟨#[226, 130, 172, 120]⟩ : ByteArray) t148 t149 t150 _ A4.out).mono ?_); rintro e w' ⟨rfl, ⟨nd, rfl⟩⟩; refine ⟨_, rfl, ?_⟩))
    go_ret
    exact ⟨by first | rfl | (simp [errW_none, errW_some] <;> rfl) | (simp [*, errW_none, errW_some] <;> rfl), by repeat (first | (with_reducible first | exact HB.out | apply below_alloc | apply pw_below_drewN | apply below_drew1) | exact HB.out)⟩

/-! ### transomlaw01_UtfPuts: function 3 -/
def transomlaw01_UtfPuts.f (k : Nat) (a0 : Int) : Option (Bool) := (utf_Put.f k a0).bind fun bt157 => ((transomref01_Put.f k a0).bind fun bt159 => (if bt157.1.toList = bt159.1.toList then (if bt157.2 = bt159.2 then ((utf_Width.f k a0).bind fun t161 => ((transomref01_Width.f k a0).bind fun t162 => (if t161 = t162 then ((transomlaw01_awake.f k).bind fun t163 => (some t163)) else (some false)))) else (some false)) else (some false)))
theorem transomlaw01_UtfPuts.mono : ∀ a0 k, LeO (transomlaw01_UtfPuts.f k a0) (transomlaw01_UtfPuts.f (k + 1) a0) := by
  intro a0 k
  unfold transomlaw01_UtfPuts.f
  repeat' first
      | (with_reducible exact transomlaw01_awake.mono _)
      | (with_reducible exact transomref01_Put.mono _ _)
      | (with_reducible exact transomref01_Width.mono _ _)
      | (with_reducible exact utf_Put.mono _ _)
      | (with_reducible exact utf_Width.mono _ _)
      | (with_reducible exact LeO.refl _)
      | (with_reducible exact LeO.none _)
      | (with_reducible refine LeO.ite ?_ ?_)
      | (with_reducible refine LeO.bind ?_ (fun _ => ?_))
      | exact transomlaw01_awake.mono _
      | exact transomref01_Put.mono _ _
      | exact transomref01_Width.mono _ _
      | exact utf_Put.mono _ _
      | exact utf_Width.mono _ _
      | exact LeO.none _
      | refine LeO.ite ?_ ?_
      | refine LeO.bind ?_ (fun _ => ?_)
set_option maxHeartbeats 8000000 in
set_option maxRecDepth 100000 in
theorem transomlaw01_UtfPuts.calls (k : Nat) (a0 : Int) (r : Bool) (w : World) (h : transomlaw01_UtfPuts.f k a0 = some r) :
    Calls Try.prog 3 #[.int .i64 a0] w fun e w' => e = .returned (.bool r) ∧ Below w.heap.size w w' := by
  have HB := Aside0.mk (Below.refl w.heap.size w)
  have H : ((utf_Put.f k a0).bind fun bt157 => ((transomref01_Put.f k a0).bind fun bt159 => (if bt157.1.toList = bt159.1.toList then (if bt157.2 = bt159.2 then ((utf_Width.f k a0).bind fun t161 => ((transomref01_Width.f k a0).bind fun t162 => (if t161 = t162 then ((transomlaw01_awake.f k).bind fun t163 => (some t163)) else (some false)))) else (some false)) else (some false)))) = some r := h
  clear h
  replace H := Option.bind_eq_some_iff.mp H
  obtain ⟨⟨t157, t158⟩, A20, H⟩ := H
  replace H : ((transomref01_Put.f k a0).bind fun bt159 => (if t157.toList = bt159.1.toList then (if t158 = bt159.2 then ((utf_Width.f k a0).bind fun t161 => ((transomref01_Width.f k a0).bind fun t162 => (if t161 = t162 then ((transomlaw01_awake.f k).bind fun t163 => (some t163)) else (some false)))) else (some false)) else (some false))) = some r := H
  have A2 := Aside0.mk A20
  clear A20
  replace H := Option.bind_eq_some_iff.mp H
  obtain ⟨⟨t159, t160⟩, A30, H⟩ := H
  replace H : (if t157.toList = t159.toList then (if t158 = t160 then ((utf_Width.f k a0).bind fun t161 => ((transomref01_Width.f k a0).bind fun t162 => (if t161 = t162 then ((transomlaw01_awake.f k).bind fun t163 => (some t163)) else (some false)))) else (some false)) else (some false)) = some r := H
  have A3 := Aside0.mk A30
  clear A30
  by_cases c4 : t157.toList = t159.toList
  · rw [if_pos c4] at H
    have c4b0 : (t157.toList == t159.toList) = true := beq_iff_eq.mpr c4
    have c4b1 : (t157.toList != t159.toList) = false := bne_eq_false_iff_eq.mpr c4
    clear c4
    by_cases c5 : t158 = t160
    · rw [if_pos c5] at H
      have c5b0 : (t158 == t160) = true := beq_iff_eq.mpr c5
      have c5b1 : (t158 != t160) = false := bne_eq_false_iff_eq.mpr c5
      clear c5
      replace H := Option.bind_eq_some_iff.mp H
      obtain ⟨t161, A60, H⟩ := H
      replace H : ((transomref01_Width.f k a0).bind fun t162 => (if t161 = t162 then ((transomlaw01_awake.f k).bind fun t163 => (some t163)) else (some false))) = some r := H
      have A6 := Aside0.mk A60
      clear A60
      replace H := Option.bind_eq_some_iff.mp H
      obtain ⟨t162, A70, H⟩ := H
      replace H : (if t161 = t162 then ((transomlaw01_awake.f k).bind fun t163 => (some t163)) else (some false)) = some r := H
      have A7 := Aside0.mk A70
      clear A70
      by_cases c8 : t161 = t162
      · rw [if_pos c8] at H
        have c8b0 : (t161 == t162) = true := beq_iff_eq.mpr c8
        have c8b1 : (t161 != t162) = false := bne_eq_false_iff_eq.mpr c8
        clear c8
        replace H := Option.bind_eq_some_iff.mp H
        obtain ⟨t163, A90, H⟩ := H
        replace H : (some t163) = some r := H
        have A9 := Aside0.mk A90
        clear A90
        obtain rfl := Option.some.inj H
        go_enter Try.func3, Try.ntmps3
        go_wp2_with (first | ((with_reducible refine gate_callee (f := 8) rfl ?_); refine goesL_ (some 9) rfl rfl Try.func8 (by kernel_rfl) rfl #[.int .i64 a0] rfl (by (try simp only [List.map_toArray, List.map_cons, List.map_nil]); first | done | rfl | (simp only [List.length_drop, List.length_take]; rfl) | (simp [Act.eval, IntKind.wrap_u64, IntKind.wrap_u8, IntKind.wrap_u32, wrap64]; omega)) ?_; (with_reducible refine (utf_Put.calls k a0 t157 t158 _ A2.out).mono ?_); rintro e w10 ⟨rfl, hb⟩; refine ⟨_, rfl, ?_⟩; have n0_ := Aside0.mk (below_step (by repeat (first | (with_reducible first | exact HB.out | apply below_alloc | apply pw_below_drewN | apply below_drew1) | exact HB.out)) hb); clear HB; have HB := n0_; clear n0_; (try clear hb); (try clear hb2); (try clear hk); (try clear hi)) | ((with_reducible refine gate_callee (f := 9) rfl ?_); refine goesL_ (some 14) rfl rfl Try.func9 (by kernel_rfl) rfl #[.int .i64 a0] rfl (by (try simp only [List.map_toArray, List.map_cons, List.map_nil]); first | done | rfl | (simp only [List.length_drop, List.length_take]; rfl) | (simp [Act.eval, IntKind.wrap_u64, IntKind.wrap_u8, IntKind.wrap_u32, wrap64]; omega)) ?_; (with_reducible refine (transomref01_Put.calls k a0 t159 t160 _ A3.out).mono ?_); rintro e w11 ⟨rfl, hb⟩; refine ⟨_, rfl, ?_⟩; have n0_ := Aside0.mk (below_step (by repeat (first | (with_reducible first | exact HB.out | apply below_alloc | apply pw_below_drewN | apply below_drew1) | exact HB.out)) hb); clear HB; have HB := n0_; clear n0_; (try clear hb); (try clear hb2); (try clear hk); (try clear hi)) | (go_at_call 10; (with_reducible refine (utf_Width.calls k a0 t161 _ A6.out).mono ?_); rintro e w' ⟨rfl, ⟨nd, rfl⟩⟩) | (go_at_call 11; (with_reducible refine (transomref01_Width.calls k a0 t162 _ A7.out).mono ?_); rintro e w' ⟨rfl, ⟨nd, rfl⟩⟩) | (go_at_call 12; (with_reducible refine (transomlaw01_awake.calls k  t163 _ A9.out).mono ?_); rintro e w12 ⟨rfl, hb⟩; have n0_ := Aside0.mk (below_step (by repeat (first | (with_reducible first | exact HB.out | apply below_alloc | apply pw_below_drewN | apply below_drew1) | exact HB.out)) hb); clear HB; have HB := n0_; clear n0_; (try clear hb); (try clear hb2); (try clear hk); (try clear hi)))
        go_ret
        exact ⟨by first | rfl | (simp [errW_none, errW_some] <;> rfl) | (simp [*, errW_none, errW_some] <;> rfl), by repeat (first | (with_reducible first | exact HB.out | apply below_alloc | apply pw_below_drewN | apply below_drew1) | exact HB.out)⟩
      · rw [if_neg c8] at H
        have c8b0 : (t161 == t162) = false := beq_eq_false_iff_ne.mpr c8
        have c8b1 : (t161 != t162) = true := bne_iff_ne.mpr c8
        obtain rfl := Option.some.inj H
        go_enter Try.func3, Try.ntmps3
        go_wp2_with (first | ((with_reducible refine gate_callee (f := 8) rfl ?_); refine goesL_ (some 9) rfl rfl Try.func8 (by kernel_rfl) rfl #[.int .i64 a0] rfl (by (try simp only [List.map_toArray, List.map_cons, List.map_nil]); first | done | rfl | (simp only [List.length_drop, List.length_take]; rfl) | (simp [Act.eval, IntKind.wrap_u64, IntKind.wrap_u8, IntKind.wrap_u32, wrap64]; omega)) ?_; (with_reducible refine (utf_Put.calls k a0 t157 t158 _ A2.out).mono ?_); rintro e w13 ⟨rfl, hb⟩; refine ⟨_, rfl, ?_⟩; have n0_ := Aside0.mk (below_step (by repeat (first | (with_reducible first | exact HB.out | apply below_alloc | apply pw_below_drewN | apply below_drew1) | exact HB.out)) hb); clear HB; have HB := n0_; clear n0_; (try clear hb); (try clear hb2); (try clear hk); (try clear hi)) | ((with_reducible refine gate_callee (f := 9) rfl ?_); refine goesL_ (some 14) rfl rfl Try.func9 (by kernel_rfl) rfl #[.int .i64 a0] rfl (by (try simp only [List.map_toArray, List.map_cons, List.map_nil]); first | done | rfl | (simp only [List.length_drop, List.length_take]; rfl) | (simp [Act.eval, IntKind.wrap_u64, IntKind.wrap_u8, IntKind.wrap_u32, wrap64]; omega)) ?_; (with_reducible refine (transomref01_Put.calls k a0 t159 t160 _ A3.out).mono ?_); rintro e w14 ⟨rfl, hb⟩; refine ⟨_, rfl, ?_⟩; have n0_ := Aside0.mk (below_step (by repeat (first | (with_reducible first | exact HB.out | apply below_alloc | apply pw_below_drewN | apply below_drew1) | exact HB.out)) hb); clear HB; have HB := n0_; clear n0_; (try clear hb); (try clear hb2); (try clear hk); (try clear hi)) | (go_at_call 10; (with_reducible refine (utf_Width.calls k a0 t161 _ A6.out).mono ?_); rintro e w' ⟨rfl, ⟨nd, rfl⟩⟩) | (go_at_call 11; (with_reducible refine (transomref01_Width.calls k a0 t162 _ A7.out).mono ?_); rintro e w' ⟨rfl, ⟨nd, rfl⟩⟩))
        go_ret
        exact ⟨by first | rfl | (simp [errW_none, errW_some] <;> rfl) | (simp [*, errW_none, errW_some] <;> rfl), by repeat (first | (with_reducible first | exact HB.out | apply below_alloc | apply pw_below_drewN | apply below_drew1) | exact HB.out)⟩
    · rw [if_neg c5] at H
      have c5b0 : (t158 == t160) = false := beq_eq_false_iff_ne.mpr c5
      have c5b1 : (t158 != t160) = true := bne_iff_ne.mpr c5
      obtain rfl := Option.some.inj H
      go_enter Try.func3, Try.ntmps3
      go_wp2_with (first | ((with_reducible refine gate_callee (f := 8) rfl ?_); refine goesL_ (some 9) rfl rfl Try.func8 (by kernel_rfl) rfl #[.int .i64 a0] rfl (by (try simp only [List.map_toArray, List.map_cons, List.map_nil]); first | done | rfl | (simp only [List.length_drop, List.length_take]; rfl) | (simp [Act.eval, IntKind.wrap_u64, IntKind.wrap_u8, IntKind.wrap_u32, wrap64]; omega)) ?_; (with_reducible refine (utf_Put.calls k a0 t157 t158 _ A2.out).mono ?_); rintro e w15 ⟨rfl, hb⟩; refine ⟨_, rfl, ?_⟩; have n0_ := Aside0.mk (below_step (by repeat (first | (with_reducible first | exact HB.out | apply below_alloc | apply pw_below_drewN | apply below_drew1) | exact HB.out)) hb); clear HB; have HB := n0_; clear n0_; (try clear hb); (try clear hb2); (try clear hk); (try clear hi)) | ((with_reducible refine gate_callee (f := 9) rfl ?_); refine goesL_ (some 14) rfl rfl Try.func9 (by kernel_rfl) rfl #[.int .i64 a0] rfl (by (try simp only [List.map_toArray, List.map_cons, List.map_nil]); first | done | rfl | (simp only [List.length_drop, List.length_take]; rfl) | (simp [Act.eval, IntKind.wrap_u64, IntKind.wrap_u8, IntKind.wrap_u32, wrap64]; omega)) ?_; (with_reducible refine (transomref01_Put.calls k a0 t159 t160 _ A3.out).mono ?_); rintro e w16 ⟨rfl, hb⟩; refine ⟨_, rfl, ?_⟩; have n0_ := Aside0.mk (below_step (by repeat (first | (with_reducible first | exact HB.out | apply below_alloc | apply pw_below_drewN | apply below_drew1) | exact HB.out)) hb); clear HB; have HB := n0_; clear n0_; (try clear hb); (try clear hb2); (try clear hk); (try clear hi)))
      go_ret
      exact ⟨by first | rfl | (simp [errW_none, errW_some] <;> rfl) | (simp [*, errW_none, errW_some] <;> rfl), by repeat (first | (with_reducible first | exact HB.out | apply below_alloc | apply pw_below_drewN | apply below_drew1) | exact HB.out)⟩
  · rw [if_neg c4] at H
    have c4b0 : (t157.toList == t159.toList) = false := beq_eq_false_iff_ne.mpr c4
    have c4b1 : (t157.toList != t159.toList) = true := bne_iff_ne.mpr c4
    obtain rfl := Option.some.inj H
    go_enter Try.func3, Try.ntmps3
    go_wp2_with (first | ((with_reducible refine gate_callee (f := 8) rfl ?_); refine goesL_ (some 9) rfl rfl Try.func8 (by kernel_rfl) rfl #[.int .i64 a0] rfl (by (try simp only [List.map_toArray, List.map_cons, List.map_nil]); first | done | rfl | (simp only [List.length_drop, List.length_take]; rfl) | (simp [Act.eval, IntKind.wrap_u64, IntKind.wrap_u8, IntKind.wrap_u32, wrap64]; omega)) ?_; (with_reducible refine (utf_Put.calls k a0 t157 t158 _ A2.out).mono ?_); rintro e w17 ⟨rfl, hb⟩; refine ⟨_, rfl, ?_⟩; have n0_ := Aside0.mk (below_step (by repeat (first | (with_reducible first | exact HB.out | apply below_alloc | apply pw_below_drewN | apply below_drew1) | exact HB.out)) hb); clear HB; have HB := n0_; clear n0_; (try clear hb); (try clear hb2); (try clear hk); (try clear hi)) | ((with_reducible refine gate_callee (f := 9) rfl ?_); refine goesL_ (some 14) rfl rfl Try.func9 (by kernel_rfl) rfl #[.int .i64 a0] rfl (by (try simp only [List.map_toArray, List.map_cons, List.map_nil]); first | done | rfl | (simp only [List.length_drop, List.length_take]; rfl) | (simp [Act.eval, IntKind.wrap_u64, IntKind.wrap_u8, IntKind.wrap_u32, wrap64]; omega)) ?_; (with_reducible refine (transomref01_Put.calls k a0 t159 t160 _ A3.out).mono ?_); rintro e w18 ⟨rfl, hb⟩; refine ⟨_, rfl, ?_⟩; have n0_ := Aside0.mk (below_step (by repeat (first | (with_reducible first | exact HB.out | apply below_alloc | apply pw_below_drewN | apply below_drew1) | exact HB.out)) hb); clear HB; have HB := n0_; clear n0_; (try clear hb); (try clear hb2); (try clear hk); (try clear hi)))
    go_ret
    exact ⟨by first | rfl | (simp [errW_none, errW_some] <;> rfl) | (simp [*, errW_none, errW_some] <;> rfl), by repeat (first | (with_reducible first | exact HB.out | apply below_alloc | apply pw_below_drewN | apply below_drew1) | exact HB.out)⟩

/-- THE ONE PURE STATEMENT of transomlaw01_UtfPuts: yours. -/
def transomlaw01_UtfPuts.Pure : Prop := ∀ (a0 : Int), (Lit.int .i64 a0).wf = true → ∃ k, transomlaw01_UtfPuts.f k a0 = some true
theorem transomlaw01_UtfPuts.walk (P : transomlaw01_UtfPuts.Pure) (a0 : Int) (w : World) (w0 : (Lit.int .i64 a0).wf = true) :
    Calls Try.prog 3 #[.int .i64 a0] w fun e w' => e = .returned (.bool true) ∧ Below w.heap.size w w' := by
  obtain ⟨k, h⟩ := P a0 w0
  refine (transomlaw01_UtfPuts.calls k a0 true w h).mono ?_
  rintro e w' ⟨rfl, hd⟩
  exact ⟨rfl, hd⟩

end Go.Proofs.Ytognddakkfdifaa.PUtfPuts
