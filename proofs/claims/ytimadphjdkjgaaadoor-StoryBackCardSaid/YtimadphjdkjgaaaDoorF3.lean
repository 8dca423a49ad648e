import Derived.Test.YtimadphjdkjgaaaDoorTys
import Derived.Test.YtimadphjdkjgaaaDoorProg
import Derived.Laws.Externs
import Derived.Lib.Bytealg
import Derived.Test.YtimadphjdkjgaaaDoorF0
import Derived.Test.YtimadphjdkjgaaaDoorF1
import Derived.Test.YtimadphjdkjgaaaDoorF2
import Derived.Test.YtimadphjdkjgaaaDoorShelf
/- By a program of this session (AEV): functions of the program as plain functions, and that the machine does what they say. -/
namespace Go.Proofs.YtimadphjdkjgaaaDoor.Aev
set_option linter.unusedVariables false
set_option linter.unusedSimpArgs false
set_option maxRecDepth 100000
set_option maxHeartbeats 4000000
open Go Go.Proofs.Tryd
namespace sw_op
abbrev R : Type := (Int × (List ByteArray)) ⊕ Int
def e (r : R) : Res := Sum.elim (fun r =>  ⟨.tup [], [some (.box [(.own 1), (.d (.int .i64) r.1)]), some (.own .str false r.2)]⟩) (fun r =>  ⟨.tup [], [some (.box [(.raw (.slice none 0 0)), (.d (.int .i64) r)])]⟩) r
abbrev T (δ : Type) : Type := D_api_Op → Int → (List ByteArray) → Option δ
abbrev A {δ : Type} (g : T δ) : Arm δ := ⟨[.k (.ptr 0 0), .s T_api_Op], [.box [.c (.own 1), .g (.int .i64)], .own .str false], fun x y => g x.2.1.1 y.1.2.1 y.2.1⟩
abbrev G : Type := T R
def ek {β : Type} (r : R) (K : Res → Option β) : Option β := Sum.elim (fun r => K ⟨.tup [], [some (.box [(.own 1), (.d (.int .i64) r.1)]), some (.own .str false r.2)]⟩) (fun r => K ⟨.tup [], [some (.box [(.raw (.slice none 0 0)), (.d (.int .i64) r)])]⟩) r
theorem hk {β : Type} (r : R) (K : Res → Option β) : ek r K = K (e r) := by rcases r with _ | _ <;> rfl
def ct (g : G) : Ct := mkCtS 1 [] [A g] e ek hk
section
variable {β : Type} (g16_0 : sw_word.G0) (g16_1 : sw_word.G1) (g17 : sw_number.G) (g19_0 : sw_fail.G0) (g19_1 : sw_fail.G1) (g25 : sw_name.G) (g26 : sw_values.G) (g27_0 : sw_change.G0) (g27_1 : sw_change.G1) (g28 : story_verbs.G)
noncomputable abbrev env : FEnv := mkEnv prog f18 [(16, sw_word.ct g16_0 g16_1), (17, sw_number.ct g17), (19, sw_fail.ct g19_0 g19_1), (25, sw_name.ct g25), (26, sw_values.ct g26), (27, sw_change.ct g27_0 g27_1), (28, story_verbs.ct g28)] 1 [] []
def c (ret : R → Option β) (a0 : D_api_Op) (a1 : Int) (a2 : List ByteArray) : Option β := (bif (a0.1 == (2 : Int)) then ((g16_0 [(ByteArray.mk (List.toArray [115, 99, 97, 110]))] a1 a2).bind fun r0 => ((g25 [a0.2.1] r0.1 r0.2).bind fun r1 => ((g17 a0.2.2.2.2.2.1 r1.1 r1.2).bind fun r2 => ((g26 a0.2.2.2.1 r2.1 r2.2).bind fun r3 => (Sum.elim (fun r4 => ((g16_0 [(ByteArray.mk (List.toArray [116, 111]))] r4.1 r4.2).bind fun r5 => ((g26 a0.2.2.2.2.1 r5.1 r5.2).bind fun r6 => (Sum.elim (fun r7 => (ret (.inl (r7.1, r7.2)))) (fun r8 => (ret (.inr (r8)))) r6)))) (fun r9 => ((g16_1 [(ByteArray.mk (List.toArray [116, 111]))] r9).bind fun r10 => ((g26 a0.2.2.2.2.1 r10.1 r10.2).bind fun r11 => (Sum.elim (fun r12 => (ret (.inl (r12.1, r12.2)))) (fun r13 => (ret (.inr (r13)))) r11)))) r3))))) else (bif (a0.1 == (6 : Int)) then ((g16_0 [(ByteArray.mk (List.toArray [99, 104, 97, 110, 103, 101]))] a1 a2).bind fun r14 => ((g27_0 a0.2.2.2.2.2.2.1 r14.1 r14.2).bind fun r15 => (Sum.elim (fun r16 => (ret (.inl (r16.1, r16.2)))) (fun r17 => (ret (.inr (r17)))) r15))) else (g28.bind fun r18 => (bif (!(Option.isSome (findD (kt := (.int .i64)) (et := .str) a0.1 r18))) then ((g19_0 (1 : Int) a1 a2).bind fun r19 => (Sum.elim (fun r20 => (ret (.inl (r20.1, r20.2)))) (fun r21 => (ret (.inr (r21)))) r19)) else ((g16_0 [(Option.getD (findD (kt := (.int .i64)) (et := .str) a0.1 r18) (ByteArray.mk (List.toArray [])))] a1 a2).bind fun r22 => (bif (decide (a0.1 < (7 : Int))) then ((g25 [a0.2.1] r22.1 r22.2).bind fun r23 => ((g26 a0.2.2.1 r23.1 r23.2).bind fun r24 => (Sum.elim (fun r25 => (ret (.inl (r25.1, r25.2)))) (fun r26 => (ret (.inr (r26)))) r24))) else (ret (.inl (r22.1, r22.2)))))))))
variable {g16_0} {g16_1} {g17} {g19_0} {g19_1} {g25} {g26} {g27_0} {g27_1} {g28}
theorem ev : EvA (env g16_0 g16_1 g17 g19_0 g19_1 g25 g26 g27_0 g27_1 g28) [] [0, 1] e (A (c g16_0 g16_1 g17 g19_0 g25 g26 g27_0 g28 some)) := fun x y => Eq.trans (b := (A (c g16_0 g16_1 g17 g19_0 g25 g26 g27_0 g28 fun r => some (e r))).G x y) (by kernel_rfl) (by simp only [A, c, bo, so, oa, os, on, ofs])
end
def f (k : Nat) (a0 : D_api_Op) (a1 : Int) (a2 : List ByteArray) : Option R := c (sw_word.f0 k) (sw_word.f1 k) (sw_number.f k) (sw_fail.f0 k) (sw_name.f k) (sw_values.f k) (sw_change.f0 k) (story_verbs.f k) some a0 a1 a2
noncomputable abbrev E (k : Nat) : FEnv := env (sw_word.f0 k) (sw_word.f1 k) (sw_number.f k) (sw_fail.f0 k) (sw_fail.f1 k) (sw_name.f k) (sw_values.f k) (sw_change.f0 k) (sw_change.f1 k) (story_verbs.f k) 
theorem hE (k : Nat) : EnvOK (E k).toEnv := ctsOK (Lc (sw_word.ok k) (Lc (sw_number.ok k) (Lc (sw_fail.ok k) (Lc (sw_name.ok k) (Lc (sw_values.ok k) (Lc (sw_change.ok k) (Lc (story_verbs.ok k) L0)))))))
theorem ok (k : Nat) : CtOK prog 18 (ct (f k)) := fn_okS hk (fn_ok func18 rfl (by decide) (hE k) L0 (Lc ev L0))
end sw_op
/-! ### strings_Join: function 29 (no body) -/
def strings_Join.ct (g : List ByteArray → ByteArray → Option ByteArray) : Ct where
 nin := 0
 mv := []
 F := fun tvs blks {β} K => match tvs, blks with
  | [.v (.one (.d (.sl .str) a0)), .v (.one (.d .str a1))], [] => (g a0 a1).bind fun r => K ⟨.v (.one (.d .str r)), []⟩
  | _, _ => none
 legit := fun _ _ K _ h => by split at h; exact (legit1 K h :); simp at h
section
open Go.Shelf Go.RowKit
def strings_Join.f (k : Nat) (a0 : List ByteArray) (a1 : ByteArray) : Option ByteArray := if (joinL a0 a1).length ≤ 35184372088832 ∧ a0.length ≤ 35184372088832 then some ⟨(joinL a0 a1).toArray⟩ else none
theorem strings_Join.ok (k : Nat) : CtOK Go.Proofs.Tryd.prog 29 (strings_Join.ct (strings_Join.f k)) := by
 intro tvs blks res hF w S ρ H vals hm hv
 simp only [strings_Join.ct] at hF
 split at hF
 ·rename_i a0 a1
  simp only [strings_Join.f] at hF
  split at hF
  ·rename_i hc
   simp only [os, Option.some.injEq] at hF
   subst hF
   obtain ⟨v0, m0, rfl, h0, hv⟩ := All2.cons_left hv
   obtain ⟨v1, m1, rfl, h1, hv⟩ := All2.cons_left hv
   cases All2.nil_left hv
   have h1 := rep_s h1
   subst h1
   left
   refine ⟨Go.Proofs.enters_of Go.Proofs.Tryd.func29 (by kernel_rfl) rfl _ _, (join_calls v0 a0 a1 w S h0 hm.old hc.1 hc.2).mono fun e w' ⟨h1, h2⟩ => ⟨_, S, ρ, H, h1, ?_, rfl⟩⟩
   have : (fun n => ([] : List (Option Blk))[n]?) = live [] := by funext n; simp [live]
   rw [this]; exact hm.below h2
  ·simp at hF
 ·simp at hF
end


namespace sw_text
abbrev R : Type := (ByteArray × Int × Int × (List ByteArray)) ⊕ (ByteArray × Int × Int)
def e (r : R) : Res := Sum.elim (fun r =>  ⟨.tup [(.one (.d .str r.1)), (.one (.d (.int .i64) r.2.1))], [some (.box [(.own 1), (.d (.int .i64) r.2.2.1)]), some (.own .str false r.2.2.2)]⟩) (fun r =>  ⟨.tup [(.one (.d .str r.1)), (.one (.d (.int .i64) r.2.1))], [some (.box [(.raw (.slice none 0 0)), (.d (.int .i64) r.2.2)])]⟩) r
abbrev T0 (δ : Type) : Type := Int → (List ByteArray) → Option δ
abbrev A0 {δ : Type} (g : T0 δ) : Arm δ := ⟨[.k (.ptr 0 0)], [.box [.c (.own 1), .g (.int .i64)], .own .str false], fun x y => g y.1.2.1 y.2.1⟩
abbrev T1 (δ : Type) : Type := Int → Option δ
abbrev A1 {δ : Type} (g : T1 δ) : Arm δ := ⟨[.k (.ptr 0 0)], [.box [.c .nilS, .g (.int .i64)]], fun x y => g y.1.2.1⟩
abbrev G0 : Type := T0 R
abbrev G1 : Type := T1 R
def ek {β : Type} (r : R) (K : Res → Option β) : Option β := Sum.elim (fun r => K ⟨.tup [(.one (.d .str r.1)), (.one (.d (.int .i64) r.2.1))], [some (.box [(.own 1), (.d (.int .i64) r.2.2.1)]), some (.own .str false r.2.2.2)]⟩) (fun r => K ⟨.tup [(.one (.d .str r.1)), (.one (.d (.int .i64) r.2.1))], [some (.box [(.raw (.slice none 0 0)), (.d (.int .i64) r.2.2)])]⟩) r
theorem hk {β : Type} (r : R) (K : Res → Option β) : ek r K = K (e r) := by rcases r with _ | _ <;> rfl
def ct (g0 : G0) (g1 : G1) : Ct := mkCtS 1 [] [A0 g0, A1 g1] e ek hk
section
variable {β : Type} (g29 : List ByteArray → ByteArray → Option ByteArray)
noncomputable abbrev env : FEnv := mkEnv prog f20 [(29, strings_Join.ct g29)] 1 [] []
def c0 (ret : R → Option β) (a0 : Int) (a1 : List ByteArray) : Option β := (bif (a0 != (0 : Int)) then (ret (.inl ((ByteArray.mk (List.toArray [])), a0, a0, a1))) else ((g29 a1 (ByteArray.mk (List.toArray [32]))).bind fun r0 => (ret (.inl (r0, (0 : Int), a0, a1)))))
def c1 (ret : R → Option β) (a0 : Int) : Option β := (bif (a0 != (0 : Int)) then (ret (.inr ((ByteArray.mk (List.toArray [])), a0, a0))) else ((g29 [] (ByteArray.mk (List.toArray [32]))).bind fun r0 => (ret (.inr (r0, (0 : Int), a0)))))
variable {g29}
theorem ev0 : EvA (env g29) [] [0] e (A0 (c0 g29 some)) := fun x y => Eq.trans (b := (A0 (c0 g29 fun r => some (e r))).G x y) (by kernel_rfl) (by simp only [A0, c0, bo, so, oa, os, on, ofs])
theorem ev1 : EvA (env g29) [] [0] e (A1 (c1 g29 some)) := fun x y => Eq.trans (b := (A1 (c1 g29 fun r => some (e r))).G x y) (by kernel_rfl) (by simp only [A1, c1, bo, so, oa, os, on, ofs])
end
def f0 (k : Nat) (a0 : Int) (a1 : List ByteArray) : Option R := c0 (strings_Join.f k) some a0 a1
def f1 (k : Nat) (a0 : Int) : Option R := c1 (strings_Join.f k) some a0
noncomputable abbrev E (k : Nat) : FEnv := env (strings_Join.f k) 
theorem hE (k : Nat) : EnvOK (E k).toEnv := ctsOK (Lc (strings_Join.ok k) L0)
theorem ok (k : Nat) : CtOK prog 20 (ct (f0 k) (f1 k)) := fn_okS hk (fn_ok func20 rfl (by decide) (hE k) L0 (Lc ev0 (Lc ev1 L0)))
end sw_text
namespace story_Line
abbrev R : Type := ByteArray × Int
def e (r : R) : Res := ⟨.tup [(.one (.d .str r.1)), (.one (.d (.int .i64) r.2))], []⟩
abbrev T (δ : Type) : Type := D_api_Step → Option δ
abbrev A {δ : Type} (g : T δ) : Arm δ := ⟨[.s T_api_Step], [], fun x y => g x.1.1⟩
abbrev G : Type := T R
def ct (g : G) : Ct := mkCt 0 [] [A g] e
section
variable {β : Type} (g15 : story_plain.G) (g16_0 : sw_word.G0) (g16_1 : sw_word.G1) (g17 : sw_number.G) (g18 : sw_op.G) (g19_0 : sw_fail.G0) (g19_1 : sw_fail.G1) (g20_0 : sw_text.G0) (g20_1 : sw_text.G1)
noncomputable abbrev env : FEnv := mkEnv prog f8 [(15, story_plain.ct g15), (16, sw_word.ct g16_0 g16_1), (17, sw_number.ct g17), (18, sw_op.ct g18), (19, sw_fail.ct g19_0 g19_1), (20, sw_text.ct g20_0 g20_1)] 0 [] []
def c (ret : R → Option β) (a0 : D_api_Step) : Option β := (g15.bind fun r0 => (bif (Option.isSome (findD (kt := (.int .i64)) (et := .str) a0.1 r0)) then (ret ((Option.getD (findD (kt := (.int .i64)) (et := .str) a0.1 r0) (ByteArray.mk (List.toArray []))), (0 : Int))) else (bif (a0.1 == (1 : Int)) then ((g16_1 [(ByteArray.mk (List.toArray [97, 115, 107]))] (0 : Int)).bind fun r1 => ((g17 a0.2.1 r1.1 r1.2).bind fun r2 => ((g18 a0.2.2.1 r2.1 r2.2).bind fun r3 => (Sum.elim (fun r4 => ((g20_0 r4.1 r4.2).bind fun r5 => (Sum.elim (fun r6 => (ret (r6.1, r6.2.1))) (fun r7 => (ret (r7.1, r7.2.1))) r5))) (fun r8 => ((g20_1 r8).bind fun r9 => (Sum.elim (fun r10 => (ret (r10.1, r10.2.1))) (fun r11 => (ret (r11.1, r11.2.1))) r9))) r3)))) else (bif (a0.1 == (2 : Int)) then ((g16_1 [(ByteArray.mk (List.toArray [114, 117, 110]))] (0 : Int)).bind fun r12 => ((g17 a0.2.1 r12.1 r12.2).bind fun r13 => ((g20_0 r13.1 r13.2).bind fun r14 => (Sum.elim (fun r15 => (ret (r15.1, r15.2.1))) (fun r16 => (ret (r16.1, r16.2.1))) r14)))) else ((g19_1 (1 : Int) (0 : Int)).bind fun r17 => (Sum.elim (fun r18 => ((g20_0 r18.1 r18.2).bind fun r19 => (Sum.elim (fun r20 => (ret (r20.1, r20.2.1))) (fun r21 => (ret (r21.1, r21.2.1))) r19))) (fun r22 => ((g20_1 r22).bind fun r23 => (Sum.elim (fun r24 => (ret (r24.1, r24.2.1))) (fun r25 => (ret (r25.1, r25.2.1))) r23))) r17))))))
variable {g15} {g16_0} {g16_1} {g17} {g18} {g19_0} {g19_1} {g20_0} {g20_1}
theorem ev : EvA (env g15 g16_0 g16_1 g17 g18 g19_0 g19_1 g20_0 g20_1) [] [0] e (A (c g15 g16_1 g17 g18 g19_1 g20_0 g20_1 some)) := fun x y => Eq.trans (b := (A (c g15 g16_1 g17 g18 g19_1 g20_0 g20_1 fun r => some (e r))).G x y) (by kernel_rfl) (by simp only [A, c, bo, so, oa, os, on, ofs])
end
def f (k : Nat) (a0 : D_api_Step) : Option R := c (story_plain.f k) (sw_word.f1 k) (sw_number.f k) (sw_op.f k) (sw_fail.f1 k) (sw_text.f0 k) (sw_text.f1 k) some a0
noncomputable abbrev E (k : Nat) : FEnv := env (story_plain.f k) (sw_word.f0 k) (sw_word.f1 k) (sw_number.f k) (sw_op.f k) (sw_fail.f0 k) (sw_fail.f1 k) (sw_text.f0 k) (sw_text.f1 k) 
theorem hE (k : Nat) : EnvOK (E k).toEnv := ctsOK (Lc (story_plain.ok k) (Lc (sw_word.ok k) (Lc (sw_number.ok k) (Lc (sw_op.ok k) (Lc (sw_fail.ok k) (Lc (sw_text.ok k) L0))))))
theorem ok (k : Nat) : CtOK prog 8 (ct (f k)) := fn_ok func8 rfl (by decide) (hE k) L0 (Lc ev L0)
end story_Line
namespace words_quoted
def e (r : Int) : Res := ⟨.v (.one (.d (.int .i64) r)), []⟩
abbrev T (δ : Type) : Type := ByteArray → Int → Option δ
abbrev A {δ : Type} (g : T δ) : Arm δ := ⟨[.d .str, .d (.int .i64)], [], fun x y => g x.1 x.2.1⟩
abbrev G : Type := T Int
def ct (g : G) : Ct := mkCt 0 [] [A g] e
abbrev S0 (δ : Type) : Type := ByteArray → Int → Option δ
abbrev A_0 {δ : Type} (s : S0 δ) : Arm δ := ⟨[.d .str, .d (.int .i64)], [], fun x y => s x.1 x.2.1⟩
def sg0 (s : S0 Int) : Seg := mkSg [100, 1] [] [0, 5] [A_0 s] e
section
variable {β : Type} (s0 : S0 Int)
noncomputable abbrev env : FEnv := mkEnv prog f30 [] 0 [] [sg0 s0]
def c (ret : Int → Option β) (a0 : ByteArray) (a1 : Int) : Option β := (bif (decide ((IntKind.wrap .i64 (a1 + (1 : Int))) ≥ (a0.size : Int))) then (ret ((-1 : Int))) else (bif ((decide ((0 : Int) ≤ (IntKind.wrap .i64 (a1 + (1 : Int))))) && (decide ((IntKind.wrap .i64 (a1 + (1 : Int))) < (a0.size : Int)))) then (bif ((bt a0 (IntKind.wrap .i64 (a1 + (1 : Int)))) == (34 : Int)) then (ret ((IntKind.wrap .i64 ((IntKind.wrap .i64 (a1 + (1 : Int))) + (1 : Int))))) else (bif ((decide ((0 : Int) ≤ (IntKind.wrap .i64 (a1 + (1 : Int))))) && (decide ((IntKind.wrap .i64 (a1 + (1 : Int))) < (a0.size : Int)))) then (bif ((bt a0 (IntKind.wrap .i64 (a1 + (1 : Int)))) == (92 : Int)) then ((s0 a0 (IntKind.wrap .i64 ((IntKind.wrap .i64 ((IntKind.wrap .i64 (a1 + (1 : Int))) + (1 : Int))) + (1 : Int)))).bind ret) else ((s0 a0 (IntKind.wrap .i64 ((IntKind.wrap .i64 (a1 + (1 : Int))) + (1 : Int)))).bind ret)) else none)) else none))
def s0c (ret : Int → Option β) (x0 : ByteArray) (x1 : Int) : Option β := (bif (decide (x1 ≥ (x0.size : Int))) then (ret ((-1 : Int))) else (bif ((decide ((0 : Int) ≤ x1)) && (decide (x1 < (x0.size : Int)))) then (bif ((bt x0 x1) == (34 : Int)) then (ret ((IntKind.wrap .i64 (x1 + (1 : Int))))) else (bif ((decide ((0 : Int) ≤ x1)) && (decide (x1 < (x0.size : Int)))) then (bif ((bt x0 x1) == (92 : Int)) then ((s0 x0 (IntKind.wrap .i64 ((IntKind.wrap .i64 (x1 + (1 : Int))) + (1 : Int)))).bind ret) else ((s0 x0 (IntKind.wrap .i64 (x1 + (1 : Int)))).bind ret)) else none)) else none))
variable {s0}
theorem ev : EvA (env s0) [] [0, 1] e (A (c s0 some)) := fun x y => Eq.trans (b := (A (c s0 fun r => some (e r))).G x y) (by kernel_rfl) (by simp only [A, c, bo, so, oa, os, on, ofs])
theorem s0_ev : EvA (env s0) [100, 1] [0, 5] e (A_0 (s0c s0 some)) := fun x y => Eq.trans (b := (A_0 (s0c s0 fun r => some (e r))).G x y) (by kernel_rfl) (by simp only [A_0, s0c, bo, so, oa, os, on, ofs])
end
def s0 : Nat → S0 Int
 | 0, _, _ => none
 | k + 1, x0, x1 => s0c (s0 k) some x0 x1
def f (k : Nat) (a0 : ByteArray) (a1 : Int) : Option Int := c (s0 k) some a0 a1
noncomputable abbrev E (k : Nat) : FEnv := env  (s0 k)
theorem hE (k : Nat) : EnvOK (E k).toEnv := ctsOK L0
theorem sk : ∀ k, ∀ s ∈ [sg0 (s0 k)], SegB prog f30 0 s
 | 0 => (Lc (sn (Lc (fun _ _ => rfl) L0)) L0)
 | k + 1 => (Lc (sg_ok (hE k) (sk k) (Lc s0_ev L0)) L0)
theorem ok (k : Nat) : CtOK prog 30 (ct (f k)) := fn_ok func30 rfl (by decide) (hE k) (sk k) (Lc ev L0)
end words_quoted
namespace words_Split
abbrev R : Type := (List ByteArray) × Int
def e (r : R) : Res := ⟨.tup [(.one (.d (.sl .str) r.1)), (.one (.d (.int .i64) r.2))], []⟩
abbrev T (δ : Type) : Type := ByteArray → Option δ
abbrev A {δ : Type} (g : T δ) : Arm δ := ⟨[.d .str], [], fun x y => g x.1⟩
abbrev G : Type := T R
def ct (g : G) : Ct := mkCt 0 [] [A g] e
abbrev S0 (δ : Type) : Type := ByteArray → (List Int) → Int → Int → Option δ
abbrev A_0 {δ : Type} (s : S0 δ) : Arm δ := ⟨[.d .str, .d (.sl (.int .u8)), .d (.int .i64), .d (.int .i64)], [], fun x y => s x.1 x.2.1 x.2.2.1 x.2.2.2.1⟩
abbrev S1 (δ : Type) : Type := ByteArray → (List Int) → Int → Int → Bool → Option δ
abbrev A_1 {δ : Type} (s : S1 δ) : Arm δ := ⟨[.d .str, .d (.sl (.int .u8)), .d (.int .i64), .d (.int .i64), .d .bool], [], fun x y => s x.1 x.2.1 x.2.2.1 x.2.2.2.1 x.2.2.2.2.1⟩
abbrev S2 (δ : Type) : Type := ByteArray → (List Int) → Int → Int → Option δ
abbrev A_2 {δ : Type} (s : S2 δ) : Arm δ := ⟨[.d .str, .d (.sl (.int .u8)), .d (.int .i64), .d (.int .i64)], [], fun x y => s x.1 x.2.1 x.2.2.1 x.2.2.2.1⟩
abbrev S3 (δ : Type) : Type := ByteArray → Int → Int → (List ByteArray) → Option δ
abbrev A_3 {δ : Type} (s : S3 δ) : Arm δ := ⟨[.d .str, .k (.own 0), .d (.int .i64), .d (.int .i64)], [.own .str false], fun x y => s x.1 x.2.2.1 x.2.2.2.1 y.1⟩
abbrev S4 (δ : Type) : Type := ByteArray → Int → Int → (List ByteArray) → Option δ
abbrev A_4 {δ : Type} (s : S4 δ) : Arm δ := ⟨[.d .str, .k (.own 0), .d (.int .i64), .d (.int .i64)], [.own .str false], fun x y => s x.1 x.2.2.1 x.2.2.2.1 y.1⟩
abbrev S5 (δ : Type) : Type := ByteArray → Int → Int → (List ByteArray) → Option δ
abbrev A_5 {δ : Type} (s : S5 δ) : Arm δ := ⟨[.d .str, .k (.own 0), .d (.int .i64), .d (.int .i64)], [.own .str false], fun x y => s x.1 x.2.2.1 x.2.2.2.1 y.1⟩
def sg0 (s : S0 R) : Seg := mkSg [4, 1, 0, 1] [] [0, 10, 11, 12] [A_0 s] e
def sg1 (s : S1 R) : Seg := mkSg [1, 1, 4, 0, 1, 1, 5, 4, 1, 0, 1] [] [0, 10, 11, 12, 21] [A_1 s] e
def sg2 (s : S2 R) : Seg := mkSg [1, 1, 1, 5, 4, 1, 0, 1] [] [0, 10, 11, 12] [A_2 s] e
def sg3 (s : S3 R) : Seg := mkSg [4, 1, 0, 1, 1, 1, 1] [.own 6 .str] [0, 6, 7, 8] [A_3 s] e
def sg4 (s : S4 R) : Seg := mkSg [1, 2, 1, 4, 0, 4, 1, 5, 4, 1, 0, 1, 1, 1, 1] [.own 6 .str] [0, 6, 7, 8] [A_4 s] e
def sg5 (s : S5 R) : Seg := mkSg [1, 4, 1, 5, 4, 1, 0, 1, 1, 1, 1] [] [0, 6, 7, 8] [A_5 s] e
section
variable {β : Type} (g30 : words_quoted.G) (s0 : S0 R) (s1 : S1 R) (s2 : S2 R) (s3 : S3 R) (s4 : S4 R) (s5 : S5 R)
noncomputable abbrev env : FEnv := mkEnv prog f21 [(30, words_quoted.ct g30)] 0 [] [sg0 s0, sg1 s1, sg2 s2, sg3 s3, sg4 s4, sg5 s5]
def c (ret : R → Option β) (a0 : ByteArray) : Option β := ((s0 a0 (List.map (fun b => ((UInt8.toNat b) : Int)) (Array.toList (ByteArray.data a0))) ((List.length (List.map (fun b => ((UInt8.toNat b) : Int)) (Array.toList (ByteArray.data a0)))) : Int) (0 : Int)).bind ret)
def s0c (ret : R → Option β) (x0 : ByteArray) (x1 : List Int) (x2 x3 : Int) : Option β := (bif (decide (x3 < x2)) then (bif ((decide ((0 : Int) ≤ x3)) && (decide (x3 < (x1.length : Int)))) then (bif (decide ((elem (Ty.int IntKind.u8) x1 x3) < (32 : Int))) then ((s1 x0 x1 x2 x3 true).bind ret) else ((s1 x0 x1 x2 x3 (decide ((elem (Ty.int IntKind.u8) x1 x3) > (126 : Int)))).bind ret)) else none) else ((s3 x0 (-1 : Int) (0 : Int) []).bind ret))
def s1c (ret : R → Option β) (x0 : ByteArray) (x1 : List Int) (x2 x3 : Int) (x4 : Bool) : Option β := (bif x4 then (ret ([], (7 : Int))) else ((s2 x0 x1 x2 x3).bind ret))
def s2c (ret : R → Option β) (x0 : ByteArray) (x1 : List Int) (x2 x3 : Int) : Option β := ((s0 x0 x1 x2 (IntKind.wrap .i64 (x3 + (1 : Int)))).bind ret)
def s3c (ret : R → Option β) (x0 : ByteArray) (x1 x2 : Int) (x3 : List ByteArray) : Option β := (bif (decide (x2 < (x0.size : Int))) then (bif ((decide ((0 : Int) ≤ x2)) && (decide (x2 < (x0.size : Int)))) then (bif ((bt x0 x2) == (32 : Int)) then (bif (decide (x1 ≥ (0 : Int))) then (bif (((decide ((0 : Int) ≤ x1)) && (decide (x1 ≤ x2))) && (decide (x2 ≤ (x0.size : Int)))) then (bif (decide (((x3.length + (1 : Nat)) * (16 : Nat)) ≤ (35184372088832 : Nat))) then ((s4 x0 (-1 : Int) x2 (x3 ++ [(ByteArray.extract x0 (Int.toNat x1) (Int.toNat x2))])).bind ret) else none) else none) else ((s4 x0 x1 x2 x3).bind ret)) else (bif (decide (x1 < (0 : Int))) then ((s5 x0 x2 x2 x3).bind ret) else ((s5 x0 x1 x2 x3).bind ret))) else none) else (bif (decide (x1 ≥ (0 : Int))) then (bif (((decide ((0 : Int) ≤ x1)) && (decide (x1 ≤ (x0.size : Int)))) && (decide ((x0.size : Int) ≤ (x0.size : Int)))) then (bif (decide (((x3.length + (1 : Nat)) * (16 : Nat)) ≤ (35184372088832 : Nat))) then (ret ((x3 ++ [(ByteArray.extract x0 (Int.toNat x1) (Int.toNat (x0.size : Int)))]), (0 : Int))) else none) else none) else (ret (x3, (0 : Int)))))
def s4c (ret : R → Option β) (x0 : ByteArray) (x1 x2 : Int) (x3 : List ByteArray) : Option β := ((s3 x0 x1 (IntKind.wrap .i64 (x2 + (1 : Int))) x3).bind ret)
def s5c (ret : R → Option β) (x0 : ByteArray) (x1 x2 : Int) (x3 : List ByteArray) : Option β := (bif ((decide ((0 : Int) ≤ x2)) && (decide (x2 < (x0.size : Int)))) then (bif ((bt x0 x2) != (34 : Int)) then ((s3 x0 x1 (IntKind.wrap .i64 (x2 + (1 : Int))) x3).bind ret) else ((g30 x0 x2).bind fun r0 => (bif (decide (r0 < (0 : Int))) then (ret ([], (7 : Int))) else ((s3 x0 x1 r0 x3).bind ret)))) else none)
variable {g30} {s0} {s1} {s2} {s3} {s4} {s5}
theorem ev : EvA (env g30 s0 s1 s2 s3 s4 s5) [] [0] e (A (c s0 some)) := fun x y => Eq.trans (b := (A (c s0 fun r => some (e r))).G x y) (by kernel_rfl) (by simp only [A, c, bo, so, oa, os, on, ofs])
theorem s0_ev : EvA (env g30 s0 s1 s2 s3 s4 s5) [4, 1, 0, 1] [0, 10, 11, 12] e (A_0 (s0c s1 s3 some)) := fun x y => Eq.trans (b := (A_0 (s0c s1 s3 fun r => some (e r))).G x y) (by kernel_rfl) (by simp only [A_0, s0c, bo, so, oa, os, on, ofs])
theorem s1_ev : EvA (env g30 s0 s1 s2 s3 s4 s5) [1, 1, 4, 0, 1, 1, 5, 4, 1, 0, 1] [0, 10, 11, 12, 21] e (A_1 (s1c s2 some)) := fun x y => Eq.trans (b := (A_1 (s1c s2 fun r => some (e r))).G x y) (by kernel_rfl) (by simp only [A_1, s1c, bo, so, oa, os, on, ofs])
theorem s2_ev : EvA (env g30 s0 s1 s2 s3 s4 s5) [1, 1, 1, 5, 4, 1, 0, 1] [0, 10, 11, 12] e (A_2 (s2c s0 some)) := fun x y => Eq.trans (b := (A_2 (s2c s0 fun r => some (e r))).G x y) (by kernel_rfl) (by simp only [A_2, s2c, bo, so, oa, os, on, ofs])
theorem s3_ev : EvA (env g30 s0 s1 s2 s3 s4 s5) [4, 1, 0, 1, 1, 1, 1] [0, 6, 7, 8] e (A_3 (s3c s4 s5 some)) := fun x y => Eq.trans (b := (A_3 (s3c s4 s5 fun r => some (e r))).G x y) (by kernel_rfl) (by simp only [A_3, s3c, bo, so, oa, os, on, ofs])
theorem s4_ev : EvA (env g30 s0 s1 s2 s3 s4 s5) [1, 2, 1, 4, 0, 4, 1, 5, 4, 1, 0, 1, 1, 1, 1] [0, 6, 7, 8] e (A_4 (s4c s3 some)) := fun x y => Eq.trans (b := (A_4 (s4c s3 fun r => some (e r))).G x y) (by kernel_rfl) (by simp only [A_4, s4c, bo, so, oa, os, on, ofs])
theorem s5_ev : EvA (env g30 s0 s1 s2 s3 s4 s5) [1, 4, 1, 5, 4, 1, 0, 1, 1, 1, 1] [0, 6, 7, 8] e (A_5 (s5c g30 s3 some)) := fun x y => Eq.trans (b := (A_5 (s5c g30 s3 fun r => some (e r))).G x y) (by kernel_rfl) (by simp only [A_5, s5c, bo, so, oa, os, on, ofs])
end
mutual
def s0 : Nat → S0 R
 | 0, _, _, _, _ => none
 | k + 1, x0, x1, x2, x3 => s0c (s1 k) (s3 k) some x0 x1 x2 x3
def s1 : Nat → S1 R
 | 0, _, _, _, _, _ => none
 | k + 1, x0, x1, x2, x3, x4 => s1c (s2 k) some x0 x1 x2 x3 x4
def s2 : Nat → S2 R
 | 0, _, _, _, _ => none
 | k + 1, x0, x1, x2, x3 => s2c (s0 k) some x0 x1 x2 x3
def s3 : Nat → S3 R
 | 0, _, _, _, _ => none
 | k + 1, x0, x1, x2, x3 => s3c (s4 k) (s5 k) some x0 x1 x2 x3
def s4 : Nat → S4 R
 | 0, _, _, _, _ => none
 | k + 1, x0, x1, x2, x3 => s4c (s3 k) some x0 x1 x2 x3
def s5 : Nat → S5 R
 | 0, _, _, _, _ => none
 | k + 1, x0, x1, x2, x3 => s5c (words_quoted.f k) (s3 k) some x0 x1 x2 x3
end
def f (k : Nat) (a0 : ByteArray) : Option R := c (s0 k) some a0
noncomputable abbrev E (k : Nat) : FEnv := env (words_quoted.f k) (s0 k) (s1 k) (s2 k) (s3 k) (s4 k) (s5 k)
theorem hE (k : Nat) : EnvOK (E k).toEnv := ctsOK (Lc (words_quoted.ok k) L0)
theorem sk : ∀ k, ∀ s ∈ [sg0 (s0 k), sg1 (s1 k), sg2 (s2 k), sg3 (s3 k), sg4 (s4 k), sg5 (s5 k)], SegB prog f21 0 s
 | 0 => (Lc (sn (Lc (fun _ _ => rfl) L0)) (Lc (sn (Lc (fun _ _ => rfl) L0)) (Lc (sn (Lc (fun _ _ => rfl) L0)) (Lc (sn (Lc (fun _ _ => rfl) L0)) (Lc (sn (Lc (fun _ _ => rfl) L0)) (Lc (sn (Lc (fun _ _ => rfl) L0)) L0))))))
 | k + 1 => (Lc (sg_ok (hE k) (sk k) (Lc s0_ev L0)) (Lc (sg_ok (hE k) (sk k) (Lc s1_ev L0)) (Lc (sg_ok (hE k) (sk k) (Lc s2_ev L0)) (Lc (sg_ok (hE k) (sk k) (Lc s3_ev L0)) (Lc (sg_ok (hE k) (sk k) (Lc s4_ev L0)) (Lc (sg_ok (hE k) (sk k) (Lc s5_ev L0)) L0))))))
theorem ok (k : Nat) : CtOK prog 21 (ct (f k)) := fn_ok func21 rfl (by decide) (hE k) (sk k) (Lc ev L0)
end words_Split
namespace sr_next
abbrev R : Type := ByteArray × (List ByteArray) × Bool
def e (r : R) : Res := ⟨.v (.one (.d .str r.1)), [some (.box [(.d (.sl .str) r.2.1), (.d .bool r.2.2)])]⟩
abbrev T (δ : Type) : Type := (List ByteArray) → Bool → Option δ
abbrev A {δ : Type} (g : T δ) : Arm δ := ⟨[.k (.ptr 0 0)], [.box [.g T_story_reader]], fun x y => g y.1.1.1 y.1.1.2.1⟩
abbrev G : Type := T R
def ct (g : G) : Ct := mkCt 1 [] [A g] e
section
variable {β : Type} 
noncomputable abbrev env : FEnv := mkEnv prog f31 [] 1 [] []
def c (ret : R → Option β) (a0 : List ByteArray) (a1 : Bool) : Option β := (bif ((a0.length : Int) == (0 : Int)) then (ret ((ByteArray.mk (List.toArray [])), a0, true)) else (bif (true && (decide ((0 : Int) < (a0.length : Int)))) then (bif ((true && (decide ((1 : Int) ≤ (a0.length : Int)))) && (decide ((a0.length : Int) ≤ (a0.length : Int)))) then (ret ((elem Ty.str a0 (0 : Int)), (List.take ((Int.toNat (a0.length : Int)) - (1 : Nat)) (List.drop (1 : Nat) a0)), a1)) else none) else none))
theorem ev : EvA (env) [] [0] e (A (c some)) := fun x y => Eq.trans (b := (A (c fun r => some (e r))).G x y) (by kernel_rfl) (by simp only [A, c, bo, so, oa, os, on, ofs])
end
def f (k : Nat) (a0 : List ByteArray) (a1 : Bool) : Option R := c  some a0 a1
noncomputable abbrev E (k : Nat) : FEnv := env  
theorem hE (k : Nat) : EnvOK (E k).toEnv := ctsOK L0
theorem ok (k : Nat) : CtOK prog 31 (ct (f k)) := fn_ok func31 rfl (by decide) (hE k) L0 (Lc ev L0)
end sr_next
namespace convert_Number
abbrev R : Type := Int × Int
def e (r : R) : Res := ⟨.tup [(.one (.d (.int .i64) r.1)), (.one (.d (.int .i64) r.2))], []⟩
abbrev T (δ : Type) : Type := ByteArray → Option δ
abbrev A {δ : Type} (g : T δ) : Arm δ := ⟨[.d .str], [], fun x y => g x.1⟩
abbrev G : Type := T R
def ct (g : G) : Ct := mkCt 0 [] [A g] e
abbrev S0 (δ : Type) : Type := ByteArray → ByteArray → Bool → Option δ
abbrev A_0 {δ : Type} (s : S0 δ) : Arm δ := ⟨[.d .str, .d .str, .d .bool], [], fun x y => s x.1 x.2.1 x.2.2.1⟩
abbrev S1 (δ : Type) : Type := ByteArray → ByteArray → Option δ
abbrev A_1 {δ : Type} (s : S1 δ) : Arm δ := ⟨[.d .str, .d .str], [], fun x y => s x.1 x.2.1⟩
abbrev S2 (δ : Type) : Type := ByteArray → ByteArray → Int → (List Int) → Int → Int → Option δ
abbrev A_2 {δ : Type} (s : S2 δ) : Arm δ := ⟨[.d .str, .d .str, .d (.int .u64), .d (.sl (.int .u8)), .d (.int .i64), .d (.int .i64)], [], fun x y => s x.1 x.2.1 x.2.2.1 x.2.2.2.1 x.2.2.2.2.1 x.2.2.2.2.2.1⟩
abbrev S3 (δ : Type) : Type := ByteArray → ByteArray → Int → Int → (List Int) → Int → Int → Bool → Option δ
abbrev A_3 {δ : Type} (s : S3 δ) : Arm δ := ⟨[.d .str, .d .str, .d (.int .u64), .d (.int .u8), .d (.sl (.int .u8)), .d (.int .i64), .d (.int .i64), .d .bool], [], fun x y => s x.1 x.2.1 x.2.2.1 x.2.2.2.1 x.2.2.2.2.1 x.2.2.2.2.2.1 x.2.2.2.2.2.2.1 x.2.2.2.2.2.2.2.1⟩
abbrev S4 (δ : Type) : Type := ByteArray → ByteArray → Int → Int → (List Int) → Int → Int → Option δ
abbrev A_4 {δ : Type} (s : S4 δ) : Arm δ := ⟨[.d .str, .d .str, .d (.int .u64), .d (.int .u8), .d (.sl (.int .u8)), .d (.int .i64), .d (.int .i64)], [], fun x y => s x.1 x.2.1 x.2.2.1 x.2.2.2.1 x.2.2.2.2.1 x.2.2.2.2.2.1 x.2.2.2.2.2.2.1⟩
abbrev S5 (δ : Type) : Type := ByteArray → ByteArray → Int → (List Int) → Int → Int → Option δ
abbrev A_5 {δ : Type} (s : S5 δ) : Arm δ := ⟨[.d .str, .d .str, .d (.int .u64), .d (.sl (.int .u8)), .d (.int .i64), .d (.int .i64)], [], fun x y => s x.1 x.2.1 x.2.2.1 x.2.2.2.1 x.2.2.2.2.1 x.2.2.2.2.2.1⟩
def sg0 (s : S0 R) : Seg := mkSg [1, 0, 1, 1] [] [0, 4, 16] [A_0 s] e
def sg1 (s : S1 R) : Seg := mkSg [1, 1, 1] [] [0, 4] [A_1 s] e
def sg2 (s : S2 R) : Seg := mkSg [4, 1, 0, 1, 1, 1, 1, 1] [] [0, 4, 5, 23, 24, 25] [A_2 s] e
def sg3 (s : S3 R) : Seg := mkSg [1, 0, 1, 4, 0, 1, 1, 5, 4, 1, 0, 1, 1, 1, 1, 1] [] [0, 4, 5, 7, 23, 24, 25, 34] [A_3 s] e
def sg4 (s : S4 R) : Seg := mkSg [1, 1, 4, 0, 1, 1, 5, 4, 1, 0, 1, 1, 1, 1, 1] [] [0, 4, 5, 7, 23, 24, 25] [A_4 s] e
def sg5 (s : S5 R) : Seg := mkSg [1, 1, 1, 5, 4, 1, 0, 1, 1, 1, 1, 1] [] [0, 4, 5, 23, 24, 25] [A_5 s] e
section
variable {β : Type} (g24 : convert_Digits.G) (s0 : S0 R) (s1 : S1 R) (s2 : S2 R) (s3 : S3 R) (s4 : S4 R) (s5 : S5 R)
noncomputable abbrev env : FEnv := mkEnv prog f42 [(24, convert_Digits.ct g24)] 0 [] [sg0 s0, sg1 s1, sg2 s2, sg3 s3, sg4 s4, sg5 s5]
def c (ret : R → Option β) (a0 : ByteArray) : Option β := (bif (!(a0.toList == (ByteArray.toList (ByteArray.mk (List.toArray []))))) then (bif (true && (decide ((0 : Int) < (a0.size : Int)))) then ((s0 a0 a0 ((bt a0 (0 : Int)) == (45 : Int))).bind ret) else none) else ((s0 a0 a0 false).bind ret))
def s0c (ret : R → Option β) (x0 x1 : ByteArray) (x2 : Bool) : Option β := (bif x2 then (bif ((true && (decide ((1 : Int) ≤ (x0.size : Int)))) && (decide ((x0.size : Int) ≤ (x0.size : Int)))) then ((s1 x0 (ByteArray.extract x0 (1 : Nat) (Int.toNat (x0.size : Int)))).bind ret) else none) else ((s1 x0 x1).bind ret))
def s1c (ret : R → Option β) (x0 x1 : ByteArray) : Option β := (bif (decide ((x1.size : Int) ≥ (20 : Int))) then (ret ((0 : Int), (7 : Int))) else ((s2 x0 x1 (0 : Int) (List.map (fun b => ((UInt8.toNat b) : Int)) (Array.toList (ByteArray.data x1))) ((List.length (List.map (fun b => ((UInt8.toNat b) : Int)) (Array.toList (ByteArray.data x1)))) : Int) (0 : Int)).bind ret))
def s2c (ret : R → Option β) (x0 x1 : ByteArray) (x2 : Int) (x3 : List Int) (x4 x5 : Int) : Option β := (bif (decide (x5 < x4)) then (bif ((decide ((0 : Int) ≤ x5)) && (decide (x5 < (x3.length : Int)))) then (bif (decide ((elem (Ty.int IntKind.u8) x3 x5) < (48 : Int))) then ((s3 x0 x1 x2 (elem (Ty.int IntKind.u8) x3 x5) x3 x4 x5 true).bind ret) else ((s3 x0 x1 x2 (elem (Ty.int IntKind.u8) x3 x5) x3 x4 x5 (decide ((elem (Ty.int IntKind.u8) x3 x5) > (57 : Int)))).bind ret)) else none) else (bif (decide ((x1.size : Int) < (x0.size : Int))) then ((g24 (IntKind.wrap .i64 (IntKind.wrap .u64 ((0 : Int) - x2)))).bind fun r0 => (bif (!(r0.toList == x0.toList)) then (ret ((0 : Int), (7 : Int))) else (ret ((IntKind.wrap .i64 (IntKind.wrap .u64 ((0 : Int) - x2))), (0 : Int))))) else ((g24 (IntKind.wrap .i64 x2)).bind fun r1 => (bif (!(r1.toList == x0.toList)) then (ret ((0 : Int), (7 : Int))) else (ret ((IntKind.wrap .i64 x2), (0 : Int)))))))
def s3c (ret : R → Option β) (x0 x1 : ByteArray) (x2 x3 : Int) (x4 : List Int) (x5 x6 : Int) (x7 : Bool) : Option β := (bif x7 then (ret ((0 : Int), (7 : Int))) else ((s4 x0 x1 x2 x3 x4 x5 x6).bind ret))
def s4c (ret : R → Option β) (x0 x1 : ByteArray) (x2 x3 : Int) (x4 : List Int) (x5 x6 : Int) : Option β := ((s5 x0 x1 (IntKind.wrap .u64 ((IntKind.wrap .u64 (x2 * (10 : Int))) + (IntKind.wrap .u64 (IntKind.wrap .u8 (x3 - (48 : Int)))))) x4 x5 x6).bind ret)
def s5c (ret : R → Option β) (x0 x1 : ByteArray) (x2 : Int) (x3 : List Int) (x4 x5 : Int) : Option β := ((s2 x0 x1 x2 x3 x4 (IntKind.wrap .i64 (x5 + (1 : Int)))).bind ret)
variable {g24} {s0} {s1} {s2} {s3} {s4} {s5}
theorem ev : EvA (env g24 s0 s1 s2 s3 s4 s5) [] [0] e (A (c s0 some)) := fun x y => Eq.trans (b := (A (c s0 fun r => some (e r))).G x y) (by kernel_rfl) (by simp only [A, c, bo, so, oa, os, on, ofs])
theorem s0_ev : EvA (env g24 s0 s1 s2 s3 s4 s5) [1, 0, 1, 1] [0, 4, 16] e (A_0 (s0c s1 some)) := fun x y => Eq.trans (b := (A_0 (s0c s1 fun r => some (e r))).G x y) (by kernel_rfl) (by simp only [A_0, s0c, bo, so, oa, os, on, ofs])
theorem s1_ev : EvA (env g24 s0 s1 s2 s3 s4 s5) [1, 1, 1] [0, 4] e (A_1 (s1c s2 some)) := fun x y => Eq.trans (b := (A_1 (s1c s2 fun r => some (e r))).G x y) (by kernel_rfl) (by simp only [A_1, s1c, bo, so, oa, os, on, ofs])
theorem s2_ev : EvA (env g24 s0 s1 s2 s3 s4 s5) [4, 1, 0, 1, 1, 1, 1, 1] [0, 4, 5, 23, 24, 25] e (A_2 (s2c g24 s3 some)) := fun x y => Eq.trans (b := (A_2 (s2c g24 s3 fun r => some (e r))).G x y) (by kernel_rfl) (by simp only [A_2, s2c, bo, so, oa, os, on, ofs])
theorem s3_ev : EvA (env g24 s0 s1 s2 s3 s4 s5) [1, 0, 1, 4, 0, 1, 1, 5, 4, 1, 0, 1, 1, 1, 1, 1] [0, 4, 5, 7, 23, 24, 25, 34] e (A_3 (s3c s4 some)) := fun x y => Eq.trans (b := (A_3 (s3c s4 fun r => some (e r))).G x y) (by kernel_rfl) (by simp only [A_3, s3c, bo, so, oa, os, on, ofs])
theorem s4_ev : EvA (env g24 s0 s1 s2 s3 s4 s5) [1, 1, 4, 0, 1, 1, 5, 4, 1, 0, 1, 1, 1, 1, 1] [0, 4, 5, 7, 23, 24, 25] e (A_4 (s4c s5 some)) := fun x y => Eq.trans (b := (A_4 (s4c s5 fun r => some (e r))).G x y) (by kernel_rfl) (by simp only [A_4, s4c, bo, so, oa, os, on, ofs])
theorem s5_ev : EvA (env g24 s0 s1 s2 s3 s4 s5) [1, 1, 1, 5, 4, 1, 0, 1, 1, 1, 1, 1] [0, 4, 5, 23, 24, 25] e (A_5 (s5c s2 some)) := fun x y => Eq.trans (b := (A_5 (s5c s2 fun r => some (e r))).G x y) (by kernel_rfl) (by simp only [A_5, s5c, bo, so, oa, os, on, ofs])
end
mutual
def s0 : Nat → S0 R
 | 0, _, _, _ => none
 | k + 1, x0, x1, x2 => s0c (s1 k) some x0 x1 x2
def s1 : Nat → S1 R
 | 0, _, _ => none
 | k + 1, x0, x1 => s1c (s2 k) some x0 x1
def s2 : Nat → S2 R
 | 0, _, _, _, _, _, _ => none
 | k + 1, x0, x1, x2, x3, x4, x5 => s2c (convert_Digits.f k) (s3 k) some x0 x1 x2 x3 x4 x5
def s3 : Nat → S3 R
 | 0, _, _, _, _, _, _, _, _ => none
 | k + 1, x0, x1, x2, x3, x4, x5, x6, x7 => s3c (s4 k) some x0 x1 x2 x3 x4 x5 x6 x7
def s4 : Nat → S4 R
 | 0, _, _, _, _, _, _, _ => none
 | k + 1, x0, x1, x2, x3, x4, x5, x6 => s4c (s5 k) some x0 x1 x2 x3 x4 x5 x6
def s5 : Nat → S5 R
 | 0, _, _, _, _, _, _ => none
 | k + 1, x0, x1, x2, x3, x4, x5 => s5c (s2 k) some x0 x1 x2 x3 x4 x5
end
def f (k : Nat) (a0 : ByteArray) : Option R := c (s0 k) some a0
noncomputable abbrev E (k : Nat) : FEnv := env (convert_Digits.f k) (s0 k) (s1 k) (s2 k) (s3 k) (s4 k) (s5 k)
theorem hE (k : Nat) : EnvOK (E k).toEnv := ctsOK (Lc (convert_Digits.ok k) L0)
theorem sk : ∀ k, ∀ s ∈ [sg0 (s0 k), sg1 (s1 k), sg2 (s2 k), sg3 (s3 k), sg4 (s4 k), sg5 (s5 k)], SegB prog f42 0 s
 | 0 => (Lc (sn (Lc (fun _ _ => rfl) L0)) (Lc (sn (Lc (fun _ _ => rfl) L0)) (Lc (sn (Lc (fun _ _ => rfl) L0)) (Lc (sn (Lc (fun _ _ => rfl) L0)) (Lc (sn (Lc (fun _ _ => rfl) L0)) (Lc (sn (Lc (fun _ _ => rfl) L0)) L0))))))
 | k + 1 => (Lc (sg_ok (hE k) (sk k) (Lc s0_ev L0)) (Lc (sg_ok (hE k) (sk k) (Lc s1_ev L0)) (Lc (sg_ok (hE k) (sk k) (Lc s2_ev L0)) (Lc (sg_ok (hE k) (sk k) (Lc s3_ev L0)) (Lc (sg_ok (hE k) (sk k) (Lc s4_ev L0)) (Lc (sg_ok (hE k) (sk k) (Lc s5_ev L0)) L0))))))
theorem ok (k : Nat) : CtOK prog 42 (ct (f k)) := fn_ok func42 rfl (by decide) (hE k) (sk k) (Lc ev L0)
end convert_Number
namespace sr_number
abbrev R : Type := Int × (List ByteArray) × Bool
def e (r : R) : Res := ⟨.v (.one (.d (.int .i64) r.1)), [some (.box [(.d (.sl .str) r.2.1), (.d .bool r.2.2)])]⟩
abbrev T (δ : Type) : Type := (List ByteArray) → Bool → Option δ
abbrev A {δ : Type} (g : T δ) : Arm δ := ⟨[.k (.ptr 0 0)], [.box [.g T_story_reader]], fun x y => g y.1.1.1 y.1.1.2.1⟩
abbrev G : Type := T R
def ct (g : G) : Ct := mkCt 1 [] [A g] e
section
variable {β : Type} (g31 : sr_next.G) (g42 : convert_Number.G)
noncomputable abbrev env : FEnv := mkEnv prog f32 [(31, sr_next.ct g31), (42, convert_Number.ct g42)] 1 [] []
def c (ret : R → Option β) (a0 : List ByteArray) (a1 : Bool) : Option β := ((g31 a0 a1).bind fun r0 => ((g42 r0.1).bind fun r1 => (bif r0.2.2 then (ret (r1.1, r0.2.1, true)) else (ret (r1.1, r0.2.1, (r1.2 != (0 : Int)))))))
variable {g31} {g42}
theorem ev : EvA (env g31 g42) [] [0] e (A (c g31 g42 some)) := fun x y => Eq.trans (b := (A (c g31 g42 fun r => some (e r))).G x y) (by kernel_rfl) (by simp only [A, c, bo, so, oa, os, on, ofs])
end
def f (k : Nat) (a0 : List ByteArray) (a1 : Bool) : Option R := c (sr_next.f k) (convert_Number.f k) some a0 a1
noncomputable abbrev E (k : Nat) : FEnv := env (sr_next.f k) (convert_Number.f k) 
theorem hE (k : Nat) : EnvOK (E k).toEnv := ctsOK (Lc (sr_next.ok k) (Lc (convert_Number.ok k) L0))
theorem ok (k : Nat) : CtOK prog 32 (ct (f k)) := fn_ok func32 rfl (by decide) (hE k) L0 (Lc ev L0)
end sr_number
end Go.Proofs.YtimadphjdkjgaaaDoor.Aev
