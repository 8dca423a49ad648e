import Derived.Test.YtimadphjdkjgaaaDoorTys
import Derived.Test.YtimadphjdkjgaaaDoorProg
import Derived.Laws.Externs
import Derived.Lib.Bytealg
import Derived.Test.YtimadphjdkjgaaaDoorF3
import Derived.Test.YtimadphjdkjgaaaDoorF6
import Derived.Test.YtimadphjdkjgaaaDoorSplit
/- By a program of this session (AEV): functions of the program as plain functions, and that the machine does what they say. -/
namespace Go.Proofs.YtimadphjdkjgaaaDoor.Aev
set_option linter.unusedVariables false
set_option linter.unusedSimpArgs false
set_option maxRecDepth 100000
set_option maxHeartbeats 4000000
open Go Go.Proofs.Tryd
/-! ### strings_Split: function 23 (no body) -/
def strings_Split.ct (g : ByteArray → ByteArray → Option (List ByteArray)) : Ct where
 nin := 0
 mv := []
 F := fun tvs blks {β} K => match tvs, blks with
  | [.v (.one (.d .str a0)), .v (.one (.d .str a1))], [] => (g a0 a1).bind fun r => K ⟨.v (.one (.d (.sl .str) r)), []⟩
  | _, _ => none
 legit := fun _ _ K _ h => by split at h; exact (legit1 K h :); simp at h
section
open Go.Shelf Go.RowKit
def strings_Split.f (k : Nat) (a0 a1 : ByteArray) : Option (List ByteArray) := match a1.data.toList with
 | [_] => if a0.size ≤ 1000000000 then some (Lib.splitB a1 0 (Lib.countB a0 a1) a0) else none
 | _ => none
theorem strings_Split.ok (k : Nat) : CtOK Go.Proofs.Tryd.prog 23 (strings_Split.ct (strings_Split.f k)) := by
 intro tvs blks res hF w S ρ H vals hm hv
 simp only [strings_Split.ct] at hF
 split at hF
 ·rename_i a0 a1
  simp only [strings_Split.f] at hF
  split at hF
  ·rename_i c hc
   split at hF
   ·rename_i hsz
    simp only [os, Option.some.injEq] at hF
    subst hF
    obtain ⟨v0, m0, rfl, h0, hv⟩ := All2.cons_left hv
    obtain ⟨v1, m1, rfl, h1, hv⟩ := All2.cons_left hv
    cases All2.nil_left hv
    have h0 := rep_s h0
    have h1 := rep_s h1
    subst h0 h1
    obtain rfl : a1 = ⟨#[c]⟩ := by
     cases a1 with
     | mk a =>
      have : a = #[c] := Array.toList_inj.mp hc
      rw [this]
    have hlen := Lib.splitB_all ⟨#[c]⟩ (Nat.le_refl 1) 0 _ a0 rfl
    left
    refine ⟨Go.Proofs.enters_of Go.Proofs.Tryd.func23 (by kernel_rfl) rfl _ _, (split_calls a0 c w (by omega)).mono fun e w' ⟨h1, h2⟩ => ?_⟩
    subst h2
    have hold : ∀ b, S b → (w.alloc (.cells ((Lib.splitB ⟨#[c]⟩ 0 (Lib.countB a0 ⟨#[c]⟩) a0).map Value.string).toArray (splitR.t 9))).heap[b]? = w.heap[b]? := fun b hb => heap_alloc_old w _ (hm.old b hb)
    refine ⟨_, fun b => S b ∨ b = w.heap.size, ρ, H, h1, ?_, ?_⟩
    ·exact {
      rep := fun n B h => by simp at h
      sep := fun n m B C b h => by simp at h
      apart := fun n B b h => by simp at h
      homes := fun n B b h => by simp at h
      old := fun b hb => by
       have : (w.alloc (.cells ((Lib.splitB ⟨#[c]⟩ 0 (Lib.countB a0 ⟨#[c]⟩) a0).map Value.string).toArray (splitR.t 9))).heap.size = w.heap.size + 1 := by show (w.heap.push _).size = _; simp
       rw [this]
       rcases hb with hb | rfl
       ·exact Nat.lt_succ_of_lt (hm.old b hb)
       ·exact Nat.lt_succ_self _
      never := fun n _ => hm.never n (by simp [live])
      s0 := fun b hb => .inl (hm.s0 b hb)
      smine := fun b hb => by
       rcases hb with hb | rfl
       ·exact hm.smine b hb
       ·exact .inr (.inr hm.size)
      names := hm.names
      os := hm.os, tape := hm.tape, output := hm.output
      size := Nat.le_trans hm.size (by show _ ≤ (w.heap.push _).size; simp)
      same := fun b hb h => (heap_alloc_old w _ (Nat.lt_of_lt_of_le hb hm.size)).trans (hm.same b hb h)
      gl := hm.gl.mono (fun _ x => .inl x) hold }
    ·refine ⟨some ⟨w.heap.size, 0, none⟩, _, _, rfl, hlen.symm, Nat.le_refl _, fun a h _ => by cases h; rfl, (fun h => by cases h), fun _ => ⟨_, rfl, .inr rfl, fun i hi => ⟨[.string (Lib.splitB ⟨#[c]⟩ 0 (Lib.countB a0 ⟨#[c]⟩) a0)[i]], ⟨_, _, _, heap_alloc_new w _, ?_, ?_⟩, rfl⟩⟩⟩
     ·simp only [Ty.size, Nat.mul_one, Nat.zero_add, List.size_toArray, List.length_map]; exact hi
     ·simp only [Ty.size, Nat.mul_one, Nat.zero_add, List.toList_toArray]
      rw [List.drop_eq_getElem_cons (by simpa using hi)]
      simp
   ·simp at hF
  ·simp at hF
 ·simp at hF
end


namespace story_Parse
abbrev R : Type := (List D_api_Step) × Int × Int
def e (r : R) : Res := ⟨.tup [(.one (.d (.sl T_api_Step) r.1)), (.one (.d (.int .i64) r.2.1)), (.one (.d (.int .i64) r.2.2))], []⟩
abbrev T (δ : Type) : Type := ByteArray → Option δ
abbrev A {δ : Type} (g : T δ) : Arm δ := ⟨[.d .str], [], fun x y => g x.1⟩
abbrev G : Type := T R
def ct (g : G) : Ct := mkCt 0 [] [A g] e
abbrev S0 (δ : Type) : Type := (List ByteArray) → Int → Int → (List D_api_Step) → Option δ
abbrev A_0 {δ : Type} (s : S0 δ) : Arm δ := ⟨[.k (.own 0), .d (.sl .str), .d (.int .i64), .d (.int .i64)], [.own T_api_Step false], fun x y => s x.2.1 x.2.2.1 x.2.2.2.1 y.1⟩
abbrev S1 (δ : Type) : Type := Int → ByteArray → (List ByteArray) → Int → Int → Bool → (List D_api_Step) → Option δ
abbrev A_1 {δ : Type} (s : S1 δ) : Arm δ := ⟨[.k (.own 0), .d (.int .i64), .d .str, .d (.sl .str), .d (.int .i64), .d (.int .i64), .d .bool], [.own T_api_Step false], fun x y => s x.2.1 x.2.2.1 x.2.2.2.1 x.2.2.2.2.1 x.2.2.2.2.2.1 x.2.2.2.2.2.2.1 y.1⟩
abbrev S2 (δ : Type) : Type := Int → ByteArray → (List ByteArray) → Int → Int → (List D_api_Step) → Option δ
abbrev A_2 {δ : Type} (s : S2 δ) : Arm δ := ⟨[.k (.own 0), .d (.int .i64), .d .str, .d (.sl .str), .d (.int .i64), .d (.int .i64)], [.own T_api_Step false], fun x y => s x.2.1 x.2.2.1 x.2.2.2.1 x.2.2.2.2.1 x.2.2.2.2.2.1 y.1⟩
abbrev S3 (δ : Type) : Type := (List ByteArray) → Int → Int → (List D_api_Step) → Option δ
abbrev A_3 {δ : Type} (s : S3 δ) : Arm δ := ⟨[.k (.own 0), .d (.sl .str), .d (.int .i64), .d (.int .i64)], [.own T_api_Step false], fun x y => s x.2.1 x.2.2.1 x.2.2.2.1 y.1⟩
def sg0 (s : S0 R) : Seg := mkSg [4, 1, 0, 1, 1] [.own 5 T_api_Step] [5, 12, 13, 14] [A_0 s] e
def sg1 (s : S1 R) : Seg := mkSg [1, 0, 1, 1, 4, 0, 1, 1, 5, 4, 1, 0, 1, 1] [] [5, 6, 7, 12, 13, 14, 30] [A_1 s] e
def sg2 (s : S2 R) : Seg := mkSg [1, 1, 1, 4, 0, 1, 1, 5, 4, 1, 0, 1, 1] [] [5, 6, 7, 12, 13, 14] [A_2 s] e
def sg3 (s : S3 R) : Seg := mkSg [1, 1, 1, 5, 4, 1, 0, 1, 1] [.own 5 T_api_Step] [5, 12, 13, 14] [A_3 s] e
section
variable {β : Type} (g9 : story_Read.G) (g21 : words_Split.G) (g23 : ByteArray → ByteArray → Option (List ByteArray)) (s0 : S0 R) (s1 : S1 R) (s2 : S2 R) (s3 : S3 R)
noncomputable abbrev env : FEnv := mkEnv prog f10 [(9, story_Read.ct g9), (21, words_Split.ct g21), (23, strings_Split.ct g23)] 0 [] [sg0 s0, sg1 s1, sg2 s2, sg3 s3]
def c (ret : R → Option β) (a0 : ByteArray) : Option β := ((g23 a0 (ByteArray.mk (List.toArray [10]))).bind fun r0 => ((s0 r0 (r0.length : Int) (0 : Int) []).bind ret))
def s0c (ret : R → Option β) (x0 : List ByteArray) (x1 x2 : Int) (x3 : List D_api_Step) : Option β := (bif (decide (x2 < x1)) then (bif ((decide ((0 : Int) ≤ x2)) && (decide (x2 < (x0.length : Int)))) then ((g21 (elem Ty.str x0 x2)).bind fun r0 => (bif (r0.2 == (0 : Int)) then ((s1 x2 (elem Ty.str x0 x2) x0 x1 x2 ((r0.1.length : Int) == (0 : Int)) x3).bind ret) else ((s1 x2 (elem Ty.str x0 x2) x0 x1 x2 false x3).bind ret))) else none) else (ret (x3, (0 : Int), (0 : Int))))
def s1c (ret : R → Option β) (x0 : Int) (x1 : ByteArray) (x2 : List ByteArray) (x3 x4 : Int) (x5 : Bool) (x6 : List D_api_Step) : Option β := (bif x5 then ((s3 x2 x3 x4 x6).bind ret) else ((s2 x0 x1 x2 x3 x4 x6).bind ret))
def s2c (ret : R → Option β) (x0 : Int) (x1 : ByteArray) (x2 : List ByteArray) (x3 x4 : Int) (x5 : List D_api_Step) : Option β := ((g9 x1).bind fun r0 => (bif (r0.2 != (0 : Int)) then (ret ([], (IntKind.wrap .i64 (x0 + (1 : Int))), r0.2)) else (bif (decide (((x5.length + (1 : Nat)) * (360 : Nat)) ≤ (35184372088832 : Nat))) then ((s3 x2 x3 x4 (x5 ++ [r0.1])).bind ret) else none)))
def s3c (ret : R → Option β) (x0 : List ByteArray) (x1 x2 : Int) (x3 : List D_api_Step) : Option β := ((s0 x0 x1 (IntKind.wrap .i64 (x2 + (1 : Int))) x3).bind ret)
variable {g9} {g21} {g23} {s0} {s1} {s2} {s3}
theorem ev : EvA (env g9 g21 g23 s0 s1 s2 s3) [] [0] e (A (c g23 s0 some)) := fun x y => Eq.trans (b := (A (c g23 s0 fun r => some (e r))).G x y) (by kernel_rfl) (by simp only [A, c, bo, so, oa, os, on, ofs])
theorem s0_ev : EvA (env g9 g21 g23 s0 s1 s2 s3) [4, 1, 0, 1, 1] [5, 12, 13, 14] e (A_0 (s0c g21 s1 some)) := fun x y => Eq.trans (b := (A_0 (s0c g21 s1 fun r => some (e r))).G x y) (by kernel_rfl) (by simp only [A_0, s0c, bo, so, oa, os, on, ofs])
theorem s1_ev : EvA (env g9 g21 g23 s0 s1 s2 s3) [1, 0, 1, 1, 4, 0, 1, 1, 5, 4, 1, 0, 1, 1] [5, 6, 7, 12, 13, 14, 30] e (A_1 (s1c s2 s3 some)) := fun x y => Eq.trans (b := (A_1 (s1c s2 s3 fun r => some (e r))).G x y) (by kernel_rfl) (by simp only [A_1, s1c, bo, so, oa, os, on, ofs])
theorem s2_ev : EvA (env g9 g21 g23 s0 s1 s2 s3) [1, 1, 1, 4, 0, 1, 1, 5, 4, 1, 0, 1, 1] [5, 6, 7, 12, 13, 14] e (A_2 (s2c g9 s3 some)) := fun x y => Eq.trans (b := (A_2 (s2c g9 s3 fun r => some (e r))).G x y) (by kernel_rfl) (by simp only [A_2, s2c, bo, so, oa, os, on, ofs])
theorem s3_ev : EvA (env g9 g21 g23 s0 s1 s2 s3) [1, 1, 1, 5, 4, 1, 0, 1, 1] [5, 12, 13, 14] e (A_3 (s3c s0 some)) := fun x y => Eq.trans (b := (A_3 (s3c s0 fun r => some (e r))).G x y) (by kernel_rfl) (by simp only [A_3, s3c, bo, so, oa, os, on, ofs])
end
mutual
def s0 : Nat → S0 R
 | 0, _, _, _, _ => none
 | k + 1, x0, x1, x2, x3 => s0c (words_Split.f k) (s1 k) some x0 x1 x2 x3
def s1 : Nat → S1 R
 | 0, _, _, _, _, _, _, _ => none
 | k + 1, x0, x1, x2, x3, x4, x5, x6 => s1c (s2 k) (s3 k) some x0 x1 x2 x3 x4 x5 x6
def s2 : Nat → S2 R
 | 0, _, _, _, _, _, _ => none
 | k + 1, x0, x1, x2, x3, x4, x5 => s2c (story_Read.f k) (s3 k) some x0 x1 x2 x3 x4 x5
def s3 : Nat → S3 R
 | 0, _, _, _, _ => none
 | k + 1, x0, x1, x2, x3 => s3c (s0 k) some x0 x1 x2 x3
end
def f (k : Nat) (a0 : ByteArray) : Option R := c (strings_Split.f k) (s0 k) some a0
noncomputable abbrev E (k : Nat) : FEnv := env (story_Read.f k) (words_Split.f k) (strings_Split.f k) (s0 k) (s1 k) (s2 k) (s3 k)
theorem hE (k : Nat) : EnvOK (E k).toEnv := ctsOK (Lc (story_Read.ok k) (Lc (words_Split.ok k) (Lc (strings_Split.ok k) L0)))
theorem sk : ∀ k, ∀ s ∈ [sg0 (s0 k), sg1 (s1 k), sg2 (s2 k), sg3 (s3 k)], SegB prog f10 0 s
 | 0 => (Lc (sn (Lc (fun _ _ => rfl) L0)) (Lc (sn (Lc (fun _ _ => rfl) L0)) (Lc (sn (Lc (fun _ _ => rfl) L0)) (Lc (sn (Lc (fun _ _ => rfl) L0)) L0))))
 | k + 1 => (Lc (sg_ok (hE k) (sk k) (Lc s0_ev L0)) (Lc (sg_ok (hE k) (sk k) (Lc s1_ev L0)) (Lc (sg_ok (hE k) (sk k) (Lc s2_ev L0)) (Lc (sg_ok (hE k) (sk k) (Lc s3_ev L0)) L0))))
theorem ok (k : Nat) : CtOK prog 10 (ct (f k)) := fn_ok func10 rfl (by decide) (hE k) (sk k) (Lc ev L0)
end story_Parse
namespace transomlaw37_awake
def e (r : Bool) : Res := ⟨.v (.one (.d .bool r)), []⟩
abbrev T (δ : Type) : Type := Option δ
abbrev A {δ : Type} (g : T δ) : Arm δ := ⟨[], [], fun x y => g⟩
abbrev G : Type := T Bool
def ct (g : G) : Ct := mkCt 0 [] [A g] e
section
variable {β : Type} (g8 : story_Line.G) (g9 : story_Read.G) (g10 : story_Parse.G)
noncomputable abbrev env : FEnv := mkEnv prog f7 [(8, story_Line.ct g8), (9, story_Read.ct g9), (10, story_Parse.ct g10)] 0 [] []
def c (ret : Bool → Option β)  : Option β := ((g9 (ByteArray.mk (List.toArray [97, 115, 107, 32, 48, 32, 105, 110, 115, 101, 114, 116, 32, 116, 32, 49, 32, 34, 120, 34]))).bind fun r0 => ((g9 (ByteArray.mk (List.toArray [97, 115, 107, 32, 49, 32, 99, 104, 97, 110, 103, 101, 32, 114, 101, 116, 121, 112, 101, 32, 116, 32, 118, 32, 105, 110, 116]))).bind fun r1 => ((g9 (ByteArray.mk (List.toArray [97, 115, 107, 32, 48, 32, 98, 101, 103, 105, 110, 32, 120]))).bind fun r2 => ((g10 (ByteArray.mk (List.toArray [116, 105, 99, 107, 10, 10, 114, 117, 110, 32, 51, 10]))).bind fun r3 => ((g10 (ByteArray.mk (List.toArray [116, 105, 99, 107, 10, 102, 108, 121]))).bind fun r4 => ((g8 ((1 : Int), ((2 : Int), (((2 : Int), ((ByteArray.mk (List.toArray [116])), ([], ([], ([((2 : Int), ((-1 : Int), ((0 : Int), ((ByteArray.mk (List.toArray [])), ()))))], ((3 : Int), (Z_api_Change, ()))))))), ())))).bind fun r5 => (bif ((r0.1.2.2.1.2.2.1.length : Int) != (2 : Int)) then (ret (false)) else (bif (r0.1.2.2.1.1 == (3 : Int)) then (bif (true && (decide ((1 : Int) < (r0.1.2.2.1.2.2.1.length : Int)))) then (bif ((ByteArray.toList (elem T_api_Value r0.1.2.2.1.2.2.1 (1 : Int)).2.2.2.1) == (ByteArray.toList (ByteArray.mk (List.toArray [120])))) then (bif (r0.2 == (0 : Int)) then (bif (r1.1.2.1 == (1 : Int)) then (bif (r1.1.2.2.1.2.2.2.2.2.2.1.2.2.2.2.2.2.1 == (2 : Int)) then (bif (r1.2 == (0 : Int)) then (bif (r2.2 == (4 : Int)) then (bif ((r3.1.length : Int) == (2 : Int)) then (bif (r3.2.1 == (0 : Int)) then (bif (r3.2.2 == (0 : Int)) then (bif (r4.2.1 == (2 : Int)) then (bif (r4.2.2 == (4 : Int)) then (bif (r5.1.toList == (ByteArray.toList (ByteArray.mk (List.toArray [97, 115, 107, 32, 50, 32, 115, 99, 97, 110, 32, 116, 32, 51, 32, 116, 111, 32, 45, 49])))) then (ret ((r5.2 == (0 : Int)))) else (ret (false))) else (ret (false))) else (ret (false))) else (ret (false))) else (ret (false))) else (ret (false))) else (ret (false))) else (ret (false))) else (ret (false))) else (ret (false))) else (ret (false))) else (ret (false))) else none) else (ret (false))))))))))
variable {g8} {g9} {g10}
theorem ev : EvA (env g8 g9 g10) [] [] e (A (c g8 g9 g10 some)) := fun x y => Eq.trans (b := (A (c g8 g9 g10 fun r => some (e r))).G x y) (by kernel_rfl) (by simp only [A, c, bo, so, oa, os, on, ofs])
end
def f (k : Nat)  : Option Bool := c (story_Line.f k) (story_Read.f k) (story_Parse.f k) some 
noncomputable abbrev E (k : Nat) : FEnv := env (story_Line.f k) (story_Read.f k) (story_Parse.f k) 
theorem hE (k : Nat) : EnvOK (E k).toEnv := ctsOK (Lc (story_Line.ok k) (Lc (story_Read.ok k) (Lc (story_Parse.ok k) L0)))
theorem ok (k : Nat) : CtOK prog 7 (ct (f k)) := fn_ok func7 rfl (by decide) (hE k) L0 (Lc ev L0)
end transomlaw37_awake
end Go.Proofs.YtimadphjdkjgaaaDoor.Aev
