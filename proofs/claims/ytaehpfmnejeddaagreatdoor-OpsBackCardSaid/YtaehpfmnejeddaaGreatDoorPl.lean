import Derived.Test.YtaehpfmnejeddaaGreatDoorTys
import Derived.Test.YtaehpfmnejeddaaGreatDoorProg
import Derived.Laws.Externs
import Derived.Lib.Bytealg
import Derived.Test.YtaehpfmnejeddaaGreatDoorF5
import Derived.Test.YtaehpfmnejeddaaGreatDoorF6
import Derived.Test.YtaehpfmnejeddaaGreatDoorF12
import Derived.Test.YtaehpfmnejeddaaGreatDoorF14
import Derived.Test.YtaehpfmnejeddaaGreatDoorAevX
/- By a program of this session (AEV): functions of the program as plain functions, and that the machine does what they say. -/
namespace Go.Proofs.YtaehpfmnejeddaaGreatDoor.Aev
set_option linter.unusedVariables false
set_option linter.unusedSimpArgs false
set_option maxRecDepth 100000
set_option maxHeartbeats 4000000
open Go Go.Proofs.Tryz
namespace transomlaw14_OpsBack
def e (r : Bool) : Res := ⟨.v (.one (.d .bool r)), []⟩
abbrev T (δ : Type) : Type := D_api_Op → ByteArray → Option δ
abbrev A {δ : Type} (g : T δ) : Arm δ := ⟨[.s T_api_Op, .d .str], [], fun x y => g x.1.1 x.2.1⟩
abbrev G : Type := T Bool
def ct (g : G) : Ct := mkCt 0 [] [A g] e
abbrev S0 (δ : Type) : Type := ByteArray → Bool → D_api_Op → Option δ
abbrev A_0 {δ : Type} (s : S0 δ) : Arm δ := ⟨[.d .str, .k (.ptr 0 0), .d .bool], [.box [.g T_api_Op]], fun x y => s x.1 x.2.2.1 y.1.1⟩
abbrev S1 (δ : Type) : Type := ByteArray → D_api_Op → Option δ
abbrev A_1 {δ : Type} (s : S1 δ) : Arm δ := ⟨[.d .str, .k (.ptr 0 0)], [.box [.g T_api_Op]], fun x y => s x.1 y.1.1⟩
abbrev S2 (δ : Type) : Type := Bool → Option δ
abbrev A_2 {δ : Type} (s : S2 δ) : Arm δ := ⟨[.d .bool], [], fun x y => s x.1⟩
def sg0 (s : S0 Bool) : Seg := mkSg [1, 0, 1] [] [1, 2, 17] [A_0 s] e
def sg1 (s : S1 Bool) : Seg := mkSg [1, 1] [] [1, 2] [A_1 s] e
def sg2 (s : S2 Bool) : Seg := mkSg [1, 2, 1, 0, 1, 1, 1] [] [4] [A_2 s] e
section
variable {β : Type} (g9 : transomlaw14_awake.G) (g15 : transomlaw13_FewOp.G) (g16 : ops_Put.G) (g18 : ops_Read.G) (g20 : transomref14_Same.G) (g21 : ops_Same.G) (s0 : S0 Bool) (s1 : S1 Bool) (s2 : S2 Bool)
noncomputable abbrev env : FEnv := mkEnv prog f6 [(9, transomlaw14_awake.ct g9), (15, transomlaw13_FewOp.ct g15), (16, ops_Put.ct g16), (18, ops_Read.ct g18), (20, transomref14_Same.ct g20), (21, ops_Same.ct g21)] 0 [] [sg0 s0, sg1 s1, sg2 s2]
def c (ret : Bool → Option β) (a0 : D_api_Op) (a1 : ByteArray) : Option β := ((g15 a0).bind fun r0 => (bif (r0 == (0 : Int)) then ((s0 a1 true a0).bind ret) else ((s0 a1 (decide ((a1.size : Int) > (2000 : Int))) a0).bind ret)))
def s0c (ret : Bool → Option β) (x0 : ByteArray) (x1 : Bool) (x2 : D_api_Op) : Option β := (bif x1 then (g9.bind fun r0 => (ret (r0))) else ((s1 x0 x2).bind ret))
def s1c (ret : Bool → Option β) (x0 : ByteArray) (x1 : D_api_Op) : Option β := ((g16 x1).bind fun r0 => (bif (r0.2 != (0 : Int)) then (bif (r0.1.toList == (ByteArray.toList (ByteArray.mk (List.toArray [])))) then (g9.bind fun r1 => ((s2 r1).bind ret)) else ((s2 false).bind ret)) else (bif ((decide (r0.1.size ≤ (4611686018427387903 : Nat))) && (decide (x0.size ≤ (4611686018427387903 : Nat)))) then ((g18 (r0.1 ++ x0)).bind fun r2 => (bif (r2.2.2 == (0 : Int)) then (bif (r2.2.1.toList == x0.toList) then ((g20 x1 r2.1).bind fun r3 => (bif r3 then ((g21 x1 r2.1).bind fun r4 => (bif r4 then (g9.bind fun r5 => (ret (r5))) else (ret (false)))) else (ret (false)))) else (ret (false))) else (ret (false)))) else none)))
def s2c (ret : Bool → Option β) (x0 : Bool) : Option β := (ret (x0))
variable {g9} {g15} {g16} {g18} {g20} {g21} {s0} {s1} {s2}
theorem ev : EvA (env g9 g15 g16 g18 g20 g21 s0 s1 s2) [] [0, 1] e (A (c g15 s0 some)) := fun x y => Eq.trans (b := (A (c g15 s0 fun r => some (e r))).G x y) (by kernel_rfl) (by simp only [A, c, bo, sum_bind, oa, os, on, ofs])
theorem s0_ev : EvA (env g9 g15 g16 g18 g20 g21 s0 s1 s2) [1, 0, 1] [1, 2, 17] e (A_0 (s0c g9 s1 some)) := fun x y => Eq.trans (b := (A_0 (s0c g9 s1 fun r => some (e r))).G x y) (by kernel_rfl) (by simp only [A_0, s0c, bo, sum_bind, oa, os, on, ofs])
theorem s1_ev : EvA (env g9 g15 g16 g18 g20 g21 s0 s1 s2) [1, 1] [1, 2] e (A_1 (s1c g9 g16 g18 g20 g21 s2 some)) := fun x y => Eq.trans (b := (A_1 (s1c g9 g16 g18 g20 g21 s2 fun r => some (e r))).G x y) (by kernel_rfl) (by simp only [A_1, s1c, bo, sum_bind, oa, os, on, ofs])
theorem s2_ev : EvA (env g9 g15 g16 g18 g20 g21 s0 s1 s2) [1, 2, 1, 0, 1, 1, 1] [4] e (A_2 (s2c some)) := fun x y => Eq.trans (b := (A_2 (s2c fun r => some (e r))).G x y) (by kernel_rfl) (by simp only [A_2, s2c, bo, sum_bind, oa, os, on, ofs])
end
mutual
def s0 : Nat → S0 Bool
 | 0, _, _, _ => none
 | k + 1, x0, x1, x2 => s0c (transomlaw14_awake.f k) (s1 k) some x0 x1 x2
def s1 : Nat → S1 Bool
 | 0, _, _ => none
 | k + 1, x0, x1 => s1c (transomlaw14_awake.f k) (ops_Put.f k) (ops_Read.f k) (transomref14_Same.f k) (ops_Same.f k) (s2 k) some x0 x1
def s2 : Nat → S2 Bool
 | 0, _ => none
 | k + 1, x0 => s2c  some x0
end
def f (k : Nat) (a0 : D_api_Op) (a1 : ByteArray) : Option Bool := c (transomlaw13_FewOp.f k) (s0 k) some a0 a1
noncomputable abbrev E (k : Nat) : FEnv := env (transomlaw14_awake.f k) (transomlaw13_FewOp.f k) (ops_Put.f k) (ops_Read.f k) (transomref14_Same.f k) (ops_Same.f k) (s0 k) (s1 k) (s2 k)
theorem hE (k : Nat) : EnvOK (E k).toEnv := ctsOK (Lc (transomlaw14_awake.ok k) (Lc (transomlaw13_FewOp.ok k) (Lc (ops_Put.ok k) (Lc (ops_Read.ok k) (Lc (transomref14_Same.ok k) (Lc (ops_Same.ok k) L0))))))
theorem sk : ∀ k, ∀ s ∈ [sg0 (s0 k), sg1 (s1 k), sg2 (s2 k)], SegB prog f6 0 s
 | 0 => (Lc (sn (Lc (fun _ _ => rfl) L0)) (Lc (sn (Lc (fun _ _ => rfl) L0)) (Lc (sn (Lc (fun _ _ => rfl) L0)) L0)))
 | k + 1 => (Lc (sg_ok (hE k) (sk k) (Lc s0_ev L0)) (Lc (sg_ok (hE k) (sk k) (Lc s1_ev L0)) (Lc (sg_ok (hE k) (sk k) (Lc s2_ev L0)) L0)))
theorem ok (k : Nat) : CtOK prog 6 (ct (f k)) := fn_ok func6 rfl (by decide) (hE k) (sk k) (Lc ev L0)
end transomlaw14_OpsBack
end Go.Proofs.YtaehpfmnejeddaaGreatDoor.Aev

/- Plain lemmas: strings as lists of bytes, numbers within bounds. No program here. -/
namespace Go.Proofs.YtaehpfmnejeddaaGreatDoor.Aev
open Go
set_option linter.unusedVariables false
set_option linter.unusedSimpArgs false
theorem i64w {n : Int} (h0 : -9223372036854775808 ≤ n) (h1 : n ≤ 9223372036854775807) : IntKind.wrap .i64 n = n := by
 rw [IntKind.wrap_i64]; omega
theorem u64w {n : Int} (h0 : 0 ≤ n) (h1 : n < 18446744073709551616) : IntKind.wrap .u64 n = n := by
 simp [IntKind.wrap, IntKind.bits, IntKind.signed]; omega
theorem u8w {n : Int} (h0 : 0 ≤ n) (h1 : n < 256) : IntKind.wrap .u8 n = n := by
 simp [IntKind.wrap, IntKind.bits, IntKind.signed]; omega
theorem u8m (n : Int) : IntKind.wrap .u8 n = n % 256 := by
 simp [IntKind.wrap, IntKind.bits, IntKind.signed]
theorem u64m (n : Int) : IntKind.wrap .u64 n = n % 18446744073709551616 := by
 simp [IntKind.wrap, IntKind.bits, IntKind.signed]
theorem if_b {α : Type} {c : Bool} {x y : α} : (bif c then x else y) = if c = true then x else y := by cases c <;> rfl
theorem toList_inj {a b : ByteArray} (h : a.toList = b.toList) : a = b := by
 rw [ByteArray.toList_eq, ByteArray.toList_eq] at h
 exact ba_ext h
theorem toList_iff {a b : ByteArray} : a.toList = b.toList ↔ a = b := ⟨toList_inj, fun h => by rw [h]⟩
theorem size_eq (s : ByteArray) : s.size = s.data.toList.length := rfl
theorem append_data (a b : ByteArray) : (a ++ b).data.toList = a.data.toList ++ b.data.toList := by simp
theorem extract_data (s : ByteArray) (a b : Nat) : (s.extract a b).data.toList = (s.data.toList.drop a).take (b - a) := by
 simp [ByteArray.data_extract, List.extract_eq_take_drop]
theorem drop_data (s : ByteArray) (a : Nat) : (s.extract a s.size).data.toList = s.data.toList.drop a := by
 rw [extract_data, List.take_of_length_le]; rw [List.length_drop, ← size_eq]; exact Nat.le_refl _
theorem drop_data' (s : ByteArray) (a : Nat) : (s.extract a (Int.toNat (s.size : Int))).data.toList = s.data.toList.drop a := drop_data s a
theorem take_data (s : ByteArray) (a : Nat) : (s.extract 0 a).data.toList = s.data.toList.take a := by rw [extract_data]; simp
theorem bt_nat (s : ByteArray) (i : Nat) (h : i < s.data.toList.length) : bt s (i : Int) = ((s.data.toList[i]).toNat : Int) := by
 have h' : i < s.data.size := h
 simp [bt, Array.getElem?_eq_getElem h']
abbrev b8 (n : Int) : UInt8 := UInt8.ofNat n.toNat
theorem b8_nat (n : Nat) (h : n < 256) : (b8 (n : Int)).toNat = n := by simp [b8]; omega
theorem b8_eta (c : UInt8) : b8 (c.toNat : Int) = c := by simp [b8]
theorem data_nil {s : ByteArray} : s.data.toList = [] ↔ s = ByteArray.mk (List.toArray []) := ⟨fun h => ba_ext (by rw [h]), fun h => by rw [h]⟩
theorem fit_i64 {x : Int} (h : Fit (.int .i64) x) : -9223372036854775808 ≤ x ∧ x ≤ 9223372036854775807 := by
 simpa [Fit, IntKind.min, IntKind.max, IntKind.signed, IntKind.bits] using h
theorem fit_u64 {x : Int} (h : Fit (.int .u64) x) : 0 ≤ x ∧ x ≤ 18446744073709551615 := by
 simpa [Fit, IntKind.min, IntKind.max, IntKind.signed, IntKind.bits] using h
end Go.Proofs.YtaehpfmnejeddaaGreatDoor.Aev
