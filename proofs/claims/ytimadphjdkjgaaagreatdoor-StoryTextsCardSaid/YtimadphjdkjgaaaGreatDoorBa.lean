import Derived.Test.YtimadphjdkjgaaaGreatDoorTys
import Derived.Test.YtimadphjdkjgaaaGreatDoorProg
import Derived.Laws.Externs
import Derived.Lib.Bytealg
import Derived.Test.YtimadphjdkjgaaaGreatDoorF6
import Derived.Test.YtimadphjdkjgaaaGreatDoorF16
import Derived.Test.YtimadphjdkjgaaaGreatDoorAevX
import Derived.Laws.BitsAllLaws
/- By a program of this session (AEV): functions of the program as plain functions, and that the machine does what they say. -/
namespace Go.Proofs.YtimadphjdkjgaaaGreatDoor.Aev
set_option linter.unusedVariables false
set_option linter.unusedSimpArgs false
set_option maxRecDepth 100000
set_option maxHeartbeats 4000000
open Go Go.Proofs.Tryz
namespace transomlaw37_StoryTexts
def e (r : Bool) : Res := ⟨.v (.one (.d .bool r)), []⟩
abbrev T (δ : Type) : Type := ByteArray → Option δ
abbrev A {δ : Type} (g : T δ) : Arm δ := ⟨[.d .str], [], fun x y => g x.1⟩
abbrev G : Type := T Bool
def ct (g : G) : Ct := mkCt 0 [] [A g] e
abbrev S0 (δ : Type) : Type := (List D_api_Step) → (List D_api_Step) → Bool → Option δ
abbrev A_0 {δ : Type} (s : S0 δ) : Arm δ := ⟨[.d (.sl T_api_Step), .d (.sl T_api_Step), .d .bool], [], fun x y => s x.1 x.2.1 x.2.2.1⟩
abbrev S1 (δ : Type) : Type := (List D_api_Step) → (List D_api_Step) → Option δ
abbrev A_1 {δ : Type} (s : S1 δ) : Arm δ := ⟨[.d (.sl T_api_Step), .d (.sl T_api_Step)], [], fun x y => s x.1 x.2.1⟩
abbrev S2 (δ : Type) : Type := (List D_api_Step) → (List D_api_Step) → Int → Option δ
abbrev A_2 {δ : Type} (s : S2 δ) : Arm δ := ⟨[.d (.sl T_api_Step), .d (.sl T_api_Step), .d (.int .i64)], [], fun x y => s x.1 x.2.1 x.2.2.1⟩
def sg0 (s : S0 Bool) : Seg := mkSg [1, 0, 1, 1, 1, 1] [] [3, 6, 40] [A_0 s] e
def sg1 (s : S1 Bool) : Seg := mkSg [1, 1, 1, 1, 1] [] [3, 6] [A_1 s] e
def sg2 (s : S2 Bool) : Seg := mkSg [4, 1, 0, 1, 1, 1, 1, 1] [] [3, 6, 9] [A_2 s] e
section
variable {β : Type} (g6 : transomlaw37_awake.G) (g9 : transomlaw37_Same.G) (g10 : story_Parse.G) (g11 : r37_Parse.G) (s0 : S0 Bool) (s1 : S1 Bool) (s2 : S2 Bool)
noncomputable abbrev env : FEnv := mkEnv prog f4 [(6, transomlaw37_awake.ct g6), (9, transomlaw37_Same.ct g9), (10, story_Parse.ct g10), (11, r37_Parse.ct g11)] 0 [] [sg0 s0, sg1 s1, sg2 s2]
def c (ret : Bool → Option β) (a0 : ByteArray) : Option β := (bif (decide ((a0.size : Int) > (4000 : Int))) then (g6.bind fun r0 => (ret (r0))) else ((g10 a0).bind fun r1 => ((g11 a0).bind fun r2 => (bif ((r1.1.length : Int) != (r2.1.length : Int)) then ((s0 r1.1 r2.1 true).bind ret) else (bif (r1.2.1 != r2.2.1) then ((s0 r1.1 r2.1 true).bind ret) else ((s0 r1.1 r2.1 (r1.2.2 != r2.2.2)).bind ret))))))
def s0c (ret : Bool → Option β) (x0 x1 : List D_api_Step) (x2 : Bool) : Option β := (bif x2 then (ret (false)) else ((s1 x0 x1).bind ret))
def s1c (ret : Bool → Option β) (x0 x1 : List D_api_Step) : Option β := ((s2 x0 x1 (0 : Int)).bind ret)
def s2c (ret : Bool → Option β) (x0 x1 : List D_api_Step) (x2 : Int) : Option β := (bif (decide (x2 < (x0.length : Int))) then (bif ((decide ((0 : Int) ≤ x2)) && (decide (x2 < (x0.length : Int)))) then (bif ((decide ((0 : Int) ≤ x2)) && (decide (x2 < (x1.length : Int)))) then ((g9 (elem T_api_Step x0 x2) (elem T_api_Step x1 x2)).bind fun r0 => (bif (r0 == (0 : Int)) then (ret (false)) else ((s2 x0 x1 (IntKind.wrap .i64 (x2 + (1 : Int)))).bind ret))) else none) else none) else (g6.bind fun r1 => (ret (r1))))
variable {g6} {g9} {g10} {g11} {s0} {s1} {s2}
theorem ev : EvA (env g6 g9 g10 g11 s0 s1 s2) [] [0] e (A (c g6 g10 g11 s0 some)) := fun x y => Eq.trans (b := (A (c g6 g10 g11 s0 fun r => some (e r))).G x y) (by kernel_rfl) (by simp only [A, c, bo, so, oa, os, on, ofs])
theorem s0_ev : EvA (env g6 g9 g10 g11 s0 s1 s2) [1, 0, 1, 1, 1, 1] [3, 6, 40] e (A_0 (s0c s1 some)) := fun x y => Eq.trans (b := (A_0 (s0c s1 fun r => some (e r))).G x y) (by kernel_rfl) (by simp only [A_0, s0c, bo, so, oa, os, on, ofs])
theorem s1_ev : EvA (env g6 g9 g10 g11 s0 s1 s2) [1, 1, 1, 1, 1] [3, 6] e (A_1 (s1c s2 some)) := fun x y => Eq.trans (b := (A_1 (s1c s2 fun r => some (e r))).G x y) (by kernel_rfl) (by simp only [A_1, s1c, bo, so, oa, os, on, ofs])
theorem s2_ev : EvA (env g6 g9 g10 g11 s0 s1 s2) [4, 1, 0, 1, 1, 1, 1, 1] [3, 6, 9] e (A_2 (s2c g6 g9 s2 some)) := fun x y => Eq.trans (b := (A_2 (s2c g6 g9 s2 fun r => some (e r))).G x y) (by kernel_rfl) (by simp only [A_2, s2c, bo, so, oa, os, on, ofs])
end
mutual
def s0 : Nat → S0 Bool
 | 0, _, _, _ => none
 | k + 1, x0, x1, x2 => s0c (s1 k) some x0 x1 x2
def s1 : Nat → S1 Bool
 | 0, _, _ => none
 | k + 1, x0, x1 => s1c (s2 k) some x0 x1
def s2 : Nat → S2 Bool
 | 0, _, _, _ => none
 | k + 1, x0, x1, x2 => s2c (transomlaw37_awake.f k) (transomlaw37_Same.f k) (s2 k) some x0 x1 x2
end
def f (k : Nat) (a0 : ByteArray) : Option Bool := c (transomlaw37_awake.f k) (story_Parse.f k) (r37_Parse.f k) (s0 k) some a0
noncomputable abbrev E (k : Nat) : FEnv := env (transomlaw37_awake.f k) (transomlaw37_Same.f k) (story_Parse.f k) (r37_Parse.f k) (s0 k) (s1 k) (s2 k)
theorem hE (k : Nat) : EnvOK (E k).toEnv := ctsOK (Lc (transomlaw37_awake.ok k) (Lc (transomlaw37_Same.ok k) (Lc (story_Parse.ok k) (Lc (r37_Parse.ok k) L0))))
theorem sk : ∀ k, ∀ s ∈ [sg0 (s0 k), sg1 (s1 k), sg2 (s2 k)], SegB prog f4 0 s
 | 0 => (Lc (sn (Lc (fun _ _ => rfl) L0)) (Lc (sn (Lc (fun _ _ => rfl) L0)) (Lc (sn (Lc (fun _ _ => rfl) L0)) L0)))
 | k + 1 => (Lc (sg_ok (hE k) (sk k) (Lc s0_ev L0)) (Lc (sg_ok (hE k) (sk k) (Lc s1_ev L0)) (Lc (sg_ok (hE k) (sk k) (Lc s2_ev L0)) L0)))
theorem ok (k : Nat) : CtOK prog 4 (ct (f k)) := fn_ok func4 rfl (by decide) (hE k) (sk k) (Lc ev L0)
end transomlaw37_StoryTexts
end Go.Proofs.YtimadphjdkjgaaaGreatDoor.Aev

/- Plain lemmas: strings as lists of bytes, numbers within bounds. No program here. -/
namespace Go.Proofs.YtimadphjdkjgaaaGreatDoor.Aev
open Go
set_option linter.unusedVariables false
set_option linter.unusedSimpArgs false
theorem i64w {n : Int} (h0 : -9223372036854775808 ≤ n) (h1 : n ≤ 9223372036854775807) : IntKind.wrap .i64 n = n := by
 rw [IntKind.wrap_i64]; omega
theorem u64w {n : Int} (h0 : 0 ≤ n) (h1 : n < 18446744073709551616) : IntKind.wrap .u64 n = n := by
 simp [IntKind.wrap, IntKind.bits, IntKind.signed]; omega
theorem u8w {n : Int} (h0 : 0 ≤ n) (h1 : n < 256) : IntKind.wrap .u8 n = n := by
 simp [IntKind.wrap, IntKind.bits, IntKind.signed]; omega
theorem u64m (n : Int) : IntKind.wrap .u64 n = n % 18446744073709551616 := by
 simp [IntKind.wrap, IntKind.bits, IntKind.signed]
theorem if_b {α : Type} {c : Bool} {x y : α} : (bif c then x else y) = if c = true then x else y := by cases c <;> rfl
theorem toList_inj {a b : ByteArray} (h : a.toList = b.toList) : a = b := by
 rw [ByteArray.toList_eq, ByteArray.toList_eq] at h
 exact ba_ext h
theorem toList_iff {a b : ByteArray} : a.toList = b.toList ↔ a = b := ⟨toList_inj, fun h => by rw [h]⟩
theorem size_eq (s : ByteArray) : s.size = s.data.toList.length := rfl
theorem append_data (a b : ByteArray) : (a ++ b).data.toList = a.data.toList ++ b.data.toList := by simp
theorem extract_data (s : ByteArray) (a b : Nat) : (s.extract a b).data.toList = (s.data.toList.drop a).take (b - a) := by
 simp [ByteArray.data_extract, List.extract_eq_take_drop]
theorem drop_data (s : ByteArray) (a : Nat) : (s.extract a s.size).data.toList = s.data.toList.drop a := by
 rw [extract_data, List.take_of_length_le]; rw [List.length_drop, ← size_eq]; exact Nat.le_refl _
theorem drop_data' (s : ByteArray) (a : Nat) : (s.extract a (Int.toNat (s.size : Int))).data.toList = s.data.toList.drop a := drop_data s a
theorem bt_nat (s : ByteArray) (i : Nat) (h : i < s.data.toList.length) : bt s (i : Int) = ((s.data.toList[i]).toNat : Int) := by
 have h' : i < s.data.size := h
 simp [bt, Array.getElem?_eq_getElem h']
abbrev b8 (n : Int) : UInt8 := UInt8.ofNat n.toNat
theorem b8_eta (c : UInt8) : b8 (c.toNat : Int) = c := by simp [b8]
theorem data_nil {s : ByteArray} : s.data.toList = [] ↔ s = ByteArray.mk (List.toArray []) := ⟨fun h => ba_ext (by rw [h]), fun h => by rw [h]⟩
end Go.Proofs.YtimadphjdkjgaaaGreatDoor.Aev

/- Bits of 64-bit numbers as arithmetic. No program here. -/
namespace Go.Proofs.YtimadphjdkjgaaaGreatDoor.Aev
open Go
set_option linter.unusedVariables false
set_option linter.unusedSimpArgs false

theorem and_mask {n m j : Nat} (hm : m = 2 ^ j - 1) (h : n < 18446744073709551616) (hj : m < 18446744073709551616) : Go.bits .and .u64 (n : Int) (m : Int) = ((n % 2 ^ j : Nat) : Int) := by
 have h1 := Go.u64_and_nat n m h hj
 rw [h1, hm, Nat.and_two_pow_sub_one_eq_mod]
theorem and_52 {n : Nat} (h : n < 18446744073709551616) : Go.bits .and .u64 (n : Int) 4503599627370495 = ((n % 4503599627370496 : Nat) : Int) :=
 and_mask (m := 4503599627370495) (j := 52) rfl h (by omega)
theorem and_11 {n : Nat} (h : n < 18446744073709551616) : Go.bits .and .u64 (n : Int) 2047 = ((n % 2048 : Nat) : Int) :=
 and_mask (m := 2047) (j := 11) rfl h (by omega)
theorem or_sum {a b j : Nat} (hb : b < 2 ^ j) (h : a * 2 ^ j + b < 18446744073709551616) : Go.bits .or .u64 ((a * 2 ^ j : Nat) : Int) (b : Int) = ((a * 2 ^ j + b : Nat) : Int) := by
 rw [Go.u64_or_nat (a * 2 ^ j) b (by omega) (by omega)]
 have := Nat.two_pow_add_eq_or_of_lt hb a
 rw [Nat.mul_comm a, ← this]
/- the same, as the evaluator prints it -/
theorem a52 {n : Nat} (h : n < 18446744073709551616) : IntKind.wrap IntKind.u64 ((BitVec.toNat ((BitVec.ofInt (64 : Nat) (n : Int)) &&& (BitVec.ofInt (64 : Nat) (4503599627370495 : Int)))) : Int) = ((n % 4503599627370496 : Nat) : Int) := and_52 h
theorem a11 {n : Nat} (h : n < 18446744073709551616) : IntKind.wrap IntKind.u64 ((BitVec.toNat ((BitVec.ofInt (64 : Nat) (n : Int)) &&& (BitVec.ofInt (64 : Nat) (2047 : Int)))) : Int) = ((n % 2048 : Nat) : Int) := and_11 h
end Go.Proofs.YtimadphjdkjgaaaGreatDoor.Aev

/- Plain lemmas: strings in the form of their lists of bytes. No program here. -/
namespace Go.Proofs.YtimadphjdkjgaaaGreatDoor.Aev
open Go
set_option linter.unusedVariables false
set_option linter.unusedSimpArgs false
theorem ba_of (s : ByteArray) : s = ByteArray.mk (List.toArray s.data.toList) := ba_ext rfl
theorem ba_size (l : List UInt8) : (ByteArray.mk (List.toArray l)).size = l.length := rfl
theorem ba_data (l : List UInt8) : (ByteArray.mk (List.toArray l)).data.toList = l := rfl
theorem ba_toList (l : List UInt8) : (ByteArray.mk (List.toArray l)).toList = l := by rw [ByteArray.toList_eq]
theorem ba_append (l m : List UInt8) : ByteArray.mk (List.toArray l) ++ ByteArray.mk (List.toArray m) = ByteArray.mk (List.toArray (l ++ m)) := ba_ext (by rw [append_data])
theorem ba_extract (l : List UInt8) (a b : Nat) : (ByteArray.mk (List.toArray l)).extract a b = ByteArray.mk (List.toArray ((l.drop a).take (b - a))) := ba_ext (by rw [extract_data])
theorem ba_drop (l : List UInt8) (a : Nat) : (ByteArray.mk (List.toArray l)).extract a (Int.toNat ((ByteArray.mk (List.toArray l)).size : Int)) = ByteArray.mk (List.toArray (l.drop a)) := ba_ext (by rw [drop_data'])
theorem ba_dropl (l : List UInt8) (a : Nat) : (ByteArray.mk (List.toArray l)).extract a (Int.toNat (l.length : Int)) = ByteArray.mk (List.toArray (l.drop a)) := ba_drop l a
theorem ba_inj {l m : List UInt8} : ByteArray.mk (List.toArray l) = ByteArray.mk (List.toArray m) ↔ l = m := ⟨fun h => congrArg (fun s => s.data.toList) h, fun h => by rw [h]⟩
theorem ba_bt (l : List UInt8) (i : Nat) (h : i < l.length) : bt (ByteArray.mk (List.toArray l)) (i : Int) = ((l[i]).toNat : Int) := bt_nat _ i h
theorem ba_bt0 (c : UInt8) (t : List UInt8) : bt (ByteArray.mk (List.toArray (c :: t))) 0 = (c.toNat : Int) := rfl
end Go.Proofs.YtimadphjdkjgaaaGreatDoor.Aev
