/- By a program of this session (AEV): functions of the program as plain functions, and that the machine does what they say. -/
import Derived.Test.YthaannpgcbpjkaaTys
import Derived.Test.YthaannpgcbpjkaaProg
import Derived.Laws.Externs
import Derived.Lib.Bytealg
import Derived.Test.YthaannpgcbpjkaaF0
import Derived.Test.YthaannpgcbpjkaaF2
import Derived.Test.YthaannpgcbpjkaaShelf
namespace Go.Proofs.Ythaannpgcbpjkaa.Aev
set_option linter.unusedVariables false
set_option linter.unusedSimpArgs false
set_option maxRecDepth 100000
set_option maxHeartbeats 4000000
open Go Go.Proofs.Try
namespace report_row
def e (r : (List ByteArray)) : Res := ⟨.v (.one (.d (.sl .str) r)), []⟩
abbrev T (δ : Type) : Type := (List D_api_Value) → Option δ
abbrev A {δ : Type} (g : T δ) : Arm δ := ⟨[.d (.sl T_api_Value)], [], fun x y => g x.1⟩
abbrev G : Type := T (List ByteArray)
def ct (g : G) : Ct := mkCt 0 [] [A g] e
abbrev S0 (δ : Type) : Type := (List D_api_Value) → Int → Int → (List ByteArray) → Option δ
abbrev A_0 {δ : Type} (s : S0 δ) : Arm δ := ⟨[.k (.own 0), .d (.sl T_api_Value), .d (.int .i64), .d (.int .i64)], [.own .str true], fun x y => s x.2.1 x.2.2.1 x.2.2.2.1 y.1⟩
def sg0 (s : S0 (List ByteArray)) : Seg := mkSg [4, 1, 0, 1, 1] [] [3, 9, 10, 11] [A_0 s] e
section
variable {β : Type} (g14 : report_or.G) (g42 : words_Show.G) (s0 : S0 (List ByteArray))
noncomputable abbrev env : FEnv := mkEnv prog f25 [(14, report_or.ct g14), (42, words_Show.ct g42)] 0 [] [sg0 s0]
def c (ret : (List ByteArray) → Option β) (a0 : List D_api_Value) : Option β := (bif ((true && (decide ((a0.length : Int) ≤ (a0.length : Int)))) && (decide (((a0.length : Int) * (16 : Int)) ≤ (35184372088832 : Int)))) then ((s0 a0 (a0.length : Int) (0 : Int) (List.replicate (Int.toNat (a0.length : Int)) (ByteArray.mk (List.toArray [])))).bind ret) else none)
def s0c (ret : (List ByteArray) → Option β) (x0 : List D_api_Value) (x1 : Int) (x2 : Int) (x3 : List ByteArray) : Option β := (bif (decide (x2 < x1)) then (bif ((decide ((0 : Int) ≤ x2)) && (decide (x2 < (x0.length : Int)))) then ((g42 (elem T_api_Value x0 x2).1 (elem T_api_Value x0 x2).2.1 (elem T_api_Value x0 x2).2.2.1 (elem T_api_Value x0 x2).2.2.2.1).bind fun r0 => ((g14 r0.1 r0.2).bind fun r1 => (bif ((decide ((0 : Int) ≤ x2)) && (decide (x2 < (x3.length : Int)))) then ((s0 x0 x1 (IntKind.wrap .i64 (x2 + (1 : Int))) (List.set x3 (Int.toNat x2) r1)).bind ret) else none))) else none) else (ret (x3)))
variable {g14} {g42} {s0}
theorem ev : EvA (env g14 g42 s0) [] [0] e (A (c s0 some)) := fun x y => Eq.trans (b := (A (c s0 fun r => some (e r))).G x y) (by kernel_rfl) (by simp only [A, c, bif_bind, sum_bind, oa, os, on, ofs])
theorem s0_ev : EvA (env g14 g42 s0) [4, 1, 0, 1, 1] [3, 9, 10, 11] e (A_0 (s0c g14 g42 s0 some)) := fun x y => Eq.trans (b := (A_0 (s0c g14 g42 s0 fun r => some (e r))).G x y) (by kernel_rfl) (by simp only [A_0, s0c, bif_bind, sum_bind, oa, os, on, ofs])
end
def s0 : Nat → S0 (List ByteArray)
  | 0, _, _, _, _ => none
  | k + 1, x0, x1, x2, x3 => s0c (report_or.f k) (words_Show.f k) (s0 k) some x0 x1 x2 x3
def f (k : Nat) (a0 : List D_api_Value) : Option (List ByteArray) := c (s0 k) some a0
noncomputable abbrev E (k : Nat) : FEnv := env (report_or.f k) (words_Show.f k) (s0 k)
theorem hE (k : Nat) : EnvOK (E k).toEnv := ctsOK (Lc (report_or.ok k) (Lc (words_Show.ok k) L0))
theorem segs_ok : ∀ k, ∀ s ∈ [sg0 (s0 k)], SegB prog f25 0 s
  | 0 => (Lc (sg_none (Lc (fun _ _ => rfl) L0)) L0)
  | k + 1 => (Lc (sg_ok (hE k) (segs_ok k) (Lc s0_ev L0)) L0)
theorem ok (k : Nat) : CtOK prog 25 (ct (f k)) := fn_ok func25 rfl (by decide) (hE k) (segs_ok k) (Lc ev L0)
end report_row
namespace report_reply
def e (r : ByteArray) : Res := ⟨.v (.one (.d .str r)), []⟩
abbrev T (δ : Type) : Type := Int → (List (List D_api_Value)) → Option δ
abbrev A {δ : Type} (g : T δ) : Arm δ := ⟨[.s T_api_Reply], [], fun x y => g x.1.1.1 x.1.1.2.1⟩
abbrev G : Type := T ByteArray
def ct (g : G) : Ct := mkCt 0 [] [A g] e
abbrev S0 (δ : Type) : Type := Int → (List (List D_api_Value)) → (List ByteArray) → Option δ
abbrev A_0 {δ : Type} (s : S0 δ) : Arm δ := ⟨[.k (.ptr 0 0), .k (.own 1)], [.box [.g T_api_Reply], .own .str true], fun x y => s y.1.1.1 y.1.1.2.1 y.2.1⟩
abbrev S1 (δ : Type) : Type := (List (List D_api_Value)) → Int → Int → (List ByteArray) → Option δ
abbrev A_1 {δ : Type} (s : S1 δ) : Arm δ := ⟨[.k (.own 0), .d (.sl (.sl T_api_Value)), .d (.int .i64), .d (.int .i64)], [.own .str false], fun x y => s x.2.1 x.2.2.1 x.2.2.2.1 y.1⟩
def sg0 (s : S0 ByteArray) : Seg := mkSg [1, 1, 1] [] [1, 3] [A_0 s] e
def sg1 (s : S1 ByteArray) : Seg := mkSg [4, 1, 0, 1, 1, 1] [.own 3 .str] [3, 15, 16, 17] [A_1 s] e
section
variable {β : Type} (g13 : convert_Digits.G) (g24 : List ByteArray → ByteArray → Option ByteArray) (g25 : report_row.G) (s0 : S0 ByteArray) (s1 : S1 ByteArray)
noncomputable abbrev env : FEnv := mkEnv prog f16 [(13, convert_Digits.ct g13), (24, strings_Join.ct g24), (25, report_row.ct g25)] 0 [] [sg0 s0, sg1 s1]
def c (ret : ByteArray → Option β) (a0 : Int) (a1 : List (List D_api_Value)) : Option β := (bif (a0 != (0 : Int)) then ((g13 a0).bind fun r0 => ((s0 a0 a1 [(ByteArray.mk (List.toArray [(101 : UInt8), (114 : UInt8), (114 : UInt8), (111 : UInt8), (114 : UInt8)])), r0]).bind ret)) else ((s0 a0 a1 [(ByteArray.mk (List.toArray [(111 : UInt8), (107 : UInt8)]))]).bind ret))
def s0c (ret : ByteArray → Option β) (x0 : Int) (x1 : List (List D_api_Value)) (x2 : List ByteArray) : Option β := ((s1 x1 (x1.length : Int) (0 : Int) x2).bind ret)
def s1c (ret : ByteArray → Option β) (x0 : List (List D_api_Value)) (x1 : Int) (x2 : Int) (x3 : List ByteArray) : Option β := (bif (decide (x2 < x1)) then (bif ((decide ((0 : Int) ≤ x2)) && (decide (x2 < (x0.length : Int)))) then (bif (decide (((x3.length + (1 : Nat)) * (16 : Nat)) ≤ (35184372088832 : Nat))) then ((g25 (elem (Ty.sl T_api_Value) x0 x2)).bind fun r0 => (bif (decide ((((List.length (x3 ++ [(ByteArray.mk (List.toArray [(124 : UInt8)]))])) + r0.length) * (16 : Nat)) ≤ (35184372088832 : Nat))) then ((s1 x0 x1 (IntKind.wrap .i64 (x2 + (1 : Int))) ((x3 ++ [(ByteArray.mk (List.toArray [(124 : UInt8)]))]) ++ r0)).bind ret) else none)) else none) else none) else ((g24 x3 (ByteArray.mk (List.toArray [(32 : UInt8)]))).bind fun r1 => (ret (r1))))
variable {g13} {g24} {g25} {s0} {s1}
theorem ev : EvA (env g13 g24 g25 s0 s1) [] [0] e (A (c g13 s0 some)) := fun x y => Eq.trans (b := (A (c g13 s0 fun r => some (e r))).G x y) (by kernel_rfl) (by simp only [A, c, bif_bind, sum_bind, oa, os, on, ofs])
theorem s0_ev : EvA (env g13 g24 g25 s0 s1) [1, 1, 1] [1, 3] e (A_0 (s0c s1 some)) := fun x y => Eq.trans (b := (A_0 (s0c s1 fun r => some (e r))).G x y) (by kernel_rfl) (by simp only [A_0, s0c, bif_bind, sum_bind, oa, os, on, ofs])
theorem s1_ev : EvA (env g13 g24 g25 s0 s1) [4, 1, 0, 1, 1, 1] [3, 15, 16, 17] e (A_1 (s1c g24 g25 s1 some)) := fun x y => Eq.trans (b := (A_1 (s1c g24 g25 s1 fun r => some (e r))).G x y) (by kernel_rfl) (by simp only [A_1, s1c, bif_bind, sum_bind, oa, os, on, ofs])
end
mutual
def s0 : Nat → S0 ByteArray
  | 0, _, _, _ => none
  | k + 1, x0, x1, x2 => s0c (s1 k) some x0 x1 x2
def s1 : Nat → S1 ByteArray
  | 0, _, _, _, _ => none
  | k + 1, x0, x1, x2, x3 => s1c (strings_Join.f k) (report_row.f k) (s1 k) some x0 x1 x2 x3
end
def f (k : Nat) (a0 : Int) (a1 : List (List D_api_Value)) : Option ByteArray := c (convert_Digits.f k) (s0 k) some a0 a1
noncomputable abbrev E (k : Nat) : FEnv := env (convert_Digits.f k) (strings_Join.f k) (report_row.f k) (s0 k) (s1 k)
theorem hE (k : Nat) : EnvOK (E k).toEnv := ctsOK (Lc (convert_Digits.ok k) (Lc (strings_Join.ok k) (Lc (report_row.ok k) L0)))
theorem segs_ok : ∀ k, ∀ s ∈ [sg0 (s0 k), sg1 (s1 k)], SegB prog f16 0 s
  | 0 => (Lc (sg_none (Lc (fun _ _ => rfl) L0)) (Lc (sg_none (Lc (fun _ _ => rfl) L0)) L0))
  | k + 1 => (Lc (sg_ok (hE k) (segs_ok k) (Lc s0_ev L0)) (Lc (sg_ok (hE k) (segs_ok k) (Lc s1_ev L0)) L0))
theorem ok (k : Nat) : CtOK prog 16 (ct (f k)) := fn_ok func16 rfl (by decide) (hE k) (segs_ok k) (Lc ev L0)
end report_reply
/-! ### report_lines: function 17 (no body) -/
def report_lines.ct (g : List ByteArray → Option ByteArray) : Ct where
  nin := 0
  mv := []
  F := fun tvs blks {β} K => match tvs, blks with
    | [.v (.one (.d (.sl .str) a0))], [] => (g a0).bind fun r => K ⟨.v (.one (.d .str r)), []⟩
    | _, _ => none
  legit := fun _ _ K _ h => by split at h; exact (legit1 K h :); simp at h
section
open Go.Shelf Go.RowKit
def report_lines.L (xs : List ByteArray) : List UInt8 := (xs.map fun s => s.data.toList ++ [10]).flatten
theorem report_lines.take_le (xs : List ByteArray) (k : Nat) : (report_lines.L (xs.take k)).length ≤ (report_lines.L xs).length := by
  have : report_lines.L xs = report_lines.L (xs.take k) ++ report_lines.L (xs.drop k) := by
    unfold report_lines.L
    rw [← List.flatten_append, ← List.map_append, List.take_append_drop]
  rw [this, List.length_append]; omega
theorem report_lines.more (xs : List ByteArray) (k : Nat) (x : ByteArray) (h : xs[k]? = some x) : report_lines.L (xs.take (k + 1)) = report_lines.L (xs.take k) ++ x.data.toList ++ [10] := by
  unfold report_lines.L
  rw [List.take_add_one, h]
  simp
theorem report_lines.many (xs : List ByteArray) (bk o cap : Nat) (w : World) (hcap : xs.length ≤ cap) (hbk : bk < w.heap.size) (hcell : ∀ (j : Nat) x, xs[j]? = some x → w.cell? ⟨bk, o + j, none⟩ = some (.string x)) (h1 : (report_lines.L xs).length ≤ 35184372088832) (h2 : xs.length ≤ 35184372088832) :
    Calls Go.Proofs.Try.prog 17 #[.slice (some ⟨bk, o, none⟩) xs.length cap] w fun e w' => e = .returned (.string ⟨(report_lines.L xs).toArray⟩) ∧ Below w.heap.size w w' := by
  have HC : Hid (∀ (j : Nat) x, xs[j]? = some x → w.cell? ⟨bk, o + j, none⟩ = some (.string x)) := hcell
  have HT : Hid (∀ k, (report_lines.L (xs.take k)).length ≤ 35184372088832) := fun k => Nat.le_trans (report_lines.take_le xs k) h1
  clear hcell h1
  go_enter Go.Proofs.Try.func17, Go.Proofs.Try.ntmps17
  go_wp2_with fail
  have HB0 : Hid (Lib.IsBuilder (shelfR.t 72) (shelfR.t 5) w.heap.size w.heap.size (Lib.byteCells (report_lines.L (xs.take 0))) (w.alloc (.cells #[.pointer none, .slice none 0 0] 90))) := Lib.fresh_isBuilder (shelfR.t 72) (shelfR.t 5) w
  have Hb0 : Hid (Below w.heap.size w (w.alloc (.cells #[.pointer none, .slice none 0 0] 90))) := (Below.refl w.heap.size w).alloc (Nat.le_refl _) _
  go_loopw [8] (fun i wr => ∃ k : Nat, k ≤ xs.length ∧ i = .int .i64 k ∧ Hid (Lib.IsBuilder (shelfR.t 72) (shelfR.t 5) w.heap.size w.heap.size (Lib.byteCells (report_lines.L (xs.take k))) wr) ∧ Hid (Below w.heap.size w wr)) (fun i _ => xs.length - (intOf i).toNat)
  case atStart => exact ⟨0, Nat.zero_le _, rfl, HB0, Hb0⟩
  case round =>
    obtain ⟨k, hk', rfl, HB, HW⟩ := hrel
    by_cases hkr : k < xs.length
    · obtain ⟨y, hy⟩ : ∃ y, xs[k]? = some y := ⟨xs[k], List.getElem?_eq_getElem hkr⟩
      have hcy : wr.cell? ⟨bk, o + k, none⟩ = some (.string y) := by
        rw [HW.out.cell (p := ⟨bk, o + k, none⟩) hbk]
        exact HC.out k y hy
      have hBw : w.heap.size ≤ wr.heap.size := HW.out.size
      have hnext : Lib.byteCells (report_lines.L (xs.take k)) ++ Lib.strCells y ++ Lib.strCells ⟨#[10]⟩ = Lib.byteCells (report_lines.L (xs.take (k + 1))) := by
        rw [report_lines.more xs k y hy, Lib.strCells_eq, Lib.strCells_eq, ← Lib.byteCells_append, ← Lib.byteCells_append]
      have hl1 := HT.out (k + 1)
      rw [report_lines.more xs k y hy] at hl1
      simp only [List.length_append, ← Lib.size_eq, List.length_singleton] at hl1
      have hl0 : (Lib.byteCells (report_lines.L (xs.take k))).length = (report_lines.L (xs.take k)).length := Lib.byteCells_length _
      have Hl0 := Any.hidJ hl0
      have Hl1 := Any.hidJ hl1
      have Hn := Any.hidJ hnext
      clear hnext hy hl0 hl1
      go_wp2_with fail
      refine (Any.Builder_WriteString { shelfL with } shelfX w.heap.size w.heap.size _ y wr HB.out (by rw [Hl0.out]; have := Hl1.out; omega) hBw).mono ?_
      rintro e w3 ⟨rfl, h3, hb3⟩
      have hBw3 : w.heap.size ≤ w3.heap.size := Nat.le_trans hBw hb3.size
      have H3 := Any.hidJ h3
      have Hb3 := Any.hidJ hb3
      clear h3 hb3
      go_wp2_with fail
      refine (Any.Builder_WriteString { shelfL with } shelfX w.heap.size w.heap.size _ ⟨#[10]⟩ w3 (Or.inr H3.out) (by rw [List.length_append, Hl0.out, Lib.strCells_length]; have := Hl1.out; have : (⟨#[10]⟩ : ByteArray).size = 1 := rfl; omega) hBw3).mono ?_
      rintro e w4 ⟨rfl, h4, hb4⟩
      rw [Hn.out] at h4
      have H4 := Any.hidJ (Or.inr h4 : Lib.IsBuilder (shelfR.t 72) (shelfR.t 5) w.heap.size w.heap.size _ w4)
      have Hb4 := Any.hidJ ((HW.out.trans Hb3.out).trans hb4)
      clear h4 hb4
      go_wp2
      exact ⟨⟨k + 1, by omega, by go_num, H4, Hb4⟩, by simp [intOf]; omega⟩
    · have hke : k = xs.length := by omega
      subst hke
      have hfull : xs.take xs.length = xs := List.take_of_length_le (Nat.le_refl _)
      have hB' := HB.out
      rw [hfull] at hB'
      have hBw : w.heap.size ≤ wr.heap.size := HW.out.size
      have HB' := Any.hidJ hB'
      clear hB' hfull
      go_wp2_with fail
      refine (Any.Builder_String_any { shelfL with } shelfX w.heap.size w.heap.size _ wr HB'.out hBw).mono ?_
      rintro e w5 ⟨rfl, hb5⟩
      have Hb5 := Any.hidJ (HW.out.trans hb5)
      clear hb5
      go_wp2
      go_ret
      exact ⟨rfl, Hb5.out⟩
theorem report_lines.calls (v : Value) (xs : List ByteArray) (w : World) (S : Nat → Prop) (h : Rd w S (.sl .str) [v] xs) (hS : ∀ b, S b → b < w.heap.size) (h0 : xs ≠ []) (h1 : (report_lines.L xs).length ≤ 35184372088832) (h2 : xs.length ≤ 35184372088832) :
    Calls Go.Proofs.Try.prog 17 #[v] w fun e w' => e = .returned (.string ⟨(report_lines.L xs).toArray⟩) ∧ Below w.heap.size w w' := by
  rcases rd_texts h hS with ⟨base, cap, rfl, rfl⟩ | ⟨bk, o, cap, rfl, hx, hcap, hbk, hcell⟩
  · exact (h0 rfl).elim
  · exact report_lines.many xs bk o cap w hcap hbk hcell h1 h2
def report_lines.f (k : Nat) (a0 : List ByteArray) : Option ByteArray := if a0 ≠ [] ∧ (report_lines.L a0).length ≤ 35184372088832 ∧ a0.length ≤ 35184372088832 then some ⟨(report_lines.L a0).toArray⟩ else none
theorem report_lines.ok (k : Nat) : CtOK Go.Proofs.Try.prog 17 (report_lines.ct (report_lines.f k)) := by
  intro tvs blks res hF w S ρ H vals hm hv
  simp only [report_lines.ct] at hF
  split at hF
  · rename_i a0
    simp only [report_lines.f] at hF
    split at hF
    · rename_i hc
      simp only [Option.bind_some, Option.some.injEq] at hF
      subst hF
      obtain ⟨v0, m0, rfl, h0, hv⟩ := All2.cons_left hv
      cases All2.nil_left hv
      left
      refine ⟨Go.Proofs.enters_of Go.Proofs.Try.func17 (by kernel_rfl) rfl _ _, (report_lines.calls v0 a0 w S h0 hm.old hc.1 hc.2.1 hc.2.2).mono fun e w' ⟨h1, h2⟩ => ⟨_, S, ρ, H, h1, ?_, rfl⟩⟩
      have : (fun n => ([] : List (Option Blk))[n]?) = live [] := by funext n; simp [live]
      rw [this]; exact hm.below h2
    · simp at hF
  · simp at hF
end

namespace report_Event
def e (r : ByteArray) : Res := ⟨.v (.one (.d .str r)), []⟩
abbrev T (δ : Type) : Type := Int → Int → Int → Int → (List D_api_Op) → (List D_api_Reply) → Option δ
abbrev A {δ : Type} (g : T δ) : Arm δ := ⟨[.s T_api_Event], [], fun x y => g x.1.1.1 x.1.1.2.1 x.1.1.2.2.1 x.1.1.2.2.2.1 x.1.1.2.2.2.2.1 x.1.1.2.2.2.2.2.1⟩
abbrev G : Type := T ByteArray
def ct (g : G) : Ct := mkCt 0 [] [A g] e
abbrev S0 (δ : Type) : Type := ByteArray → Int → Int → Int → Int → Int → Int → Int → Int → Int → (List D_api_Op) → (List D_api_Reply) → Option δ
abbrev A_0 {δ : Type} (s : S0 δ) : Arm δ := ⟨[.k (.ptr 0 0), .d .str, .v (.agg [.g (.int .i64), .g (.int .i64), .g (.int .i64), .g (.int .i64)]), .d (.int .i64)], [.box [.g T_api_Event]], fun x y => s x.2.1 x.2.2.1.1 x.2.2.1.2.1 x.2.2.1.2.2.1 x.2.2.1.2.2.2.1 x.2.2.2.1 y.1.1.1 y.1.1.2.1 y.1.1.2.2.1 y.1.1.2.2.2.1 y.1.1.2.2.2.2.1 y.1.1.2.2.2.2.2.1⟩
abbrev S1 (δ : Type) : Type := (List D_api_Op) → Int → Int → Int → Int → Int → Int → (List D_api_Op) → (List D_api_Reply) → (List ByteArray) → Option δ
abbrev A_1 {δ : Type} (s : S1 δ) : Arm δ := ⟨[.k (.ptr 0 0), .k (.own 1), .d (.sl T_api_Op), .d (.int .i64), .d (.int .i64)], [.box [.g T_api_Event], .own .str false], fun x y => s x.2.2.1 x.2.2.2.1 x.2.2.2.2.1 y.1.1.1 y.1.1.2.1 y.1.1.2.2.1 y.1.1.2.2.2.1 y.1.1.2.2.2.2.1 y.1.1.2.2.2.2.2.1 y.2.1⟩
abbrev S2 (δ : Type) : Type := (List D_api_Op) → Int → Int → Int → Int → Int → Int → (List D_api_Op) → (List D_api_Reply) → (List ByteArray) → Option δ
abbrev A_2 {δ : Type} (s : S2 δ) : Arm δ := ⟨[.k (.ptr 0 0), .k (.own 1), .d (.sl T_api_Op), .d (.int .i64), .d (.int .i64)], [.box [.g T_api_Event], .own .str false], fun x y => s x.2.2.1 x.2.2.2.1 x.2.2.2.2.1 y.1.1.1 y.1.1.2.1 y.1.1.2.2.1 y.1.1.2.2.2.1 y.1.1.2.2.2.2.1 y.1.1.2.2.2.2.2.1 y.2.1⟩
def sg0 (s : S0 ByteArray) : Seg := mkSg [4, 1, 0, 1, 1] [] [1, 3, 17, 18] [A_0 s] e
def sg1 (s : S1 ByteArray) : Seg := mkSg [4, 1, 0, 1, 1, 1, 1] [.own 6 .str] [1, 6, 30, 31, 32] [A_1 s] e
def sg2 (s : S2 ByteArray) : Seg := mkSg [1, 1, 1, 5, 4, 1, 0, 1, 1, 1, 1] [] [1, 6, 30, 31, 32] [A_2 s] e
section
variable {β : Type} (g13 : convert_Digits.G) (g14 : report_or.G) (g15 : story_Line.G) (g16 : report_reply.G) (g17 : List ByteArray → Option ByteArray) (s0 : S0 ByteArray) (s1 : S1 ByteArray) (s2 : S2 ByteArray)
noncomputable abbrev env : FEnv := mkEnv prog f6 [(13, convert_Digits.ct g13), (14, report_or.ct g14), (15, story_Line.ct g15), (16, report_reply.ct g16), (17, report_lines.ct g17)] 0 [] [sg0 s0, sg1 s1, sg2 s2]
def c (ret : ByteArray → Option β) (a0 : Int) (a1 : Int) (a2 : Int) (a3 : Int) (a4 : List D_api_Op) (a5 : List D_api_Reply) : Option β := ((s0 (ByteArray.mk (List.toArray [(101 : UInt8), (118 : UInt8), (101 : UInt8), (110 : UInt8), (116 : UInt8)])) a0 a1 a2 a3 (0 : Int) a0 a1 a2 a3 a4 a5).bind ret)
def s0c (ret : ByteArray → Option β) (x0 : ByteArray) (x1 : Int) (x2 : Int) (x3 : Int) (x4 : Int) (x5 : Int) (x6 : Int) (x7 : Int) (x8 : Int) (x9 : Int) (x10 : List D_api_Op) (x11 : List D_api_Reply) : Option β := (bif (decide (x5 < (4 : Int))) then (bif ((decide ((0 : Int) ≤ x5)) && (decide (x5 < (4 : Int)))) then ((g13 (bif (decide (x5 = (0 : Int))) then x1 else (bif (decide (x5 = (1 : Int))) then x2 else (bif (decide (x5 = (2 : Int))) then x3 else x4)))).bind fun r0 => (bif (true && (decide (r0.size ≤ (4611686018427387903 : Nat)))) then (bif ((decide (x0.size ≤ (4611686018427387903 : Nat))) && (decide ((ByteArray.size ((ByteArray.mk (List.toArray [(32 : UInt8)])) ++ r0)) ≤ (4611686018427387903 : Nat)))) then ((s0 (x0 ++ ((ByteArray.mk (List.toArray [(32 : UInt8)])) ++ r0)) x1 x2 x3 x4 (IntKind.wrap .i64 (x5 + (1 : Int))) x6 x7 x8 x9 x10 x11).bind ret) else none) else none)) else none) else ((s1 x10 (x10.length : Int) (0 : Int) x6 x7 x8 x9 x10 x11 [x0]).bind ret))
def s1c (ret : ByteArray → Option β) (x0 : List D_api_Op) (x1 : Int) (x2 : Int) (x3 : Int) (x4 : Int) (x5 : Int) (x6 : Int) (x7 : List D_api_Op) (x8 : List D_api_Reply) (x9 : List ByteArray) : Option β := (bif (decide (x2 < x1)) then (bif ((decide ((0 : Int) ≤ x2)) && (decide (x2 < (x0.length : Int)))) then ((g15 ((1 : Int), (x3, ((elem T_api_Op x0 x2), ())))).bind fun r0 => ((g14 r0.1 r0.2).bind fun r1 => (bif (true && (decide (r1.size ≤ (4611686018427387903 : Nat)))) then (bif (decide (((x9.length + (1 : Nat)) * (16 : Nat)) ≤ (35184372088832 : Nat))) then (bif (decide (x2 < (x8.length : Int))) then (bif ((decide ((0 : Int) ≤ x2)) && (decide (x2 < (x8.length : Int)))) then ((g16 (elem T_api_Reply x8 x2).1 (elem T_api_Reply x8 x2).2.1).bind fun r2 => (bif (decide ((((List.length (x9 ++ [((ByteArray.mk (List.toArray [(32 : UInt8), (32 : UInt8)])) ++ r1)])) + (1 : Nat)) * (16 : Nat)) ≤ (35184372088832 : Nat))) then ((s2 x0 x1 x2 x3 x4 x5 x6 x7 x8 ((x9 ++ [((ByteArray.mk (List.toArray [(32 : UInt8), (32 : UInt8)])) ++ r1)]) ++ [r2])).bind ret) else none)) else none) else ((s2 x0 x1 x2 x3 x4 x5 x6 x7 x8 (x9 ++ [((ByteArray.mk (List.toArray [(32 : UInt8), (32 : UInt8)])) ++ r1)])).bind ret)) else none) else none))) else none) else ((g17 x9).bind fun r3 => (ret (r3))))
def s2c (ret : ByteArray → Option β) (x0 : List D_api_Op) (x1 : Int) (x2 : Int) (x3 : Int) (x4 : Int) (x5 : Int) (x6 : Int) (x7 : List D_api_Op) (x8 : List D_api_Reply) (x9 : List ByteArray) : Option β := ((s1 x0 x1 (IntKind.wrap .i64 (x2 + (1 : Int))) x3 x4 x5 x6 x7 x8 x9).bind ret)
variable {g13} {g14} {g15} {g16} {g17} {s0} {s1} {s2}
theorem ev : EvA (env g13 g14 g15 g16 g17 s0 s1 s2) [] [0] e (A (c s0 some)) := fun x y => Eq.trans (b := (A (c s0 fun r => some (e r))).G x y) (by kernel_rfl) (by simp only [A, c, bif_bind, sum_bind, oa, os, on, ofs])
theorem s0_ev : EvA (env g13 g14 g15 g16 g17 s0 s1 s2) [4, 1, 0, 1, 1] [1, 3, 17, 18] e (A_0 (s0c g13 s0 s1 some)) := fun x y => Eq.trans (b := (A_0 (s0c g13 s0 s1 fun r => some (e r))).G x y) (by kernel_rfl) (by simp only [A_0, s0c, bif_bind, sum_bind, oa, os, on, ofs])
theorem s1_ev : EvA (env g13 g14 g15 g16 g17 s0 s1 s2) [4, 1, 0, 1, 1, 1, 1] [1, 6, 30, 31, 32] e (A_1 (s1c g14 g15 g16 g17 s2 some)) := fun x y => Eq.trans (b := (A_1 (s1c g14 g15 g16 g17 s2 fun r => some (e r))).G x y) (by kernel_rfl) (by simp only [A_1, s1c, bif_bind, sum_bind, oa, os, on, ofs])
theorem s2_ev : EvA (env g13 g14 g15 g16 g17 s0 s1 s2) [1, 1, 1, 5, 4, 1, 0, 1, 1, 1, 1] [1, 6, 30, 31, 32] e (A_2 (s2c s1 some)) := fun x y => Eq.trans (b := (A_2 (s2c s1 fun r => some (e r))).G x y) (by kernel_rfl) (by simp only [A_2, s2c, bif_bind, sum_bind, oa, os, on, ofs])
end
mutual
def s0 : Nat → S0 ByteArray
  | 0, _, _, _, _, _, _, _, _, _, _, _, _ => none
  | k + 1, x0, x1, x2, x3, x4, x5, x6, x7, x8, x9, x10, x11 => s0c (convert_Digits.f k) (s0 k) (s1 k) some x0 x1 x2 x3 x4 x5 x6 x7 x8 x9 x10 x11
def s1 : Nat → S1 ByteArray
  | 0, _, _, _, _, _, _, _, _, _, _ => none
  | k + 1, x0, x1, x2, x3, x4, x5, x6, x7, x8, x9 => s1c (report_or.f k) (story_Line.f k) (report_reply.f k) (report_lines.f k) (s2 k) some x0 x1 x2 x3 x4 x5 x6 x7 x8 x9
def s2 : Nat → S2 ByteArray
  | 0, _, _, _, _, _, _, _, _, _, _ => none
  | k + 1, x0, x1, x2, x3, x4, x5, x6, x7, x8, x9 => s2c (s1 k) some x0 x1 x2 x3 x4 x5 x6 x7 x8 x9
end
def f (k : Nat) (a0 : Int) (a1 : Int) (a2 : Int) (a3 : Int) (a4 : List D_api_Op) (a5 : List D_api_Reply) : Option ByteArray := c (s0 k) some a0 a1 a2 a3 a4 a5
noncomputable abbrev E (k : Nat) : FEnv := env (convert_Digits.f k) (report_or.f k) (story_Line.f k) (report_reply.f k) (report_lines.f k) (s0 k) (s1 k) (s2 k)
theorem hE (k : Nat) : EnvOK (E k).toEnv := ctsOK (Lc (convert_Digits.ok k) (Lc (report_or.ok k) (Lc (story_Line.ok k) (Lc (report_reply.ok k) (Lc (report_lines.ok k) L0)))))
theorem segs_ok : ∀ k, ∀ s ∈ [sg0 (s0 k), sg1 (s1 k), sg2 (s2 k)], SegB prog f6 0 s
  | 0 => (Lc (sg_none (Lc (fun _ _ => rfl) L0)) (Lc (sg_none (Lc (fun _ _ => rfl) L0)) (Lc (sg_none (Lc (fun _ _ => rfl) L0)) L0)))
  | k + 1 => (Lc (sg_ok (hE k) (segs_ok k) (Lc s0_ev L0)) (Lc (sg_ok (hE k) (segs_ok k) (Lc s1_ev L0)) (Lc (sg_ok (hE k) (segs_ok k) (Lc s2_ev L0)) L0)))
theorem ok (k : Nat) : CtOK prog 6 (ct (f k)) := fn_ok func6 rfl (by decide) (hE k) (segs_ok k) (Lc ev L0)
end report_Event
namespace report_Told
def e (r : ByteArray) : Res := ⟨.v (.one (.d .str r)), []⟩
abbrev T (δ : Type) : Type := Bool → Int → (List (List D_api_Value)) → Option δ
abbrev A {δ : Type} (g : T δ) : Arm δ := ⟨[.s T_api_Told], [], fun x y => g x.1.1.1 x.1.1.2.1.1 x.1.1.2.1.2.1⟩
abbrev G : Type := T ByteArray
def ct (g : G) : Ct := mkCt 0 [] [A g] e
section
variable {β : Type} (g16 : report_reply.G) (g17 : List ByteArray → Option ByteArray)
noncomputable abbrev env : FEnv := mkEnv prog f8 [(16, report_reply.ct g16), (17, report_lines.ct g17)] 0 [] []
def c (ret : ByteArray → Option β) (a0 : Bool) (a1 : Int) (a2 : List (List D_api_Value)) : Option β := (bif (!a0) then ((g17 [(ByteArray.mk (List.toArray [(110 : UInt8), (111 : UInt8), (116 : UInt8), (32 : UInt8), (121 : UInt8), (101 : UInt8), (116 : UInt8)]))]).bind fun r0 => (ret (r0))) else ((g16 a1 a2).bind fun r1 => ((g17 [r1]).bind fun r2 => (ret (r2)))))
variable {g16} {g17}
theorem ev : EvA (env g16 g17) [] [0] e (A (c g16 g17 some)) := fun x y => Eq.trans (b := (A (c g16 g17 fun r => some (e r))).G x y) (by kernel_rfl) (by simp only [A, c, bif_bind, sum_bind, oa, os, on, ofs])
end
def f (k : Nat) (a0 : Bool) (a1 : Int) (a2 : List (List D_api_Value)) : Option ByteArray := c (report_reply.f k) (report_lines.f k) some a0 a1 a2
noncomputable abbrev E (k : Nat) : FEnv := env (report_reply.f k) (report_lines.f k) 
theorem hE (k : Nat) : EnvOK (E k).toEnv := ctsOK (Lc (report_reply.ok k) (Lc (report_lines.ok k) L0))
theorem ok (k : Nat) : CtOK prog 8 (ct (f k)) := fn_ok func8 rfl (by decide) (hE k) L0 (Lc ev L0)
end report_Told
namespace story_Change
abbrev R : Type := ByteArray × Int
def e (r : R) : Res := ⟨.tup [(.one (.d .str r.1)), (.one (.d (.int .i64) r.2))], []⟩
abbrev T (δ : Type) : Type := D_api_Change → Option δ
abbrev A {δ : Type} (g : T δ) : Arm δ := ⟨[.s T_api_Change], [], fun x y => g x.1.1⟩
abbrev G : Type := T R
def ct (g : G) : Ct := mkCt 0 [] [A g] e
section
variable {β : Type} (g31_0 : story_writer_text.G0) (g31_1 : story_writer_text.G1) (g40_0 : story_writer_change.G0) (g40_1 : story_writer_change.G1)
noncomputable abbrev env : FEnv := mkEnv prog f23 [(31, story_writer_text.ct g31_0 g31_1), (40, story_writer_change.ct g40_0 g40_1)] 0 [] []
def c (ret : R → Option β) (a0 : D_api_Change) : Option β := ((g40_1 a0 (0 : Int)).bind fun r0 => (Sum.elim (fun r1 => ((g31_0 r1.1 r1.2).bind fun r2 => (Sum.elim (fun r3 => (ret (r3.1, r3.2.1))) (fun r4 => (ret (r4.1, r4.2.1))) r2))) (fun r5 => ((g31_1 r5).bind fun r6 => (Sum.elim (fun r7 => (ret (r7.1, r7.2.1))) (fun r8 => (ret (r8.1, r8.2.1))) r6))) r0))
variable {g31_0} {g31_1} {g40_0} {g40_1}
theorem ev : EvA (env g31_0 g31_1 g40_0 g40_1) [] [0] e (A (c g31_0 g31_1 g40_1 some)) := fun x y => Eq.trans (b := (A (c g31_0 g31_1 g40_1 fun r => some (e r))).G x y) (by kernel_rfl) (by simp only [A, c, bif_bind, sum_bind, oa, os, on, ofs])
end
def f (k : Nat) (a0 : D_api_Change) : Option R := c (story_writer_text.f0 k) (story_writer_text.f1 k) (story_writer_change.f1 k) some a0
noncomputable abbrev E (k : Nat) : FEnv := env (story_writer_text.f0 k) (story_writer_text.f1 k) (story_writer_change.f0 k) (story_writer_change.f1 k) 
theorem hE (k : Nat) : EnvOK (E k).toEnv := ctsOK (Lc (story_writer_text.ok k) (Lc (story_writer_change.ok k) L0))
theorem ok (k : Nat) : CtOK prog 23 (ct (f k)) := fn_ok func23 rfl (by decide) (hE k) L0 (Lc ev L0)
end story_Change
namespace report_Sheet
def e (r : ByteArray) : Res := ⟨.v (.one (.d .str r)), []⟩
abbrev T (δ : Type) : Type := ByteArray → Int → (List D_api_Col) → (List D_api_Line) → Option δ
abbrev A {δ : Type} (g : T δ) : Arm δ := ⟨[.s T_api_Sheet], [], fun x y => g x.1.1.1.1 x.1.1.1.2.1 x.1.1.1.2.2.1 x.1.1.2.1⟩
abbrev G : Type := T ByteArray
def ct (g : G) : Ct := mkCt 0 [] [A g] e
abbrev S0 (δ : Type) : Type := (List D_api_Line) → Int → Int → (List ByteArray) → Option δ
abbrev A_0 {δ : Type} (s : S0 δ) : Arm δ := ⟨[.k (.own 0), .d (.sl T_api_Line), .d (.int .i64), .d (.int .i64)], [.own .str false], fun x y => s x.2.1 x.2.2.1 x.2.2.2.1 y.1⟩
def sg0 (s : S0 ByteArray) : Seg := mkSg [4, 1, 0, 1, 1] [.own 3 .str] [3, 15, 16, 17] [A_0 s] e
section
variable {β : Type} (g14 : report_or.G) (g17 : List ByteArray → Option ByteArray) (g23 : story_Change.G) (g24 : List ByteArray → ByteArray → Option ByteArray) (g25 : report_row.G) (s0 : S0 ByteArray)
noncomputable abbrev env : FEnv := mkEnv prog f11 [(14, report_or.ct g14), (17, report_lines.ct g17), (23, story_Change.ct g23), (24, strings_Join.ct g24), (25, report_row.ct g25)] 0 [] [sg0 s0]
def c (ret : ByteArray → Option β) (a0 : ByteArray) (a1 : Int) (a2 : List D_api_Col) (a3 : List D_api_Line) : Option β := ((g23 ((1 : Int), ((ByteArray.mk (List.toArray [])), ((ByteArray.mk (List.toArray [])), ((ByteArray.mk (List.toArray [])), ((ByteArray.mk (List.toArray [])), ((ByteArray.mk (List.toArray [])), ((0 : Int), ([], (((ByteArray.mk (List.toArray [])), ((0 : Int), (false, (((0 : Int), ((0 : Int), ((0 : Int), ((ByteArray.mk (List.toArray [])), ())))), ())))), ((a0, (a1, (a2, ()))), ()))))))))))).bind fun r0 => ((g14 r0.1 r0.2).bind fun r1 => ((s0 a3 (a3.length : Int) (0 : Int) [r1]).bind ret)))
def s0c (ret : ByteArray → Option β) (x0 : List D_api_Line) (x1 : Int) (x2 : Int) (x3 : List ByteArray) : Option β := (bif (decide (x2 < x1)) then (bif ((decide ((0 : Int) ≤ x2)) && (decide (x2 < (x0.length : Int)))) then ((g25 (elem T_api_Line x0 x2).2.1).bind fun r0 => ((g24 r0 (ByteArray.mk (List.toArray [(32 : UInt8)]))).bind fun r1 => (bif (true && (decide (r1.size ≤ (4611686018427387903 : Nat)))) then (bif (decide (((x3.length + (1 : Nat)) * (16 : Nat)) ≤ (35184372088832 : Nat))) then ((s0 x0 x1 (IntKind.wrap .i64 (x2 + (1 : Int))) (x3 ++ [((ByteArray.mk (List.toArray [(32 : UInt8), (32 : UInt8)])) ++ r1)])).bind ret) else none) else none))) else none) else ((g17 x3).bind fun r2 => (ret (r2))))
variable {g14} {g17} {g23} {g24} {g25} {s0}
theorem ev : EvA (env g14 g17 g23 g24 g25 s0) [] [0] e (A (c g14 g23 s0 some)) := fun x y => Eq.trans (b := (A (c g14 g23 s0 fun r => some (e r))).G x y) (by kernel_rfl) (by simp only [A, c, bif_bind, sum_bind, oa, os, on, ofs])
theorem s0_ev : EvA (env g14 g17 g23 g24 g25 s0) [4, 1, 0, 1, 1] [3, 15, 16, 17] e (A_0 (s0c g17 g24 g25 s0 some)) := fun x y => Eq.trans (b := (A_0 (s0c g17 g24 g25 s0 fun r => some (e r))).G x y) (by kernel_rfl) (by simp only [A_0, s0c, bif_bind, sum_bind, oa, os, on, ofs])
end
def s0 : Nat → S0 ByteArray
  | 0, _, _, _, _ => none
  | k + 1, x0, x1, x2, x3 => s0c (report_lines.f k) (strings_Join.f k) (report_row.f k) (s0 k) some x0 x1 x2 x3
def f (k : Nat) (a0 : ByteArray) (a1 : Int) (a2 : List D_api_Col) (a3 : List D_api_Line) : Option ByteArray := c (report_or.f k) (story_Change.f k) (s0 k) some a0 a1 a2 a3
noncomputable abbrev E (k : Nat) : FEnv := env (report_or.f k) (report_lines.f k) (story_Change.f k) (strings_Join.f k) (report_row.f k) (s0 k)
theorem hE (k : Nat) : EnvOK (E k).toEnv := ctsOK (Lc (report_or.ok k) (Lc (report_lines.ok k) (Lc (story_Change.ok k) (Lc (strings_Join.ok k) (Lc (report_row.ok k) L0)))))
theorem segs_ok : ∀ k, ∀ s ∈ [sg0 (s0 k)], SegB prog f11 0 s
  | 0 => (Lc (sg_none (Lc (fun _ _ => rfl) L0)) L0)
  | k + 1 => (Lc (sg_ok (hE k) (segs_ok k) (Lc s0_ev L0)) L0)
theorem ok (k : Nat) : CtOK prog 11 (ct (f k)) := fn_ok func11 rfl (by decide) (hE k) (segs_ok k) (Lc ev L0)
end report_Sheet
namespace report_Sheets
def e (r : ByteArray) : Res := ⟨.v (.one (.d .str r)), []⟩
abbrev T (δ : Type) : Type := (List D_api_Sheet) → Option δ
abbrev A {δ : Type} (g : T δ) : Arm δ := ⟨[.d (.sl T_api_Sheet)], [], fun x y => g x.1⟩
abbrev G : Type := T ByteArray
def ct (g : G) : Ct := mkCt 0 [] [A g] e
abbrev S0 (δ : Type) : Type := ByteArray → (List D_api_Sheet) → Int → Int → Option δ
abbrev A_0 {δ : Type} (s : S0 δ) : Arm δ := ⟨[.d .str, .d (.sl T_api_Sheet), .d (.int .i64), .d (.int .i64)], [], fun x y => s x.1 x.2.1 x.2.2.1 x.2.2.2.1⟩
def sg0 (s : S0 ByteArray) : Seg := mkSg [4, 1, 0, 1, 1] [] [3, 6, 7, 8] [A_0 s] e
section
variable {β : Type} (g11 : report_Sheet.G) (s0 : S0 ByteArray)
noncomputable abbrev env : FEnv := mkEnv prog f12 [(11, report_Sheet.ct g11)] 0 [] [sg0 s0]
def c (ret : ByteArray → Option β) (a0 : List D_api_Sheet) : Option β := ((s0 (ByteArray.mk (List.toArray [])) a0 (a0.length : Int) (0 : Int)).bind ret)
def s0c (ret : ByteArray → Option β) (x0 : ByteArray) (x1 : List D_api_Sheet) (x2 : Int) (x3 : Int) : Option β := (bif (decide (x3 < x2)) then (bif ((decide ((0 : Int) ≤ x3)) && (decide (x3 < (x1.length : Int)))) then ((g11 (elem T_api_Sheet x1 x3).1.1 (elem T_api_Sheet x1 x3).1.2.1 (elem T_api_Sheet x1 x3).1.2.2.1 (elem T_api_Sheet x1 x3).2.1).bind fun r0 => (bif ((decide (x0.size ≤ (4611686018427387903 : Nat))) && (decide (r0.size ≤ (4611686018427387903 : Nat)))) then ((s0 (x0 ++ r0) x1 x2 (IntKind.wrap .i64 (x3 + (1 : Int)))).bind ret) else none)) else none) else (ret (x0)))
variable {g11} {s0}
theorem ev : EvA (env g11 s0) [] [0] e (A (c s0 some)) := fun x y => Eq.trans (b := (A (c s0 fun r => some (e r))).G x y) (by kernel_rfl) (by simp only [A, c, bif_bind, sum_bind, oa, os, on, ofs])
theorem s0_ev : EvA (env g11 s0) [4, 1, 0, 1, 1] [3, 6, 7, 8] e (A_0 (s0c g11 s0 some)) := fun x y => Eq.trans (b := (A_0 (s0c g11 s0 fun r => some (e r))).G x y) (by kernel_rfl) (by simp only [A_0, s0c, bif_bind, sum_bind, oa, os, on, ofs])
end
def s0 : Nat → S0 ByteArray
  | 0, _, _, _, _ => none
  | k + 1, x0, x1, x2, x3 => s0c (report_Sheet.f k) (s0 k) some x0 x1 x2 x3
def f (k : Nat) (a0 : List D_api_Sheet) : Option ByteArray := c (s0 k) some a0
noncomputable abbrev E (k : Nat) : FEnv := env (report_Sheet.f k) (s0 k)
theorem hE (k : Nat) : EnvOK (E k).toEnv := ctsOK (Lc (report_Sheet.ok k) L0)
theorem segs_ok : ∀ k, ∀ s ∈ [sg0 (s0 k)], SegB prog f12 0 s
  | 0 => (Lc (sg_none (Lc (fun _ _ => rfl) L0)) L0)
  | k + 1 => (Lc (sg_ok (hE k) (segs_ok k) (Lc s0_ev L0)) L0)
theorem ok (k : Nat) : CtOK prog 12 (ct (f k)) := fn_ok func12 rfl (by decide) (hE k) (segs_ok k) (Lc ev L0)
end report_Sheets
namespace transomlaw42_awake
def e (r : Bool) : Res := ⟨.v (.one (.d .bool r)), []⟩
abbrev T (δ : Type) : Type := Option δ
abbrev A {δ : Type} (g : T δ) : Arm δ := ⟨[], [], fun x y => g⟩
abbrev G : Type := T Bool
def ct (g : G) : Ct := mkCt 0 [] [A g] e
section
variable {β : Type} (g6 : report_Event.G) (g8 : report_Told.G) (g11 : report_Sheet.G) (g12 : report_Sheets.G)
noncomputable abbrev env : FEnv := mkEnv prog f5 [(6, report_Event.ct g6), (8, report_Told.ct g8), (11, report_Sheet.ct g11), (12, report_Sheets.ct g12)] 0 [] []
def c (ret : Bool → Option β)  : Option β := ((g8 true (0 : Int) [[((2 : Int), ((1 : Int), ((0 : Int), ((ByteArray.mk (List.toArray [])), ())))), ((0 : Int), ((0 : Int), ((0 : Int), ((ByteArray.mk (List.toArray [])), ()))))]]).bind fun r0 => (bif (r0.toList == (ByteArray.toList (ByteArray.mk (List.toArray [(111 : UInt8), (107 : UInt8), (32 : UInt8), (124 : UInt8), (32 : UInt8), (49 : UInt8), (32 : UInt8), (110 : UInt8), (117 : UInt8), (108 : UInt8), (108 : UInt8), (10 : UInt8)])))) then ((g8 false (0 : Int) []).bind fun r1 => (bif (r1.toList == (ByteArray.toList (ByteArray.mk (List.toArray [(110 : UInt8), (111 : UInt8), (116 : UInt8), (32 : UInt8), (121 : UInt8), (101 : UInt8), (116 : UInt8), (10 : UInt8)])))) then ((g8 true (13 : Int) []).bind fun r2 => (bif (r2.toList == (ByteArray.toList (ByteArray.mk (List.toArray [(101 : UInt8), (114 : UInt8), (114 : UInt8), (111 : UInt8), (114 : UInt8), (32 : UInt8), (49 : UInt8), (51 : UInt8), (10 : UInt8)])))) then ((g11 (ByteArray.mk (List.toArray [(116 : UInt8)])) (1 : Int) [((ByteArray.mk (List.toArray [(107 : UInt8)])), ((2 : Int), (false, (((0 : Int), ((0 : Int), ((0 : Int), ((ByteArray.mk (List.toArray [])), ())))), ()))))] [((ByteArray.mk (List.toArray [])), ((List.take (1 : Nat) (List.drop (0 : Nat) [((2 : Int), ((1 : Int), ((0 : Int), ((ByteArray.mk (List.toArray [])), ())))), ((0 : Int), ((0 : Int), ((0 : Int), ((ByteArray.mk (List.toArray [])), ()))))])), ()))]).bind fun r3 => (bif (r3.toList == (ByteArray.toList (ByteArray.mk (List.toArray [(99 : UInt8), (114 : UInt8), (101 : UInt8), (97 : UInt8), (116 : UInt8), (101 : UInt8), (32 : UInt8), (116 : UInt8), (32 : UInt8), (49 : UInt8), (32 : UInt8), (107 : UInt8), (32 : UInt8), (105 : UInt8), (110 : UInt8), (116 : UInt8), (32 : UInt8), (115 : UInt8), (101 : UInt8), (116 : UInt8), (32 : UInt8), (110 : UInt8), (117 : UInt8), (108 : UInt8), (108 : UInt8), (10 : UInt8), (32 : UInt8), (32 : UInt8), (49 : UInt8), (10 : UInt8)])))) then ((g6 (1 : Int) (0 : Int) (0 : Int) (8 : Int) [((7 : Int), ((ByteArray.mk (List.toArray [])), ([], ([], ([], ((0 : Int), (Z_api_Change, ())))))))] []).bind fun r4 => (bif (r4.toList == (ByteArray.toList (ByteArray.mk (List.toArray [(101 : UInt8), (118 : UInt8), (101 : UInt8), (110 : UInt8), (116 : UInt8), (32 : UInt8), (49 : UInt8), (32 : UInt8), (48 : UInt8), (32 : UInt8), (48 : UInt8), (32 : UInt8), (56 : UInt8), (10 : UInt8), (32 : UInt8), (32 : UInt8), (97 : UInt8), (115 : UInt8), (107 : UInt8), (32 : UInt8), (49 : UInt8), (32 : UInt8), (98 : UInt8), (101 : UInt8), (103 : UInt8), (105 : UInt8), (110 : UInt8), (10 : UInt8)])))) then ((g12 []).bind fun r5 => (ret ((r5.toList == (ByteArray.toList (ByteArray.mk (List.toArray []))))))) else (ret (false)))) else (ret (false)))) else (ret (false)))) else (ret (false)))) else (ret (false))))
variable {g6} {g8} {g11} {g12}
theorem ev : EvA (env g6 g8 g11 g12) [] [] e (A (c g6 g8 g11 g12 some)) := fun x y => Eq.trans (b := (A (c g6 g8 g11 g12 fun r => some (e r))).G x y) (by kernel_rfl) (by simp only [A, c, bif_bind, sum_bind, oa, os, on, ofs])
end
def f (k : Nat)  : Option Bool := c (report_Event.f k) (report_Told.f k) (report_Sheet.f k) (report_Sheets.f k) some 
noncomputable abbrev E (k : Nat) : FEnv := env (report_Event.f k) (report_Told.f k) (report_Sheet.f k) (report_Sheets.f k) 
theorem hE (k : Nat) : EnvOK (E k).toEnv := ctsOK (Lc (report_Event.ok k) (Lc (report_Told.ok k) (Lc (report_Sheet.ok k) (Lc (report_Sheets.ok k) L0))))
theorem ok (k : Nat) : CtOK prog 5 (ct (f k)) := fn_ok func5 rfl (by decide) (hE k) L0 (Lc ev L0)
end transomlaw42_awake
namespace transomref07_Digits
def e (r : ByteArray) : Res := ⟨.v (.one (.d .str r)), []⟩
abbrev T (δ : Type) : Type := Int → Option δ
abbrev A {δ : Type} (g : T δ) : Arm δ := ⟨[.d (.int .i64)], [], fun x y => g x.1⟩
abbrev G : Type := T ByteArray
def ct (g : G) : Ct := mkCt 0 [] [A g] e
abbrev S0 (δ : Type) : Type := Int → Int → Option δ
abbrev A_0 {δ : Type} (s : S0 δ) : Arm δ := ⟨[.d (.int .i64), .d (.int .u64)], [], fun x y => s x.1 x.2.1⟩
abbrev S1 (δ : Type) : Type := Int → Int → ByteArray → Option δ
abbrev A_1 {δ : Type} (s : S1 δ) : Arm δ := ⟨[.d (.int .i64), .d (.int .u64), .d .str], [], fun x y => s x.1 x.2.1 x.2.2.1⟩
def sg0 (s : S0 ByteArray) : Seg := mkSg [1, 1, 1] [] [0, 3] [A_0 s] e
def sg1 (s : S1 ByteArray) : Seg := mkSg [4, 0, 1, 1, 1, 1] [] [0, 3, 4] [A_1 s] e
section
variable {β : Type} (s0 : S0 ByteArray) (s1 : S1 ByteArray)
noncomputable abbrev env : FEnv := mkEnv prog f18 [] 0 [] [sg0 s0, sg1 s1]
def c (ret : ByteArray → Option β) (a0 : Int) : Option β := (bif (decide (a0 < (0 : Int))) then ((s0 a0 (IntKind.wrap .u64 ((0 : Int) - (IntKind.wrap .u64 a0)))).bind ret) else ((s0 a0 (IntKind.wrap .u64 a0)).bind ret))
def s0c (ret : ByteArray → Option β) (x0 : Int) (x1 : Int) : Option β := ((s1 x0 x1 (ByteArray.mk (List.toArray []))).bind ret)
def s1c (ret : ByteArray → Option β) (x0 : Int) (x1 : Int) (x2 : ByteArray) : Option β := (bif (decide (x1 ≥ (10 : Int))) then (bif (true && (decide (x2.size ≤ (4611686018427387903 : Nat)))) then ((s1 x0 (IntKind.wrap .u64 (Int.tdiv x1 (10 : Int))) ((ByteArray.mk (List.toArray (List.map (fun n => (UInt8.ofNat (Int.toNat n))) [(IntKind.wrap .u8 (IntKind.wrap .u64 ((48 : Int) + (Int.tmod x1 (10 : Int)))))]))) ++ x2)).bind ret) else none) else (bif (true && (decide (x2.size ≤ (4611686018427387903 : Nat)))) then (bif (decide (x0 < (0 : Int))) then (bif (true && (decide ((ByteArray.size ((ByteArray.mk (List.toArray (List.map (fun n => (UInt8.ofNat (Int.toNat n))) [(IntKind.wrap .u8 (IntKind.wrap .u64 ((48 : Int) + x1)))]))) ++ x2)) ≤ (4611686018427387903 : Nat)))) then (ret (((ByteArray.mk (List.toArray [(45 : UInt8)])) ++ ((ByteArray.mk (List.toArray (List.map (fun n => (UInt8.ofNat (Int.toNat n))) [(IntKind.wrap .u8 (IntKind.wrap .u64 ((48 : Int) + x1)))]))) ++ x2)))) else none) else (ret (((ByteArray.mk (List.toArray (List.map (fun n => (UInt8.ofNat (Int.toNat n))) [(IntKind.wrap .u8 (IntKind.wrap .u64 ((48 : Int) + x1)))]))) ++ x2)))) else none))
variable {s0} {s1}
theorem ev : EvA (env s0 s1) [] [0] e (A (c s0 some)) := fun x y => Eq.trans (b := (A (c s0 fun r => some (e r))).G x y) (by kernel_rfl) (by simp only [A, c, bif_bind, sum_bind, oa, os, on, ofs])
theorem s0_ev : EvA (env s0 s1) [1, 1, 1] [0, 3] e (A_0 (s0c s1 some)) := fun x y => Eq.trans (b := (A_0 (s0c s1 fun r => some (e r))).G x y) (by kernel_rfl) (by simp only [A_0, s0c, bif_bind, sum_bind, oa, os, on, ofs])
theorem s1_ev : EvA (env s0 s1) [4, 0, 1, 1, 1, 1] [0, 3, 4] e (A_1 (s1c s1 some)) := fun x y => Eq.trans (b := (A_1 (s1c s1 fun r => some (e r))).G x y) (by kernel_rfl) (by simp only [A_1, s1c, bif_bind, sum_bind, oa, os, on, ofs])
end
mutual
def s0 : Nat → S0 ByteArray
  | 0, _, _ => none
  | k + 1, x0, x1 => s0c (s1 k) some x0 x1
def s1 : Nat → S1 ByteArray
  | 0, _, _, _ => none
  | k + 1, x0, x1, x2 => s1c (s1 k) some x0 x1 x2
end
def f (k : Nat) (a0 : Int) : Option ByteArray := c (s0 k) some a0
noncomputable abbrev E (k : Nat) : FEnv := env  (s0 k) (s1 k)
theorem hE (k : Nat) : EnvOK (E k).toEnv := ctsOK L0
theorem segs_ok : ∀ k, ∀ s ∈ [sg0 (s0 k), sg1 (s1 k)], SegB prog f18 0 s
  | 0 => (Lc (sg_none (Lc (fun _ _ => rfl) L0)) (Lc (sg_none (Lc (fun _ _ => rfl) L0)) L0))
  | k + 1 => (Lc (sg_ok (hE k) (segs_ok k) (Lc s0_ev L0)) (Lc (sg_ok (hE k) (segs_ok k) (Lc s1_ev L0)) L0))
theorem ok (k : Nat) : CtOK prog 18 (ct (f k)) := fn_ok func18 rfl (by decide) (hE k) (segs_ok k) (Lc ev L0)
end transomref07_Digits
namespace transomref37_small
abbrev R : Type := ByteArray × Int
def e (r : R) : Res := ⟨.tup [(.one (.d .str r.1)), (.one (.d (.int .i64) r.2))], []⟩
abbrev T (δ : Type) : Type := Int → Option δ
abbrev A {δ : Type} (g : T δ) : Arm δ := ⟨[.d (.int .i64)], [], fun x y => g x.1⟩
abbrev G : Type := T R
def ct (g : G) : Ct := mkCt 0 [] [A g] e
section
variable {β : Type} (g18 : transomref07_Digits.G)
noncomputable abbrev env : FEnv := mkEnv prog f34 [(18, transomref07_Digits.ct g18)] 0 [] []
def c (ret : R → Option β) (a0 : Int) : Option β := (bif (decide (a0 < (0 : Int))) then (ret ((ByteArray.mk (List.toArray [])), (1 : Int))) else (bif (decide (a0 > (1000 : Int))) then (ret ((ByteArray.mk (List.toArray [])), (1 : Int))) else ((g18 a0).bind fun r0 => (bif (true && (decide (r0.size ≤ (4611686018427387903 : Nat)))) then (ret (((ByteArray.mk (List.toArray [(32 : UInt8)])) ++ r0), (0 : Int))) else none))))
variable {g18}
theorem ev : EvA (env g18) [] [0] e (A (c g18 some)) := fun x y => Eq.trans (b := (A (c g18 fun r => some (e r))).G x y) (by kernel_rfl) (by simp only [A, c, bif_bind, sum_bind, oa, os, on, ofs])
end
def f (k : Nat) (a0 : Int) : Option R := c (transomref07_Digits.f k) some a0
noncomputable abbrev E (k : Nat) : FEnv := env (transomref07_Digits.f k) 
theorem hE (k : Nat) : EnvOK (E k).toEnv := ctsOK (Lc (transomref07_Digits.ok k) L0)
theorem ok (k : Nat) : CtOK prog 34 (ct (f k)) := fn_ok func34 rfl (by decide) (hE k) L0 (Lc ev L0)
end transomref37_small
namespace transomref08_letter
def e (r : Bool) : Res := ⟨.v (.one (.d .bool r)), []⟩
abbrev T (δ : Type) : Type := Int → Option δ
abbrev A {δ : Type} (g : T δ) : Arm δ := ⟨[.d (.int .u8)], [], fun x y => g x.1⟩
abbrev G : Type := T Bool
def ct (g : G) : Ct := mkCt 0 [] [A g] e
section
variable {β : Type} 
noncomputable abbrev env : FEnv := mkEnv prog f80 [] 0 [] []
def c (ret : Bool → Option β) (a0 : Int) : Option β := (bif (decide (a0 ≥ (97 : Int))) then (ret ((decide (a0 ≤ (122 : Int))))) else (ret (false)))
theorem ev : EvA (env) [] [0] e (A (c some)) := fun x y => Eq.trans (b := (A (c fun r => some (e r))).G x y) (by kernel_rfl) (by simp only [A, c, bif_bind, sum_bind, oa, os, on, ofs])
end
def f (k : Nat) (a0 : Int) : Option Bool := c  some a0
noncomputable abbrev E (k : Nat) : FEnv := env  
theorem hE (k : Nat) : EnvOK (E k).toEnv := ctsOK L0
theorem ok (k : Nat) : CtOK prog 80 (ct (f k)) := fn_ok func80 rfl (by decide) (hE k) L0 (Lc ev L0)
end transomref08_letter
end Go.Proofs.Ythaannpgcbpjkaa.Aev
