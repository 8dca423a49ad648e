import Derived.RangeFuncNested
import Derived.RangeFuncBound
import Derived.RangeFuncCalls
import Derived.RangeFuncLeaves
import Derived.Shelf.Abstract
import Derived.Shelf.RegionOpen
import Derived.WalkKit
import Derived.OwnWalkIn
import Derived.TacticsInMore
import Derived.LoopNIn
import Derived.LoopIn
import Derived.Test.YtijjlpgcpdapnaaGreatDoorProg
namespace Go.Proofs.YtijjlpgcpdapnaaGreatDoor.Aev
open Go Go.Proofs
open Go.RowKit Go.Shelf
attribute [local go_sem] Oper.semAt_some
set_option maxRecDepth 100000
def KC (b : Nat) (W W' : World) : Prop := W'.cell? ⟨b, 0, none⟩ = W.cell? ⟨b, 0, none⟩
def escOne (b : UInt8) : List Int := if b = 0 then [0, 255] else [(b.toNat : Int)]
def escTo (s : ByteArray) (k : Nat) : List Int := (s.data.toList.take k).flatMap escOne
theorem escTo_len (s : ByteArray) : ∀ k, (escTo s k).length ≤ 2 * k := by
 intro k
 unfold escTo
 rw [List.length_flatMap]
 have : ∀ l : List UInt8, (l.map fun a => (escOne a).length).sum ≤ 2 * l.length := by
  intro l
  induction l with
  | nil => simp
  | cons a l ih => simp only [List.map_cons, List.sum_cons, List.length_cons]; have : (escOne a).length ≤ 2 := by unfold escOne; split <;> simp
                   omega
 have h1 := this (s.data.toList.take k)
 have h2 : (s.data.toList.take k).length ≤ k := by simp; omega
 omega
theorem escTo_succ (s : ByteArray) (k : Nat) (h : k < s.size) : escTo s (k + 1) = escTo s k ++ escOne (s[k]'h) := by
 unfold escTo
 rw [List.take_add_one, List.flatMap_append]
 have : s.data.toList[k]? = some (s[k]'h) := by
  have h' : k < s.data.size := h
  rw [Array.getElem?_toList, Array.getElem?_eq_getElem h']; rfl
 simp [this]
set_option maxHeartbeats 2000000 in
theorem esc_in (F : Fence) (n : Nat) (h61 : F.fn 121) (hro : F.round = none) (hn : 1 ≤ n) (l Bn : Nat) (s : ByteArray) (J Jx : List Int → World → Prop)
  (hY : ∀ pre x W, J pre W → pre.length < 2 * s.size + 2 → YieldAt F (n - 1) Tryz.prog l #[.int .u8 x] W fun e W' =>
   (e = .returned (.bool true) ∧ J (pre ++ [x]) W' ∧ KC Bn W W') ∨ (e = .returned (.bool false) ∧ Jx (pre ++ [x]) W'))
  (W : World) (hBn : W.cell? ⟨Bn, 0, none⟩ = some (.string s)) (h0 : J [] W) (hs : s.size ≤ 2 ^ 45) :
  CallsIn F n Tryz.prog 121 #[.func (.yield l) #[] #[], .pointer (some ⟨Bn, 0, none⟩)] W fun e W' => (∃ v, e = .returned v) ∧
   ((∃ ys, ys = escTo s s.size ++ [0, 0] ∧ J ys W') ∨ (∃ pre, True ∧ Jx pre W')) := by
 refine callsIn_of_wp Tryz.func121 rfl h61 ?_ hro
 simp only [Tryz.ntmps121, List.size_toArray, List.length_cons, List.length_nil, Nat.reduceAdd, Nat.reduceSub, Array.replicate_succ, Array.replicate_zero, List.push_toArray, List.append_toArray, List.nil_append, List.cons_append]
 gi_wp2
 gi_loopw [6] (fun p wr => ∃ k : Nat, p = .int .i64 k ∧ k ≤ s.size ∧ J (escTo s k) wr ∧ wr.cell? ⟨Bn, 0, none⟩ = some (.string s))
  (fun p wr => s.size - (intOf p).toNat)
 case atStart =>
  exact ⟨0, rfl, Nat.zero_le _, by simpa [escTo] using h0, hBn⟩
 case round =>
  obtain ⟨k, rfl, hk, hJ, hc⟩ := hrel
  by_cases hlt : k < s.size
  ·have hlen := escTo_len s k
   have hsucc : escTo s (k + 1) = escTo s k ++ escOne (s[k]'hlt) := escTo_succ s k hlt
   by_cases hz : s[k]'hlt = 0
   ·obtain ⟨fn, tmps, assign, body, hy, hR⟩ := hY _ 0 wr hJ (by omega)
    gi_wp2
    refine hR.mono ?_
    rintro e W3 (⟨rfl, hJ3, hk3⟩ | ⟨rfl, hJx3⟩)
    ·have hc3 : W3.cell? ⟨Bn, 0, none⟩ = some (.string s) := hk3.trans hc
     obtain ⟨fn', tmps', assign', body', hy', hR'⟩ := hY _ 255 W3 hJ3 (by simp; omega)
     clear hy hR
     gi_wp2
     refine hR'.mono ?_
     rintro e W4 (⟨rfl, hJ4, hk4⟩ | ⟨rfl, hJx4⟩)
     ·have hc4 : W4.cell? ⟨Bn, 0, none⟩ = some (.string s) := hk4.trans hc3
      gi_wp2
      exact ⟨⟨k + 1, rfl, hlt, by rw [hsucc, hz]; simpa [escOne] using hJ4, hc4⟩, by simp [intOf]; omega⟩
     ·gi_wp2
      refine bodyPost_ret (results_none rfl _ _ _) rfl ?_
      exact ⟨⟨_, rfl⟩, .inr ⟨_, trivial, hJx4⟩⟩
    ·clear hy hR
     gi_wp2
     case h_3 => rename_i y1 y2 hh y4 y5 y6 y7 y8 y9 y10; cases hh
     all_goals
      refine ⟨fun _ h => (by cases h), ?_⟩
      gi_wp2
      refine bodyPost_ret (results_none rfl _ _ _) rfl ?_
      exact ⟨⟨_, rfl⟩, .inr ⟨_, trivial, hJx3⟩⟩
   ·obtain ⟨fn, tmps, assign, body, hy, hR⟩ := hY _ ((s[k]'hlt).toNat) wr hJ (by omega)
    have hnz : (((s[k]'hlt).toNat : Int) == 0) = false := by
     have : (s[k]'hlt).toNat ≠ 0 := fun e => hz (UInt8.toNat_inj.1 e)
     simp; omega
    gi_wp2
    refine hR.mono ?_
    rintro e W3 (⟨rfl, hJ3, hk3⟩ | ⟨rfl, hJx3⟩)
    ·have hc3 : W3.cell? ⟨Bn, 0, none⟩ = some (.string s) := hk3.trans hc
     clear hy hR
     gi_wp2
     refine ⟨fun _ h => (by cases h), ?_⟩
     gi_wp2
     exact ⟨⟨k + 1, rfl, hlt, by rw [hsucc]; simpa [escOne, hz] using hJ3, hc3⟩, by simp [intOf]; omega⟩
    ·clear hy hR
     gi_wp2
     case h_3 => rename_i y1 y2 hh y4 y5 y6 y7 y8 y9 y10; cases hh
     all_goals
      refine ⟨fun _ h => (by cases h), ?_⟩
      gi_wp2
      refine bodyPost_ret (results_none rfl _ _ _) rfl ?_
      exact ⟨⟨_, rfl⟩, .inr ⟨_, trivial, hJx3⟩⟩
  ·obtain rfl : k = s.size := by omega
   have hlen := escTo_len s s.size
   obtain ⟨fn, tmps, assign, body, hy, hR⟩ := hY _ 0 wr hJ (by omega)
   gi_wp2
   refine hR.mono ?_
   rintro e W3 (⟨rfl, hJ3, hk3⟩ | ⟨rfl, hJx3⟩)
   ·obtain ⟨fn', tmps', assign', body', hy', hR'⟩ := hY _ 0 W3 hJ3 (by simp; omega)
    clear hy hR
    gi_wp2
    refine hR'.mono ?_
    rintro e W4 (⟨rfl, hJ4, hk4⟩ | ⟨rfl, hJx4⟩)
    ·gi_wp2
     go_end0
     exact ⟨⟨_, rfl⟩, .inl ⟨_, rfl, by simpa using hJ4⟩⟩
    ·gi_wp2
     go_end0
     exact ⟨⟨_, rfl⟩, .inr ⟨_, trivial, hJx4⟩⟩
   ·clear hy hR
    gi_wp2
    go_end0
    exact ⟨⟨_, rfl⟩, .inr ⟨_, trivial, hJx3⟩⟩
theorem esc_stops (F : Fence) (n : Nat) (h61 : F.fn 121) (hro : F.round = none) (hn : 1 ≤ n) (Bn : Nat) (s : ByteArray) (w : World) (hBn : w.cell? ⟨Bn, 0, none⟩ = some (.string s)) (hw : Bn < w.heap.size) (hs : s.size ≤ 2 ^ 45) :
  SeqStopsK F n Tryz.prog 121 #[.pointer (some ⟨Bn, 0, none⟩)] (fun x : Int => #[.int .u8 x]) (KC Bn) (fun ys => ys = escTo s s.size ++ [0, 0]) (fun _ => True) (2 * s.size + 2) w := by
 intro l J Jx W hW hJ hJx hY h0
 exact esc_in F n h61 hro hn l Bn s J Jx hY W ((hW.cell (p := ⟨Bn, 0, none⟩) hw).trans hBn) h0 hs
end Go.Proofs.YtijjlpgcpdapnaaGreatDoor.Aev
