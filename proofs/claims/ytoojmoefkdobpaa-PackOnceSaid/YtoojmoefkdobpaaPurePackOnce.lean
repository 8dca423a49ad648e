/- PackOnce: bytes that are read as a number are those that it is written as. For every input; no conditions. -/
import Derived.Test.YtoojmoefkdobpaaPPackOncex1
import Derived.Test.YtoojmoefkdobpaaBPackOncePackMore
namespace Go.Proofs.Ytoojmoefkdobpaa.Pure
open Go.RowKit Go.Proofs.Ytoojmoefkdobpaa.PPackOnce Go.Proofs.YtoojmoefkdobpaaW.PrintWords Go.Proofs.YtoojmoefkdobpaaW.PrintLast
open Go.Proofs.Ytoojmoefkdobpaa.Plain

theorem PackOnce : transomlaw03_PackOnce.Pure := by
  intro s hs
  obtain ⟨k, hk⟩ : ∃ k : Nat, 30 ≤ k := ⟨30, by omega⟩
  refine ⟨k + 2, ?_⟩
  unfold transomlaw03_PackOnce.f
  obtain ⟨n, rest, e, h⟩ := read_some s
  rw [h]; simp only [Option.bind_some]
  by_cases he : e = 0
  · subst he
    obtain ⟨m, rfl, hm, hse⟩ := read_once h
    have q1 := encB_size hm
    have q2 : s.size = (encB m).size + rest.size := by rw [hse]; simp
    have hu := unzig_in hm
    rw [if_pos rfl, decide_eq_false (by omega), transomlaw03_PackOnce.j0, if_neg (by simp), readInt_of hm h]; simp only [Option.bind_some]
    rw [uint_f hm (by omega)]; simp only [Option.bind_some]
    rw [if_pos (by omega), ← hse, if_pos rfl, int_f hu.1 hu.2 (by omega), zig_unzig]; simp only [Option.bind_some]
    rw [if_pos (by omega), ← hse, if_pos rfl, if_pos trivial, awake_true (by omega)]; rfl
  · rw [if_neg he, transomlaw03_PackOnce.j0, if_pos rfl, if_neg he, awake_true (by omega)]; rfl
end Go.Proofs.Ytoojmoefkdobpaa.Pure
