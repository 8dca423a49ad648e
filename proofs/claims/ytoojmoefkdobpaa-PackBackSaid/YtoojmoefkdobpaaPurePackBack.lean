/- PackBack: numbers and texts that were written are read as they were, whatever is behind, and half of a text's bytes is short. For every input; no conditions. -/
import Derived.Test.YtoojmoefkdobpaaPPackBackx2
import Derived.Test.YtoojmoefkdobpaaBPackBackPackMore
namespace Go.Proofs.Ytoojmoefkdobpaa.Pure
set_option linter.unusedVariables false
set_option linter.unusedSimpArgs false
open Go.RowKit Go.Proofs.Ytoojmoefkdobpaa.PPackBack Go.Proofs.YtoojmoefkdobpaaW.PrintWords Go.Proofs.YtoojmoefkdobpaaW.PrintLast
open Go.Proofs.Ytoojmoefkdobpaa.Plain

theorem back_j1 {s : ByteArray} {k : Nat} (hk : 30 ≤ k) (h : s.size ≤ 2000) : transomlaw03_PackBack.j1 (k + 1) s false = some true := by
  have ht := text_f (s := s) (k := k) (by omega) (by omega)
  have hl : (encB s.size ++ s).size ≤ 3000 := by
    have q3 := encB_size (m := s.size) (by omega)
    have q4 : (encB s.size ++ s).size = (encB s.size).size + s.size := by simp
    omega
  have hs := short_text h rfl
  generalize encB s.size ++ s = t at ht hl hs
  have e1 : wrap64 ((t.size : Int) / 2) = ((t.size / 2 : Nat) : Int) := by rw [w64id (by omega) (by omega)]; omega
  have e2 : (((t.size / 2 : Nat) : Int)).toNat = t.size / 2 := by omega
  rw [transomlaw03_PackBack.j1, if_neg (by simp), ht, Option.bind_some, e1, if_pos (by omega), if_pos (by omega), e2, hs, awake_true hk, Option.bind_some, Option.bind_some, if_pos rfl, ite_self]

theorem PackBack : transomlaw03_PackBack.Pure := by
  intro n s b hn hs hb
  obtain ⟨h0, h1⟩ := wf_i64 hn
  obtain ⟨k, hk⟩ : ∃ k : Nat, 30 ≤ k := ⟨30, by omega⟩
  refine ⟨k + 2, ?_⟩
  unfold transomlaw03_PackBack.f
  have stop : transomlaw03_PackBack.j0 (k + 2) n s b true = some true := by
    rw [transomlaw03_PackBack.j0, if_pos rfl, awake_true (by omega)]; rfl
  by_cases c : (s.size : Int) > 2000
  · rw [if_pos c, stop]
  · rw [if_neg c]
    by_cases c2 : (b.size : Int) > 2000
    · rw [decide_eq_true c2, stop]
    · rw [decide_eq_false c2, transomlaw03_PackBack.j0, if_neg (by simp)]
      obtain ⟨m, hm, hlt⟩ : ∃ m : Nat, IntKind.u64.wrap n = (m : Int) ∧ m < 18446744073709551616 := ⟨(IntKind.u64.wrap n).toNat, by rw [u64w]; omega, by rw [u64w]; omega⟩
      have q1 := encB_size hlt
      have q2 := encB_size (zig_lt h0 h1)
      have q3 := encB_size (m := s.size) (by omega)
      have q4 : (encB s.size ++ s).size = (encB s.size).size + s.size := by simp
      rw [hm, uint_f hlt (by omega)]; simp only [Option.bind_some]
      rw [if_pos (by omega), read_f m hlt b]; simp only [Option.bind_some]
      rw [int_f h0 h1 (by omega)]; simp only [Option.bind_some]
      rw [if_pos (by omega), read_int h0 h1 b]; simp only [Option.bind_some]
      rw [text_f hs (by omega)]; simp only [Option.bind_some]
      rw [if_pos (by omega), read_text (by omega)]; simp only [Option.bind_some]
      simp only [if_true]
      have e0 : ((0 : Int) != 0) = false := rfl
      rw [e0]
      exact back_j1 hk (by omega)
end Go.Proofs.Ytoojmoefkdobpaa.Pure
