/- PackWrites: the bytes of any number, of both kinds, and of any text, are those of the document. For every input; no conditions. -/
import Derived.Test.YtoojmoefkdobpaaPPackWritesx2
import Derived.Test.YtoojmoefkdobpaaBPackWritesPack
namespace Go.Proofs.Ytoojmoefkdobpaa.Pure
open Go.RowKit Go.Proofs.Ytoojmoefkdobpaa.PPackWrites Go.Proofs.YtoojmoefkdobpaaW.PrintWords Go.Proofs.YtoojmoefkdobpaaW.PrintLast
open Go.Proofs.Ytoojmoefkdobpaa.Plain

theorem ref_l0 (m : Nat) : ∀ (k : Nat) (acc : List Int), m < 18446744073709551616 → (enc m).length ≤ k → acc.length + (enc m).length < 140737488355328 →
    transomref03_Uint.l0 k m acc = some (strOfNums (acc ++ (enc m).map fun n : Nat => (n : Int))) := by
  induction m using Nat.strongRecOn with
  | _ m ih =>
    intro k acc h64 hk ha
    have h1 := enc_ne m
    obtain ⟨k, rfl⟩ : ∃ j, k = j + 1 := ⟨k - 1, by omega⟩
    simp only [transomref03_Uint.l0]
    by_cases hm : 127 < m
    · rw [enc_big hm, List.length_cons] at hk ha
      rw [if_pos (by omega), if_pos (by omega)]
      have e1 : Int.tdiv (m : Int) 128 = ((m / 128 : Nat) : Int) := by rw [Int.tdiv_eq_ediv_of_nonneg (by omega)]; omega
      have e2 : Int.tmod (m : Int) 128 = ((m % 128 : Nat) : Int) := by rw [Int.tmod_eq_emod_of_nonneg (by omega)]; omega
      have e3 : (IntKind.u64.wrap (((m % 128 : Nat) : Int) + 128)) % 256 = ((m % 128 + 128 : Nat) : Int) := by rw [u64w]; omega
      rw [e1, e2, e3, u64id (by omega) (by omega), ih (m / 128) (by omega) k _ (by omega) (by omega) (by simp; omega), enc_big hm]
      simp
    · rw [if_neg (by omega), if_pos (by omega), enc_small hm]
      have e : (m : Int) % 256 = (m : Int) := by omega
      rw [e]; rfl
theorem ref_f {m k : Nat} (h : m < 18446744073709551616) (hk : 10 ≤ k) : transomref03_Uint.f k m = some (encB m) := by
  have := enc_len64 h
  unfold transomref03_Uint.f
  rw [ref_l0 m k [] h (by omega) (by simp; omega), List.nil_append, strOf_enc]
theorem ref_int {n : Int} {k : Nat} (h0 : -9223372036854775808 ≤ n) (h1 : n ≤ 9223372036854775807) (hk : 10 ≤ k) : transomref03_Int.f k n = some (encB (zig n)) := by
  have hz := zig_lt h0 h1
  unfold transomref03_Int.f
  by_cases hn : n < 0
  · rw [if_pos hn]
    have e : IntKind.u64.wrap ((IntKind.u64.wrap (2 * (IntKind.u64.wrap (wrap64 (-(wrap64 (n + 1))))))) + 1) = (zig n : Int) := by
      rw [w64id (n := n + 1) (by omega) (by omega), w64id (by omega) (by omega), u64w, u64w, u64w]
      unfold zig; rw [if_neg (by omega)]; omega
    rw [e, ref_f hz hk]; rfl
  · rw [if_neg hn]
    have e : IntKind.u64.wrap (2 * (IntKind.u64.wrap n)) = (zig n : Int) := by
      rw [u64w, u64w]
      unfold zig; rw [if_pos (by omega)]; omega
    rw [e, ref_f hz hk]; rfl
theorem ref_text {s : ByteArray} {k : Nat} (h : s.size ≤ 140737488351232) (hk : 10 ≤ k) : transomref03_Text.f k s = some (encB s.size ++ s) := by
  unfold transomref03_Text.f
  rw [u64id (by omega) (by omega), ref_f (by omega) hk]
  simp only [Option.bind_some]
  rw [if_pos]
  have := encB_size (m := s.size) (by omega)
  omega
theorem awake_true : transomlaw03_awake.f 40 = some true := by decide +kernel

theorem PackWrites : transomlaw03_PackWrites.Pure := by
  intro n s hn hs
  obtain ⟨h0, h1⟩ := wf_i64 hn
  refine ⟨40, ?_⟩
  unfold transomlaw03_PackWrites.f
  rw [awake_true]
  by_cases c : (s.size : Int) > 5000
  · rw [if_pos c]; rfl
  · obtain ⟨m, hm, hlt⟩ : ∃ m : Nat, IntKind.u64.wrap n = (m : Int) ∧ m < 18446744073709551616 := ⟨(IntKind.u64.wrap n).toNat, by rw [u64w]; omega, by rw [u64w]; omega⟩
    rw [if_neg c, hm, uint_f hlt (by omega), ref_f hlt (by omega), int_f h0 h1 (by omega), ref_int h0 h1 (by omega), text_f hs (by omega), ref_text hs (by omega)]
    simp only [Option.bind_some, if_true]
end Go.Proofs.Ytoojmoefkdobpaa.Pure
