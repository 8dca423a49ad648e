/- PackReads: what any bytes begin with, and what is behind, or the error, is what the document says. For every input; no conditions. -/
import Derived.Test.YtoojmoefkdobpaaPPackReadsx2
import Derived.Test.YtoojmoefkdobpaaBPackReadsPackMore
namespace Go.Proofs.Ytoojmoefkdobpaa.Pure
set_option linter.unusedVariables false
set_option linter.unusedSimpArgs false
open Go.RowKit Go.Proofs.Ytoojmoefkdobpaa.PPackReads Go.Proofs.YtoojmoefkdobpaaW.PrintWords Go.Proofs.YtoojmoefkdobpaaW.PrintLast Go.Proofs.YtoojmoefkdobpaaW.PrintMore
open Go.Proofs.Ytoojmoefkdobpaa.Plain

theorem same_l0 (s : ByteArray) (hs : s.size ≤ 140737488351232) : ∀ (d i : Nat) (v : Int) (k : Nat), i + d = 10 → 1 ≤ d → i ≤ s.size → 2 * d + 2 ≤ k →
    transomref03_ReadUint.l0 k s v i = pack_ReadUint.l0 (d + 1) s v i := by
  intro d
  induction d with
  | zero => intro i v k h h1; omega
  | succ d ih =>
    intro i v k h h1 hi hk
    obtain ⟨k, rfl⟩ : ∃ j, k = j + 2 := ⟨k - 2, by omega⟩
    rw [pack_ReadUint.l0, transomref03_ReadUint.l0]
    by_cases c1 : (i : Int) = (s.size : Int)
    · rw [if_pos c1, if_pos (show (i : Int) < 10 by omega), if_pos (show (i : Int) ≥ (s.size : Int) by omega)]
    · have hb := bt_range s i
      rw [if_neg c1, if_pos (show (i : Int) < 10 by omega), if_neg (show ¬ (i : Int) ≥ (s.size : Int) by omega), if_pos (show 0 ≤ (i : Int) by omega), if_pos (show (i : Int) < (s.size : Int) by omega), if_pos (show (i : Int) < (s.size : Int) by omega), u64id (by omega) (by omega)]
      have hw1 : wrap64 (7 * (i : Int)) = 7 * (i : Int) := w64id (by omega) (by omega)
      have hw2 : wrap64 ((i : Int) + 1) = (i : Int) + 1 := w64id (by omega) (by omega)
      have hw3 : IntKind.u64.wrap (7 * (i : Int)) = 7 * (i : Int) := u64id (by omega) (by omega)
      have hN : Go.bits .or .u64 v (shl .u64 (Int.tmod (bt s i) 128) (7 * (i : Int))) = pack_ReadUint.N s v i := by
        have e : Go.bits .and .u8 (bt s i) 127 = Int.tmod (bt s i) 128 := by
          have hl : i < s.data.toList.length := by rw [← sz]; omega
          rw [bt_get hl, and127', Int.tmod_eq_emod_of_nonneg (by omega)]; omega
        have e2 : IntKind.u64.wrap (Int.tmod (bt s i) 128) = Int.tmod (bt s i) 128 := by
          rw [Int.tmod_eq_emod_of_nonneg (by omega)]; exact u64id (by omega) (by omega)
        unfold pack_ReadUint.N shl
        rw [e, e2, Nat.min_eq_left (by show _ ≤ 64; omega)]
      have j1 : ∀ f : Bool, (f = true → False) → transomref03_ReadUint.j1 (k + 1) s v i (bt s i) f =
          if bt s i < 128 then (if bt s i = 0 ∧ (i : Int) > 0 then some (0, (⟨#[]⟩ : ByteArray), 4) else some (pack_ReadUint.N s v i, s.extract ((i : Int) + 1).toNat s.size, 0)) else transomref03_ReadUint.l0 k s (pack_ReadUint.N s v i) ((i : Int) + 1) := by
        intro f hf
        rw [transomref03_ReadUint.j1, if_neg hf, hw1, hw2, hw3, hN, if_pos (show 0 ≤ 7 * (i : Int) by omega), if_pos (show 0 ≤ (i : Int) + 1 by omega), if_pos (show (i : Int) + 1 ≤ (s.size : Int) by omega)]
        by_cases c : bt s i < 128
        · rw [if_pos c, if_pos c]
          by_cases c0 : bt s i = 0
          · rw [if_pos c0]
            by_cases ci : (i : Int) > 0
            · rw [if_pos ci, if_pos ⟨c0, ci⟩]
            · rw [if_neg ci, if_neg (fun h => ci h.2)]
          · rw [if_neg c0, if_neg (fun h => c0 h.1)]
        · rw [if_neg c, if_neg c]
      have rest : (¬ ((i : Int) = 9 ∧ bt s i > 1)) → (if bt s i < 128 then (if bt s i = 0 ∧ (i : Int) > 0 then some (0, (⟨#[]⟩ : ByteArray), 4) else some (pack_ReadUint.N s v i, s.extract ((i : Int) + 1).toNat s.size, 0)) else transomref03_ReadUint.l0 k s (pack_ReadUint.N s v i) ((i : Int) + 1)) =
          (if (i : Int) = 9 ∧ bt s i > 1 then some (0, (⟨#[]⟩ : ByteArray), 4) else if bt s i > 127 then pack_ReadUint.l0 (d + 1) s (pack_ReadUint.N s v i) ((i : Int) + 1) else if bt s i = 0 ∧ (i : Int) > 0 then some (0, (⟨#[]⟩ : ByteArray), 4) else some (pack_ReadUint.N s v i, s.extract ((i : Int) + 1).toNat s.size, 0)) := by
        intro c9
        rw [if_neg c9]
        by_cases c : bt s i < 128
        · rw [if_pos c, if_neg (show ¬ bt s i > 127 by omega)]
        · rw [if_neg c, if_pos (show bt s i > 127 by omega)]
          have hd : 1 ≤ d := by
            rcases Nat.eq_zero_or_pos d with h0 | h0
            · exact absurd ⟨by omega, by omega⟩ c9
            · exact h0
          have e1 : (i : Int) + 1 = ((i + 1 : Nat) : Int) := by omega
          rw [e1, ih (i + 1) _ k (by omega) hd (by omega) (by omega)]
      by_cases c9 : (i : Int) = 9
      · rw [if_pos c9]
        by_cases cb : bt s i > 1
        · rw [decide_eq_true cb, transomref03_ReadUint.j1, if_pos rfl, if_pos ⟨c9, cb⟩]
        · rw [decide_eq_false cb, j1 false (by simp), rest (fun h => cb h.2)]
      · rw [if_neg c9, j1 false (by simp), rest (fun h => c9 h.1)]
theorem same_f {s : ByteArray} {k : Nat} (hs : s.size ≤ 140737488351232) (hk : 30 ≤ k) : transomref03_ReadUint.f k s = pack_ReadUint.f s :=
  same_l0 s hs 10 0 0 k (by omega) (by omega) (by omega) (by omega)
theorem same_int {s : ByteArray} {k : Nat} (hs : s.size ≤ 140737488351232) (hk : 30 ≤ k) : transomref03_ReadInt.f k s = pack_ReadInt.f s := by
  unfold transomref03_ReadInt.f
  rw [same_f hs hk]
  obtain ⟨n, rest, e, h⟩ := read_some s
  by_cases he : e = 0
  · subst he
    obtain ⟨m, rfl, hm, _⟩ := read_once h
    rw [readInt_of hm h, h]; simp only [Option.bind_some]
    rw [if_pos trivial, Int.tmod_eq_emod_of_nonneg (by omega), Int.tdiv_eq_ediv_of_nonneg (by omega)]
    unfold unzig
    by_cases c : m % 2 = 0
    · rw [if_neg (by omega), if_pos c]
      have : wrap64 (IntKind.u64.wrap ((m : Int) / 2)) = ((m / 2 : Nat) : Int) := by rw [u64id (by omega) (by omega), w64id (by omega) (by omega)]; omega
      rw [this]
    · rw [if_pos (by omega), if_neg c]
      have : wrap64 (wrap64 (-(wrap64 (IntKind.u64.wrap ((m : Int) / 2)))) - 1) = -((m / 2 : Nat) : Int) - 1 := by
        rw [u64id (by omega) (by omega)]; unfold wrap64; omega
      rw [this]
  · unfold pack_ReadInt.f
    rw [h]; simp only [Option.bind_some]
    rw [if_neg he, if_neg he]
theorem same_text {s : ByteArray} {k : Nat} (hs : s.size ≤ 140737488351232) (hk : 30 ≤ k) : transomref03_ReadText.f k s = pack_ReadText.f s := by
  unfold transomref03_ReadText.f pack_ReadText.f
  rw [same_f hs hk]
theorem int_some (s : ByteArray) : ∃ r, pack_ReadInt.f s = some r := by
  obtain ⟨n, rest, e, h⟩ := read_some s
  unfold pack_ReadInt.f
  rw [h]; simp only [Option.bind_some]
  by_cases he : e = 0
  · rw [if_pos he]; exact ⟨_, rfl⟩
  · rw [if_neg he]; exact ⟨_, rfl⟩
theorem text_some {s : ByteArray} (hs : s.size ≤ 140737488351232) : ∃ r, pack_ReadText.f s = some r := by
  obtain ⟨n, rest, e, h⟩ := read_some s
  by_cases he : e = 0
  · subst he
    obtain ⟨m, rfl, hm, hse⟩ := read_once h
    have hr : s.size = (encB m).size + rest.size := by rw [hse]; simp
    rw [readText_of hm (by omega) h]
    split <;> exact ⟨_, rfl⟩
  · unfold pack_ReadText.f
    rw [h]; simp only [Option.bind_some]
    rw [if_neg he]; exact ⟨_, rfl⟩

theorem PackReads : transomlaw03_PackReads.Pure := by
  intro s hs
  obtain ⟨k, hk⟩ : ∃ k : Nat, 30 ≤ k := ⟨30, by omega⟩
  refine ⟨k + 2, ?_⟩
  unfold transomlaw03_PackReads.f
  by_cases c : (s.size : Int) > 5000
  · rw [if_pos c, awake_true (by omega)]; rfl
  · obtain ⟨n, rest, e, h⟩ := read_some s
    obtain ⟨ri, hi⟩ := int_some s
    obtain ⟨rt, ht⟩ := text_some hs
    rw [if_neg c, same_f hs (by omega), same_int hs (by omega), same_text hs (by omega), h, hi, ht, awake_true (by omega)]
    simp only [Option.bind_some, if_true]
end Go.Proofs.Ytoojmoefkdobpaa.Pure
