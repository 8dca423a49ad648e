import Derived.Test.YtpcojbnoadnknaaF2
import Derived.Test.YtpcojbnoadnknaaF3
import Derived.Test.YtpcojbnoadnknaaF9
import Derived.Test.YtpcojbnoadnknaaF10
import Derived.Test.YtpcojbnoadnknaaAft
import Derived.Test.YtpcojbnoadnknaaPl
namespace Go.Proofs.Ytpcojbnoadnknaa.Aev
open Go
set_option maxRecDepth 100000
set_option linter.unusedVariables false
set_option linter.unusedSimpArgs false

theorem aft_snoc : ∀ (p : List UInt8) (c : UInt8), aft (p ++ [c]) = if c = 255 then aft p else p ++ [c + 1]
  | [], c => by simp [aft]
  | d :: p, c => by
    have ih := aft_snoc p c
    simp only [List.cons_append]
    rw [aft, ih]
    by_cases h : c = 255
    · simp only [if_pos h]; rfl
    · simp [h]
theorem bt_eq (s : ByteArray) (i : Nat) (h : i < s.size) : bt s (i : Int) = ((s.toList[i]'(by simpa [ByteArray.toList_eq] using h)).toNat : Int) := by
  have h' : i < s.data.size := h
  simp [bt, Array.getElem?_eq_getElem h', ByteArray.toList_eq]

theorem take_snoc (l : List UInt8) (i : Nat) (h : i < l.length) : l.take (i + 1) = l.take i ++ [l[i]] := by
  rw [List.take_add_one]; simp [h]


theorem after_step (s : ByteArray) (i : Nat) (h : i < s.size) (c : UInt8) (hc : c = s.toList[i]'(by rw [size_toList]; exact h)) (h255 : c ≠ 255) :
    (s.extract 0 i ++ ByteArray.mk (List.toArray (List.map (fun n => UInt8.ofNat (Int.toNat n)) [IntKind.wrap IntKind.u8 ((c.toNat : Int) + 1)]))).toList = s.toList.take i ++ [c + 1] := by
  have hw : IntKind.wrap IntKind.u8 ((c.toNat : Int) + 1) = ((c.toNat + 1 : Nat) : Int) := by
    have := c.toNat_lt
    have h3 : c.toNat ≠ 255 := fun e => h255 (UInt8.toNat_inj.1 e)
    simp [IntKind.wrap, IntKind.bits, IntKind.signed]
    omega
  have : UInt8.ofNat (c.toNat + 1) = c + 1 := by apply UInt8.toNat_inj.1; simp
  rw [ByteArray.toList_eq]
  simp only [ByteArray.data_append, Array.toList_append, List.map_cons, List.map_nil, hw, Int.toNat_natCast, this]
  rw [← ByteArray.toList_eq, extract_toList]
theorem keycode_After_s0 (s : ByteArray) (hs : s.size ≤ 2000) : ∀ i, i ≤ s.size → ∀ k, i < k → ∃ b, keycode_After.s0 k s ((i : Int) - 1) = some b ∧ b.toList = aft (s.toList.take i)
  | 0, _, k + 1, _ => ⟨ByteArray.mk #[], by simp [keycode_After.s0, keycode_After.s0c], by simp [aft, ByteArray.toList_eq]⟩
  | i + 1, hi, k + 1, hk => by
    obtain ⟨b, hb1, hb2⟩ := keycode_After_s0 s hs i (by omega) k (by omega)
    have hlt : i < s.toList.length := by rw [size_toList]; omega
    rw [take_snoc _ _ hlt, aft_snoc]
    have e1 : ((i + 1 : Nat) : Int) - 1 = (i : Int) := by omega
    have hw : IntKind.wrap IntKind.i64 ((i : Int) - 1) = (i : Int) - 1 := by
      exact i64w (by omega) (by omega)
    have hsz : (s.extract 0 i).size ≤ 4611686018427387903 := by simp; omega
    rw [e1]
    simp only [keycode_After.s0, keycode_After.s0c, bt_eq s i (by omega), hw, hb1, Option.bind_some, Int.toNat_natCast]
    by_cases h255 : s.toList[i] = 255
    · refine ⟨b, ?_, by rw [if_pos h255, hb2]⟩
      have hne : (((s.toList[i]).toNat : Int) != 255) = false := by rw [h255]; rfl
      have g1 : decide ((i : Int) ≥ 0) = true := by simp
      have g3 : decide ((i : Int) < (s.size : Int)) = true := by simp; omega
      rw [hne, g1, g3]
      rfl
    · refine ⟨_, ?_, (after_step s i (by omega) _ rfl h255).trans (by rw [if_neg h255])⟩
      have hne : (((s.toList[i]).toNat : Int) != 255) = true := by
        have h3 : (s.toList[i]).toNat ≠ 255 := fun e => h255 (UInt8.toNat_inj.1 e)
        simp; omega
      have g1 : decide ((i : Int) ≥ 0) = true := by simp
      have g3 : decide ((i : Int) < (s.size : Int)) = true := by simp; omega
      have g4 : decide ((i : Int) ≤ (s.size : Int)) = true := by simp; omega
      rw [hne, g1, g3, g4, decide_eq_true hsz]
      rfl
theorem transomref05_After_s0 (s : ByteArray) (hs : s.size ≤ 2000) : ∀ i, i ≤ s.size → ∀ k, i < k → ∃ b, transomref05_After.s0 k s ((i : Int) - 1) = some b ∧ b.toList = aft (s.toList.take i)
  | 0, _, k + 1, _ => ⟨ByteArray.mk #[], by simp [transomref05_After.s0, transomref05_After.s0c], by simp [aft, ByteArray.toList_eq]⟩
  | i + 1, hi, k + 1, hk => by
    obtain ⟨b, hb1, hb2⟩ := transomref05_After_s0 s hs i (by omega) k (by omega)
    have hlt : i < s.toList.length := by rw [size_toList]; omega
    rw [take_snoc _ _ hlt, aft_snoc]
    have e1 : ((i + 1 : Nat) : Int) - 1 = (i : Int) := by omega
    have hw : IntKind.wrap IntKind.i64 ((i : Int) - 1) = (i : Int) - 1 := by
      exact i64w (by omega) (by omega)
    have hsz : (s.extract 0 i).size ≤ 4611686018427387903 := by simp; omega
    rw [e1]
    simp only [transomref05_After.s0, transomref05_After.s0c, bt_eq s i (by omega), hw, hb1, Option.bind_some, Int.toNat_natCast]
    by_cases h255 : s.toList[i] = 255
    · refine ⟨b, ?_, by rw [if_pos h255, hb2]⟩
      have hne : decide (((s.toList[i]).toNat : Int) < 255) = false := by rw [h255]; rfl
      have g1 : decide ((i : Int) ≥ 0) = true := by simp
      have g3 : decide ((i : Int) < (s.size : Int)) = true := by simp; omega
      rw [hne, g1, g3]
      rfl
    · refine ⟨_, ?_, (after_step s i (by omega) _ rfl h255).trans (by rw [if_neg h255])⟩
      have hne : decide (((s.toList[i]).toNat : Int) < 255) = true := by
        have h3 : (s.toList[i]).toNat ≠ 255 := fun e => h255 (UInt8.toNat_inj.1 e)
        have := (s.toList[i]).toNat_lt
        simp; omega
      have g1 : decide ((i : Int) ≥ 0) = true := by simp
      have g3 : decide ((i : Int) < (s.size : Int)) = true := by simp; omega
      have g4 : decide ((i : Int) ≤ (s.size : Int)) = true := by simp; omega
      rw [hne, g1, g3, g4, decide_eq_true hsz]
      rfl

theorem keycode_After_f (s : ByteArray) (hs : s.size ≤ 2000) (k : Nat) (hk : 2000 < k) : ∃ b, keycode_After.f k s = some b ∧ b.toList = aft s.toList := by
  obtain ⟨b, h1, h2⟩ := keycode_After_s0 s hs s.size (Nat.le_refl _) k (by omega)
  refine ⟨b, ?_, by rw [h2, ← size_toList, List.take_length]⟩
  simp only [keycode_After.f, keycode_After.c]
  rw [i64w (by omega) (by omega), h1]; rfl
theorem transomref05_After_f (s : ByteArray) (hs : s.size ≤ 2000) (k : Nat) (hk : 2000 < k) : ∃ b, transomref05_After.f k s = some b ∧ b.toList = aft s.toList := by
  obtain ⟨b, h1, h2⟩ := transomref05_After_s0 s hs s.size (Nat.le_refl _) k (by omega)
  refine ⟨b, ?_, by rw [h2, ← size_toList, List.take_length]⟩
  simp only [transomref05_After.f, transomref05_After.c]
  rw [i64w (by omega) (by omega), h1]; rfl

theorem awake_some : ∃ k, 4000 ≤ k ∧ transomlaw05_awake.f k = some true ∧ transomlaw05_awake.f (k + 1) = some true ∧ transomlaw05_awake.f (k + 2) = some true := ⟨4000, Nat.le_refl _, by kernel_rfl, by kernel_rfl, by kernel_rfl⟩
theorem prefix_take (s t : List UInt8) : s.isPrefixOf t = decide (t.take s.length = s) := by
  rw [Bool.eq_iff_iff, List.isPrefixOf_iff_prefix, decide_eq_true_iff]
  exact ⟨fun h => by obtain ⟨r, rfl⟩ := h; simp, fun h => by rw [← h]; exact List.take_prefix _ _⟩
theorem Pure.KeycodeAfter (x0 : ByteArray) (x1 : ByteArray) (h0 : Fit .str x0) (h1 : Fit .str x1) : ∃ k, transomlaw05_KeycodeAfter.f k x0 x1 = some true := by
  obtain ⟨k, hk, a0, a1, a2⟩ := awake_some
  refine ⟨k + 3, ?_⟩
  have hs0 : transomlaw05_KeycodeAfter.s0 (k + 3) x0 x1 true = some true := by
    simp only [transomlaw05_KeycodeAfter.s0, transomlaw05_KeycodeAfter.s0c, a2, cond_true, Option.bind_some]
  simp only [transomlaw05_KeycodeAfter.f, transomlaw05_KeycodeAfter.c, cond_false]
  by_cases c0 : (x0.size : Int) > 2000
  · rw [decide_eq_true c0, cond_true, hs0]; rfl
  rw [decide_eq_false c0, cond_false]
  by_cases c1 : (x1.size : Int) > 2000
  · rw [decide_eq_true c1, hs0]; rfl
  rw [decide_eq_false c1]
  obtain ⟨b, hb1, hb2⟩ := keycode_After_f x0 (by omega) (k + 1) (by omega)
  obtain ⟨b', hb3, hb4⟩ := transomref05_After_f x0 (by omega) (k + 1) (by omega)
  obtain rfl : b = b' := toList_inj (hb2.trans hb4.symm)
  simp only [transomlaw05_KeycodeAfter.s0, transomlaw05_KeycodeAfter.s0c, transomlaw05_KeycodeAfter.s1, transomlaw05_KeycodeAfter.s1c, hb1, hb3, cond_false, Option.bind_some, beq_self_eq_true, Bool.not_true, hb2, a1]
  have hs2 : ∀ y : Bool, y = x0.toList.isPrefixOf x1.toList → aft x0.toList ≠ [] → transomlaw05_KeycodeAfter.s2 (k + 1) x0 x1 b y = some true := by
    intro y hy hne
    have := aft_spec x0.toList x1.toList hne
    rw [← hy] at this
    simp only [transomlaw05_KeycodeAfter.s2, transomlaw05_KeycodeAfter.s2c, hb2, a0, cond_true, Option.bind_some]
    cases hq : Op.bytesLess x1.toList x0.toList <;> rw [hq] at this
    · simp at this; simp [this]
    · simp at this; simp [this]
  by_cases hne : aft x0.toList = []
  · rw [hne, nil_toList]; rfl
  have hnb : (aft x0.toList == (ByteArray.mk (List.toArray [])).toList) = false := by
    rw [beq_eq_false_iff_ne]; simpa [ByteArray.toList_eq] using hne
  rw [hnb, cond_false, prefix_take, size_toList] at *
  by_cases hl : (x1.size : Int) ≥ (x0.size : Int)
  · rw [decide_eq_true hl, cond_true]
    have : transomlaw05_KeycodeAfter.s2 (k + 1) x0 x1 b ((x1.extract 0 (Int.toNat (x0.size : Int))).toList == x0.toList) = some true := by
      refine hs2 _ ?_ hne
      rw [extract_toList, Int.toNat_natCast, Bool.eq_iff_iff, beq_iff_eq, decide_eq_true_iff]
    simp only [cond_true, Bool.true_and, this, Option.bind_some]
  · rw [decide_eq_false hl, cond_false]
    have : transomlaw05_KeycodeAfter.s2 (k + 1) x0 x1 b false = some true := by
      refine hs2 _ ?_ hne
      symm
      rw [decide_eq_false_iff_not]
      intro h
      have := congrArg List.length h
      simp only [List.length_take, size_toList] at this
      omega
    rw [this]; rfl
end Go.Proofs.Ytpcojbnoadnknaa.Aev
