/- KeycodeReads: the value that any bytes begin with, and all values, or the error, are what the document says. For every input; no conditions. -/
import Derived.Test.YtpcojbnoadnknaaF2
import Derived.Test.YtpcojbnoadnknaaF3
import Derived.Test.YtpcojbnoadnknaaF7
import Derived.Test.YtpcojbnoadnknaaF8
import Derived.Test.YtpcojbnoadnknaaKeyRdR
import Derived.Test.YtpcojbnoadnknaaSameRow
namespace Go.Proofs.Ytpcojbnoadnknaa.Aev
open Go
set_option linter.unusedVariables false
set_option linter.unusedSimpArgs false
set_option maxRecDepth 100000
theorem plainS_len : ∀ (n : Nat) (t : List UInt8), t.length ≤ n → (plainS t).2.1.length ≤ t.length := by
  intro n
  induction n with
  | zero => intro t h; obtain rfl : t = [] := List.eq_nil_of_length_eq_zero (by omega); simp [plainS]
  | succ n ih =>
    intro t h
    cases t with
    | nil => simp [plainS]
    | cons c t =>
      have h' : t.length ≤ n := by simpa using h
      unfold plainS
      split
      · split
        · simp
        · rename_i d r
          have hr := ih r (by simp at h'; omega)
          split
          · simp; omega
          · split
            · generalize plainS r = q at hr
              obtain ⟨x, y, e⟩ := q
              simp only at hr ⊢
              split
              · simp; omega
              · simp
            · simp
      · have ht := ih t h'
        generalize plainS t = q at ht
        obtain ⟨x, y, e⟩ := q
        simp only at ht ⊢
        split
        · simp; omega
        · simp
theorem kread_len {l : List UInt8} (h : (kread l).2.2.2.2.2 = 0) : (kread l).2.2.2.2.1.length < l.length := by
  cases l with
  | nil => simp [kread] at h
  | cons c t =>
    have key : (kraw (c.toNat : Int) t).2.2.2.1.length ≤ t.length := by
      unfold kraw
      have hp := plainS_len t.length t (Nat.le_refl _)
      split
      · split <;> simp
      · split
        · split <;> simp
        · split
          · split
            · simp
            · split <;> simp
          · split
            · exact hp
            · simp
    simp only [kread] at h ⊢
    split at h
    · simp at h
    · rename_i h5
      rw [if_neg h5]
      unfold kdone at h ⊢
      split at h
      · rename_i he; simp only at h; exact absurd h he
      · rename_i he
        rw [if_neg he]
        split at h
        · simp at h
        · rename_i hc
          rw [if_neg hc]
          simp only [List.length_cons]; omega
theorem readrow_both : ∀ (n : Nat) (l : List UInt8) (xs : List V), l.length ≤ n → l.length ≤ 2000 → xs.length + l.length ≤ 2000 → ∀ k, l.length + 5000 ≤ k →
    ∃ r, keycode_ReadRow.s0 k (ByteArray.mk (List.toArray l)) xs = some r ∧ transomref05_ReadRow.s0 k (ByteArray.mk (List.toArray l)) xs = some r ∧ r.1.length ≤ 2000 := by
  intro n
  induction n with
  | zero =>
    intro l xs h h2 h3 k hk
    obtain rfl : l = [] := List.eq_nil_of_length_eq_zero (by omega)
    obtain ⟨k, rfl⟩ : ∃ j, k = j + 1 := ⟨k - 1, by omega⟩
    refine ⟨(xs, 0), ?_, ?_, by simpa using h3⟩
    · simp only [keycode_ReadRow.s0, keycode_ReadRow.s0c, ba_toList]; rfl
    · rfl
  | succ n ih =>
    intro l xs h h2 h3 k hk
    obtain ⟨k, rfl⟩ : ∃ j, k = j + 1 := ⟨k - 1, by omega⟩
    cases l with
    | nil =>
      refine ⟨(xs, 0), ?_, ?_, by simpa using h3⟩
      · simp only [keycode_ReadRow.s0, keycode_ReadRow.s0c, ba_toList]; rfl
      · rfl
    | cons c t =>
      have hne : ((c :: t) == ([] : List UInt8)) = false := rfl
      have hgt : (((c :: t).length : Nat) : Int) > 0 := by rw [List.length_cons]; omega
      have r1 := kread_eq (c :: t) (by omega) k (by omega)
      have r2 := rread_eq (c :: t) (by omega) k (by omega)
      simp only [keycode_ReadRow.s0, keycode_ReadRow.s0c, transomref05_ReadRow.s0, transomref05_ReadRow.s0c, ba_toList, hne, ba_size, hgt, r1, r2, Bool.not_false, cond_true, decide_true, Option.bind_some, Option.bind_fun_some, kenc]
      by_cases he : (kread (c :: t)).2.2.2.2.2 = 0
      · have hl := kread_len he
        have g : (xs.length + 1) * 40 ≤ 35184372088832 := by simp only [List.length_cons] at h3; omega
        simp only [List.length_cons] at hl h h2 h3 hk
        obtain ⟨r, e1, e2, e3⟩ := ih (kread (c :: t)).2.2.2.2.1 (xs ++ [((kread (c :: t)).1, (kread (c :: t)).2.1, ((kread (c :: t)).2.2.1 : Int), ByteArray.mk (List.toArray (kread (c :: t)).2.2.2.1), ())]) (by omega) (by omega) (by rw [List.length_append, List.length_cons, List.length_nil]; omega) k (by omega)
        refine ⟨r, ?_, ?_, e3⟩
        · simp only [he, bne_self_eq_false, cond_false, g, decide_true, cond_true, e1]
        · simp only [he, bne_self_eq_false, cond_false, g, decide_true, cond_true, e2]
      · have hb : ((kread (c :: t)).2.2.2.2.2 != 0) = true := by rw [bne_iff_ne]; exact he
        refine ⟨([], (kread (c :: t)).2.2.2.2.2), ?_, ?_, by simp⟩
        · simp only [hb, cond_true]
        · simp only [hb, cond_true]
theorem awake_some : ∃ k, 20000 ≤ k ∧ transomlaw05_awake.f k = some true := ⟨20000, Nat.le_refl _, by kernel_rfl⟩
theorem Pure.KeycodeReads (x0 : ByteArray) (h0 : Fit .str x0) : ∃ k, transomlaw05_KeycodeReads.f k x0 = some true := by
  obtain ⟨k, hk, a0⟩ := awake_some
  refine ⟨k, ?_⟩
  rw [ba_of x0]
  generalize x0.data.toList = l
  simp only [transomlaw05_KeycodeReads.f, transomlaw05_KeycodeReads.c, ba_size, a0, Option.bind_some]
  by_cases hs : l.length ≤ 2000
  · have e : ¬ (l.length : Int) > 2000 := by omega
    obtain ⟨r, e1, e2, e3⟩ := readrow_both l.length l [] (Nat.le_refl _) hs (by simpa using hs) k (by omega)
    have f1 : keycode_ReadRow.f k (ByteArray.mk (List.toArray l)) = some r := by simp only [keycode_ReadRow.f, keycode_ReadRow.c, Option.bind_fun_some]; exact e1
    have f2 : transomref05_ReadRow.f k (ByteArray.mk (List.toArray l)) = some r := by simp only [transomref05_ReadRow.f, transomref05_ReadRow.c, Option.bind_fun_some]; exact e2
    simp only [e, decide_false, cond_false, kread_eq l (by omega) k (by omega), rread_eq l (by omega) k (by omega), f1, f2, same_eq, samerow_eq r.1 r.1 (by omega) k (by omega), Option.bind_some, and_self, decide_true, cond_true, beq_self_eq_true]
  · have e : (l.length : Int) > 2000 := by omega
    simp only [e, decide_true, cond_true]
end Go.Proofs.Ytpcojbnoadnknaa.Aev
