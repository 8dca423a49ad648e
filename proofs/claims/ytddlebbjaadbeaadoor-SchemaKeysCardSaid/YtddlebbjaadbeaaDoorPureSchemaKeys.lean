/- SchemaKeys: a row that fits has the key's bytes of its first values, which fit as a whole key; and each beginning of these fits as a key that is not whole. For every input; no conditions. -/
import Derived.Test.YtddlebbjaadbeaaDoorF11
import Derived.Test.YtddlebbjaadbeaaDoorF20
import Derived.Test.YtddlebbjaadbeaaDoorFits
namespace Go.Proofs.YtddlebbjaadbeaaDoor.Aev
open Go
set_option linter.unusedVariables false
set_option linter.unusedSimpArgs false
set_option maxRecDepth 100000
theorem awake_all (k : Nat) : transomlaw09_awake.f (k + 100) = some true := by kernel_rfl
theorem drop_take_i (l : List V) (i : Nat) : List.take (Int.toNat (i : Int) - (0 : Nat)) (List.drop (0 : Nat) l) = l.take i := by simp
theorem keys_s5 (l : List V) (hl : FewV l) (cols : List C) (hc : FewL cols) (nm : ByteArray) (a : Nat) (b : ByteArray) (h0 : fitsS nm (a : Int) cols l = 0) :
    ∀ (m i : Nat), i + m = a + 1 → ∀ q, 8000 + m ≤ q → transomlaw09_SchemaKeys.s5 (q + 1) l b b 0 (i : Int) nm (a : Int) cols = transomlaw09_awake.f (q - m) := by
  have h1 : tabS nm (a : Int) cols = 0 := by
    unfold fitsS at h0
    split at h0
    · rename_i h1; exact absurd h0 h1
    · rename_i h1; simpa using h1
  have h2 : l.length = cols.length ∧ fitsL cols l = 0 := by
    unfold fitsS at h0
    rw [if_neg (by simpa using h1)] at h0
    split at h0
    · simp at h0
    · rename_i h2; exact ⟨by simpa using h2, h0⟩
  have ht := tab_len h1
  have hlen := hl.1
  have hk : ∀ (i : Nat), i ≤ a → fitsKeyS nm (a : Int) cols (l.take i) false = 0 := by
    intro i hi
    unfold fitsKeyS
    rw [if_neg (by simpa using h1), if_neg (by simp; omega)]
    exact fits_take i h2.2
  have hw : fitsKeyS nm (a : Int) cols (l.take a) true = 0 := by
    unfold fitsKeyS
    rw [if_neg (by simpa using h1), if_neg (by simp; omega)]
    exact fits_take a h2.2
  intro m
  induction m with
  | zero =>
    intro i hi q hq
    have e : ¬ (i : Int) ≤ (a : Int) := by omega
    have e1 : (0 : Int) ≤ (a : Int) := by omega
    have e2 : (a : Int) ≤ (l.length : Int) := by omega
    have hf := sfitsKey_f (l.take a) (few_take hl a) cols hc nm (a : Int) true q (by omega)
    rw [hw] at hf
    simp only [Nat.sub_zero, transomlaw09_SchemaKeys.s5, transomlaw09_SchemaKeys.s5c, e, e1, e2, hf, Int.toNat_natCast, List.drop_zero, decide_false, decide_true, Bool.and_self, cond_false, cond_true, beq_self_eq_true, Option.bind_some, Option.bind_fun_some]
  | succ m ih =>
    intro i hi q hq
    obtain ⟨p, rfl⟩ : ∃ p, q = p + 1 := ⟨q - 1, by omega⟩
    have e : (i : Int) ≤ (a : Int) := by omega
    have e1 : (0 : Int) ≤ (i : Int) := by omega
    have e2 : (i : Int) ≤ (l.length : Int) := by omega
    have e3 : IntKind.wrap IntKind.i64 ((i : Int) + 1) = ((i + 1 : Nat) : Int) := by rw [i64w (by omega) (by omega)]; omega
    have hf := sfitsKey_f (l.take i) (few_take hl i) cols hc nm (a : Int) false (p + 1) (by omega)
    rw [hk i (by omega)] at hf
    have hr := ih (i + 1) (by omega) p (by omega)
    rw [show p + 1 - (m + 1) = p - m by omega, ← hr]
    generalize p + 1 = r at hf
    simp only [transomlaw09_SchemaKeys.s5, transomlaw09_SchemaKeys.s5c, e, e1, e2, e3, hf, Int.toNat_natCast, List.drop_zero, Nat.sub_zero, decide_true, Bool.and_self, cond_true, bne_self_eq_false, cond_false, Option.bind_some, Option.bind_fun_some]
theorem Pure.SchemaKeys (x0 : D_api_Table) (x1 : List D_api_Value) (h0 : Fit T_api_Table x0) (h1 : Fit (.sl T_api_Value) x1) : ∃ k, transomlaw09_SchemaKeys.f k x0.1 x0.2.1 x0.2.2.1 x1 = some true := by
  obtain ⟨k, hk⟩ : ∃ k, 20000 ≤ k := ⟨20000, Nat.le_refl _⟩
  obtain ⟨_, _, hf, _⟩ := h0
  refine ⟨k + 10, ?_⟩
  simp only [transomlaw09_SchemaKeys.f, transomlaw09_SchemaKeys.c, few09 x0.1 x0.2.1 x0.2.2.1 (k + 10) (by omega), few05 x1 (k + 10) (by omega), Option.bind_some, Option.bind_fun_some]
  have aw : ∀ j, 100 ≤ j → transomlaw09_awake.f j = some true := fun j hj => by
    obtain ⟨i, rfl⟩ : ∃ i, j = i + 100 := ⟨j - 100, by omega⟩
    exact awake_all i
  have s0t : ∀ j, 101 ≤ j → transomlaw09_SchemaKeys.s0 j x1 true x0.1 x0.2.1 x0.2.2.1 = some true := fun j hj => by
    obtain ⟨i, rfl⟩ : ∃ i, j = i + 1 := ⟨j - 1, by omega⟩
    simp only [transomlaw09_SchemaKeys.s0, transomlaw09_SchemaKeys.s0c, aw i (by omega), cond_true, Option.bind_some]
  by_cases hc : x0.2.2.1.length ≤ 20 ∧ x0.1.size ≤ 500 ∧ fewB x0.2.2.1
  · rw [if_pos hc]
    by_cases hv : x1.length ≤ 30 ∧ ∀ v ∈ x1, v.2.2.2.1.size ≤ 2000
    · rw [if_pos hv]
      have hl := fit_l hf hc.1 hc.2.2
      have hvv := fit_v h1 hv
      show transomlaw09_SchemaKeys.s0 (k + 10) x1 false x0.1 x0.2.1 x0.2.2.1 = some true
      obtain ⟨q, hq⟩ : ∃ q, k + 10 = q + 1 + 1 + 1 + 1 + 1 + 1 ∧ 10000 ≤ q := ⟨k + 4, by omega, by omega⟩
      rw [hq.1]
      have hkey := fun j (hj : 7000 ≤ j) => skey_f x1 hvv x0.2.2.1 hl x0.1 x0.2.1 j hj
      have hle := hvv.1
      by_cases c : fitsS x0.1 x0.2.1 x0.2.2.1 x1 = 0
      · -- it fits
        have ht : tabS x0.1 x0.2.1 x0.2.2.1 = 0 ∧ x1.length = x0.2.2.1.length ∧ fitsL x0.2.2.1 x1 = 0 := by
          have c' := c
          unfold fitsS at c'
          split at c'
          · rename_i h1; exact absurd c' h1
          · rename_i h1
            split at c'
            · simp at c'
            · rename_i h2; exact ⟨by simpa using h1, by simpa using h2, c'⟩
        have htl := tab_len ht.1
        have hok : (krow (x1.take x0.2.1.toNat)).2 = 0 := krow_ok (fun v hv => fits_chk ht.2.2 (by omega) v (List.mem_of_mem_take hv))
        obtain ⟨a, ha⟩ : ∃ a : Nat, x0.2.1 = (a : Int) := ⟨x0.2.1.toNat, by omega⟩
        rw [ha] at c ht htl hok hkey ⊢
        simp only [Int.toNat_natCast] at hok hkey
        have rowq : ∃ b, ∀ j, 7000 ≤ j → keycode_Row.f j (x1.take a) = some (b, 0) := by
          obtain ⟨b, h2, h3⟩ := kRow_eq (few_take hvv a) 7000 (Nat.le_refl _)
          refine ⟨b, fun j hj => ?_⟩
          obtain ⟨b', h4, h5⟩ := kRow_eq (few_take hvv a) j hj
          rw [hok] at h3 h4 h5
          rw [h4]
          congr 2
          exact ba_ext (h5.trans h3.symm)
        obtain ⟨b, hb⟩ := rowq
        have e1 : ¬ (a : Int) < 1 := by omega
        have e2 : ¬ (a : Int) > (x1.length : Int) := by omega
        have e3 : (0 : Int) ≤ (a : Int) := by omega
        have e4 : (a : Int) ≤ (x1.length : Int) := by omega
        have t0 : ∀ j, transomlaw09_SchemaKeys.s0 (j + 1) x1 false x0.1 (a : Int) x0.2.2.1 = transomlaw09_SchemaKeys.s1 j x1 x0.1 (a : Int) x0.2.2.1 := fun j => by
          simp only [transomlaw09_SchemaKeys.s0, transomlaw09_SchemaKeys.s0c, cond_false, Option.bind_fun_some]
        have t1 : ∀ j, 7000 ≤ j → transomlaw09_SchemaKeys.s1 (j + 1) x1 x0.1 (a : Int) x0.2.2.1 = transomlaw09_SchemaKeys.s2 j x1 b 0 false x0.1 (a : Int) x0.2.2.1 := fun j hj => by
          have hk := (hkey j hj).2 c
          rw [hb _ hj] at hk
          simp only [transomlaw09_SchemaKeys.s1, transomlaw09_SchemaKeys.s1c, hk, e1, e2, bne_self_eq_false, decide_false, cond_false, Option.bind_some, Option.bind_fun_some]
        have t2 : ∀ j, transomlaw09_SchemaKeys.s2 (j + 1) x1 b 0 false x0.1 (a : Int) x0.2.2.1 = transomlaw09_SchemaKeys.s4 j x1 b x0.1 (a : Int) x0.2.2.1 := fun j => by
          simp only [transomlaw09_SchemaKeys.s2, transomlaw09_SchemaKeys.s2c, cond_false, Option.bind_fun_some]
        have t4 : ∀ j, 7000 ≤ j → transomlaw09_SchemaKeys.s4 (j + 1) x1 b x0.1 (a : Int) x0.2.2.1 = transomlaw09_SchemaKeys.s5 j x1 b b 0 0 x0.1 (a : Int) x0.2.2.1 := fun j hj => by
          simp only [transomlaw09_SchemaKeys.s4, transomlaw09_SchemaKeys.s4c, hb j hj, e3, e4, Int.toNat_natCast, List.drop_zero, Nat.sub_zero, decide_true, Bool.and_self, cond_true, Option.bind_some, Option.bind_fun_some]
        have h5 := keys_s5 x1 hvv x0.2.2.1 hl x0.1 a b c (a + 1) 0 (by omega) (q + 1) (by omega)
        have h5' : transomlaw09_SchemaKeys.s5 (q + 1 + 1) x1 b b 0 0 x0.1 (a : Int) x0.2.2.1 = some true := h5.trans (aw _ (by omega))
        rw [t0, t1 _ (by omega), t2, t4 _ (by omega)]
        exact h5'
      · -- it does not
        have t0 : ∀ j, transomlaw09_SchemaKeys.s0 (j + 1) x1 false x0.1 x0.2.1 x0.2.2.1 = transomlaw09_SchemaKeys.s1 j x1 x0.1 x0.2.1 x0.2.2.1 := fun j => by
          simp only [transomlaw09_SchemaKeys.s0, transomlaw09_SchemaKeys.s0c, cond_false, Option.bind_fun_some]
        have t1 : ∀ j, 7000 ≤ j → transomlaw09_SchemaKeys.s1 (j + 1) x1 x0.1 x0.2.1 x0.2.2.1 = transomlaw09_SchemaKeys.s2 j x1 (ByteArray.mk (List.toArray [])) (fitsS x0.1 x0.2.1 x0.2.2.1 x1) true x0.1 x0.2.1 x0.2.2.1 := fun j hj => by
          have hk := (hkey j hj).1 c
          simp only [transomlaw09_SchemaKeys.s1, transomlaw09_SchemaKeys.s1c, hk, bne_iff_ne.2 c, cond_true, Option.bind_some, Option.bind_fun_some]
        have t2 : ∀ j, 200 ≤ j → transomlaw09_SchemaKeys.s2 (j + 1) x1 (ByteArray.mk (List.toArray [])) (fitsS x0.1 x0.2.1 x0.2.2.1 x1) true x0.1 x0.2.1 x0.2.2.1 = some true := fun j hj => by
          obtain ⟨i, rfl⟩ : ∃ i, j = i + 1 := ⟨j - 1, by omega⟩
          simp only [transomlaw09_SchemaKeys.s2, transomlaw09_SchemaKeys.s2c, transomlaw09_SchemaKeys.s3, transomlaw09_SchemaKeys.s3c, aw (i + 1) (by omega), bne_iff_ne.2 c, beq_self_eq_true, cond_true, Option.bind_some, Option.bind_fun_some]
        rw [t0, t1 _ (by omega), t2 _ (by omega)]
    · rw [if_neg hv]; exact s0t _ (by omega)
  · rw [if_neg hc]; exact s0t _ (by omega)
end Go.Proofs.YtddlebbjaadbeaaDoor.Aev
