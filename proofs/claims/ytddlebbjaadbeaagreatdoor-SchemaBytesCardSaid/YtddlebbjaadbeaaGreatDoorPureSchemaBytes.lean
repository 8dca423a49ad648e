
/- SchemaBytes: any table's bytes, or the error; the table that any bytes begin with, and what is behind, or the error: what the document says. For every input; no conditions. -/
import Derived.Test.YtddlebbjaadbeaaGreatDoorF10
import Derived.Test.YtddlebbjaadbeaaGreatDoorF19
import Derived.Test.YtddlebbjaadbeaaGreatDoorTabRd
import Derived.Test.YtddlebbjaadbeaaGreatDoorTabSame
namespace Go.Proofs.YtddlebbjaadbeaaGreatDoor.Aev
open Go
set_option linter.unusedVariables false
set_option linter.unusedSimpArgs false
set_option maxRecDepth 100000
theorem awake_all (k : Nat) : transomlaw09_awake.f (k + 100) = some true := by kernel_rfl
theorem fin_few (nm : ByteArray) (a : Int) (q : List C × List UInt8 × Int) : (fin nm a [] q).2.2.1.length ≤ 8 := by
  unfold fin
  split
  · exact Nat.zero_le _
  · split
    · exact Nat.zero_le _
    · rename_i h
      exact (tabS_0 (by simpa using h)).2.2.2
theorem tabR_few (l : List UInt8) : (tabR l).2.2.1.length ≤ 8 := by
  unfold tabR
  split
  · exact Nat.zero_le _
  · split
    · exact Nat.zero_le _
    · split
      · exact Nat.zero_le _
      · split
        · exact Nat.zero_le _
        · split
          · exact Nat.zero_le _
          · exact fin_few _ _ _
theorem Pure.SchemaBytes (x0 : D_api_Table) (x1 : ByteArray) (h0 : Fit T_api_Table x0) (h1 : Fit .str x1) : ∃ k, transomlaw09_SchemaBytes.f k x0.1 x0.2.1 x0.2.2.1 x1 = some true := by
  obtain ⟨k, hk⟩ : ∃ k, 220000 ≤ k := ⟨220000, Nat.le_refl _⟩
  obtain ⟨_, _, hf, _⟩ := h0
  refine ⟨k + 1 + 1, ?_⟩
  have hfew := few09 x0.1 x0.2.1 x0.2.2.1 (k + 1 + 1) (by omega)
  have aw : ∀ j, 100 ≤ j → transomlaw09_awake.f j = some true := fun j hj => by
    obtain ⟨i, rfl⟩ : ∃ i, j = i + 100 := ⟨j - 100, by omega⟩
    exact awake_all i
  have aw1 := aw (k + 1) (by omega)
  have aw0 := aw k (by omega)
  simp only [transomlaw09_SchemaBytes.f, transomlaw09_SchemaBytes.c, hfew, Option.bind_some, Option.bind_fun_some]
  have s0t : transomlaw09_SchemaBytes.s0 (k + 1 + 1) x1 true x0.1 x0.2.1 x0.2.2.1 = some true := by
    simp only [transomlaw09_SchemaBytes.s0, transomlaw09_SchemaBytes.s0c, aw1, cond_true, Option.bind_some]
  by_cases hc : x0.2.2.1.length ≤ 20 ∧ x0.1.size ≤ 500 ∧ fewB x0.2.2.1
  · rw [if_pos hc]
    have hl := fit_l hf hc.1 hc.2.2
    by_cases hs : x1.size ≤ 2000
    · have e : ¬ (x1.size : Int) > 2000 := by omega
      have hz : ∀ c ∈ x0.2.2.1, c.1.size ≤ 2000 ∧ c.2.2.2.1.2.2.2.1.size ≤ 2000 := fun c hm => by
        have := hc.2.2 c hm
        exact ⟨by omega, this.2⟩
      have hn := hc.2.1
      have hx : x1 = mL x1.data.toList := ba_of x1
      have hr := sread_f x1.data.toList (by rw [← size_eq]; omega) k (by omega)
      have hrr := rread_f x1.data.toList (by rw [← size_eq]; omega) k (by omega)
      have hsame := same_refl (tabR x1.data.toList).1 (tabR x1.data.toList).2.1 (tabR x1.data.toList).2.2.1 (by have := tabR_few x1.data.toList; omega) k (by omega)
      rw [← hx] at hr hrr
      show transomlaw09_SchemaBytes.s0 (k + 1 + 1) x1 (decide ((x1.size : Int) > 2000)) x0.1 x0.2.1 x0.2.2.1 = some true
      simp only [transomlaw09_SchemaBytes.s0, transomlaw09_SchemaBytes.s0c, transomlaw09_SchemaBytes.s1, transomlaw09_SchemaBytes.s1c, e, decide_false, cond_false, sput_f x0.1 x0.2.1 x0.2.2.1 hl (by omega) hz k (by omega), rput_f x0.1 x0.2.1 x0.2.2.1 hl (by omega) hz k (by omega), hr, hrr, hsame, aw0, beq_self_eq_true, cond_true, Option.bind_some, Option.bind_fun_some]
    · have e : (x1.size : Int) > 2000 := by omega
      simp only [e, decide_true]
      exact s0t
  · rw [if_neg hc]; exact s0t
end Go.Proofs.YtddlebbjaadbeaaGreatDoor.Aev
