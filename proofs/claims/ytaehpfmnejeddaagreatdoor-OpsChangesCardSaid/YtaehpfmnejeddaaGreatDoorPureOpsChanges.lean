
/- OpsChanges: any change's bytes, or the first error; what any bytes begin with, and what is behind, or the error: what the document says. For every input; no conditions. -/
import Derived.Test.YtaehpfmnejeddaaGreatDoorF6
import Derived.Test.YtaehpfmnejeddaaGreatDoorF10
import Derived.Test.YtaehpfmnejeddaaGreatDoorF11
import Derived.Test.YtaehpfmnejeddaaGreatDoorF12
import Derived.Test.YtaehpfmnejeddaaGreatDoorChReadR
import Derived.Test.YtaehpfmnejeddaaGreatDoorTabSame
namespace Go.Proofs.YtaehpfmnejeddaaGreatDoor.Aev
open Go
set_option linter.unusedVariables false
set_option linter.unusedSimpArgs false
set_option maxRecDepth 100000
theorem awake_all (k : Nat) : transomlaw14_awake.f (k + 100) = some true := by kernel_rfl
theorem rtx_s0 (l : List ByteArray) (hl : l.length ≤ 1000) : ∀ (m i : Nat), i + m = l.length → ∀ k, m < k → transomref01_Texts.s0 k l l (i : Int) = some true := by
  intro m
  induction m with
  | zero =>
    intro i hi k hk
    obtain ⟨k, rfl⟩ : ∃ q, k = q + 1 := ⟨k - 1, by omega⟩
    have e : ¬ (i : Int) < (l.length : Int) := by omega
    simp only [transomref01_Texts.s0, transomref01_Texts.s0c, e, decide_false, cond_false]
  | succ m ih =>
    intro i hi k hk
    obtain ⟨k, rfl⟩ : ∃ q, k = q + 1 := ⟨k - 1, by omega⟩
    have hlt : i < l.length := by omega
    have e0 : (i : Int) < (l.length : Int) := by omega
    have e1 : (0 : Int) ≤ (i : Int) := by omega
    have e2 : IntKind.wrap IntKind.i64 ((i : Int) + 1) = ((i + 1 : Nat) : Int) := by rw [i64w (by omega) (by omega)]; omega
    have h1 := ih (i + 1) (by omega) k (by omega)
    simp only [transomref01_Texts.s0, transomref01_Texts.s0c, e0, e1, e2, h1, beq_self_eq_true, Bool.not_true, cond_false, decide_true, Bool.and_self, cond_true, Option.bind_some, Option.bind_fun_some]
theorem samech_refl (c : Ch) (h1 : c.2.2.2.2.2.2.2.1.length ≤ 1000) (h2 : c.2.2.2.2.2.2.2.2.2.1.2.2.1.length ≤ 1000) (k : Nat) (hk : 3000 ≤ k) : transomref14_SameChange.f k c c = some true := by
  have t := rtx_s0 c.2.2.2.2.2.2.2.1 h1 c.2.2.2.2.2.2.2.1.length 0 (by omega) k (by omega)
  have t' : transomref01_Texts.s0 k c.2.2.2.2.2.2.2.1 c.2.2.2.2.2.2.2.1 0 = some true := t
  have s1 := samecol_refl c.2.2.2.2.2.2.2.2.1 k
  have s2 := same_refl c.2.2.2.2.2.2.2.2.2.1.1 c.2.2.2.2.2.2.2.2.2.1.2.1 c.2.2.2.2.2.2.2.2.2.1.2.2.1 h2 k (by omega)
  simp only [transomref14_SameChange.f, transomref14_SameChange.c, transomref01_Texts.f, transomref01_Texts.c, beq_self_eq_true, bne_self_eq_false, cond_true, cond_false, t', s1, s2, Option.bind_some, Option.bind_fun_some]
def smallC (c : Ch) : Prop := c.2.2.2.2.2.2.2.1.length ≤ 1000 ∧ c.2.2.2.2.2.2.2.2.2.1.2.2.1.length ≤ 1000
theorem small_bad (e : Int) : smallC (badC e).1 := ⟨Nat.zero_le _, Nat.zero_le _⟩
theorem small_fin (l : List UInt8) (c : Ch) (r : List UInt8) (h : smallC c) : smallC (finC l c r).1 := by
  unfold finC
  split
  · exact small_bad 4
  · exact h
theorem small_tail (l : List UInt8) (kd : Int) (t1 t2 t3 t4 t5 : ByteArray) (ty : Int) (ns : List ByteArray) (h : ns.length ≤ 1000) (r : List UInt8) : smallC (tailC l kd t1 t2 t3 t4 t5 ty ns r).1 := by
  unfold tailC
  split
  · split
    · exact small_bad _
    · exact small_fin _ _ _ ⟨h, tabR_few' r⟩
  · split
    · split
      · exact small_bad _
      · exact small_fin _ _ _ ⟨h, Nat.zero_le _⟩
    · exact small_fin _ _ _ ⟨h, Nat.zero_le _⟩
theorem small_rd (l : List UInt8) : smallC (rdC l).1 := by
  unfold rdC
  split
  · exact small_bad _
  · split
    · exact small_bad _
    · split
      · exact small_bad _
      · split
        · exact small_bad _
        · split
          · exact small_bad _
          · refine small_tail _ _ _ _ _ _ _ _ _ ?_ _
            have h1 := (txR_ok (numS 0 8 (numS 0 100 (txR 5 (numS 1 6 l).2.1).2.1).2.1).1 (numS 0 8 (numS 0 100 (txR 5 (numS 1 6 l).2.1).2.1).2.1).2.1).2
            have h2 := numS_le 0 8 (numS 0 100 (txR 5 (numS 1 6 l).2.1).2.1).2.1
            omega
theorem Pure.OpsChanges (x0 : D_api_Change) (x1 : ByteArray) (h0 : Fit T_api_Change x0) (h1 : Fit .str x1) : ∃ k, transomlaw14_OpsChanges.f k x0 x1 = some true := by
  obtain ⟨k, hk⟩ : ∃ k, 300000 ≤ k := ⟨300000, Nat.le_refl _⟩
  refine ⟨k + 1 + 1, ?_⟩
  obtain ⟨r, g1, g2⟩ := few10 x0 h0 (k + 1 + 1) (by omega)
  have aw : ∀ j, 100 ≤ j → transomlaw14_awake.f j = some true := fun j hj => by
    obtain ⟨i, rfl⟩ : ∃ i, j = i + 100 := ⟨j - 100, by omega⟩
    exact awake_all i
  have aw1 := aw (k + 1) (by omega)
  have aw0 := aw k (by omega)
  simp only [transomlaw14_OpsChanges.f, transomlaw14_OpsChanges.c, g1, Option.bind_some]
  by_cases c : r = 0
  · simp only [c, beq_self_eq_true, cond_true, transomlaw14_OpsChanges.s0, transomlaw14_OpsChanges.s0c, aw1, Option.bind_some]
  · have hf := g2.resolve_left c
    simp only [beq_eq_false_iff_ne.2 c, cond_false]
    by_cases d : (x1.size : Int) > 3000
    · simp only [d, decide_true, cond_true, transomlaw14_OpsChanges.s0, transomlaw14_OpsChanges.s0c, aw1, Option.bind_some]
    · have hx : x1 = mL x1.data.toList := ba_of x1
      have hl : x1.data.toList.length ≤ 90000 := by rw [← size_eq]; omega
      have r1 := readC_f x1.data.toList hl k (by omega)
      have r2 := rreadC_f x1.data.toList hl k (by omega)
      rw [← hx] at r1 r2
      obtain ⟨s1, s2⟩ := small_rd x1.data.toList
      simp only [d, decide_false, cond_false, transomlaw14_OpsChanges.s0, transomlaw14_OpsChanges.s0c, transomlaw14_OpsChanges.s1, transomlaw14_OpsChanges.s1c, putC_f hf k (by omega), rputC_f hf k (by omega), r1, r2, samech_refl _ s1 s2 k (by omega), beq_self_eq_true, cond_true, aw0, Option.bind_some, Option.bind_fun_some]
end Go.Proofs.YtaehpfmnejeddaaGreatDoor.Aev
