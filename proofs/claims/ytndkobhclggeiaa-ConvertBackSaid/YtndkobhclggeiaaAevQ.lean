/- AEV: the orders that the model may draw for a region. -/
import Derived.Test.YtndkobhclggeiaaAevO
namespace Go.Proofs.Ytndkobhclggeiaa.Aev
set_option linter.unusedVariables false
set_option linter.unusedSimpArgs false
open Go

theorem nodup_le : ∀ {l m : List Nat}, l.Nodup → l ⊆ m → l.length ≤ m.length
  | [], m, _, _ => by simp
  | a :: l, m, hn, hs => by
    obtain ⟨m1, m2, rfl⟩ := List.append_of_mem (hs (List.mem_cons_self))
    have hn' := List.nodup_cons.1 hn
    have := nodup_le (m := m1 ++ m2) hn'.2 (fun x hx => by
      have := hs (List.mem_cons_of_mem _ hx)
      simp only [List.mem_append, List.mem_cons] at this ⊢
      rcases this with h | h | h
      · exact .inl h
      · subst h; exact (hn'.1 hx).elim
      · exact .inr h)
    simp at this ⊢; omega

section lin
variable (m : Region.Mode) (ops : Array Oper)

/-- The last first: each behind what it must be behind. -/
def Good : List Nat → Prop
  | [] => True
  | j :: l => j < ops.size ∧ j ∉ l ∧ (∀ o, ops[j]? = some o → ∀ e ∈ o.after, Region.binds m e = true → e.on ∈ l) ∧ Good l

def Stuck (acc : List Nat) : Prop := ∀ i, i < ops.size → i ∉ acc → ∃ o, ops[i]? = some o ∧ ∃ e ∈ o.after, Region.binds m e = true ∧ e.on ∉ acc

theorem Good.nodup : ∀ {l : List Nat}, Good m ops l → l.Nodup
  | [], _ => List.nodup_nil
  | j :: l, ⟨_, h1, _, h2⟩ => List.nodup_cons.2 ⟨h1, Good.nodup h2⟩
theorem Good.lt : ∀ {l : List Nat}, Good m ops l → ∀ i ∈ l, i < ops.size
  | [], _, i, h => by simp at h
  | j :: l, ⟨h0, _, _, h2⟩, i, h => by
    simp only [List.mem_cons] at h
    rcases h with rfl | h
    · exact h0
    · exact Good.lt h2 i h

theorem go_spec : ∀ (fuel t : Nat) (listed : Array Bool) (acc : List Nat), listed.size = ops.size → (∀ i, i < ops.size → (listed[i]? = some true ↔ i ∈ acc)) → Good m ops acc →
    ∃ acc', Region.linearise.go m ops fuel t listed acc = acc'.reverse ∧ Good m ops acc' ∧ (Stuck m ops acc' ∨ acc'.length = acc.length + fuel)
  | 0, t, listed, acc, hs, hl, hg => ⟨acc, rfl, hg, .inr rfl⟩
  | fuel + 1, t, listed, acc, hs, hl, hg => by
    unfold Region.linearise.go
    simp only
    generalize hrs : (List.range ops.size).filter (fun i => !listed.getD i true && ((ops[i]?).map (·.after.all fun e => !Region.binds m e || listed.getD e.on false)).getD false) = rs
    have hmem : ∀ i, i ∈ rs ↔ i < ops.size ∧ i ∉ acc ∧ ∃ o, ops[i]? = some o ∧ ∀ e ∈ o.after, Region.binds m e = true → e.on ∈ acc := by
      intro i
      rw [← hrs, List.mem_filter, List.mem_range]
      constructor
      · rintro ⟨hi, h⟩
        simp only [Bool.and_eq_true, Bool.not_eq_true'] at h
        obtain ⟨h1, h2⟩ := h
        have hni : i ∉ acc := by
          intro h
          have := (hl i hi).2 h
          simp [Array.getD_eq_getD_getElem?, this] at h1
        refine ⟨hi, hni, ?_⟩
        cases ho : ops[i]? with
        | none => simp [ho] at h2
        | some o =>
          refine ⟨o, rfl, fun e he hb => ?_⟩
          simp only [ho, Option.map_some, Option.getD_some, Array.all_eq_true_iff_forall_mem] at h2
          have := h2 e he
          simp only [hb, Bool.not_true, Bool.false_or] at this
          have hlt : e.on < ops.size := by
            rcases Nat.lt_or_ge e.on ops.size with h | h
            · exact h
            · simp [Array.getD_eq_getD_getElem?, Array.getElem?_eq_none (hs ▸ h)] at this
          refine (hl e.on hlt).1 ?_
          rw [Array.getD_eq_getD_getElem?] at this
          cases hx : listed[e.on]? with
          | none => simp [hx] at this
          | some b => simp [hx] at this; rw [this]
      · rintro ⟨hi, hni, o, ho, hall⟩
        refine ⟨hi, ?_⟩
        simp only [Bool.and_eq_true, Bool.not_eq_true']
        constructor
        · rw [Array.getD_eq_getD_getElem?]
          have hlt : i < listed.size := by omega
          rw [Array.getElem?_eq_getElem hlt]
          simp only [Option.getD_some]
          cases hb : listed[i] with
          | false => rfl
          | true => exact (hni ((hl i hi).1 (by rw [Array.getElem?_eq_getElem hlt, hb]))).elim
        · simp only [ho, Option.map_some, Option.getD_some, Array.all_eq_true_iff_forall_mem]
          intro e he
          by_cases hb : Region.binds m e = true
          · simp only [hb, Bool.not_true, Bool.false_or]
            have hin := hall e he hb
            have := (hl e.on (hg.lt _ _ _ hin)).2 hin
            simp [Array.getD_eq_getD_getElem?, this]
          · simp [hb]
    cases hx : rs[t % rs.length]? with
    | none =>
      refine ⟨acc, rfl, hg, .inl ?_⟩
      have hnil : rs = [] := by
        rcases Nat.eq_zero_or_pos rs.length with h | h
        · exact List.length_eq_zero_iff.1 h
        · have := Nat.mod_lt t h
          rw [List.getElem?_eq_getElem this] at hx; simp at hx
      intro i hi hni
      have : i ∉ rs := by rw [hnil]; simp
      rw [hmem] at this
      cases ho : ops[i]? with
      | none => rw [Array.getElem?_eq_none_iff] at ho; omega
      | some o =>
        refine ⟨o, rfl, ?_⟩
        apply Classical.byContradiction
        intro hno
        apply this
        refine ⟨hi, hni, o, ho, fun e he hb => ?_⟩
        apply Classical.byContradiction
        intro hne
        exact hno ⟨e, he, hb, hne⟩
    | some i =>
      have hi := (hmem i).1 (List.mem_of_getElem? hx)
      obtain ⟨hi1, hi2, o, ho, hall⟩ := hi
      obtain ⟨acc', h1, h2, h3⟩ := go_spec fuel (t / rs.length) (listed.setIfInBounds i true) (i :: acc) (by simpa using hs) (fun j hj => by
        rw [Array.getElem?_setIfInBounds]
        by_cases e : i = j
        · subst e; simp; omega
        · simp [e, Ne.symm e, hl j hj]) ⟨hi1, hi2, fun o' ho' e he hb => by rw [ho] at ho'; cases ho'; exact hall e he hb, hg⟩
      refine ⟨acc', h1, h2, ?_⟩
      rcases h3 with h3 | h3
      · exact .inl h3
      · exact .inr (by rw [h3]; simp; omega)

theorem linearise_spec (t : Nat) : ∃ acc, Region.linearise m ops t = acc.reverse ∧ Good m ops acc ∧ (Stuck m ops acc ∨ acc.length = ops.size) := by
  unfold Region.linearise
  obtain ⟨acc, h1, h2, h3⟩ := go_spec m ops ops.size t (Array.replicate ops.size false) [] (by simp) (fun i hi => by simp [hi]) trivial
  exact ⟨acc, h1, h2, by simpa using h3⟩

theorem full_mem {l : List Nat} (hg : Good m ops l) (hl : l.length = ops.size) : ∀ i, i < ops.size → i ∈ l := by
  intro i hi
  apply Classical.byContradiction
  intro hn
  have h1 : (i :: l).Nodup := List.nodup_cons.2 ⟨hn, hg.nodup⟩
  have h2 : (i :: l) ⊆ List.range ops.size := by
    intro j hj
    simp only [List.mem_cons] at hj
    rw [List.mem_range]
    rcases hj with rfl | hj
    · exact hi
    · exact hg.lt _ _ _ hj
  have := nodup_le h1 h2
  simp at this; omega

/-- One full order: then every one is. -/
theorem full_of_full {l0 acc : List Nat} (hg0 : Good m ops l0) (hl0 : l0.length = ops.size) (hg : Good m ops acc) (hs : Stuck m ops acc ∨ acc.length = ops.size) : acc.length = ops.size := by
  rcases hs with hs | hs
  · have key : ∀ l, Good m ops l → ∀ i ∈ l, i ∈ acc := by
      intro l
      induction l with
      | nil => intro _ i h; simp at h
      | cons j l ih =>
        rintro ⟨hj, _, hp, hl⟩ i hi
        simp only [List.mem_cons] at hi
        rcases hi with rfl | hi
        · apply Classical.byContradiction
          intro hn
          obtain ⟨o, ho, e, he, hb, hne⟩ := hs i hj hn
          exact hne (ih hl _ (hp o ho e he hb))
        · exact ih hl i hi
    have h1 : l0 ⊆ acc := key l0 hg0
    have h2 := nodup_le hg0.nodup h1
    have h3 : acc ⊆ List.range ops.size := fun j hj => by rw [List.mem_range]; exact hg.lt _ _ _ hj
    have h4 := nodup_le hg.nodup h3
    simp at h4; omega
  · exact hs
end lin
end Go.Proofs.Ytndkobhclggeiaa.Aev
