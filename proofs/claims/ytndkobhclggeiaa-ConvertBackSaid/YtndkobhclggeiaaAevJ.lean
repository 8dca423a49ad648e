/- AEV: each operation does what the evaluator says (4). -/
import Derived.Test.YtndkobhclggeiaaAevI
import Derived.Laws.Strings
namespace Go.Proofs.Ytndkobhclggeiaa.Aev
set_option linter.unusedVariables false
set_option linter.unusedSimpArgs false
open Go

section
variable {P : Program} {sg : FuncId → Option (Nat × List Nat)} {fresh : Nat} {X : Cx} {w : World} {S : Nat → Prop} {ρ : Nat → Option Value} {H : Nat → Option Nat} {N : Nat} {st : St} {a : Act} {o : Oper} {x : Out} {lg lg' : List Loc}

theorem eqGuard_one {op : BinOp} {t : TypeId} {y z : Operand} {u v : Value} (hu : (∃ k n, u = .int k n) ∨ (∃ s, u = .string s) ∨ (∃ b, u = .bool b)) : (eqGuard op t y z u v).run P w = .ok () w := by
  rcases hu with ⟨k, n, rfl⟩ | ⟨s, rfl⟩ | ⟨b, rfl⟩ <;> unfold eqGuard <;> (by_cases h : op matches .eql | .neq) <;> simp [h]

theorem isAggT_of {t : TypeId} {d : TypeDesc} (hu : P.underlying t = some d) {q : Bool × Nat} (hq : isAggT P t = some q) : q.1 = (match d with | .struct _ => true | .array _ _ => true | _ => false) := by
  unfold isAggT at hq
  rw [hu] at hq
  cases hi : P.info? t with
  | none => rw [hi] at hq; cases d <;> simp at hq
  | some i => rw [hi] at hq; cases d <;> simp at hq <;> subst hq <;> rfl
theorem ba_ext {a b : ByteArray} (h : a.data.toList = b.data.toList) : a = b := by
  cases a with | mk a => cases b with | mk b => congr 1; exact Array.toList_inj.mp h
theorem ba_beq (p q : ByteArray) : (p == q) = (p.toList == q.toList) := by
  have h : (p == q) = (p.data == q.data) := by cases p; cases q; rfl
  rw [h, Bool.eq_iff_iff, beq_iff_eq, beq_iff_eq, ByteArray.toList_eq, ByteArray.toList_eq]
  exact ⟨fun h => by rw [h], Array.toList_inj.mp⟩

theorem forIn_fields {Field : Type} {f : Field → Option Bool × Unit → Sem (ForInStep (Option Bool × Unit))} {w : World} {P : Program} : ∀ {fs : List Field} {g : Field → Option Bool} {r : Bool},
    (∀ x ∈ fs, ∃ b, g x = some b ∧ (f x (none, ())).run P w = .ok (if b then .yield (none, ()) else .done (some false, ())) w) →
    (∀ x ∈ fs, g x = some true) ∧ (forIn fs (none, ()) f).run P w = .ok (none, ()) w ∨ (∃ x ∈ fs, g x = some false) ∧ (forIn fs (none, ()) f).run P w = .ok (some false, ()) w := by
  intro fs g r h
  induction fs with
  | nil => exact .inl ⟨by simp, by simp⟩
  | cons x fs ih =>
    obtain ⟨b, h1, h2⟩ := h x (by simp)
    cases b with
    | true =>
      rcases ih (fun y hy => h y (by simp [hy])) with ⟨k1, k2⟩ | ⟨⟨y, hy, k1⟩, k2⟩
      · exact .inl ⟨by intro y hy; simp at hy; rcases hy with rfl | hy; exact h1; exact k1 y hy, by simp [List.forIn_cons, h2, k2]⟩
      · exact .inr ⟨⟨y, by simp [hy], k1⟩, by simp [List.forIn_cons, h2, k2]⟩
    | false => exact .inr ⟨⟨x, by simp, h1⟩, by simp [List.forIn_cons, h2]⟩

theorem forIn_eq {Field : Type} {f : Field → Option Bool × Unit → Sem (ForInStep (Option Bool × Unit))} {w : World} {P : Program} {fs : List Field} (g : Field → Option Bool) {r : Bool} {K : Option Bool × Unit → World → Result Bool}
    (h : ∀ x ∈ fs, ∃ b, g x = some b ∧ (f x (none, ())).run P w = .ok (if b then .yield (none, ()) else .done (some false, ())) w) (hr : r = true ↔ ∀ x ∈ fs, g x = some true)
    (h1 : K (none, ()) w = .ok true w) (h2 : K (some false, ()) w = .ok false w) :
    ((forIn fs (none, ()) f).run P w).andThen K = .ok r w := by
  rcases forIn_fields (r := r) h with ⟨k1, k2⟩ | ⟨⟨y, hy, k1⟩, k2⟩
  · have hr' : r = true := hr.2 k1
    subst hr'
    rw [k2]; exact h1
  · have hr' : r = false := by
      cases r with
      | false => rfl
      | true => have := hr.1 rfl y hy; rw [k1] at this; simp at this
    subst hr'
    rw [k2]; exact h2

theorem cutT_run {t : TypeId} {cs l : List AV} {off : Nat} (h : cutT P t cs off = some l) {vs : Array Value} (hc : All2 (RepAV w S ρ) cs vs.toList) :
    ∃ u q, isAggT P t = some q ∧ (part t vs off).run P w = .ok u w ∧ (q.1 = true → ∃ a, u = .agg a ∧ All2 (RepAV w S ρ) l a.toList) ∧ (q.1 = false → All2 (RepAV w S ρ) l [u]) := by
  unfold cutT at h
  split at h
  · rename_i n hg
    obtain ⟨u, h1, h2⟩ := partA_run (P := P) (t := t) (cs := cs) (off := off) (v := .agg l) (by simp [partA, hg, h]) hc
    exact ⟨u, _, hg, h1, fun _ => h2, fun e => by simp at e⟩
  · rename_i n hg
    obtain ⟨h3, h4⟩ := cut_some h
    have hl : l.length = 1 := by rw [h4]; simp; omega
    match l, hl with
    | [c], _ =>
      obtain ⟨u, h1, h2⟩ := partA_run (P := P) (t := t) (cs := cs) (off := off) (v := .one c) (by simp [partA, hg, h]) hc
      exact ⟨u, _, hg, h1, fun e => by simp at e, fun _ => ⟨h2, trivial⟩⟩
  · simp at h

def fieldEq (P : Program) (d : Nat) (xs ys : List AV) (f : Field) : Option Bool :=
  match cutT P f.type xs f.offset, cutT P f.type ys f.offset with
  | some a, some b => eqT P d f.type a b
  | _, _ => none
theorem eqFields_spec {d : Nat} {xs ys : List AV} : ∀ {l : List Field} {r : Bool}, eqFields (eqT P d) P xs ys l = some r →
    (∀ f ∈ l, f.name ≠ "_" ∧ ∃ a b c, cutT P f.type xs f.offset = some a ∧ cutT P f.type ys f.offset = some b ∧ eqT P d f.type a b = some c ∧ fieldEq P d xs ys f = some c) ∧ (r = true ↔ ∀ f ∈ l, fieldEq P d xs ys f = some true)
  | [], r, h => by simp [eqFields] at h; subst h; simp
  | f :: l, r, h => by
    unfold eqFields at h
    split at h
    · simp at h
    · rename_i hn
      split at h
      · rename_i a b ha hb
        split at h
        · rename_i p q hp hq
          simp at h; subst h
          obtain ⟨h1, h2⟩ := eqFields_spec hq
          have hf : fieldEq P d xs ys f = some p := by simp [fieldEq, ha, hb, hp]
          refine ⟨fun g hg => ?_, ?_⟩
          · simp at hg
            rcases hg with rfl | hg
            · exact ⟨hn, a, b, p, ha, hb, hp, hf⟩
            · exact h1 g hg
          · simp [hf, h2]
        · simp at h
      · simp at h

def elemEq (P : Program) (d : Nat) (e : TypeId) (sz : Nat) (xs ys : List AV) (i : Nat) : Option Bool :=
  match cutT P e xs (i * sz), cutT P e ys (i * sz) with
  | some a, some b => eqT P d e a b
  | _, _ => none
theorem eqElems_spec {d : Nat} {e : TypeId} {sz : Nat} {xs ys : List AV} : ∀ {l : List Nat} {r : Bool}, eqElems (eqT P d e) P e sz xs ys l = some r →
    (∀ i ∈ l, ∃ a b c, cutT P e xs (i * sz) = some a ∧ cutT P e ys (i * sz) = some b ∧ eqT P d e a b = some c ∧ elemEq P d e sz xs ys i = some c) ∧ (r = true ↔ ∀ i ∈ l, elemEq P d e sz xs ys i = some true)
  | [], r, h => by simp [eqElems] at h; subst h; simp
  | f :: l, r, h => by
    unfold eqElems at h
    split at h
    · rename_i a b ha hb
      split at h
      · rename_i p q hp hq
        simp at h; subst h
        obtain ⟨h1, h2⟩ := eqElems_spec hq
        have hf : elemEq P d e sz xs ys f = some p := by simp [elemEq, ha, hb, hp]
        refine ⟨fun g hg => ?_, ?_⟩
        · simp at hg
          rcases hg with rfl | hg
          · exact ⟨a, b, p, ha, hb, hp, hf⟩
          · exact h1 g hg
        · simp [hf, h2]
      · simp at h
    · simp at h

theorem equalIn_cells {d : Nat} {t : TypeId} : ∀ {xs ys : List AV} {r : Bool} {us vs : Value}, eqT P d t xs ys = some r →
    ((isAggT P t).map (·.1) = some true → ∃ a b, us = .agg a ∧ vs = .agg b ∧ All2 (RepAV w S ρ) xs a.toList ∧ All2 (RepAV w S ρ) ys b.toList) →
    ((isAggT P t).map (·.1) = some false → All2 (RepAV w S ρ) xs [us] ∧ All2 (RepAV w S ρ) ys [vs]) →
    (∃ q, isAggT P t = some q) → ∀ D, d ≤ D → (Op.equalIn D t us vs).run P w = .ok r w := by
  induction d generalizing t with
  | zero => intro xs ys r us vs h; simp [eqT] at h
  | succ d ih =>
    intro xs ys r us vs h ha hf hq D hD
    obtain ⟨D, rfl⟩ : ∃ m, D = m + 1 := ⟨D - 1, by omega⟩
    obtain ⟨⟨isA, sz⟩, hq⟩ := hq
    unfold eqT at h
    split at h
    · rename_i hu
      have hfa : isA = false := by
        exact isAggT_of hu hq
      subst hfa
      split at h
      · rename_i p q
        simp at h; subst h
        obtain ⟨h1, h2⟩ := hf (by rw [hq]; rfl)
        have e1 := rep_b (w := w) (S := S) (ρ := ρ) (v := us) h1.1
        have e2 := rep_b (w := w) (S := S) (ρ := ρ) (v := vs) h2.1
        subst e1; subst e2
        simp [Op.equalIn, underlying_run hu]
      · simp at h
    · rename_i k hu
      have hfa : isA = false := by
        exact isAggT_of hu hq
      subst hfa
      split at h
      · rename_i k1 p k2 q
        split at h
        · rename_i e; subst e
          simp at h; subst h
          obtain ⟨h1, h2⟩ := hf (by rw [hq]; rfl)
          have e1 := rep_i (w := w) (S := S) (ρ := ρ) (v := us) h1.1
          have e2 := rep_i (w := w) (S := S) (ρ := ρ) (v := vs) h2.1
          subst e1; subst e2
          simp [Op.equalIn, underlying_run hu]
        · simp at h
      · simp at h
    · rename_i hu
      have hfa : isA = false := by
        exact isAggT_of hu hq
      subst hfa
      split at h
      · rename_i p q
        simp at h; subst h
        obtain ⟨h1, h2⟩ := hf (by rw [hq]; rfl)
        have e1 := rep_s (w := w) (S := S) (ρ := ρ) (v := us) h1.1
        have e2 := rep_s (w := w) (S := S) (ρ := ρ) (v := vs) h2.1
        subst e1; subst e2
        simp [Op.equalIn, underlying_run hu, ba_beq]
      · simp at h
    · rename_i fs hu
      split at h
      · simp at h
      · rename_i hst
        have hta : isA = true := by
          exact isAggT_of hu hq
        subst hta
        obtain ⟨av, bv, rfl, rfl, h1, h2⟩ := ha (by rw [hq]; rfl)
        obtain ⟨hg, hr⟩ := eqFields_spec h
        simp only [Op.equalIn, Sem.run_bind, underlying_run hu, Result.andThen_ok, run_program, hst, Bool.false_eq_true, if_false]
        rw [← Array.forIn_toList]
        refine forIn_eq (fieldEq P d xs ys) ?_ hr rfl rfl
        intro f hf
        obtain ⟨hn, p, q, c, hp, hq', hc, hfe⟩ := hg f hf
        obtain ⟨u1, q1, k1, k2, k3, k4⟩ := cutT_run (w := w) hp h1
        obtain ⟨u2, q2, j1, j2, j3, j4⟩ := cutT_run (w := w) hq' h2
        rw [k1] at j1; simp at j1; subst j1
        have heq := ih hc (us := u1) (vs := u2) (fun e => by
            rw [k1] at e; simp at e
            obtain ⟨a1, e1, e2⟩ := k3 e
            obtain ⟨a2, e3, e4⟩ := j3 e
            exact ⟨a1, a2, e1, e3, e2, e4⟩) (fun e => by
            rw [k1] at e; simp at e
            exact ⟨k4 e, j4 e⟩) ⟨_, k1⟩ D (by omega)
        refine ⟨c, hfe, ?_⟩
        simp only [hn, ne_eq, not_false_eq_true, if_true, Sem.run_bind, k2, j2, heq, Result.andThen_ok]
        cases c <;> simp
    · rename_i n e hu
      split at h
      · rename_i inf hi
        have hta : isA = true := by
          exact isAggT_of hu hq
        subst hta
        obtain ⟨av, bv, rfl, rfl, h1, h2⟩ := ha (by rw [hq]; rfl)
        obtain ⟨hg, hr⟩ := eqElems_spec h
        simp only [Op.equalIn, Sem.run_bind, underlying_run hu, Result.andThen_ok, sizeOf_run hi]
        rw [Std.Legacy.Range.forIn_eq_forIn_range']
        simp only [Std.Legacy.Range.size, Nat.sub_zero, Nat.add_sub_cancel, Nat.div_one]
        refine forIn_eq (elemEq P d e inf.size xs ys) ?_ hr rfl rfl
        intro f hf
        obtain ⟨p, q, c, hp, hq', hc, hfe⟩ := hg f hf
        obtain ⟨u1, q1, k1, k2, k3, k4⟩ := cutT_run (w := w) hp h1
        obtain ⟨u2, q2, j1, j2, j3, j4⟩ := cutT_run (w := w) hq' h2
        rw [k1] at j1; simp at j1; subst j1
        have heq := ih hc (us := u1) (vs := u2) (fun e => by
            rw [k1] at e; simp at e
            obtain ⟨a1, e1, e2⟩ := k3 e
            obtain ⟨a2, e3, e4⟩ := j3 e
            exact ⟨a1, a2, e1, e3, e2, e4⟩) (fun e => by
            rw [k1] at e; simp at e
            exact ⟨k4 e, j4 e⟩) ⟨_, k1⟩ D (by omega)
        refine ⟨c, hfe, ?_⟩
        simp only [Sem.run_bind, k2, j2, heq, Result.andThen_ok]
        cases c <;> simp
      · simp at h
    · simp at h
end
end Go.Proofs.Ytndkobhclggeiaa.Aev
