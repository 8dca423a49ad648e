/- AEV: a call of a function by its contract. -/
import Derived.Test.YtndkobhclggeiaaAevM
namespace Go.Proofs.Ytndkobhclggeiaa.Aev
set_option linter.unusedVariables false
set_option linter.unusedSimpArgs false
open Go

section
variable {P : Program} {sg : FuncId → Option (Nat × List Nat)} {fresh : Nat} {X : Cx} {w : World} {S : Nat → Prop} {ρ : Nat → Option Value} {H : Nat → Option Nat} {N : Nat} {st : St} {a : Act} {o : Oper} {x : Out} {lg lg' : List Loc}

theorem normT_spec {keep : Bool} {t : Option TypeId} {y : TV} {r : (TV × List (Nat × Option Blk)) × List Loc} (h : (normT P keep t y).run st lg = some r) (hm : Mem X w S ρ H st.blk) :
    ToSettle st r.1.2 ∧ ∀ {S' : Nat → Prop} {v : Value}, (∀ b, S b → S' b) → Settled w S' ρ r.1.2 → RepTV w S ρ y v → RepTV w S' ρ r.1.1 v := by
  unfold normT at h
  split at h
  · have := run_pure' h; subst this
    exact ⟨ToSettle.nil, fun hS _ hv => hv.mono hS (fun _ _ => rfl) (fun _ _ x => x)⟩
  · split at h
    · obtain ⟨⟨y', wr⟩, lg1, h1, h⟩ := run_bind_some h
      have := run_pure h; subst this
      exact normVV_spec h1 hm
    · have := run_pure' h; subst this
      exact ⟨ToSettle.nil, fun hS _ hv => hv.mono hS (fun _ _ => rfl) (fun _ _ x => x)⟩
theorem normAll_spec {mv : List Nat} {ts : List TypeId} : ∀ {ys : List TV} {i : Nat} {lg : List Loc} {r : (List TV × List (Nat × Option Blk)) × List Loc}, (normAll P mv ts i ys).run st lg = some r → Mem X w S ρ H st.blk →
    ToSettle st r.1.2 ∧ ∀ {S' : Nat → Prop} {vs : List Value}, (∀ b, S b → S' b) → Settled w S' ρ r.1.2 → All2 (RepTV w S ρ) ys vs → All2 (RepTV w S' ρ) r.1.1 vs
  | [], i, lg, r, h, hm => by have := run_pure' h; subst this; exact ⟨ToSettle.nil, fun _ _ hv => by rw [hv.nil_left]; trivial⟩
  | y :: ys, i, lg, r, h, hm => by
    simp only [normAll] at h
    obtain ⟨⟨y', wr⟩, lg1, h1, h⟩ := run_bind_some h
    obtain ⟨⟨ys', wr'⟩, lg2, h2, h⟩ := run_bind_some h
    have := run_pure h; subst this
    obtain ⟨s1, r1⟩ := normT_spec h1 hm
    obtain ⟨s2, r2⟩ := normAll_spec h2 hm
    refine ⟨s1.append s2, fun hS hs hv => ?_⟩
    obtain ⟨v, m, rfl, hv1, hv2⟩ := hv.cons_left
    exact ⟨r1 hS hs.left hv1, r2 hS hs.right hv2⟩

theorem reach_spec : ∀ {k : Nat} {seen todo : List Nat} {lg : List Loc} {r : List (Nat × Blk) × List Loc}, (reach k seen todo).run st lg = some r → ∀ p ∈ r.1, st.blk p.1 = some (some p.2)
  | 0, _, _, lg, r, h => (run_fail h).elim
  | k + 1, _, [], lg, r, h => by have := run_pure' h; subst this; intro p hp; simp at hp
  | k + 1, seen, n :: todo, lg, r, h => by
    simp only [reach] at h
    split at h
    · exact reach_spec h
    · obtain ⟨b, lg1, h1, h⟩ := run_bind_some h
      obtain ⟨q, lg2, h2, h⟩ := run_bind_some h
      have := run_pure h; subst this
      have hb := run_rB h1
      intro p hp
      simp only [List.mem_cons] at hp
      rcases hp with rfl | hp
      · exact hb
      · exact reach_spec h2 p hp

/-- What is known of a request. -/
structure ReqOK (st : St) (args : List TV) (r : Req) : Prop where
  len : r.blks.length = r.names.length
  nin : r.nin ≤ r.names.length
  nodup : ∀ {i j n : Nat}, r.names[i]? = some n → r.names[j]? = some n → i = j
  apart : ∀ n ∈ r.names, n ∉ r.wr.map (·.1)
  blk : ∀ (i n : Nat), r.names[i]? = some n → ∃ b b', st.blk n = some (some b) ∧ r.blks[i]? = some b' ∧ b.ren (idx r.names) = some b'
  args : All2 (fun x y => TV.ren (idx r.names) x = some y) args r.args

theorem All2.getBoth {α β : Type} {R : α → β → Prop} {l : List α} {m : List β} (h : All2 R l m) {i : Nat} {b : β} (hb : m[i]? = some b) : ∃ a, l[i]? = some a ∧ R a b := h.get' hb

theorem pack_spec {g : FuncId} {nin : Nat} {args : List TV} {wr : List (Nat × Option Blk)} {r : Req} (h : (pack g nin args wr).run st lg = some (r, lg')) :
    r.f = g ∧ r.nin = nin ∧ r.wr = wr ∧ ReqOK st args r := by
  unfold pack at h
  obtain ⟨nb, lg1, h1, h⟩ := run_bind_some h
  obtain ⟨args', lg2, h2, h⟩ := run_bind_some h
  obtain ⟨blks', lg3, h3, h⟩ := run_bind_some h
  have ha := run_ofO h2
  have hb := run_ofO h3
  simp only at ha hb
  split at h
  · rename_i hc
    simp only [Bool.and_eq_true, decide_eq_true_eq] at hc
    obtain ⟨⟨c1, c2⟩, c3⟩ := hc
    cases run_pure' h
    refine ⟨rfl, rfl, rfl, ?_⟩
    have hbl := optMapM hb
    refine { len := ?_, nin := c3, nodup := fun hi hj => nodupB_spec c2 hi hj, apart := apartL_spec c1, blk := ?_, args := optMapM ha }
    · have := hbl.length; simp only [List.length_map] at this ⊢; exact this.symm
    · intro i n hi
      simp only [List.getElem?_map, Option.map_eq_some_iff] at hi
      obtain ⟨p, hp, rfl⟩ := hi
      obtain ⟨b', hb', hr⟩ := hbl.get (i := i) (a := p.2) (by simp only [List.getElem?_map, hp, Option.map_some])
      refine ⟨p.2, b', reach_spec h1 p ?_, hb', hr⟩
      have := List.mem_of_getElem? hp
      simp only [List.mem_append, List.mem_filter] at this
      rcases this with ⟨h, _⟩ | ⟨h, _⟩ <;> exact h
  · exact (run_fail h).elim

theorem caps_ptrs {S' : Nat → Prop} : ∀ {caps : List (Nat × Nat)} {m : List Value}, All2 (fun (p : Nat × Nat) u => ∃ b, ρ p.1 = some (Ptr b 0) ∧ u = Ptr b p.2) caps m →
    All2 (RepTV w S' ρ) (caps.map fun p => .v (.one (.ptr p.1 p.2))) m
  | [], m, h => by rw [h.nil_left]; trivial
  | p :: caps, m, h => by
    obtain ⟨u, m', rfl, hu, hm⟩ := h.cons_left
    exact ⟨hu, caps_ptrs hm⟩

/-- The call, as the evaluator sees it. -/
theorem reqA_spec {c : Call} {f : Operand} {r : Req} (hop : o.op = .call c) (hcal : c.callee = .value f) (h : (reqA P sg c f).run st lg = some (r, lg')) (hR : Rep X w S ρ H N st a) :
    ∃ mv args vals, sg r.f = some (r.nin, mv) ∧ ReqOK st args r ∧ ToSettle st r.wr ∧ (∀ {S' : Nat → Prop}, (∀ b, S b → S' b) → Settled w S' ρ r.wr → All2 (RepTV w S' ρ) args vals) ∧ execOp a.eval o = callFunc r.f vals.toArray := by
  simp only [reqA] at h
  obtain ⟨args, lg1, h1, h⟩ := run_bind_some h
  have hargs := args_rep hR h1
  obtain ⟨fv, lg2, h2, h⟩ := run_bind_some h
  have hf := opd_rep hR h2
  simp only at h hf
  split at h
  · rename_i g caps
    split at h
    · rename_i nin mv hsg
      obtain ⟨⟨args', wr⟩, lg3, h3, h⟩ := run_bind_some h
      obtain ⟨e1, e2, e3, hok⟩ := pack_spec h
      obtain ⟨s1, n1⟩ := normAll_spec h3 hR.mem
      obtain ⟨vs, hfv, hcaps⟩ := hf
      simp only at s1 n1
      refine ⟨mv, _, (c.args.map a.eval).toList ++ vs.toList, by rw [e1, e2]; exact hsg, hok, by rw [e3]; exact s1, fun {S'} hS hs => ?_, ?_⟩
      · rw [e3] at hs
        refine (n1 hS hs hargs).append ?_
        exact caps_ptrs hcaps
      · rw [e1]
        have : (do let d ← resolve a.eval c o.type; invoke d.target d.args : Sem Next) = callFunc g (c.args.map a.eval ++ vs) := by
          simp only [resolve, hcal, hfv, Deferred.ofValue]
          show invoke (.fn (.func g) vs) (#[] ++ c.args.map a.eval) = _
          simp [invoke]
        simp only [execOp, hop, this]
        congr 1
        simp
    · exact (run_fail h).elim
  · exact (run_fail h).elim
end
end Go.Proofs.Ytndkobhclggeiaa.Aev
