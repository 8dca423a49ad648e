/- AEV: what the evaluator says of a function holds. -/
import Derived.Test.YtndkobhclggeiaaAevT
import Derived.Scope
import Derived.RangeFuncLeaves
namespace Go.Proofs.Ytndkobhclggeiaa.Aev
set_option linter.unusedVariables false
set_option linter.unusedSimpArgs false
open Go

/-- A loop's round, and what follows. -/
def LoopWp (P : Program) (c : Code) (Q : Exit → Act → World → Prop) (a : Act) (w : World) : Prop :=
  ∀ (b : Frame) (k : List Item) (cs : List Frame), ∃ e a' w', Q e a' w' ∧ Arrives P (lone (b.at a (.code c :: .inLoop c :: k)) cs w) b k cs e a' w'
theorem LoopWp.of_round {P : Program} {c : Code} {Q : Exit → Act → World → Prop} {a : Act} {w : World} (h : c.wp P (Exit.then (LoopWp P c Q) Q) a w) : LoopWp P c Q a w := by
  intro b k cs
  obtain ⟨e, a₁, w₁, hq, harr⟩ := h b (.inLoop c :: k) cs
  cases e with
  | normal =>
    obtain ⟨e₂, a₂, w₂, hq₂, harr₂⟩ := hq b k cs
    exact ⟨e₂, a₂, w₂, hq₂, .of_steps (Steps.trans harr (.one step_inLoop)) harr₂⟩
  | exit id => exact ⟨_, a₁, w₁, hq, .pass (x := .inLoop c) rfl (fun _ _ => .inl (by simp)) harr⟩
  | goto l => exact ⟨_, a₁, w₁, hq, .pass (x := .inLoop c) rfl (fun _ _ => .inl (by simp)) harr⟩
  | ret => exact ⟨_, a₁, w₁, hq, .pass (x := .inLoop c) rfl (fun _ _ => .inl (by simp)) harr⟩
  | panic ch => exact ⟨_, a₁, w₁, hq, .pass (x := .inLoop c) rfl (fun _ _ => .inl (by simp)) harr⟩
  | outgrown => exact ⟨_, a₁, w₁, hq, .pass (x := .inLoop c) rfl (fun _ _ => .inl (by simp)) harr⟩
theorem wp_of_LoopWp {P : Program} {c : Code} {Q : Exit → Act → World → Prop} {a : Act} {w : World} (h : LoopWp P c Q a w) : (Code.loop c).wp P Q a w := by
  intro b k cs
  obtain ⟨e, a', w', hq, harr⟩ := h b k cs
  exact ⟨e, a', w', hq, .of_steps (.one step_loop) harr⟩

/-- What is left of a scope behind a label, and what follows. -/
def RestWp (P : Program) (c rest : Code) (Q : Exit → Act → World → Prop) (a : Act) (w : World) : Prop :=
  ∀ (b : Frame) (k : List Item) (cs : List Frame), ∃ e a' w', Q e a' w' ∧ Arrives P (lone (b.at a (.code rest :: .inScope c :: k)) cs w) b k cs e a' w'
def ScopeQ (P : Program) (c : Code) (Q : Exit → Act → World → Prop) : Exit → Act → World → Prop
  | .goto l, a, w => ∃ rest, findLabel c l = some rest ∧ RestWp P c rest Q a w
  | e, a, w => Q e a w
theorem RestWp.of {P : Program} {c rest : Code} {Q : Exit → Act → World → Prop} {a : Act} {w : World} (h : rest.wp P (ScopeQ P c Q) a w) : RestWp P c rest Q a w := by
  intro b k cs
  obtain ⟨e, a₁, w₁, hq, harr⟩ := h b (.inScope c :: k) cs
  cases e with
  | normal => exact ⟨.normal, a₁, w₁, hq, Steps.trans harr (.one step_inScope)⟩
  | exit id => exact ⟨.exit id, a₁, w₁, hq, fun k' hk => harr k' (by simp [exitTo, hk])⟩
  | goto l =>
    obtain ⟨rest', hf, hr⟩ := hq
    obtain ⟨e₂, a₂, w₂, hq₂, harr₂⟩ := hr b k cs
    exact ⟨e₂, a₂, w₂, hq₂, .of_steps (harr _ (by simp [gotoIn, hf])) harr₂⟩
  | ret => exact ⟨_, a₁, w₁, hq, harr⟩
  | panic ch => exact ⟨_, a₁, w₁, hq, harr⟩
  | outgrown => exact ⟨_, a₁, w₁, hq, harr⟩
theorem wp_scopeQ {P : Program} {c : Code} {Q : Exit → Act → World → Prop} {a : Act} {w : World} (h : c.wp P (ScopeQ P c Q) a w) : (Code.scope c).wp P Q a w := by
  intro b k cs
  obtain ⟨e, a', w', hq, harr⟩ := RestWp.of h b k cs
  exact ⟨e, a', w', hq, .of_steps (.one step_scope) harr⟩

/-- What entering a piece of code owes. -/
def EnterSem (P : Program) (c : Code) (Q : Exit → Act → World → Prop) (a : Act) (w : World) : Prop :=
  match c with
  | .loop b => LoopWp P b Q a w
  | c => c.wp P Q a w
theorem EnterSem.wp {P : Program} {c : Code} {Q : Exit → Act → World → Prop} {a : Act} {w : World} (h : EnterSem P c Q a w) : c.wp P Q a w := by
  cases c with
  | loop b => exact wp_of_LoopWp h
  | _ => exact h

def stkQ (P : Program) (B : Exit → Act → World → Prop) : List Fr → Exit → Act → World → Prop
  | [] => B
  | .seqL b :: k => Exit.then (b.wp P (stkQ P B k)) (stkQ P B k)
  | .seqR :: k => stkQ P B k
  | .arm :: k => stkQ P B k
  | .blk id :: k => Exit.inBlock id (stkQ P B k)
  | .loop b :: k => Exit.then (LoopWp P b (stkQ P B k)) (stkQ P B k)
  | .scope c :: k => ScopeQ P c (stkQ P B k)

/-- What a function's end owes, where the answer is 'res'. -/
def Rres (X : Cx) (res : Res) (e : Ending) (w' : World) : Prop :=
  ∃ v S' ρ' H', e = .returned v ∧ Mem X w' S' ρ' H' (fun n => res.blks[n]?) ∧ RepTV w' S' ρ' res.tv v
/-- The function itself. -/
structure FnOK (E : FEnv) (fn : Func) : Prop where
  rvs : fn.results.toList = E.rvs

/-- What a function's body must bring about (marks of ranges over functions and all). -/
def BP (P : Program) (fn : Func) (R : Ending → World → Prop) : Exit → Act → World → Prop := bodyPostM Fence.wide 5 P fn R
theorem BP_of {P : Program} {fn : Func} {R : Ending → World → Prop} {a : Act} {w : World} (h : bodyPost P fn R .normal a w) : BP P fn R .normal a w := by
  obtain ⟨hd, v, h1, h2⟩ := h
  show LeavesInM Fence.wide 5 P fn a.tmps R a.defers .returning w
  rw [hd]
  exact ⟨v, h1, h2⟩
theorem BP_ret {P : Program} {fn : Func} {R : Ending → World → Prop} {a : Act} {w : World} (h : BP P fn R .normal a w) : BP P fn R .ret a w := h

def CxOK (E : FEnv) (X : Cx) : Prop := ∀ n v, X.ρ0 n = some v → n < E.nin
def SegOK (E : FEnv) (fn : Func) (s : Seg) : Prop :=
  ∀ tvs blks res, s.F tvs blks some = some res → ∀ c stk, codeAt E.body s.path = some (c, stk) →
    ∀ X w S ρ H a, CxOK E X → Rep X w S ρ H E.N (stOf s.keep tvs blks) a → EnterSem E.P c (stkQ E.P (BP E.P fn (Rres X res)) stk) a w

section
variable {E : FEnv} {fn : Func} {X : Cx} {w : World} {S : Nat → Prop} {ρ : Nat → Option Value} {H : Nat → Option Nat} {st : St} {a : Act} {lg lg' : List Loc}

theorem resTV_run {rv : ResultVar} {r : VV × List Loc} (h : (resTV E.P rv).run st lg = some r) (hR : Rep X w S ρ H E.N st a) :
    ∃ v, (match rv with | .tmp t => pure (a.tmps.getD t undef) | .cell q t => do loadVar t (← asAddr (a.tmps.getD q undef)) : Sem Value).run E.P w = .ok v w ∧ RepVV w S ρ r.1 v := by
  cases rv with
  | tmp t =>
    simp only [resTV] at h
    obtain ⟨tv, lg1, h1, h⟩ := run_bind_some h
    have hv := hR.tmp _ _ (run_rT h1)
    simp only at h hv
    split at h
    · cases run_pure h
      exact ⟨_, rfl, hv⟩
    · exact (run_fail h).elim
  | cell q t =>
    simp only [resTV] at h
    obtain ⟨tv, lg1, h1, h⟩ := run_bind_some h
    obtain ⟨e, lg2, h2, h⟩ := run_bind_some h
    have hv := hR.tmp _ _ (run_rT h1)
    simp only at h hv
    split at h
    · rename_i x
      cases run_pure h
      obtain ⟨b, off, v, hu, hl, _, hr⟩ := loadA_val h2 hR hv
      exact ⟨v, by simp [hu, asAddr, hl], hr⟩
    · exact (run_fail h).elim

theorem resTVs_run : ∀ {rvs : List ResultVar} {lg : List Loc} {r : List VV × List Loc}, (rvs.mapM (resTV E.P)).run st lg = some r → Rep X w S ρ H E.N st a →
    ∃ vs, (rvs.mapM (fun rv => match rv with | .tmp t => pure (a.tmps.getD t undef) | .cell q t => do loadVar t (← asAddr (a.tmps.getD q undef)) : ResultVar → Sem Value)).run E.P w = .ok vs w ∧ All2 (RepVV w S ρ) r.1 vs
  | [], lg, r, h, hR => by rw [List.mapM_nil] at h; cases run_pure h; exact ⟨[], by simp, trivial⟩
  | rv :: rvs, lg, r, h, hR => by
    rw [List.mapM_cons] at h
    obtain ⟨x, lg1, h1, h⟩ := run_bind_some h
    obtain ⟨xs, lg2, h2, h⟩ := run_bind_some h
    cases run_pure h
    obtain ⟨v, hv, hr⟩ := resTV_run h1 hR
    obtain ⟨vs, hvs, hrs⟩ := resTVs_run h2 hR
    exact ⟨v :: vs, by simp only [List.mapM_cons, Sem.run_bind, hv, Result.andThen_ok, hvs, Sem.run_pure], hr, hrs⟩

theorem All2.map_left {α β γ : Type} {R : γ → β → Prop} {f : α → γ} : ∀ {l : List α} {m : List β}, All2 (fun a b => R (f a) b) l m → All2 R (l.map f) m
  | [], m, h => by rw [h.nil_left]; trivial
  | a :: l, m, h => by
    obtain ⟨b, m', rfl, h1, h2⟩ := h.cons_left
    exact ⟨h1, All2.map_left h2⟩
theorem vvs_spec : ∀ {l : List TV} {xs : List VV}, vvs l = some xs → l = xs.map TV.v
  | [], xs, h => by simp [vvs] at h; subst h; rfl
  | t :: l, xs, h => by
    cases t with
    | v x =>
      simp only [vvs] at h
      cases hv : vvs l with
      | none => simp [hv] at h
      | some ys => simp [hv] at h; subst h; simp [vvs_spec hv]
    | _ => simp [vvs] at h
theorem All2.of_map {α β γ : Type} {R : γ → β → Prop} {f : α → γ} : ∀ {l : List α} {m : List β}, All2 R (l.map f) m → All2 (fun a b => R (f a) b) l m
  | [], m, h => by rw [h.nil_left]; trivial
  | a :: l, m, h => by
    obtain ⟨b, m', rfl, h1, h2⟩ := h.cons_left
    exact ⟨h1, All2.of_map h2⟩

theorem bind_ok {α β : Type} {P : Program} {w : World} {m : Sem α} {f : α → Sem β} {x : α} (h : m.run P w = .ok x w) : (m >>= f).run P w = (f x).run P w := by rw [Sem.run_bind, h]; rfl

/-- The end of a function. -/
theorem resA_post {r : (Res × List (Nat × Option Blk)) × List Loc} (hfn : FnOK E fn) (hX : CxOK E X) (h : (resA E.P E.nin E.rmv E.rts E.rvs).run st lg = some r) (hR : Rep X w S ρ H E.N st a) :
    BP E.P fn (Rres X r.1.1) .normal a w := by
  refine BP_of ?_
  unfold resA at h
  obtain ⟨xs, lg1, h1, h⟩ := run_bind_some h
  obtain ⟨⟨tvs, wr⟩, lg2, h2, h⟩ := run_bind_some h
  obtain ⟨⟨tvs', blks⟩, lg3, h3, h⟩ := run_bind_some h
  obtain ⟨vs, hvs, hxs⟩ := resTVs_run h1 hR
  simp only at h2 h3 h hxs
  obtain ⟨hts, hn⟩ := normAll_spec h2 hR.mem
  obtain ⟨S', H', hR', hmore, hset⟩ := settle_rep hR hts
  have hx1 : All2 (RepTV w S ρ) (xs.map .v) vs := All2.map_left hxs
  have hx2 := hn hmore.s hset hx1
  simp only at hts hx2
  obtain ⟨ρ', H'', hm, hx3⟩ := packN_rep h3 (st2 := st.sets wr) (fun n hn => sets_other _ _ _ (fun p hp e => hn (List.mem_map.2 ⟨p, hp, e⟩))) hR'.mem hX hx2
  simp only at hm hx3
  refine ⟨hR.defers, ?_⟩
  have hres : ∀ v, (if h : vs.length = 1 then vs[0] else Value.tuple vs.toArray) = v → (results fn a.tmps).run E.P w = .ok v w := by
    intro v hv
    unfold results
    have : (fn.results.mapM (fun rv => match rv with | .tmp t => pure (a.tmps.getD t undef) | .cell q t => do loadVar t (← asAddr (a.tmps.getD q undef)) : ResultVar → Sem Value)).run E.P w = .ok vs.toArray w := by
      rw [Array.mapM_eq_mapM_toList, hfn.rvs]
      simp only [Sem.run_map, hvs, Result.andThen_ok]
    refine (bind_ok this).trans ?_
    simp only [Sem.run_pure]
    rw [← hv]
    simp
  split at h
  · rename_i tv
    cases run_pure h
    obtain ⟨v, m, rfl, hv, hm'⟩ := hx3.cons_left
    have hm' := hm'.nil_left
    subst hm'
    exact ⟨v, hres v (by simp), v, S', ρ', H'', rfl, hm, hv⟩
  · rename_i l hl
    split at h
    · rename_i ys hys
      cases run_pure h
      have hlen : vs.length ≠ 1 := by
        intro e
        have := hx3.length
        rw [e] at this
        match tvs', this with
        | [v], _ => exact hl v rfl
      refine ⟨.tuple vs.toArray, hres _ (by simp [hlen]), .tuple vs.toArray, S', ρ', H'', rfl, hm, vs.toArray, rfl, ?_⟩
      rw [vvs_spec hys] at hx3
      exact hx3.of_map
    · exact (run_fail h).elim

/-- The evaluator. -/
def MdSem (P : Program) (Q : Exit → Act → World → Prop) (stk : List Fr) (a : Act) (w : World) : Md → Prop
  | .enter _ c => EnterSem P c (stkQ P Q stk) a w
  | .done => stkQ P Q stk .normal a w
  | .exit id => stkQ P Q stk (.exit id) a w
  | .goto l => stkQ P Q stk (.goto l) a w
  | .ret => stkQ P Q stk .ret a w
/-- Where we are. -/
def At (E : FEnv) (stk : List Fr) (path : List Nat) : Md → Prop
  | .enter _ c => codeAt E.body path = some (c, stk)
  | _ => ∃ c, codeAt E.body path = some (c, stk)

theorem codeAt_cons {body : Code} {d : Nat} {p : List Nat} {c : Code} {k : List Fr} (h : codeAt body (d :: p) = some (c, k)) :
    ∃ c' k', codeAt body p = some (c', k') ∧ (match d, c' with
      | 0, .seq x y => c = x ∧ k = .seqL y :: k'
      | 1, .seq _ y => c = y ∧ k = .seqR :: k'
      | 2, .cond _ x _ => c = x ∧ k = .arm :: k'
      | 3, .cond _ _ y => c = y ∧ k = .arm :: k'
      | 4, .block id b => c = b ∧ k = .blk id :: k'
      | 5, .loop b => c = b ∧ k = .loop b :: k'
      | 6, .scope b => c = b ∧ k = .scope b :: k'
      | d, .scope b => k = .scope b :: k'
      | _, _ => False) := by
  simp only [codeAt] at h
  split at h
  · rename_i c' k' hp
    refine ⟨c', k', hp, ?_⟩
    split at h <;> first | (simp at h; done) | (simp only [Option.some.injEq, Prod.mk.injEq] at h; obtain ⟨rfl, rfl⟩ := h; exact ⟨rfl, rfl⟩) | (split at h <;> first | (simp at h; done) | (simp only [Option.map_eq_some_iff, Prod.mk.injEq] at h; obtain ⟨_, _, _, rfl⟩ := h; split <;> simp_all))
  · simp at h
end
end Go.Proofs.Ytndkobhclggeiaa.Aev
