/- AEV: the evaluator is sound; contracts of functions. -/
import Derived.Test.YtndkobhclggeiaaAevU
namespace Go.Proofs.Ytndkobhclggeiaa.Aev
set_option linter.unusedVariables false
set_option linter.unusedSimpArgs false
open Go

theorem stkQ_ret {P : Program} {B : Exit → Act → World → Prop} : ∀ {stk : List Fr} {a : Act} {w : World}, B .ret a w → stkQ P B stk .ret a w
  | [], a, w, h => h
  | .seqL _ :: k, a, w, h => stkQ_ret (stk := k) h
  | .seqR :: k, a, w, h => stkQ_ret (stk := k) h
  | .arm :: k, a, w, h => stkQ_ret (stk := k) h
  | .blk _ :: k, a, w, h => stkQ_ret (stk := k) h
  | .loop _ :: k, a, w, h => stkQ_ret (stk := k) h
  | .scope _ :: k, a, w, h => stkQ_ret (stk := k) h

section
variable {E : FEnv} {fn : Func} {X : Cx} {w : World} {S : Nat → Prop} {ρ : Nat → Option Value} {H : Nat → Option Nat} {st : St} {a : Act} {lg lg' : List Loc}

theorem stOf_tmp {keep : List Nat} {tvs : List TV} {blks : List (Option Blk)} {t : Nat} {v : TV} (h : (stOf keep tvs blks).tmp t = some v) : ∃ i : Nat, keep[i]? = some t ∧ tvs[i]? = some v := by
  simp only [stOf] at h
  split at h
  · rename_i i hi
    exact ⟨i, idx_some (l := keep) (n := t) hi, h⟩
  · simp at h

theorem keep_rep (hR : Rep X w S ρ H E.N st a) : ∀ {keep : List Nat} {tvs : List TV}, All2 (fun x y => ∃ lg1 lg2, (AM.rT x).run st lg1 = some (y, lg2)) keep tvs → All2 (RepTV w S ρ) tvs (keep.map fun t => a.tmps.getD t undef)
  | [], tvs, hk => by rw [hk.nil_left]; trivial
  | t :: keep, tvs, hk => by
    obtain ⟨v, m, rfl, ⟨l1, l2, hr⟩, hk⟩ := hk.cons_left
    exact ⟨hR.tmp _ _ (run_rT hr), keep_rep hR hk⟩

/-- A jump to a segment. -/
theorem jump_rep {keep : List Nat} {r : (List TV × List (Option Blk)) × List Loc} (h : (do packN E.nin [] (← keep.mapM AM.rT) : AM (List TV × List (Option Blk))).run st lg = some r) (hX : CxOK E X) (hR : Rep X w S ρ H E.N st a) :
    ∃ ρ' H', Rep X w S ρ' H' E.N (stOf keep r.1.1 r.1.2) a := by
  obtain ⟨tvs, lg1, h1, h⟩ := run_bind_some h
  have hk := run_mapM h1
  simp only at hk h
  have hv : All2 (RepTV w S ρ) tvs (keep.map fun t => a.tmps.getD t undef) := keep_rep hR hk
  obtain ⟨ρ', H', hm, hv'⟩ := packN_rep h (st2 := st) (fun _ _ => rfl) hR.mem hX hv
  refine ⟨ρ', H', { mem := hm, tmp := ?_, size := hR.size, defers := hR.defers }⟩
  intro t v ht
  obtain ⟨i, h2, h3⟩ := stOf_tmp ht
  obtain ⟨u, hu, hr⟩ := hv'.get h3
  simp only [List.getElem?_map, h2, Option.map_some, Option.some.injEq] at hu
  rw [hu]; exact hr

theorem at_down {stk : List Fr} {path : List Nat} {f : Fr} {k : List Fr} (h : ∃ c, codeAt E.body path = some (c, f :: k)) : ∃ d p c, path = d :: p ∧ codeAt E.body (d :: p) = some (c, f :: k) := by
  obtain ⟨c, h⟩ := h
  cases path with
  | nil => simp [codeAt] at h
  | cons d p => exact ⟨d, p, c, rfl, h⟩

/-- Out of a frame: the parent's place. -/
theorem at_parent {path : List Nat} {f : Fr} {k : List Fr} (h : ∃ c, codeAt E.body path = some (c, f :: k)) : ∃ c, codeAt E.body path.tail = some (c, k) := by
  obtain ⟨d, p, c, e, h'⟩ := at_down (stk := []) h
  subst e
  obtain ⟨c', k', h1, h2⟩ := codeAt_cons h'
  refine ⟨c', ?_⟩
  simp only [List.tail_cons]
  rw [h1]
  split at h2 <;> first | exact h2.elim | (cases h2; rfl) | (obtain ⟨_, h3⟩ := h2; cases h3 <;> rfl)
theorem at_right {path : List Nat} {b : Code} {k : List Fr} (h : ∃ c, codeAt E.body path = some (c, .seqL b :: k)) : codeAt E.body (1 :: path.tail) = some (b, .seqR :: k) := by
  obtain ⟨d, p, c, e, h'⟩ := at_down (stk := []) h
  subst e
  obtain ⟨c', k', h1, h2⟩ := codeAt_cons h'
  simp only [List.tail_cons]
  split at h2 <;> first | exact h2.elim | (cases h2; done) | (obtain ⟨_, h3⟩ := h2; cases h3 <;> simp [codeAt, h1])
theorem at_loop {path : List Nat} {b : Code} {k : List Fr} (h : ∃ c, codeAt E.body path = some (c, .loop b :: k)) : codeAt E.body path.tail = some (.loop b, k) := by
  obtain ⟨d, p, c, e, h'⟩ := at_down (stk := []) h
  subst e
  obtain ⟨c', k', h1, h2⟩ := codeAt_cons h'
  simp only [List.tail_cons]
  rw [h1]
  split at h2 <;> first | exact h2.elim | (cases h2; done) | (obtain ⟨_, h3⟩ := h2; cases h3 <;> rfl)

theorem at_scope {path : List Nat} {b : Code} {k : List Fr} (h : ∃ c, codeAt E.body path = some (c, .scope b :: k)) : codeAt E.body path.tail = some (.scope b, k) := by
  obtain ⟨d, p, c, e, h'⟩ := at_down (stk := []) h
  subst e
  obtain ⟨c', k', h1, h2⟩ := codeAt_cons h'
  simp only [List.tail_cons]
  rw [h1]
  split at h2 <;> first | exact h2.elim | (cases h2; rfl) | (obtain ⟨_, h3⟩ := h2; cases h3 <;> rfl)
theorem codeAt_goto {body c rest : Code} {p : List Nat} {k : List Fr} {l : Nat} (h : codeAt body p = some (.scope c, k)) (hf : findLabel c l = some rest) : codeAt body ((100 + l) :: p) = some (rest, .scope c :: k) := by
  simp only [codeAt, h]
  split <;> first | (exfalso; omega) | (rename_i e; cases e; simp [hf]) | (simp_all; done) | skip

theorem ev_sound (hE : EnvOK E.toEnv) (hfn : FnOK E fn) (hseg : ∀ s ∈ E.segs, SegOK E fn s) (hX : CxOK E X) {res : Res} : ∀ (n : Nat) {md : Md} {stk : List Fr} {path : List Nat} {fr : Nat} {st : St} {a : Act} {w : World} {S : Nat → Prop} {ρ : Nat → Option Value} {H : Nat → Option Nat},
    ev E some n md stk path fr st = some res → At E stk path md → Rep X w S ρ H E.N st a → MdSem E.P (BP E.P fn (Rres X res)) stk a w md
  | 0, md, stk, path, fr, st, a, w, S, ρ, H, h, _, _ => by simp [ev] at h
  | n + 1, md, stk, path, fr, st, a, w, S, ρ, H, h, hat, hR => by
    have ih := fun {md : Md} {stk : List Fr} {path : List Nat} {fr : Nat} {st : St} {a : Act} {w : World} {S : Nat → Prop} {ρ : Nat → Option Value} {H : Nat → Option Nat} => ev_sound hE hfn hseg hX (res := res) n (md := md) (stk := stk) (path := path) (fr := fr) (st := st) (a := a) (w := w) (S := S) (ρ := ρ) (H := H)
    cases md with
    | enter skip c =>
      have hat : codeAt E.body path = some (c, stk) := hat
      simp only [ev] at h
      show EnterSem E.P c _ a w
      split at h
      · rename_i s hs
        have hs' : E.segs.find? (fun s => s.path == path) = some s := by
          cases skip with
          | true => simp at hs
          | false => simpa using hs
        have hmem := List.mem_of_find?_eq_some hs'
        have hpath : s.path = path := by
          have := List.find?_some hs'
          simpa using this
        obtain ⟨st', S', ρ', H', hk, hR'⟩ := runPreps_rep h hR
        obtain ⟨p, lg', h1, h2⟩ := runK_some hk
        obtain ⟨ρ'', H'', hR''⟩ := jump_rep h1 hX hR'
        exact hseg s hmem p.1 p.2 res h2 c stk (by rw [hpath]; exact hat) X w S' ρ'' H'' a hX hR''
      · cases c with
        | skip => exact wp_skip (ih h ⟨_, hat⟩ hR)
        | label l => exact wp_label (ih h ⟨_, hat⟩ hR)
        | region id ops draw =>
          simp only at h
          obtain ⟨L, st', hL, hr, hk⟩ := evOps_runs h
          cases draw with
          | false =>
            refine region_sound hE hL hr (fun e => by simp at e) hR (fun a' w' S' ρ' H' hR' _ => ?_)
            exact ih (md := .done) hk ⟨_, hat⟩ hR'
          | true =>
            simp only [if_true] at hk
            split at hk
            · rename_i hc
              simp only [Bool.and_eq_true, List.append_nil] at hc
              refine region_sound hE hL hr (fun _ => hc) hR (fun a' w' S' ρ' H' hR' _ => ?_)
              exact ih (md := .done) hk ⟨_, hat⟩ hR'
            · simp at hk
        | seq x y =>
          refine wp_seq ?_
          have := ih (md := .enter false x) (stk := .seqL y :: stk) (path := 0 :: path) h (by simp [At, codeAt, hat]) hR
          exact EnterSem.wp this
        | cond c x y =>
          simp only at h
          obtain ⟨t, lg1, h1, h⟩ := runK_some h
          obtain ⟨v, lg2, h2, h3⟩ := run_bind_some h1
          have hv := opd_rep hR h2
          rw [asB_inv h3] at hv
          have hv := rep_b hv
          cases t with
          | true =>
            refine wp_cond_true hv ?_
            exact EnterSem.wp (ih (md := .enter false x) (stk := .arm :: stk) (path := 2 :: path) h (by simp [At, codeAt, hat]) hR)
          | false =>
            refine wp_cond_false hv ?_
            exact EnterSem.wp (ih (md := .enter false y) (stk := .arm :: stk) (path := 3 :: path) h (by simp [At, codeAt, hat]) hR)
        | block id b =>
          refine wp_block ?_
          exact EnterSem.wp (ih (md := .enter false b) (stk := .blk id :: stk) (path := 4 :: path) h (by simp [At, codeAt, hat]) hR)
        | loop b =>
          refine LoopWp.of_round ?_
          exact EnterSem.wp (ih (md := .enter false b) (stk := .loop b :: stk) (path := 5 :: path) h (by simp [At, codeAt, hat]) hR)
        | exit id => exact wp_exit (ih (md := .exit id) h ⟨_, hat⟩ hR)
        | ret => exact wp_ret (ih (md := .ret) h ⟨_, hat⟩ hR)
        | rangeFunc f ps x y => simp at h
        | scope b =>
          refine wp_scopeQ ?_
          exact EnterSem.wp (ih (md := .enter false b) (stk := .scope b :: stk) (path := 6 :: path) h (by simp [At, codeAt, hat]) hR)
        | goto l => exact wp_goto (ih (md := .goto l) h ⟨_, hat⟩ hR)
        | refuse why => simp at h
    | done =>
      have hat : ∃ c, codeAt E.body path = some (c, stk) := hat
      simp only [ev] at h
      show stkQ _ _ stk .normal a w
      cases stk with
      | nil =>
        obtain ⟨r, lg', h1, h2⟩ := runK_some h
        simp at h2; subst h2
        exact resA_post hfn hX h1 hR
      | cons f k =>
        cases f with
        | seqL b => exact EnterSem.wp (ih (md := .enter false b) (stk := .seqR :: k) (path := 1 :: path.tail) h (at_right hat) hR)
        | seqR => exact ih (md := .done) (stk := k) h (at_parent hat) hR
        | arm => exact ih (md := .done) (stk := k) h (at_parent hat) hR
        | blk id => exact ih (md := .done) (stk := k) h (at_parent hat) hR
        | scope _ => exact ih (md := .done) (stk := k) h (at_parent hat) hR
        | loop b => exact ih (md := .enter false (.loop b)) (stk := k) (path := path.tail) h (at_loop hat) hR
    | exit id =>
      have hat : ∃ c, codeAt E.body path = some (c, stk) := hat
      simp only [ev] at h
      show stkQ _ _ stk (.exit id) a w
      cases stk with
      | nil => simp at h
      | cons f k =>
        cases f with
        | seqL b => exact ih (md := .exit id) (stk := k) h (at_parent hat) hR
        | seqR => exact ih (md := .exit id) (stk := k) h (at_parent hat) hR
        | arm => exact ih (md := .exit id) (stk := k) h (at_parent hat) hR
        | loop b => exact ih (md := .exit id) (stk := k) h (at_parent hat) hR
        | scope _ => exact ih (md := .exit id) (stk := k) h (at_parent hat) hR
        | blk id' =>
          simp only at h
          show (if id = id' then stkQ _ _ k .normal a w else stkQ _ _ k (.exit id) a w)
          split at h
          · rename_i e
            rw [if_pos e.symm]
            exact ih (md := .done) (stk := k) h (at_parent hat) hR
          · rename_i e
            rw [if_neg (fun h => e h.symm)]
            exact ih (md := .exit id) (stk := k) h (at_parent hat) hR
    | goto l =>
      have hat : ∃ c, codeAt E.body path = some (c, stk) := hat
      simp only [ev] at h
      show stkQ _ _ stk (.goto l) a w
      cases stk with
      | nil => simp at h
      | cons f k =>
        cases f with
        | seqL b => exact ih (md := .goto l) (stk := k) h (at_parent hat) hR
        | seqR => exact ih (md := .goto l) (stk := k) h (at_parent hat) hR
        | arm => exact ih (md := .goto l) (stk := k) h (at_parent hat) hR
        | loop b => exact ih (md := .goto l) (stk := k) h (at_parent hat) hR
        | blk id' => exact ih (md := .goto l) (stk := k) h (at_parent hat) hR
        | scope c =>
          simp only at h
          split at h
          · rename_i rest hf
            exact ⟨rest, hf, RestWp.of (EnterSem.wp (ih (md := .enter false rest) (stk := .scope c :: k) (path := (100 + l) :: path.tail) h (codeAt_goto (at_scope hat) hf) hR))⟩
          · simp at h
    | ret =>
      simp only [ev] at h
      obtain ⟨r, lg', h1, h2⟩ := runK_some h
      simp at h2; subst h2
      exact stkQ_ret (resA_post hfn hX h1 hR)

/-- A segment: by the evaluator from its place on. -/
theorem seg_of_ev (hE : EnvOK E.toEnv) (hfn : FnOK E fn) (hseg : ∀ s ∈ E.segs, SegOK E fn s) {s : Seg} (h : ∀ tvs blks res, s.F tvs blks some = some res → evAt E s.path s.keep tvs blks some = some res) : SegOK E fn s := by
  intro tvs blks res hs c stk hat X w S ρ H a hX hR
  have := h tvs blks res hs
  unfold evAt at this
  rw [hat] at this
  exact ev_sound hE hfn hseg hX _ (md := .enter true c) this hat hR
end

/-- What is asked of a function's frame. -/
structure FnIs (E : FEnv) (f : FuncId) (fn : Func) : Prop where
  func : E.P.funcs[f]? = some fn
  body : fn.body = some E.body
  rvs : fn.results.toList = E.rvs
  ntmps : fn.ntmps = E.N
  name : (fn.name == "runtime.NumGoroutine") = false

theorem ct_of_ev {E : FEnv} {f : FuncId} {fn : Func} (hf : FnIs E f fn) (hE : EnvOK E.toEnv) (hseg : ∀ s ∈ E.segs, SegOK E fn s) {c : Ct} (hn : c.nin = E.nin)
    (h : ∀ tvs blks res, c.F tvs blks some = some res → evAt E [] (List.range tvs.length) tvs (blks.map some) some = some res) : CtOK E.P f c := by
  intro tvs blks res hF w S ρ H vals hm hv
  have hev := h tvs blks res hF
  have hfn : FnOK E fn := ⟨hf.rvs⟩
  left
  refine ⟨?_, ?_⟩
  · have hnm : ¬ fn.name = "runtime.NumGoroutine" := by simpa using hf.name
    simp [callFunc, hf.func, hf.body, hnm]
  · refine callsIn_wide.1 (callsIn_of_wp_marks (F := Fence.wide) (n := 5) hf.func hf.body trivial (wpIn_wide.2 ?_))
    have hlen := hv.length
    have hX : CxOK E (pkgCx w S ρ H blks c.nin) := by
      intro n v hn'
      simp only [pkgCx] at hn'
      split at hn'
      · rename_i hlt; rw [← hn]; exact hlt
      · simp at hn'
    have hR : Rep (pkgCx w S ρ H blks c.nin) w S ρ H E.N (stOf (List.range tvs.length) tvs (blks.map some)) { tmps := vals.toArray ++ Array.replicate (fn.ntmps - vals.toArray.size) undef, defers := [] } := by
      refine { mem := ?_, tmp := ?_, size := by simp [hf.ntmps]; omega, defers := rfl }
      · have : (stOf (List.range tvs.length) tvs (blks.map some)).blk = live blks := by
          funext n
          simp [stOf, live]
        rw [this]; exact hm
      · intro t v ht
        obtain ⟨i, h1, h2⟩ := stOf_tmp ht
        have hi : i < tvs.length := by
          rcases Nat.lt_or_ge i tvs.length with h | h
          · exact h
          · rw [List.getElem?_eq_none h] at h2; simp at h2
        rw [List.getElem?_range hi] at h1
        simp at h1; subst h1
        obtain ⟨u, hu, hr⟩ := hv.get h2
        have : (vals.toArray ++ Array.replicate (fn.ntmps - vals.toArray.size) undef).getD i undef = u := by
          rw [Array.getD_eq_getD_getElem?, Array.getElem?_append_left (by simp; omega)]
          simp [hu]
        rw [this]; exact hr
    unfold evAt at hev
    simp only [codeAt] at hev
    have := ev_sound hE hfn hseg hX _ (md := .enter true E.body) (stk := []) (path := []) hev rfl hR
    have := EnterSem.wp this
    exact wp_mono this (fun e a w h => h)
end Go.Proofs.Ytndkobhclggeiaa.Aev
