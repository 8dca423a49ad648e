/- AEV: regions, in whatever order the model draws. -/
import Derived.Test.YtndkobhclggeiaaAevQ
namespace Go.Proofs.Ytndkobhclggeiaa.Aev
set_option linter.unusedVariables false
set_option linter.unusedSimpArgs false
open Go

theorem St.ext' {s t : St} (h1 : ∀ n, s.tmp n = t.tmp n) (h2 : ∀ n, s.blk n = t.blk n) : s = t := by
  cases s; cases t
  simp only [St.mk.injEq]
  exact ⟨funext h1, funext h2⟩
theorem put_self {st : St} {t : Nat} {v : TV} (h : st.tmp t = some v) : st.put (some t) v = st := by
  refine St.ext' (fun n => ?_) (fun n => rfl)
  simp only [St.put]
  split
  · rename_i e; rw [e, h]
  · rfl

section
variable (E : Env) (ops : Array Oper) (base : Nat)

/-- One operation, with what it reads and writes. -/
def exec1 (i : Nat) (o : Oper) (st : St) (rd : List Loc) : Option (Out × LogE) :=
  match calleeOf o.op with
  | some (c, f) => match (reqA E.P E.sg c f).run st rd with
    | none => none
    | some (r, rd) => match E.ct r.f with
      | none => none
      | some ct => match ct.F r.args r.blks some with
        | none => none
        | some s => match (unpack r (base + 8 * i) s).run st rd with
          | none => none
          | some (x, rd) => some (x, logOf o rd x.wr)
  | none => match (opA E.P E.sg (base + 8 * i) o).run st rd with
    | some (.out x, rd) => some (x, logOf o rd x.wr)
    | _ => none
def undefOut : Out := { tv := .undef }
def step1 (i : Nat) (st : St) : Option (Out × LogE) :=
  match ops[i]? with
  | none => none
  | some o => if dstOk E.N o.dst then
      match o.guard with
      | none => exec1 E base i o st []
      | some (j, want) => match (ops[j]?).bind (·.dst) with
        | none => none
        | some tj => match st.tmp tj with
          | some (.v (.one (.d .bool b))) => if b = want then exec1 E base i o st [.t tj] else some (undefOut, logOf o [.t tj] [])
          | some .undef => some (undefOut, logOf o [.t tj] [])
          | _ => none
    else none
def next1 (i : Nat) (st : St) (x : Out) : St := (st.sets x.wr).put ((ops[i]?).bind (·.dst)) x.tv

inductive Runs : List (Nat × LogE) → St → St → Prop where
  | nil (st : St) : Runs [] st st
  | cons {i : Nat} {le : LogE} {l : List (Nat × LogE)} {st st' : St} {x : Out} (h : step1 E ops base i st = some (x, le)) (hr : Runs l (next1 ops i st x) st') : Runs ((i, le) :: l) st st'

variable {E ops base}

/-- The evaluator's way through a region. -/
theorem evOps_runs {β : Type} {K : St → List LogE → Option β} {r : β} : ∀ {l : List Nat} {st : St} {lg : List LogE}, evOps E ops base K l st lg = some r →
    ∃ (L : List (Nat × LogE)) (st' : St), L.map (·.1) = l ∧ Runs E ops base L st st' ∧ K st' ((L.map (·.2)).reverse ++ lg) = some r := by
  intro l
  induction l with
  | nil => intro st lg h; exact ⟨[], st, rfl, .nil st, h⟩
  | cons i rest ih =>
    intro st lg h
    simp only [evOps] at h
    cases ho : ops[i]? with
    | none => simp [ho] at h
    | some o =>
      simp only [ho] at h
      split at h
      · rename_i hd
        -- what one operation gives
        have fin : ∀ x le, step1 E ops base i st = some (x, le) → evOps E ops base K rest ((st.sets x.wr).put o.dst x.tv) (le :: lg) = some r →
            ∃ (L : List (Nat × LogE)) (st' : St), L.map (·.1) = i :: rest ∧ Runs E ops base L st st' ∧ K st' ((L.map (·.2)).reverse ++ lg) = some r := by
          intro x le hs hk
          obtain ⟨L, st', h1, h2, h3⟩ := ih hk
          refine ⟨(i, le) :: L, st', by simp [h1], .cons hs ?_, by simpa using h3⟩
          simpa [next1, ho] using h2
        have ex : ∀ rd, (∀ x le, exec1 E base i o st rd = some (x, le) → step1 E ops base i st = some (x, le)) →
            (match calleeOf o.op with
              | some (c, f) => (reqA E.P E.sg c f).runK st rd fun r rd => match E.ct r.f with
                | none => none
                | some ct => ct.F r.args r.blks fun s => (unpack r (base + 8 * i) s).runK st rd fun x rd =>
                    evOps E ops base K rest ((st.sets x.wr).put o.dst x.tv) (logOf o rd x.wr :: lg)
              | none => (opA E.P E.sg (base + 8 * i) o).runK st rd fun e rd =>
                match e with
                | .out x => evOps E ops base K rest ((st.sets x.wr).put o.dst x.tv) (logOf o rd x.wr :: lg)
                | .call _ => none) = some r →
            ∃ (L : List (Nat × LogE)) (st' : St), L.map (·.1) = i :: rest ∧ Runs E ops base L st st' ∧ K st' ((L.map (·.2)).reverse ++ lg) = some r := by
          intro rd hstep h
          cases hc : calleeOf o.op with
          | some cf =>
            obtain ⟨c, f⟩ := cf
            simp only [hc] at h
            obtain ⟨rq, rd1, h1, h⟩ := runK_some h
            cases hct : E.ct rq.f with
            | none => simp [hct] at h
            | some ct =>
              simp only [hct] at h
              obtain ⟨s, hs, h⟩ := ct.legit _ _ _ _ h
              obtain ⟨x, rd2, h2, h⟩ := runK_some h
              exact fin x _ (hstep _ _ (by simp only [exec1, hc, h1, hct, hs, h2])) h
          | none =>
            simp only [hc] at h
            obtain ⟨e, rd1, h1, h⟩ := runK_some h
            cases e with
            | out x => exact fin x _ (hstep _ _ (by simp only [exec1, hc, h1])) h
            | call q => simp at h
        cases hg : o.guard with
        | none =>
          simp only [hg] at h
          exact ex [] (fun x le he => by simp only [step1, ho, hd, if_true, hg]; exact he) h
        | some jw =>
          obtain ⟨j, want⟩ := jw
          simp only [hg] at h
          cases htj : (ops[j]?).bind (·.dst) with
          | none => simp [htj] at h
          | some tj =>
            simp only [htj] at h
            split at h
            · rename_i b hb
              cases b with
              | true =>
                simp only at h
                rw [put_self hb] at h
                cases want with
                | true =>
                  simp only [if_true] at h
                  exact ex [.t tj] (fun x le he => by simp only [step1, ho, hd, if_true, hg, htj, hb]; exact he) h
                | false =>
                  simp only [Bool.false_eq_true, if_false] at h
                  exact fin undefOut _ (by simp [step1, ho, hd, hg, htj, hb]) h
              | false =>
                simp only at h
                rw [put_self hb] at h
                cases want with
                | true =>
                  simp only [if_true] at h
                  exact fin undefOut _ (by simp [step1, ho, hd, hg, htj, hb]) h
                | false =>
                  simp only [Bool.false_eq_true, if_false] at h
                  exact ex [.t tj] (fun x le he => by simp only [step1, ho, hd, if_true, hg, htj, hb]; exact he) h
            · rename_i hb
              exact fin undefOut _ (by simp [step1, ho, hd, hg, htj, hb]) h
            · simp at h
      · simp at h

/-! ### what an operation touches -/
def agree (s s' : St) (rd : List Loc) : Prop := (∀ n, Loc.t n ∈ rd → s'.tmp n = s.tmp n) ∧ (∀ n, Loc.b n ∈ rd → s'.blk n = s.blk n)

theorem exec1_log {i : Nat} {o : Oper} {st : St} {rd : List Loc} {x : Out} {le : LogE} (h : exec1 E base i o st rd = some (x, le)) : le.wr = o.dst.toList.map Loc.t ++ x.wr.map (fun p => .b p.1) ∧ ∀ l ∈ rd, l ∈ le.rd := by
  unfold exec1 at h
  split at h
  · split at h
    · simp at h
    · rename_i rq rd1 h1
      split at h
      · simp at h
      · split at h
        · simp at h
        · split at h
          · simp at h
          · rename_i y rd2 h2
            simp at h; obtain ⟨rfl, rfl⟩ := h
            obtain ⟨r1, e1, k1⟩ := run_local (s' := st) _ _ _ _ h1
            obtain ⟨r2, e2, k2⟩ := run_local (s' := st) _ _ _ _ h2
            subst e1; subst e2
            exact ⟨rfl, fun l hl => by simp [logOf, hl]⟩
  · split at h
    · rename_i y rd1 h1
      simp at h; obtain ⟨rfl, rfl⟩ := h
      obtain ⟨r1, e1, k1⟩ := run_local (s' := st) _ _ _ _ h1
      subst e1
      exact ⟨rfl, fun l hl => by simp [logOf, hl]⟩
    · simp at h

theorem exec1_local {i : Nat} {o : Oper} {st s' : St} {rd : List Loc} {x : Out} {le : LogE} (h : exec1 E base i o st rd = some (x, le)) (ha : agree st s' le.rd) : exec1 E base i o s' rd = some (x, le) := by
  cases hc : calleeOf o.op with
  | some cf =>
    obtain ⟨c, f⟩ := cf
    simp only [exec1, hc] at h ⊢
    split at h
    · simp at h
    · rename_i rq rd1 h1
      split at h
      · simp at h
      · rename_i ct hct
        split at h
        · simp at h
        · rename_i s hs
          split at h
          · simp at h
          · rename_i y rd2 h2
            simp at h; obtain ⟨rfl, rfl⟩ := h
            obtain ⟨r1, e1, k1⟩ := run_local (s' := s') _ _ _ _ h1
            obtain ⟨r2, e2, k2⟩ := run_local (s' := s') _ _ _ _ h2
            subst e1; subst e2
            simp only [logOf] at ha
            have h1' := k1 (fun n hn => ha.1 n (by simp [hn])) (fun n hn => ha.2 n (by simp [hn])) rd
            have h2' := k2 (fun n hn => ha.1 n (by simp [hn])) (fun n hn => ha.2 n (by simp [hn])) (r1 ++ rd)
            simp only [h1', hct, hs, h2']
  | none =>
    simp only [exec1, hc] at h ⊢
    split at h
    · rename_i y rd1 h1
      simp at h; obtain ⟨rfl, rfl⟩ := h
      obtain ⟨r1, e1, k1⟩ := run_local (s' := s') _ _ _ _ h1
      subst e1
      simp only [logOf] at ha
      have h1' := k1 (fun n hn => ha.1 n (by simp [hn])) (fun n hn => ha.2 n (by simp [hn])) rd
      simp only [h1']
    · simp at h
theorem step1_local {i : Nat} {st s' : St} {x : Out} {le : LogE} (h : step1 E ops base i st = some (x, le)) (ha : agree st s' le.rd) : step1 E ops base i s' = some (x, le) := by
  cases ho : ops[i]? with
  | none => simp [step1, ho] at h
  | some o =>
    simp only [step1, ho] at h ⊢
    split at h
    · rename_i hd
      rw [if_pos hd]
      cases hg : o.guard with
      | none =>
        simp only [hg] at h ⊢
        exact exec1_local h ha
      | some jw =>
        obtain ⟨j, want⟩ := jw
        simp only [hg] at h ⊢
        cases htj : (ops[j]?).bind (·.dst) with
        | none => simp [htj] at h
        | some tj =>
          simp only [htj] at h ⊢
          split at h
          · rename_i b hb
            split at h
            · rename_i e
              have hin := (exec1_log h).2 (.t tj) (by simp)
              rw [ha.1 tj hin, hb]
              simp only [e, if_true]
              exact exec1_local h ha
            · rename_i e
              simp at h; obtain ⟨rfl, rfl⟩ := h
              rw [ha.1 tj (by simp [logOf]), hb]
              simp [e]
          · rename_i hb
            simp at h; obtain ⟨rfl, rfl⟩ := h
            rw [ha.1 tj (by simp [logOf]), hb]
          · simp at h
    · simp at h
theorem step1_log {i : Nat} {st : St} {x : Out} {le : LogE} (h : step1 E ops base i st = some (x, le)) : le.wr = ((ops[i]?).bind (·.dst)).toList.map Loc.t ++ x.wr.map (fun p => .b p.1) := by
  unfold step1 at h
  split at h
  · simp at h
  · rename_i o ho
    split at h
    · split at h
      · simpa [ho] using (exec1_log h).1
      · split at h
        · simp at h
        · split at h
          · split at h
            · simpa [ho] using (exec1_log h).1
            · simp at h; obtain ⟨rfl, rfl⟩ := h; simp [logOf, undefOut, ho]
          · simp at h; obtain ⟨rfl, rfl⟩ := h; simp [logOf, undefOut, ho]
          · simp at h
    · simp at h

theorem next1_other {i : Nat} {st : St} {x : Out} {wr : List Loc} (hw : wr = ((ops[i]?).bind (·.dst)).toList.map Loc.t ++ x.wr.map (fun p => .b p.1)) :
    (∀ n, Loc.t n ∉ wr → (next1 ops i st x).tmp n = st.tmp n) ∧ (∀ n, Loc.b n ∉ wr → (next1 ops i st x).blk n = st.blk n) := by
  subst hw
  constructor
  · intro n hn
    unfold next1
    cases hd : (ops[i]?).bind (·.dst) with
    | none => simp only [St.put, sets_tmp]
    | some d =>
      simp only [St.put, sets_tmp]
      rw [if_neg]
      rintro rfl
      exact hn (by simp [hd])
  · intro n hn
    have : (next1 ops i st x).blk n = (st.sets x.wr).blk n := by
      unfold next1
      cases hd : (ops[i]?).bind (·.dst) <;> rfl
    rw [this, sets_other]
    rintro p hp rfl
    exact hn (by simp only [List.mem_append, List.mem_map]; exact .inr ⟨p, hp, rfl⟩)

theorem sets_congr : ∀ (wr : List (Nat × Option Blk)) (s s' : St) (n : Nat), (∀ m, (∀ p ∈ wr, p.1 ≠ m) → s.blk m = s'.blk m → True) → ((∃ p ∈ wr, p.1 = n) ∨ s.blk n = s'.blk n) → (s.sets wr).blk n = (s'.sets wr).blk n
  | [], s, s', n, _, h => by
    rcases h with ⟨p, hp, _⟩ | h
    · simp at hp
    · exact h
  | (m, b) :: wr, s, s', n, _, h => by
    rw [St.sets, St.sets]
    refine sets_congr wr _ _ n (fun _ _ _ => trivial) ?_
    by_cases e : ∃ p ∈ wr, p.1 = n
    · exact .inl e
    · right
      rw [set_blk, set_blk]
      by_cases em : n = m
      · subst em; rw [upd_same, upd_same]
      · rw [upd_other _ _ em, upd_other _ _ em]
        rcases h with ⟨p, hp, hn⟩ | h
        · simp only [List.mem_cons] at hp
          rcases hp with rfl | hp
          · exact (em hn.symm).elim
          · exact (e ⟨p, hp, hn⟩).elim
        · exact h

/-- Where two states agree, or it is written, the new ones agree. -/
theorem next1_same {i : Nat} {s s' : St} {x : Out} {wr : List Loc} (hw : wr = ((ops[i]?).bind (·.dst)).toList.map Loc.t ++ x.wr.map (fun p => .b p.1)) :
    (∀ n, Loc.t n ∈ wr → (next1 ops i s x).tmp n = (next1 ops i s' x).tmp n) ∧ (∀ n, Loc.b n ∈ wr → (next1 ops i s x).blk n = (next1 ops i s' x).blk n) := by
  subst hw
  constructor
  · intro n hn
    unfold next1
    cases hd : (ops[i]?).bind (·.dst) with
    | none => simp [hd] at hn
    | some d =>
      simp [hd] at hn
      subst hn
      simp [St.put]
  · intro n hn
    have e : ∀ s : St, (next1 ops i s x).blk n = (s.sets x.wr).blk n := fun s => by
      unfold next1
      cases hd : (ops[i]?).bind (·.dst) <;> rfl
    rw [e, e]
    refine sets_congr _ _ _ n (fun _ _ _ => trivial) (.inl ?_)
    simp only [List.mem_append, List.mem_map] at hn
    rcases hn with ⟨d, _, h⟩ | ⟨p, hp, h⟩
    · simp at h
    · simp at h; exact ⟨p, hp, h⟩

theorem meets_false {l m : List Loc} (h : meets l m = false) : ∀ x ∈ l, x ∉ m := by
  intro x hx hm
  unfold meets at h
  rw [List.any_eq_false] at h
  have := h x hx
  simp [hm] at this
theorem indep_spec {a b : LogE} (h : indep a b = true) : (∀ x ∈ a.wr, x ∉ b.wr) ∧ (∀ x ∈ a.wr, x ∉ b.rd) ∧ (∀ x ∈ a.rd, x ∉ b.wr) := by
  simp only [indep, Bool.and_eq_true, Bool.not_eq_true'] at h
  exact ⟨meets_false h.1.1, meets_false h.1.2, meets_false h.2⟩

/-- Two that meet in nothing change places. -/
theorem runs_swap {p q : Nat × LogE} {l : List (Nat × LogE)} {st st' : St} (h : Runs E ops base (p :: q :: l) st st') (hi : indep p.2 q.2 = true) : Runs E ops base (q :: p :: l) st st' := by
  obtain ⟨i, a⟩ := p
  obtain ⟨j, b⟩ := q
  cases h with
  | cons h1 h =>
    cases h with
    | cons h2 h3 =>
      rename_i x y
      obtain ⟨i1, i2, i3⟩ := indep_spec hi
      simp only at i1 i2 i3
      have w1 := step1_log h1
      have w2 := step1_log h2
      have o1 := next1_other (st := st) w1
      have h2' : step1 E ops base j st = some (y, b) := by
        refine step1_local h2 ⟨fun n hn => ?_, fun n hn => ?_⟩
        · exact (o1.1 n (fun h => i2 _ h hn)).symm
        · exact (o1.2 n (fun h => i2 _ h hn)).symm
      have o2 := next1_other (st := st) w2
      have h1' : step1 E ops base i (next1 ops j st y) = some (x, a) := by
        refine step1_local h1 ⟨fun n hn => ?_, fun n hn => ?_⟩
        · exact o2.1 n (fun h => i3 _ hn h)
        · exact o2.2 n (fun h => i3 _ hn h)
      refine .cons h2' (.cons h1' ?_)
      have e : next1 ops i (next1 ops j st y) x = next1 ops j (next1 ops i st x) y := by
        have p1 := next1_other (st := next1 ops j st y) w1
        have p2 := next1_other (st := next1 ops i st x) w2
        have q1 := next1_same (s := next1 ops j st y) (s' := st) w1
        have q2 := next1_same (s := next1 ops i st x) (s' := st) w2
        refine St.ext' (fun n => ?_) (fun n => ?_)
        · by_cases ha : Loc.t n ∈ a.wr
          · rw [q1.1 n ha, p2.1 n (i1 _ ha)]
          · rw [p1.1 n ha]
            by_cases hb : Loc.t n ∈ b.wr
            · rw [q2.1 n hb]
            · rw [p2.1 n hb, o1.1 n ha, o2.1 n hb]
        · by_cases ha : Loc.b n ∈ a.wr
          · rw [q1.2 n ha, p2.2 n (i1 _ ha)]
          · rw [p1.2 n ha]
            by_cases hb : Loc.b n ∈ b.wr
            · rw [q2.2 n hb]
            · rw [p2.2 n hb, o1.2 n ha, o2.2 n hb]
      rw [e]; exact h3

theorem runs_front : ∀ {l : List (Nat × LogE)} {p : Nat × LogE} {l2 : List (Nat × LogE)} {st st' : St}, Runs E ops base (l ++ p :: l2) st st' → (∀ q ∈ l, indep q.2 p.2 = true) → Runs E ops base (p :: (l ++ l2)) st st'
  | [], p, l2, st, st', h, _ => h
  | q :: l, p, l2, st, st', h, hi => by
    cases h with
    | cons h1 h2 =>
      have := runs_front h2 (fun r hr => hi r (by simp [hr]))
      exact runs_swap (.cons h1 this) (hi _ (by simp))

/-- Any order that keeps what must be kept. -/
theorem runs_perm : ∀ {σ : List Nat} {L : List (Nat × LogE)} {st st' : St}, Runs E ops base L st st' → σ.Perm (L.map (·.1)) → σ.Nodup →
    (∀ p q, [p, q].Sublist L → [q.1, p.1].Sublist σ → indep p.2 q.2 = true) → ∃ L', L'.map (·.1) = σ ∧ Runs E ops base L' st st'
  | [], L, st, st', h, hp, _, _ => by
    have : L = [] := by
      have := hp.length_eq
      simp at this
      exact List.length_eq_zero_iff.1 this.symm
    subst this
    exact ⟨[], rfl, h⟩
  | m :: σ, L, st, st', h, hp, hn, hi => by
    have hm : m ∈ L.map (·.1) := hp.subset (List.mem_cons_self)
    obtain ⟨p, hpL, rfl⟩ := List.mem_map.1 hm
    obtain ⟨L1, L2, rfl⟩ := List.append_of_mem hpL
    have hp' : σ.Perm ((L1 ++ L2).map (·.1)) := by
      have h1 : ((L1 ++ p :: L2).map (·.1)).Perm (p.1 :: (L1 ++ L2).map (·.1)) := by
        simp only [List.map_append, List.map_cons]
        exact List.perm_middle
      exact (hp.trans h1).cons_inv
    have hn' := List.nodup_cons.1 hn
    have hf := runs_front h (fun q hq => by
      refine hi q p ?_ ?_
      · obtain ⟨A, B, rfl⟩ := List.append_of_mem hq
        have : [q, p].Sublist ([q] ++ [p]) := List.Sublist.refl _
        refine this.trans (List.Sublist.append ?_ ?_)
        · simp
        · simp
      · have : q.1 ∈ σ := hp'.symm.subset (by simp only [List.map_append, List.mem_append, List.mem_map]; exact .inl ⟨q, hq, rfl⟩)
        exact List.Sublist.cons_cons _ (List.singleton_sublist.2 this))
    cases hf with
    | cons h1 h2 =>
      obtain ⟨L', e, hr⟩ := runs_perm h2 hp' hn'.2 (fun a b hab hba => by
        refine hi a b (hab.trans ?_) (List.Sublist.cons _ hba)
        exact List.Sublist.append (List.Sublist.refl _) (List.sublist_cons_self _ _))
      exact ⟨_ :: L', by simp [e], .cons h1 hr⟩
end
end Go.Proofs.Ytndkobhclggeiaa.Aev
