/- AEV: what the evaluator says of a region holds. -/
import Derived.Test.YtndkobhclggeiaaAevR
namespace Go.Proofs.Ytndkobhclggeiaa.Aev
set_option linter.unusedVariables false
set_option linter.unusedSimpArgs false
open Go

def EnvOK (E : Env) : Prop := ∀ f c, E.ct f = some c → CtOK E.P f c

section
variable {E : Env} {ops : Array Oper} {base : Nat} {X : Cx} {w : World} {S : Nat → Prop} {ρ : Nat → Option Value} {H : Nat → Option Nat} {st : St} {a : Act} {o : Oper} {x : Out} {le : LogE}

theorem dst_of {i : Nat} (ho : ops[i]? = some o) : (ops[i]?).bind (·.dst) = o.dst := by rw [ho]; rfl

theorem calleeOf_some {op : Op} {c : Call} {f : Operand} (h : calleeOf op = some (c, f)) : op = .call c ∧ c.callee = .value f := by
  unfold calleeOf at h
  split at h
  · rename_i c'
    split at h
    · rename_i f' hf
      simp at h; obtain ⟨rfl, rfl⟩ := h
      exact ⟨rfl, hf⟩
    · simp at h
  · simp at h

theorem exec1_sound (hE : EnvOK E) {i : Nat} {rd : List Loc} (ho : ops[i]? = some o) (hd : dstOk E.N o.dst = true) (h : exec1 E base i o st rd = some (x, le)) (hR : Rep X w S ρ H E.N st a)
    {next : Act → World → Prop} {Q : Exit → Act → World → Prop} (hk : ∀ a' w' S' ρ' H', Rep X w' S' ρ' H' E.N (next1 ops i st x) a' → More w w' S S' ρ ρ' → next a' w') : o.wp E.P a w next Q := by
  cases hc : calleeOf o.op with
  | some cf =>
    obtain ⟨c, f⟩ := cf
    obtain ⟨hop, hcal⟩ := calleeOf_some hc
    simp only [exec1, hc] at h
    split at h
    · simp at h
    · rename_i r rd1 h1
      split at h
      · simp at h
      · rename_i ct hct
        split at h
        · simp at h
        · rename_i s hs
          split at h
          · simp at h
          · rename_i y rd2 h2
            simp at h; obtain ⟨rfl, rfl⟩ := h
            obtain ⟨mv, args, vals, hsg, hok, hts, hargs, hexec⟩ := reqA_spec hop hcal h1 hR
            have hnin : ct.nin = r.nin := by
              unfold Env.sg at hsg; rw [hct] at hsg; simp at hsg; exact hsg.1
            obtain ⟨S1, H1, hm1, hmore1, hset1⟩ := settle_all _ hR.mem hts.all
            obtain ⟨hpk, _⟩ := pkg_mem hok hm1
            have hav := hargs hmore1.s hset1
            have hav' : All2 (RepTV w S1 (fun i => (r.names[i]?).bind ρ)) r.args vals := by
              refine All2.ren (R := RepTV w S1 ρ) (R' := RepTV w S1 (fun i => (r.names[i]?).bind ρ)) (g := TV.ren (idx r.names)) (fun a a' v hg hr => RepTV.ren (fun m m' u h3 h4 => ?_) hg hr) hok.args hav
              simp [idx_some h3, h4]
            obtain ⟨bs, hu⟩ := unpack_spec h2
            have hfin : ∀ e w', (∃ v S' ρ' H', e = Ending.returned v ∧ Mem (pkgCx w S1 (fun i => (r.names[i]?).bind ρ) (fun i => (r.names[i]?).bind H1) r.blks ct.nin) w' S' ρ' H' (fun n => s.blks[n]?) ∧ RepTV w' S' ρ' s.tv v) →
                ∃ v, e = .returned v ∧ next (a.put o.dst v) w' := by
              rintro e w' ⟨v, S', ρ', H', rfl, hpost, hv⟩
              rw [hnin] at hpost
              obtain ⟨ρ'', H'', hm2, hmore2, hv2⟩ := call_mem hok hm1 hts hu hpost hv
              have hM := hmore1.trans hmore2
              refine ⟨v, rfl, hk _ _ S' ρ'' H'' ?_ hM⟩
              have := (hR.of_mem (st' := st.sets y.wr) hm2 hM (sets_tmp _ _)).put hd hv2
              unfold next1
              rw [dst_of ho]; exact this
            have hcall := hE r.f ct hct r.args r.blks s hs w S1 _ _ vals (by rw [hnin]; exact hpk) hav'
            unfold Oper.wp
            rw [hexec]
            rcases hcall with ⟨hrun, hcalls⟩ | ⟨v, w', hrun, hpost⟩
            · rw [hrun, Oper.upon_enter]
              refine hcalls.mono (fun e w' he => ?_)
              obtain ⟨v, rfl, hn⟩ := hfin e w' he
              exact hn
            · rw [hrun, Oper.upon_value]
              obtain ⟨v', e, hn⟩ := hfin _ _ hpost
              cases e; exact hn
  | none =>
    simp only [exec1, hc] at h
    split at h
    · rename_i y rd1 h1
      simp at h; obtain ⟨rfl, rfl⟩ := h
      obtain ⟨v, w', S', ρ', H', hrun, hR', hv, hmore⟩ := opA_does h1 hR (fun c f hop hcal => by simp [calleeOf, hop, hcal] at hc)
      have hn := hk _ _ S' ρ' H' (by unfold next1; rw [dst_of ho]; exact hR'.put hd hv) hmore
      unfold Oper.wp
      rcases hrun with hrun | ⟨hrun, rfl⟩
      · rw [hrun, Oper.upon_value]; exact hn
      · rw [hrun, Oper.upon_skip]; exact hn
    · simp at h

theorem yielded_b {j tj : Nat} {b : Bool} (hj : (ops[j]?).bind (·.dst) = some tj) (hv : a.tmps.getD tj undef = .bool b) : yielded ops a.tmps j = some b := by
  unfold yielded
  rw [hj]
  simp only [Option.bind_some]
  rw [Array.getD_eq_getD_getElem?] at hv
  cases hx : a.tmps[tj]? with
  | none => rw [hx] at hv; simp [undef] at hv
  | some v => rw [hx] at hv; simp at hv; subst hv; rfl
theorem yielded_u {j tj : Nat} (hj : (ops[j]?).bind (·.dst) = some tj) (hv : a.tmps.getD tj undef = undef) : yielded ops a.tmps j = none := by
  unfold yielded
  rw [hj]
  simp only [Option.bind_some]
  rw [Array.getD_eq_getD_getElem?] at hv
  cases hx : a.tmps[tj]? with
  | none => rfl
  | some v => rw [hx] at hv; simp at hv; subst hv; rfl

theorem step1_sound (hE : EnvOK E) {i : Nat} (ho : ops[i]? = some o) (h : step1 E ops base i st = some (x, le)) (hR : Rep X w S ρ H E.N st a)
    {next : Act → World → Prop} {Q : Exit → Act → World → Prop} (hk : ∀ a' w' S' ρ' H', Rep X w' S' ρ' H' E.N (next1 ops i st x) a' → More w w' S S' ρ ρ' → next a' w') :
    if Region.wanted o (yielded ops a.tmps) then o.wp E.P a w next Q else next (a.put o.dst undef) w := by
  simp only [step1, ho] at h
  split at h
  · rename_i hd
    have skip : le = le → x = undefOut → next (a.put o.dst undef) w := fun _ hx => by
      refine hk _ _ S ρ H ?_ (More.refl _ _ _)
      unfold next1
      rw [dst_of ho, hx]
      exact hR.put (tv := .undef) hd rfl
    cases hg : o.guard with
    | none =>
      simp only [hg] at h
      rw [if_pos (by simp [Region.wanted, hg])]
      exact exec1_sound hE ho hd h hR hk
    | some jw =>
      obtain ⟨j, want⟩ := jw
      simp only [hg] at h
      cases htj : (ops[j]?).bind (·.dst) with
      | none => simp [htj] at h
      | some tj =>
        simp only [htj] at h
        split at h
        · rename_i b hb
          have hv := rep_b (hR.tmp tj _ hb)
          have hy := yielded_b htj hv
          split at h
          · rename_i e
            rw [if_pos (by simp [Region.wanted, hg, hy, e])]
            exact exec1_sound hE ho hd h hR hk
          · rename_i e
            rw [if_neg (by simp [Region.wanted, hg, hy, e])]
            simp at h
            exact skip rfl h.1.symm
        · rename_i hb
          have hv : a.tmps.getD tj undef = undef := hR.tmp tj _ hb
          have hy := yielded_u htj hv
          rw [if_neg (by simp [Region.wanted, hg, hy])]
          simp at h
          exact skip rfl h.1.symm
        · simp at h
  · simp at h

theorem runs_sound (hE : EnvOK E) {Q : Exit → Act → World → Prop} : ∀ {L : List (Nat × LogE)} {st st' : St} {a : Act} {w : World} {S : Nat → Prop} {ρ : Nat → Option Value} {H : Nat → Option Nat}, Runs E ops base L st st' → Rep X w S ρ H E.N st a →
    (∀ a' w' S' ρ' H', Rep X w' S' ρ' H' E.N st' a' → More w w' S S' ρ ρ' → Q .normal a' w') → wpOps E.P ops Q (L.map (·.1)) a w
  | [], st, st', a, w, S, ρ, H, h, hR, hk => by
    cases h
    exact hk a w S ρ H hR (More.refl _ _ _)
  | (i, le) :: L, st, st', a, w, S, ρ, H, h, hR, hk => by
    cases h with
    | cons h1 h2 =>
      rename_i x
      cases ho : ops[i]? with
      | none => simp [step1, ho] at h1
      | some o =>
        simp only [List.map_cons, wpOps, ho]
        have := step1_sound hE ho h1 hR (next := wpOps E.P ops Q (L.map (·.1))) (Q := Q) (fun a' w' S' ρ' H' hR' hM => runs_sound hE h2 hR' (fun a'' w'' S'' ρ'' H'' hR'' hM' => hk a'' w'' S'' ρ'' H'' hR'' (hM.trans hM')))
        split
        · rename_i hw
          rw [if_pos hw] at this
          exact .inl this
        · rename_i hw
          rw [if_neg hw] at this
          exact this

/-! ### the drawn orders -/
def aheadStep (acc : List (List Nat)) (o : Oper) : List (List Nat) := acc ++ [o.after.toList.flatMap fun e => if binding e then e.on :: acc.getD e.on [] else []]
theorem ahead_eq (l : List Oper) : ahead l = l.foldl aheadStep [] := rfl
def AheadInv (ops : List Oper) (acc : List (List Nat)) : Prop :=
  ∀ j a, acc[j]? = some a → ∃ o, ops[j]? = some o ∧ ∀ i ∈ a, ∃ e ∈ o.after, binding e = true ∧ (i = e.on ∨ ∃ a', acc[e.on]? = some a' ∧ e.on < j ∧ i ∈ a')
theorem ahead_inv (all : List Oper) : ∀ (l pre : List Oper) (acc : List (List Nat)), all = pre ++ l → acc.length = pre.length → AheadInv all acc → AheadInv all (l.foldl aheadStep acc)
  | [], pre, acc, _, _, h => h
  | o :: l, pre, acc, he, hl, h => by
    rw [List.foldl_cons]
    refine ahead_inv all l (pre ++ [o]) (aheadStep acc o) (by simp [he]) (by simp [aheadStep, hl]) ?_
    intro j a hj
    unfold aheadStep at hj
    by_cases hlt : j < acc.length
    · rw [List.getElem?_append_left hlt] at hj
      obtain ⟨o', ho', hi⟩ := h j a hj
      refine ⟨o', ho', fun i hi' => ?_⟩
      obtain ⟨e, he, hb, hc⟩ := hi i hi'
      refine ⟨e, he, hb, ?_⟩
      rcases hc with hc | ⟨a', h1, h2, h3⟩
      · exact .inl hc
      · refine .inr ⟨a', ?_, h2, h3⟩
        unfold aheadStep
        rw [List.getElem?_append_left (by omega)]; exact h1
    · rw [List.getElem?_append_right (by omega)] at hj
      have hj0 : j - acc.length = 0 := by
        rcases Nat.eq_zero_or_pos (j - acc.length) with h | h
        · exact h
        · rw [List.getElem?_eq_none (by simp; omega)] at hj; simp at hj
      rw [hj0] at hj
      simp at hj
      have hjl : j = pre.length := by omega
      refine ⟨o, by rw [he, hjl]; simp, fun i hi => ?_⟩
      rw [← hj] at hi
      simp only [List.mem_flatMap] at hi
      obtain ⟨e, hem, hie⟩ := hi
      split at hie
      · rename_i hb
        refine ⟨e, by simpa using hem, hb, ?_⟩
        simp only [List.mem_cons] at hie
        rcases hie with hie | hie
        · exact .inl hie
        · right
          cases hx : acc[e.on]? with
          | none => simp [List.getD, hx] at hie
          | some a' =>
            have hlt' : e.on < acc.length := by
              rcases Nat.lt_or_ge e.on acc.length with h | h
              · exact h
              · rw [List.getElem?_eq_none h] at hx; simp at hx
            refine ⟨a', ?_, by omega, by simpa [List.getD, hx] using hie⟩
            unfold aheadStep
            rw [List.getElem?_append_left hlt']; exact hx
      · simp at hie

theorem binds_of {m : Region.Mode} {e : Edge} (h : binding e = true) : Region.binds m e = true := by
  unfold binding at h
  unfold Region.binds
  split at h <;> simp_all

/-- What is surely ahead is ahead. -/
theorem good_ahead {m : Region.Mode} (hI : AheadInv ops.toList (ahead ops.toList)) : ∀ (n : Nat) {j i : Nat} {a : List Nat} {A B : List Nat}, j < n → (ahead ops.toList)[j]? = some a → i ∈ a → Good m ops (A ++ j :: B) → i ∈ B
  | 0, j, i, a, A, B, hn, _, _, _ => by omega
  | n + 1, j, i, a, A, B, hn, hj, hi, hg => by
    have hgB : Good m ops (j :: B) := by
      clear hn hj hi
      induction A with
      | nil => exact hg
      | cons x A ih => exact ih hg.2.2.2
    obtain ⟨o, ho, hall⟩ := hI j a hj
    obtain ⟨e, he, hb, hc⟩ := hall i hi
    have ho' : ops[j]? = some o := by simpa using ho
    have hin := hgB.2.2.1 o ho' e he (binds_of hb)
    rcases hc with rfl | ⟨a', h1, h2, h3⟩
    · exact hin
    · obtain ⟨A', B', rfl⟩ := List.append_of_mem hin
      have := good_ahead hI n (by omega) h1 h3 hgB.2.2.2
      simp [this]

theorem sched_good (hs : schedOk ops = true) (mixed : Bool) (t : Nat) : ∃ m acc, Region.schedule mixed ops t = acc.reverse ∧ Good m ops acc ∧ acc.length = ops.size := by
  have key : ∀ m t, (Region.linearise m ops 0).length = ops.size → ∃ acc, Region.linearise m ops t = acc.reverse ∧ Good m ops acc ∧ acc.length = ops.size := by
    intro m t h0
    obtain ⟨l0, e0, g0, _⟩ := linearise_spec m ops 0
    obtain ⟨acc, e1, g1, s1⟩ := linearise_spec m ops t
    rw [e0] at h0
    exact ⟨acc, e1, g1, full_of_full m ops g0 (by simpa using h0) g1 s1⟩
  simp only [schedOk, Bool.and_eq_true, beq_iff_eq] at hs
  obtain ⟨⟨s1, s2⟩, s3⟩ := hs
  unfold Region.schedule
  split
  · obtain ⟨acc, h⟩ := key .any t s1; exact ⟨_, acc, h⟩
  · split
    · obtain ⟨acc, h⟩ := key .text (t / 2) s2; exact ⟨_, acc, h⟩
    · obtain ⟨acc, h⟩ := key .gc (t / 2) s3; exact ⟨_, acc, h⟩

theorem range_perm {acc : List Nat} {n : Nat} (hn : acc.Nodup) (hlt : ∀ i ∈ acc, i < n) (hl : acc.length = n) : acc.reverse.Perm (List.range n) := by
  refine (List.reverse_perm acc).trans ?_
  have hsub : ∀ i, i < n → i ∈ acc := by
    intro i hi
    apply Classical.byContradiction
    intro hni
    have h1 : (i :: acc).Nodup := List.nodup_cons.2 ⟨hni, hn⟩
    have := nodup_le h1 (m := List.range n) (fun j hj => by
      simp only [List.mem_cons] at hj
      rw [List.mem_range]
      rcases hj with rfl | hj
      · exact hi
      · exact hlt j hj)
    simp at this; omega
  rw [List.perm_ext_iff_of_nodup hn List.nodup_range]
  intro i
  rw [List.mem_range]
  exact ⟨hlt i, hsub i⟩

theorem idx_range {L : List (Nat × LogE)} {n : Nat} (h : L.map (·.1) = List.range n) {k : Nat} {p : Nat × LogE} (hk : L[k]? = some p) : p.1 = k := by
  have : (L.map (·.1))[k]? = some p.1 := by simp [hk]
  rw [h] at this
  rw [List.getElem?_range] at this
  · simpa using this.symm
  · rcases Nat.lt_or_ge k n with h' | h'
    · exact h'
    · rw [List.getElem?_eq_none (by simpa using h')] at this; simp at this

/-- A region of the machine does what the evaluator's way through it says. -/
theorem region_sound (hE : EnvOK E) {id : Nat} {draw : Bool} {L : List (Nat × LogE)} {st' : St} (hL : L.map (·.1) = List.range ops.size) (hr : Runs E ops base L st st')
    (hd : draw = true → freeOf (ahead ops.toList) ((L.map (·.2)).reverse) = true ∧ schedOk ops = true) (hR : Rep X w S ρ H E.N st a) {Q : Exit → Act → World → Prop}
    (hk : ∀ a' w' S' ρ' H', Rep X w' S' ρ' H' E.N st' a' → More w w' S S' ρ ρ' → Q .normal a' w') : (Code.region id ops draw).wp E.P Q a w := by
  cases draw with
  | false =>
    refine wp_region ?_
    rw [← hL]
    exact runs_sound hE hr hR hk
  | true =>
    obtain ⟨hf, hs⟩ := hd rfl
    refine wp_region_draw (fun t => ?_)
    have hR' : Rep X { w with drawn := w.drawn + 1 } S ρ H E.N st a := hR.of_mem (hR.mem.world rfl rfl rfl rfl) ⟨fun _ x => x, fun _ _ => rfl, fun _ _ x => x⟩ rfl
    obtain ⟨m, acc, e, hg, hl⟩ := sched_good hs (E.P.follows .mixedOrders) t
    rw [e]
    have hperm : acc.reverse.Perm (L.map (·.1)) := by
      rw [hL]
      exact range_perm (hg.nodup m ops) (hg.lt m ops) hl
    have hI : AheadInv ops.toList (ahead ops.toList) := by
      rw [ahead_eq]
      exact ahead_inv ops.toList ops.toList [] [] (by simp) rfl (fun j a h => by simp at h)
    have hnd : acc.reverse.Nodup := ((List.reverse_perm acc).nodup_iff).2 (hg.nodup m ops)
    obtain ⟨L', e', hr'⟩ := runs_perm hr hperm hnd (fun p q hpq hqp => by
      -- places of the two
      obtain ⟨k1, hk1⟩ := List.getElem?_of_mem (hpq.subset (List.mem_cons_self))
      obtain ⟨k2, hk2⟩ := List.getElem?_of_mem (hpq.subset (by simp : q ∈ [p, q]))
      have i1 := idx_range hL hk1
      have i2 := idx_range hL hk2
      have hlt : p.1 < q.1 := by
        have : [p.1, q.1].Sublist (List.range ops.size) := by rw [← hL]; exact hpq.map (·.1)
        have hp := List.pairwise_lt_range (n := ops.size)
        have := hp.sublist this
        simpa using this
      have hchk : ((ahead ops.toList).getD q.1 []).contains p.1 = true ∨ indep p.2 q.2 = true := by
        unfold freeOf at hf
        simp only [List.reverse_reverse] at hf
        rw [List.all_eq_true] at hf
        have m2 : (q.2, q.1) ∈ ((L.map (·.2)).zipIdx) := by
          refine List.mem_of_getElem? (i := k2) ?_
          rw [List.getElem?_zipIdx]; simp [hk2, i2]
        have m1 : (p.2, p.1) ∈ ((L.map (·.2)).zipIdx) := by
          refine List.mem_of_getElem? (i := k1) ?_
          rw [List.getElem?_zipIdx]; simp [hk1, i1]
        have h1 := hf _ m2
        simp only at h1
        rw [List.all_eq_true] at h1
        have h2 := h1 _ m1
        simp only [hlt, decide_true, Bool.not_true, Bool.false_or, Bool.or_eq_true] at h2
        exact h2
      rcases hchk with hc | hc
      · exfalso
        have hmem : ∃ a, (ahead ops.toList)[q.1]? = some a ∧ p.1 ∈ a := by
          cases hx : (ahead ops.toList)[q.1]? with
          | none => simp [List.getD, hx] at hc
          | some a => exact ⟨a, rfl, by simpa [List.getD, hx] using hc⟩
        obtain ⟨a', ha', hpa⟩ := hmem
        have hqp' : [p.1, q.1].Sublist acc := by
          have := hqp.reverse
          simpa using this
        -- acc = A ++ p :: .. q ..; q's place has p behind it
        have hqacc : q.1 ∈ acc := hqp'.subset (by simp)
        obtain ⟨A, B, rfl⟩ := List.append_of_mem hqacc
        have hpB := good_ahead hI (q.1 + 1) (Nat.lt_succ_self _) ha' hpa hg
        have hnd' := hg.nodup m ops
        -- p is in B; but p stands ahead of q in acc
        have : ∀ (A : List Nat), (A ++ q.1 :: B).Nodup → [p.1, q.1].Sublist (A ++ q.1 :: B) → False := by
          intro A
          induction A with
          | nil =>
            intro hn hsub
            simp only [List.nil_append] at hn hsub
            have hn' := List.nodup_cons.1 hn
            rcases List.sublist_cons_iff.mp hsub with h | ⟨r, hr, h⟩
            · exact hn'.1 (h.subset (by simp))
            · simp at hr
              exact hn'.1 (hr.1 ▸ hpB)
          | cons x A ih =>
            intro hn hsub
            have hn' := List.nodup_cons.1 (by simpa using hn : (x :: (A ++ q.1 :: B)).Nodup)
            rcases List.sublist_cons_iff.mp hsub with h | ⟨r, hr, h⟩
            · exact ih hn'.2 h
            · simp at hr
              exact hn'.1 (by rw [← hr.1]; simp [hpB])
        exact this A hnd' hqp'
      · exact hc)
    rw [← e']
    exact runs_sound hE hr' hR' (fun a' w' S' ρ' H' hR'' hM => hk a' w' S' ρ' H' hR'' ⟨hM.s, hM.heap, hM.names⟩)
end
end Go.Proofs.Ytndkobhclggeiaa.Aev
