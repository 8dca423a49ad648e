/- AEV: each operation does what the evaluator says (3). -/
import Derived.Test.YtpcojbnoadnknaaAevG
import Derived.Lib.ConvBytes
namespace Go.Proofs.Ytpcojbnoadnknaa.Aev
set_option linter.unusedVariables false
set_option linter.unusedSimpArgs false
open Go

section
variable {P : Program} {sg : FuncId → Option (Nat × List Nat)} {fresh : Nat} {X : Cx} {w : World} {S : Nat → Prop} {ρ : Nat → Option Value} {H : Nat → Option Nat} {N : Nat} {st : St} {a : Act} {o : Oper} {x : Out} {lg lg' : List Loc}

/-- A row that is read: settled ones among the state's become so. -/
theorem Does.settled {tv : TV} {wr : List (Nat × Option Blk)} {v : Value} {s : Sem Next} (hR : Rep X w S ρ H N st a) (ht : ToSettle st wr) (hs : s.run P w = .ok (.value v) w)
    (hv : ∀ S' : Nat → Prop, (∀ b, S b → S' b) → Settled w S' ρ wr → RepTV w S' ρ tv v) : Does P X N st a w S ρ s { tv := tv, wr := wr } := by
  obtain ⟨S', H', hm, hmore, hset⟩ := settle_all wr hR.mem ht.all
  exact ⟨v, w, S', ρ, H', .inl hs, hR.of_mem hm hmore (sets_tmp wr st), hv S' hmore.s hset, hmore⟩

theorem rd_drop_take {t : Ty} {base : Option Addr} {len cap : Nat} {xs : List t.den} (h : Rd w S (.sl t) [.slice base len cap] xs) {l h' : Nat} (h1 : l ≤ h') (h2 : h' ≤ xs.length) :
    Rd w S (.sl t) [.slice (if cap = l then base else base.map (·.add (l * t.size))) (h' - l) (cap - l)] ((xs.drop l).take (h' - l)) := by
  obtain ⟨base', len', cap', e, e1, e2, e3, e4, e5⟩ := h
  simp at e; obtain ⟨rfl, rfl, rfl⟩ := e
  refine ⟨_, _, _, rfl, by simp; omega, by omega, ?_, ?_, ?_⟩
  · intro q hq hc
    split at hq
    · omega
    · cases base with
      | none => simp at hq
      | some p =>
        simp at hq; subst hq
        have := e3 p rfl (by omega)
        unfold Addr.add; split
        · exact this
        · rfl
  · intro hb
    split at hb
    · have := e4 hb; omega
    · cases base with
      | none => have := e4 rfl; omega
      | some p => simp at hb
  · intro hx
    have hlen : 0 < ((xs.drop l).take (h' - l)).length := List.length_pos_iff.2 hx
    simp at hlen
    have hne : xs ≠ [] := by intro e; subst e; simp at hlen
    obtain ⟨p, rfl, hS, hr⟩ := e5 hne
    have hcl : cap ≠ l := by omega
    have hsp := e3 p rfl (by omega)
    refine ⟨p.add (l * t.size), by simp [hcl], by unfold Addr.add; split <;> simpa using hS, fun i hi => ?_⟩
    simp at hi
    obtain ⟨us, hc, hu⟩ := hr (l + i) (by omega)
    have ep : p = ⟨p.block, p.off, none⟩ := by cases p; simp at hsp; simp [hsp]
    refine ⟨us, ?_, ?_⟩
    · rw [ep, addr_add]
      simp only
      have : p.off + l * t.size + i * t.size = p.off + (l + i) * t.size := by rw [Nat.add_mul]; omega
      rw [this]; exact hc
    · have : ((xs.drop l).take (h' - l))[i]'(by simp; omega) = xs[l + i]'(by omega) := by simp
      rw [this]; exact hu

theorem slice_run {t : TypeId} {e : TypeId} (hu : P.underlying t = some (.slice e)) {inf : TypeInfo} (hi : P.info? e = some inf) {base : Option Addr} {len cap : Nat} {lo hi' : Option Value} {l h : Nat}
    (hb : (Instr.sliceBounds true len cap lo hi' none).run P w = .ok (l, h, cap) w) :
    (Instr.sliceAt t (.slice base len cap) lo hi' none).run P w = .ok (.slice (if cap = l then base else base.map (·.add (l * inf.size))) (h - l) (cap - l)) w := by
  simp [Instr.sliceAt, underlying_run hu, Instr.slice, hb, sizeOf_run hi]

theorem elemOk_some {t : TypeId} {u : Ty} {inf : TypeInfo} (h : elemOk P t u = some inf) : ∃ e, P.underlying t = some (.slice e) ∧ P.info? e = some inf ∧ inf.size = u.size := by
  unfold elemOk at h
  split at h
  · rename_i e hu
    split at h
    · rename_i i hi
      split at h
      · rename_i hs
        simp at h; subst h
        exact ⟨e, hu, hi, hs⟩
      · simp at h
    · simp at h
  · simp at h

theorem does_slice {t : TypeId} {y : Operand} {lo hi mx : Option Operand} (ho : o.op = .slice t y lo hi mx) (h : (opA P sg fresh o).run st lg = some (.out x, lg')) (hR : Rep X w S ρ H N st a) : Does P X N st a w S ρ (execOp a.eval o) x := by
  cases mx with
  | some m =>
    simp only [opA, ho, Option.isSome_some, if_true] at h
    obtain ⟨lo', lg1, h1, h⟩ := run_bind_some h
    obtain ⟨hi', lg2, h2, h⟩ := run_bind_some h
    exact (run_fail h).elim
  | none =>
  simp only [opA, ho, Option.isSome_none, Bool.false_eq_true, if_false] at h
  obtain ⟨lo', lg1, h1, h⟩ := run_bind_some h
  obtain ⟨hi', lg2, h2, h⟩ := run_bind_some h
  obtain ⟨yv, lg3, h3, h⟩ := run_bind_some h
  have hy := opd_rep hR h3
  simp only at h hy
  split at h
  · rename_i s
    split at h
    · rename_i hu
      obtain ⟨⟨l, h'⟩, lg4, h4, h⟩ := run_bind_some h
      obtain rfl := outA_eq h
      have hv := rep_s hy
      obtain ⟨g1, g2, g3, hb⟩ := bounds_run (P := P) (isS := false) (cap := s.size) hR h1 h2 h4 (n := s.size) rfl (Nat.le_refl _)
      refine Does.value hR (v := .string (s.extract l.toNat h'.toNat)) ?_ (by simp [RepTV, RepVV, RepAV, Rd])
      simp [execOp, ho, hv, Instr.sliceAt, underlying_run hu, Instr.slice, hb]
    · exact (run_fail h).elim
  · rename_i e xs
    split at h
    · rename_i inf hel
      obtain ⟨⟨l, h'⟩, lg4, h4, h⟩ := run_bind_some h
      obtain rfl := outA_eq h
      obtain ⟨e', hu, hi', hsz⟩ := elemOk_some hel
      have hy' := hy
      obtain ⟨base, len, cap, hv, e1, e2, e3, e4, e5⟩ := hy
      simp at hv
      obtain ⟨g1, g2, g3, hb⟩ := bounds_run (P := P) (isS := true) (cap := cap) hR h1 h2 h4 (n := xs.length) rfl (by omega)
      have hy' : Rd w S (.sl e) [.slice base len cap] xs := by rw [← hv]; exact hy'
      have hrd := rd_drop_take hy' (l := l.toNat) (h' := h'.toNat) (by omega) (by omega)
      refine Does.value hR ?_ hrd
      have := slice_run (P := P) (w := w) hu hi' (base := base) (len := len) (cap := cap) (by rw [e1]; exact hb)
      rw [hsz] at this
      simp [execOp, ho, hv, this]
    · exact (run_fail h).elim
  · rename_i n
    obtain ⟨B, lg4, h4, h⟩ := run_bind_some h
    have hb := run_rB h4
    simp only at h hb
    split at h
    · rename_i u excl xs
      split at h
      · rename_i inf hel
        obtain ⟨⟨l, h'⟩, lg5, h5, h⟩ := run_bind_some h
        have := run_pure' h; simp at this; obtain ⟨rfl, _⟩ := this
        obtain ⟨e', hu, hi', hsz⟩ := elemOk_some hel
        obtain ⟨hρ, base, len, cap, hv⟩ := hy
        have hts : ToSettle st [(n, some (.settled u xs))] := fun p hp => by simp at hp; subst hp; exact ⟨_, _, _, rfl, hb⟩
        have hlen : len = xs.length ∧ len ≤ cap := by
          obtain ⟨S', H', hm, hmore, hset⟩ := settle_all _ hR.mem hts.all
          obtain ⟨t', xs', v', e1, e2, e3⟩ := hset _ (List.mem_singleton.2 rfl)
          simp at e1; obtain ⟨rfl, e1⟩ := e1; cases e1
          simp only at e2
          rw [hρ] at e2; cases e2
          obtain ⟨_, _, _, q, q1, q2, _⟩ := e3
          rw [hv] at q; simp at q; obtain ⟨_, rfl, rfl⟩ := q
          exact ⟨q1, q2⟩
        obtain ⟨g1, g2, g3, hbd⟩ := bounds_run (P := P) (isS := true) (cap := cap) hR h1 h2 h5 (n := xs.length) rfl (by omega)
        have hrun := slice_run (P := P) (w := w) hu hi' (base := base) (len := len) (cap := cap) (by rw [hlen.1]; exact hbd)
        rw [hsz] at hrun
        refine Does.settled hR hts (v := .slice (if cap = l.toNat then base else base.map (·.add (l.toNat * u.size))) (h'.toNat - l.toNat) (cap - l.toNat)) (by simp [execOp, ho, hv, hrun]) (fun S' hS hset => ?_)
        obtain ⟨t', xs', v', e1, e2, e3⟩ := hset _ (List.mem_singleton.2 rfl)
        simp at e1; obtain ⟨rfl, e1⟩ := e1; cases e1
        simp only at e2
        rw [hρ] at e2; cases e2
        rw [hv] at e3
        exact rd_drop_take e3 (l := l.toNat) (h' := h'.toNat) (by omega) (by omega)
      · exact (run_fail h).elim
    · rename_i u xs
      split at h
      · rename_i inf hel
        obtain ⟨⟨l, h'⟩, lg5, h5, h⟩ := run_bind_some h
        obtain rfl := outA_eq h
        obtain ⟨e', hu, hi', hsz⟩ := elemOk_some hel
        obtain ⟨hρ, base, len, cap, hv⟩ := hy
        obtain ⟨v', e2, _, hrd⟩ := hR.mem.rep n _ hb
        rw [hρ] at e2; cases e2
        rw [hv] at hrd
        have hq := hrd
        obtain ⟨_, _, _, q, q1, q2, _⟩ := hq
        simp at q; obtain ⟨_, rfl, rfl⟩ := q
        obtain ⟨g1, g2, g3, hbd⟩ := bounds_run (P := P) (isS := true) (cap := cap) hR h1 h2 h5 (n := xs.length) rfl (by omega)
        have hrun := slice_run (P := P) (w := w) hu hi' (base := base) (len := len) (cap := cap) (by rw [q1]; exact hbd)
        rw [hsz] at hrun
        exact Does.value hR (by simp [execOp, ho, hv, hrun]) (rd_drop_take hrd (l := l.toNat) (h' := h'.toNat) (by omega) (by omega))
      · exact (run_fail h).elim
    · exact (run_fail h).elim
  · exact (run_fail h).elim

theorem does_indexAddr {t : TypeId} {y i : Operand} (ho : o.op = .indexAddr t y i) (h : (opA P sg fresh o).run st lg = some (.out x, lg')) (hR : Rep X w S ρ H N st a) : Does P X N st a w S ρ (execOp a.eval o) x := by
  simp only [opA, ho] at h
  obtain ⟨iv, lg1, h1, h⟩ := run_bind_some h
  obtain ⟨⟨k, i'⟩, lg2, h2, h⟩ := run_bind_some h
  obtain ⟨yv, lg3, h3, h⟩ := run_bind_some h
  have hi := opd_rep hR h1
  rw [asI_inv h2] at hi
  have hi := rep_i hi
  have hy := opd_rep hR h3
  simp only at h hy hi
  split at h
  · rename_i av e hu
    split at h
    · rename_i u hu'
      split at h
      · rename_i inf hel
        obtain ⟨⟨xs, wr⟩, lg4, h4, h⟩ := run_bind_some h
        obtain ⟨_, lg5, h5, h⟩ := run_bind_some h
        have hg := run_guard h5
        simp only [Bool.and_eq_true, decide_eq_true_eq] at hg
        have := run_pure' h; simp at this; obtain ⟨rfl, _⟩ := this
        obtain ⟨e', hue, hie, hsz⟩ := elemOk_some hel
        obtain ⟨hts, hrd⟩ := toD_spec h4 hR.mem
        obtain ⟨S1, H1, hm1, hmore1, hset1⟩ := settle_all _ hR.mem hts.all
        obtain ⟨base, len, cap, hv, e1, e2, e3, e4, e5⟩ := hrd hmore1.s hset1 hy
        have e1 : len = xs.length := e1
        have hne : xs ≠ [] := by intro e; have := hg.2; rw [e] at this; simp at this; omega
        simp at hv
        obtain ⟨p, rfl, hS, _⟩ := e5 hne
        have hsp := e3 p rfl (by have := List.length_pos_iff.2 hne; omega)
        have ep : p = ⟨p.block, p.off, none⟩ := by cases p; simp at hsp; simp [hsp]
        have hlt : i' < len := by omega
        refine Does.settled hR hts (v := Ptr p.block (p.off + i'.toNat * u.size)) ?_ (fun S' hS' hset => ?_)
        · have hadd : p.add (i'.toNat * u.size) = ⟨p.block, p.off + i'.toNat * u.size, none⟩ := by rw [ep, addr_add]
          simp [execOp, ho, hv, hi, Instr.indexAt, asIntOf, underlying_run hue, sizeOf_run hie, hsz, hg.1, hlt, hadd]
        · obtain ⟨base', len', cap', hv', q1, q2, q3, q4, q5⟩ := hrd hS' hset hy
          rw [hv] at hv'; simp at hv'; obtain ⟨rfl, rfl, rfl⟩ := hv'
          obtain ⟨p', hp', hS'', hr⟩ := q5 hne
          simp at hp'; subst hp'
          exact ⟨by have := hg.2; omega, p.block, p.off, rfl, hS'', hr⟩
      · exact (run_fail h).elim
    · exact (run_fail h).elim
  · exact (run_fail h).elim

theorem does_index {t : TypeId} {y i : Operand} (ho : o.op = .index t y i) (h : (opA P sg fresh o).run st lg = some (.out x, lg')) (hR : Rep X w S ρ H N st a) : Does P X N st a w S ρ (execOp a.eval o) x := by
  simp only [opA, ho] at h
  obtain ⟨iv, lg1, h1, h⟩ := run_bind_some h
  obtain ⟨⟨k, i'⟩, lg2, h2, h⟩ := run_bind_some h
  obtain ⟨yv, lg3, h3, h⟩ := run_bind_some h
  have hi := opd_rep hR h1
  rw [asI_inv h2] at hi
  have hi := rep_i hi
  have hy := opd_rep hR h3
  simp only at h hy hi
  split at h
  · rename_i s
    split at h
    · rename_i hu
      obtain ⟨_, lg5, h5, h⟩ := run_bind_some h
      have hg := run_guard h5
      simp only [Bool.and_eq_true, decide_eq_true_eq] at hg
      obtain rfl := outA_eq h
      have hv := rep_s hy
      have hlt : i'.toNat < s.size := by omega
      refine Does.value hR (v := .int .u8 (bt s i')) ?_ (by simp [RepTV, RepVV, RepAV, Rd])
      have hget : s[i'.toNat]? = some s[i'.toNat] := by simp [hlt]
      have hbt : bt s i' = (s[i'.toNat]).toNat := by
        unfold bt
        have : s.data[i'.toNat]? = some s[i'.toNat] := by
          have := hlt
          simp only [ByteArray.size] at this
          rw [Array.getElem?_eq_getElem this]; rfl
        rw [this]; rfl
      rw [hbt]
      simp [execOp, ho, hv, hi, Instr.index, asIntOf, underlying_run hu, hg.1, hget]
    · exact (run_fail h).elim
  · exact (run_fail h).elim
end
end Go.Proofs.Ytpcojbnoadnknaa.Aev
