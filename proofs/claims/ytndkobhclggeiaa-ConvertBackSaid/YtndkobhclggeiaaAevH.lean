/- AEV: each operation does what the evaluator says (3). -/
import Derived.Test.YtndkobhclggeiaaAevG
import Derived.Lib.ConvBytes
namespace Go.Proofs.Ytndkobhclggeiaa.Aev
set_option linter.unusedVariables false
set_option linter.unusedSimpArgs false
open Go

section mem
variable {X : Cx} {w w' : World} {S : Nat → Prop} {ρ : Nat → Option Value} {H : Nat → Option Nat} {blk : Nat → Option (Option Blk)}

/-- A new name for a block that no live name has: a new one, or one given up. -/
theorem Mem.adopt (h : Mem X w S ρ H blk) {n : Nat} (hn : blk n = none) {home : Option Nat} (hm : ∀ b, home = some b → X.mine b ∧ ¬ S b ∧ ∀ m C, blk m = some (some C) → H m ≠ some b)
    (hsz : w.heap.size ≤ w'.heap.size) (hk : ∀ k, k < w.heap.size → home ≠ some k → w'.heap[k]? = w.heap[k]?) (ho : w'.os = w.os) (ht : w'.tape = w.tape) (hp : w'.output = w.output)
    {v : Value} {B : Blk} (hB : RepBlk w' S (upd ρ n (some v)) n home B) :
    Mem X w' S (upd ρ n (some v)) (upd H n home) (upd blk n (some (some B))) ∧ More w w' S S ρ (upd ρ n (some v)) := by
  have hρ := upd_le (v := v) (h.never n hn)
  have hS : ∀ k, S k → w'.heap[k]? = w.heap[k]? := fun k hs => hk k (h.old k hs) (fun e => (hm k e).2.1 hs)
  have other : ∀ m C, m ≠ n → upd blk n (some (some B)) m = some (some C) → blk m = some (some C) := fun m C e hm => by rwa [upd_other _ _ e] at hm
  refine ⟨?_, fun _ x => x, hS, hρ⟩
  refine { rep := ?_, sep := ?_, apart := ?_, homes := ?_, old := fun b hb => Nat.lt_of_lt_of_le (h.old b hb) hsz, never := ?_, s0 := h.s0, smine := h.smine, names := fun m u hm => hρ _ _ (h.names m u hm), os := ho.trans h.os, tape := ht.trans h.tape, output := hp.trans h.output, size := Nat.le_trans h.size hsz, same := ?_ }
  · intro m C hC
    by_cases e : m = n
    · subst e
      rw [upd_same] at hC ⊢
      obtain rfl : B = C := by simpa using hC
      exact hB
    · rw [upd_other _ _ e]
      have hC := other m C e hC
      have hr := h.rep m C hC
      exact hr.mono (fun _ x => x) hS hρ (fun b hb => hk b (hr.home_lt hb) (fun e' => (hm b e').2.2 m C hC hb))
  · intro m k C D b hC hD h1 h2
    by_cases e : m = n
    · by_cases e' : k = n
      · rw [e, e']
      · subst e
        rw [upd_same] at h1
        rw [upd_other _ _ e'] at h2
        exact ((hm b h1).2.2 k D (other k D e' hD) h2).elim
    · by_cases e' : k = n
      · subst e'
        rw [upd_same] at h2
        rw [upd_other _ _ e] at h1
        exact ((hm b h2).2.2 m C (other m C e hC) h1).elim
      · rw [upd_other _ _ e] at h1
        rw [upd_other _ _ e'] at h2
        exact h.sep m k C D b (other m C e hC) (other k D e' hD) h1 h2
  · intro m C b hC h1
    by_cases e : m = n
    · subst e; rw [upd_same] at h1; exact (hm b h1).2.1
    · rw [upd_other _ _ e] at h1; exact h.apart m C b (other m C e hC) h1
  · intro m C b hC h1
    by_cases e : m = n
    · subst e; rw [upd_same] at h1; exact (hm b h1).1
    · rw [upd_other _ _ e] at h1; exact h.homes m C b (other m C e hC) h1
  · intro m hC
    by_cases e : m = n
    · subst e; rw [upd_same] at hC; simp at hC
    · rw [upd_other _ _ e] at hC ⊢
      exact h.never m hC
  · intro b hb hM
    rw [hk b (Nat.lt_of_lt_of_le hb h.size) (fun e => ?_)]
    · exact h.same b hb hM
    · rcases (hm b e).1 with h1 | h1
      · exact hM h1
      · omega
end mem

section
variable {P : Program} {sg : FuncId → Option (Nat × List Nat)} {fresh : Nat} {X : Cx} {w : World} {S : Nat → Prop} {ρ : Nat → Option Value} {H : Nat → Option Nat} {N : Nat} {st : St} {a : Act} {o : Oper} {x : Out} {lg lg' : List Loc}

/-- A row that is read: settled ones among the state's become so. -/
theorem Does.settled {tv : TV} {wr : List (Nat × Option Blk)} {v : Value} {s : Sem Next} (hR : Rep X w S ρ H N st a) (ht : ToSettle st wr) (hs : s.run P w = .ok (.value v) w)
    (hv : ∀ S' : Nat → Prop, (∀ b, S b → S' b) → Settled w S' ρ wr → RepTV w S' ρ tv v) : Does P X N st a w S ρ s { tv := tv, wr := wr } := by
  obtain ⟨S', H', hm, hmore, hset⟩ := settle_all wr hR.mem ht.all
  exact ⟨v, w, S', ρ, H', .inl hs, hR.of_mem hm hmore (sets_tmp wr st), hv S' hmore.s hset, hmore⟩

theorem rd_drop_take {t : Ty} {base : Option Addr} {len cap : Nat} {xs : List t.den} (h : Rd w S (.sl t) [.slice base len cap] xs) {l h' : Nat} (h1 : l ≤ h') (h2 : h' ≤ xs.length) :
    Rd w S (.sl t) [.slice (if cap = l then base else base.map (·.add (l * t.size))) (h' - l) (cap - l)] ((xs.drop l).take (h' - l)) := by
  obtain ⟨base', len', cap', e, e1, e2, e3, e4, e5⟩ := h
  simp at e; obtain ⟨rfl, rfl, rfl⟩ := e
  refine ⟨_, _, _, rfl, by simp; omega, by omega, ?_, ?_, ?_⟩
  · intro q hq hc
    split at hq
    · omega
    · cases base with
      | none => simp at hq
      | some p =>
        simp at hq; subst hq
        have := e3 p rfl (by omega)
        unfold Addr.add; split
        · exact this
        · rfl
  · intro hb
    split at hb
    · have := e4 hb; omega
    · cases base with
      | none => have := e4 rfl; omega
      | some p => simp at hb
  · intro hx
    have hlen : 0 < ((xs.drop l).take (h' - l)).length := List.length_pos_iff.2 hx
    simp at hlen
    have hne : xs ≠ [] := by intro e; subst e; simp at hlen
    obtain ⟨p, rfl, hS, hr⟩ := e5 hne
    have hcl : cap ≠ l := by omega
    have hsp := e3 p rfl (by omega)
    refine ⟨p.add (l * t.size), by simp [hcl], by unfold Addr.add; split <;> simpa using hS, fun i hi => ?_⟩
    simp at hi
    obtain ⟨us, hc, hu⟩ := hr (l + i) (by omega)
    have ep : p = ⟨p.block, p.off, none⟩ := by cases p; simp at hsp; simp [hsp]
    refine ⟨us, ?_, ?_⟩
    · rw [ep, addr_add]
      simp only
      have : p.off + l * t.size + i * t.size = p.off + (l + i) * t.size := by rw [Nat.add_mul]; omega
      rw [this]; exact hc
    · have : ((xs.drop l).take (h' - l))[i]'(by simp; omega) = xs[l + i]'(by omega) := by simp
      rw [this]; exact hu

theorem rd_cut {t : Ty} {base : Option Addr} {len cap : Nat} {xs : List t.den} (h : Rd w S (.sl t) [.slice base len cap] xs) {l h' m : Nat} (h1 : l ≤ h') (h2 : h' ≤ xs.length) (h3 : h' ≤ m) (h4 : m ≤ cap) :
    Rd w S (.sl t) [.slice (if m = l then base else base.map (·.add (l * t.size))) (h' - l) (m - l)] ((xs.drop l).take (h' - l)) := by
  obtain ⟨base', len', cap', e, e1, e2, e3, e4, e5⟩ := h
  simp at e; obtain ⟨rfl, rfl, rfl⟩ := e
  refine ⟨_, _, _, rfl, by simp; omega, by omega, ?_, ?_, ?_⟩
  · intro q hq hc
    split at hq
    · omega
    · cases base with
      | none => simp at hq
      | some p =>
        simp at hq; subst hq
        have := e3 p rfl (by omega)
        unfold Addr.add; split
        · exact this
        · rfl
  · intro hb
    split at hb
    · have := e4 hb; omega
    · cases base with
      | none => have := e4 rfl; omega
      | some p => simp at hb
  · intro hx
    have hlen : 0 < ((xs.drop l).take (h' - l)).length := List.length_pos_iff.2 hx
    simp at hlen
    have hne : xs ≠ [] := by intro e; subst e; simp at hlen
    obtain ⟨p, rfl, hS, hr⟩ := e5 hne
    have hcl : m ≠ l := by omega
    have hsp := e3 p rfl (by omega)
    refine ⟨p.add (l * t.size), by simp [hcl], by unfold Addr.add; split <;> simpa using hS, fun i hi => ?_⟩
    simp at hi
    obtain ⟨us, hc, hu⟩ := hr (l + i) (by omega)
    have ep : p = ⟨p.block, p.off, none⟩ := by cases p; simp at hsp; simp [hsp]
    refine ⟨us, ?_, ?_⟩
    · rw [ep, addr_add]
      simp only
      have : p.off + l * t.size + i * t.size = p.off + (l + i) * t.size := by rw [Nat.add_mul]; omega
      rw [this]; exact hc
    · have : ((xs.drop l).take (h' - l))[i]'(by simp; omega) = xs[l + i]'(by omega) := by simp
      rw [this]; exact hu

theorem bounds3_run {cap : Nat} {lo : Option Operand} {z mo : Operand} {l h len : Int} {lo' : Option TV} {hv mv : TV} {km : IntKind × Int} {lg lg1 lg2 lg3 lg4 lg5 lg6 lg7 : List Loc} (hR : Rep X w S ρ H N st a)
    (h1 : (optM opd lo).run st lg = some (lo', lg1)) (h2 : (opd z).run st lg2 = some (hv, lg3)) (h3 : (sliceB lo' (some hv) len).run st lg4 = some ((l, h), lg5)) {n : Nat} (hn : len = n) (hcap : n ≤ cap)
    (h8 : (opd mo).run st lg6 = some (mv, lg7)) {lg8 lg9 : List Loc} (h9 : (asI mv).run st lg8 = some (km, lg9)) (hm : h = km.2) :
    0 ≤ l ∧ l ≤ h ∧ h ≤ n ∧ (Instr.sliceBounds true n cap (lo.map a.eval) (some (a.eval z)) (some (a.eval mo))).run P w = .ok (l.toNat, h.toNat, h.toNat) w := by
  subst hn
  unfold sliceB at h3
  obtain ⟨h', lg6, h4, h3⟩ := run_bind_some h3
  obtain ⟨l', lg7, h5, h3⟩ := run_bind_some h3
  obtain ⟨u, lg8, h6, h3⟩ := run_bind_some h3
  have hg := run_guard h6
  have := run_pure h3; simp at this; obtain ⟨⟨rfl, rfl⟩, _⟩ := this
  simp only [Bool.and_eq_true, decide_eq_true_eq] at hg
  obtain ⟨⟨g1, g2⟩, g3⟩ := hg
  refine ⟨g1, g2, g3, ?_⟩
  have hmo := opd_rep hR h8
  rw [asI_inv h9] at hmo
  have hmo := rep_i hmo
  simp only at hmo
  have hz := opd_rep hR h2
  obtain ⟨⟨k, i⟩, lg10, h11, h10⟩ := run_bind_some h4
  have := run_pure h10; simp at this; obtain ⟨rfl, _⟩ := this
  rw [asI_inv h11] at hz
  have hz := rep_i hz
  simp only at hz hm
  have hl : (match lo.map a.eval with | some v => Instr.sliceBound v h.toNat .slice3C | none => (pure 0 : Sem Nat)).run P w = .ok l.toNat w := by
    cases lo with
    | none =>
      have := run_pure' h1; simp at this; obtain ⟨rfl, _⟩ := this
      have := run_pure' h5; simp at this; obtain ⟨rfl, _⟩ := this
      simp
    | some y =>
      obtain ⟨v, lg9, h7, h8⟩ := run_bind_some h1
      have := run_pure h8; simp at this; obtain ⟨rfl, _⟩ := this
      obtain ⟨⟨k, i⟩, lg10, h9, h10⟩ := run_bind_some h5
      have := run_pure h10; simp at this; obtain ⟨rfl, _⟩ := this
      have hy := opd_rep hR h7
      rw [asI_inv h9] at hy
      have hy := rep_i hy
      simp only at hy
      simp only [Option.map_some, hy, Instr.sliceBound, asIntOf, Sem.run_bind, Sem.run_pure, Result.andThen_ok]
      rw [if_pos (by omega)]
      rfl
  have hb1 : (Instr.sliceBound (a.eval mo) cap .slice3Acap).run P w = .ok h.toNat w := by
    simp only [hmo, Instr.sliceBound, asIntOf, Sem.run_bind, Sem.run_pure, Result.andThen_ok]
    rw [if_pos (by omega), hm]; rfl
  have hb2 : (Instr.sliceBound (a.eval z) h.toNat .slice3B).run P w = .ok h.toNat w := by
    simp only [hz, Instr.sliceBound, asIntOf, Sem.run_bind, Sem.run_pure, Result.andThen_ok]
    rw [if_pos (by omega)]; rfl
  unfold Instr.sliceBounds
  cases lo with
  | none => simp at hl; simp [hb1, hb2, ← hl]
  | some y => simp at hl; simp [hb1, hb2, hl]

theorem slice_run {t : TypeId} {e : TypeId} (hu : P.underlying t = some (.slice e)) {inf : TypeInfo} (hi : P.info? e = some inf) {base : Option Addr} {len cap : Nat} {lo hi' : Option Value} {l h : Nat}
    (hb : (Instr.sliceBounds true len cap lo hi' none).run P w = .ok (l, h, cap) w) :
    (Instr.sliceAt t (.slice base len cap) lo hi' none).run P w = .ok (.slice (if cap = l then base else base.map (·.add (l * inf.size))) (h - l) (cap - l)) w := by
  simp [Instr.sliceAt, underlying_run hu, Instr.slice, hb, sizeOf_run hi]

theorem elemOk_some {t : TypeId} {u : Ty} {inf : TypeInfo} (h : elemOk P t u = some inf) : ∃ e, P.underlying t = some (.slice e) ∧ P.info? e = some inf ∧ inf.size = u.size := by
  unfold elemOk at h
  split at h
  · rename_i e hu
    split at h
    · rename_i i hi
      split at h
      · rename_i hs
        simp at h; subst h
        exact ⟨e, hu, hi, hs⟩
      · simp at h
    · simp at h
  · simp at h

theorem arrOk_some {t : TypeId} {m : Nat} {u : Ty} (h : arrOk P t = some (m, u)) : ∃ e inf, P.underlying t = some (.array m e) ∧ P.info? e = some inf ∧ inf.size = u.size ∧ 1 ≤ inf.size ∧ 2 ≤ m := by
  unfold arrOk at h
  split at h
  · rename_i len e hu
    split at h
    · rename_i inf u' hi hu'
      split at h
      · rename_i hc
        simp at h
        obtain ⟨rfl, rfl⟩ := h
        simp only [Bool.and_eq_true, decide_eq_true_eq, beq_iff_eq] at hc
        exact ⟨e, inf, hu, hi, hc.1.1, hc.1.2, hc.2⟩
      · simp at h
    · simp at h
  · simp at h

theorem does_slice {t : TypeId} {y : Operand} {lo hi mx : Option Operand} (ho : o.op = .slice t y lo hi mx) (h : (opA P sg fresh o).run st lg = some (.out x, lg')) (hR : Rep X w S ρ H N st a) : Does P X N st a w S ρ (execOp a.eval o) x := by
  cases mx with
  | some m =>
    simp only [opA, ho] at h
    obtain ⟨lo', lg1, h1, h⟩ := run_bind_some h
    obtain ⟨hi', lg2, h2, h⟩ := run_bind_some h
    obtain ⟨mv, lg3, h3, h⟩ := run_bind_some h
    obtain ⟨yv, lg4, h4, h⟩ := run_bind_some h
    have hy := opd_rep hR h4
    simp only at h hy
    unfold fullA at h
    split at h
    · exact (run_fail h).elim
    rename_i hnn
    cases hi with
    | none =>
      have := run_pure' h2; simp at this; obtain ⟨rfl, _⟩ := this
      simp at hnn
    | some z =>
    obtain ⟨zv, lg5, h5, h6⟩ := run_bind_some h2
    have := run_pure h6; simp at this; obtain ⟨rfl, _⟩ := this
    split at h
    · rename_i av
      split at h
      · rename_i e hu
        split at h
        · rename_i u htu
          split at h
          · rename_i inf hel
            obtain ⟨⟨xs, wr⟩, lg6, h7, h⟩ := run_bind_some h
            obtain ⟨⟨km, m'⟩, lg7, h8, h⟩ := run_bind_some h
            obtain ⟨⟨l, h'⟩, lg8, h9, h⟩ := run_bind_some h
            obtain ⟨_, lg9, h10, h⟩ := run_bind_some h
            have hg := run_guard h10
            simp only [decide_eq_true_eq] at hg
            have h := run_rdB h
            split at h
            · rename_i hfresh
              have := run_pure' h; simp at this; obtain ⟨rfl, _⟩ := this
              obtain ⟨e', hue, hie, hsz⟩ := elemOk_some hel
              obtain ⟨hts, hrd⟩ := toD_spec h7 hR.mem
              obtain ⟨S1, H1, hm1, hmore1, hset1⟩ := settle_all _ hR.mem hts.all
              have hrd1 := hrd hmore1.s hset1 hy
              have hq := hrd1
              obtain ⟨base, len, cap, hv, e1, e2, e3, e4, e5⟩ := hq
              simp at hv
              have e1 : len = List.length xs := e1
              rw [hv] at hrd1
              obtain ⟨g1, g2, g3, hb⟩ := bounds3_run (P := P) (cap := cap) (n := List.length xs) hR h1 h5 h9 rfl (by omega) h3 h8 hg
              have hcut := rd_cut hrd1 (l := l.toNat) (h' := h'.toNat) (m := h'.toNat) (by omega) (by omega) (Nat.le_refl _) (by omega)
              have hrun : (Instr.sliceAt t (a.eval y) (lo.map a.eval) (some (a.eval z)) (some (a.eval m))).run P w = .ok (.slice (if h'.toNat = l.toNat then base else base.map (·.add (l.toNat * u.size))) (h'.toNat - l.toNat) (h'.toNat - l.toNat)) w := by
                rw [hv, ← hsz]
                simp [Instr.sliceAt, underlying_run hue, Instr.slice, e1, hb, sizeOf_run hie]
              have hfw : (st.sets wr).blk fresh = none := by
                rw [sets_other]
                · exact hfresh
                · intro p hp e
                  obtain ⟨t', ex, xs', _, h5⟩ := hts p hp
                  rw [e, hfresh] at h5; simp at h5
              generalize hnv : Value.slice (if h'.toNat = l.toNat then base else base.map (·.add (l.toNat * u.size))) (h'.toNat - l.toNat) (h'.toNat - l.toNat) = nv at hrun hcut
              have hll : (((xs : List u.den).drop l.toNat).take (h'.toNat - l.toNat)).length = h'.toNat - l.toNat := by simp; omega
              obtain ⟨hmem, hmore⟩ := hm1.adopt hfw (home := none) (w' := w) (fun b hb => by simp at hb) (Nat.le_refl _) (fun k hk _ => rfl) rfl rfl rfl
                (v := nv) (B := .own u false (((xs : List u.den).drop l.toNat).take (h'.toNat - l.toNat))) ⟨_, by rw [upd_same], .inr ⟨rfl, rfl, hcut, _, by rw [hll]; exact hnv.symm⟩⟩
              have hM := hmore1.trans hmore
              refine ⟨nv, w, S1, upd ρ fresh (some nv), upd H1 fresh none, .inl (by simp [execOp, ho, hrun]), hR.of_mem (st' := st.sets _) ?_ hM (sets_tmp _ _), ⟨by rw [upd_same], _, _, _, hnv.symm⟩, hM⟩
              rw [sets_append]
              exact hmem
            · exact (run_fail h).elim
          · exact (run_fail h).elim
        · exact (run_fail h).elim
      · exact (run_fail h).elim
    · exact (run_fail h).elim
  | none =>
  simp only [opA, ho] at h
  obtain ⟨lo', lg1, h1, h⟩ := run_bind_some h
  obtain ⟨hi', lg2, h2, h⟩ := run_bind_some h
  obtain ⟨yv, lg3, h3, h⟩ := run_bind_some h
  have hy := opd_rep hR h3
  simp only at h hy
  split at h
  · rename_i s
    split at h
    · rename_i hu
      obtain ⟨⟨l, h'⟩, lg4, h4, h⟩ := run_bind_some h
      obtain rfl := outA_eq h
      have hv := rep_s hy
      obtain ⟨g1, g2, g3, hb⟩ := bounds_run (P := P) (isS := false) (cap := s.size) hR h1 h2 h4 (n := s.size) rfl (Nat.le_refl _)
      refine Does.value hR (v := .string (s.extract l.toNat h'.toNat)) ?_ (by simp [RepTV, RepVV, RepAV, Rd])
      simp [execOp, ho, hv, Instr.sliceAt, underlying_run hu, Instr.slice, hb]
    · exact (run_fail h).elim
  · rename_i e xs
    split at h
    · rename_i inf hel
      obtain ⟨⟨l, h'⟩, lg4, h4, h⟩ := run_bind_some h
      obtain rfl := outA_eq h
      obtain ⟨e', hu, hi', hsz⟩ := elemOk_some hel
      have hy' := hy
      obtain ⟨base, len, cap, hv, e1, e2, e3, e4, e5⟩ := hy
      simp at hv
      obtain ⟨g1, g2, g3, hb⟩ := bounds_run (P := P) (isS := true) (cap := cap) hR h1 h2 h4 (n := xs.length) rfl (by omega)
      have hy' : Rd w S (.sl e) [.slice base len cap] xs := by rw [← hv]; exact hy'
      have hrd := rd_drop_take hy' (l := l.toNat) (h' := h'.toNat) (by omega) (by omega)
      refine Does.value hR ?_ hrd
      have := slice_run (P := P) (w := w) hu hi' (base := base) (len := len) (cap := cap) (by rw [e1]; exact hb)
      rw [hsz] at this
      simp [execOp, ho, hv, this]
    · exact (run_fail h).elim
  · rename_i n
    obtain ⟨B, lg4, h4, h⟩ := run_bind_some h
    have hb := run_rB h4
    simp only at h hb
    split at h
    · rename_i u excl xs
      split at h
      · rename_i inf hel
        obtain ⟨⟨l, h'⟩, lg5, h5, h⟩ := run_bind_some h
        have := run_pure' h; simp at this; obtain ⟨rfl, _⟩ := this
        obtain ⟨e', hu, hi', hsz⟩ := elemOk_some hel
        obtain ⟨hρ, base, len, cap, hv⟩ := hy
        have hts : ToSettle st [(n, some (.settled u xs))] := fun p hp => by simp at hp; subst hp; exact ⟨_, _, _, rfl, hb⟩
        have hlen : len = xs.length ∧ len ≤ cap := by
          obtain ⟨S', H', hm, hmore, hset⟩ := settle_all _ hR.mem hts.all
          obtain ⟨t', xs', v', e1, e2, e3⟩ := hset _ (List.mem_singleton.2 rfl)
          simp at e1; obtain ⟨rfl, e1⟩ := e1; cases e1
          simp only at e2
          rw [hρ] at e2; cases e2
          obtain ⟨_, _, _, q, q1, q2, _⟩ := e3
          rw [hv] at q; simp at q; obtain ⟨_, rfl, rfl⟩ := q
          exact ⟨q1, q2⟩
        obtain ⟨g1, g2, g3, hbd⟩ := bounds_run (P := P) (isS := true) (cap := cap) hR h1 h2 h5 (n := xs.length) rfl (by omega)
        have hrun := slice_run (P := P) (w := w) hu hi' (base := base) (len := len) (cap := cap) (by rw [hlen.1]; exact hbd)
        rw [hsz] at hrun
        refine Does.settled hR hts (v := .slice (if cap = l.toNat then base else base.map (·.add (l.toNat * u.size))) (h'.toNat - l.toNat) (cap - l.toNat)) (by simp [execOp, ho, hv, hrun]) (fun S' hS hset => ?_)
        obtain ⟨t', xs', v', e1, e2, e3⟩ := hset _ (List.mem_singleton.2 rfl)
        simp at e1; obtain ⟨rfl, e1⟩ := e1; cases e1
        simp only at e2
        rw [hρ] at e2; cases e2
        rw [hv] at e3
        exact rd_drop_take e3 (l := l.toNat) (h' := h'.toNat) (by omega) (by omega)
      · exact (run_fail h).elim
    · rename_i u xs
      split at h
      · rename_i inf hel
        obtain ⟨⟨l, h'⟩, lg5, h5, h⟩ := run_bind_some h
        obtain rfl := outA_eq h
        obtain ⟨e', hu, hi', hsz⟩ := elemOk_some hel
        obtain ⟨hρ, base, len, cap, hv⟩ := hy
        obtain ⟨v', e2, _, hrd⟩ := hR.mem.rep n _ hb
        rw [hρ] at e2; cases e2
        rw [hv] at hrd
        have hq := hrd
        obtain ⟨_, _, _, q, q1, q2, _⟩ := hq
        simp at q; obtain ⟨_, rfl, rfl⟩ := q
        obtain ⟨g1, g2, g3, hbd⟩ := bounds_run (P := P) (isS := true) (cap := cap) hR h1 h2 h5 (n := xs.length) rfl (by omega)
        have hrun := slice_run (P := P) (w := w) hu hi' (base := base) (len := len) (cap := cap) (by rw [q1]; exact hbd)
        rw [hsz] at hrun
        exact Does.value hR (by simp [execOp, ho, hv, hrun]) (rd_drop_take hrd (l := l.toNat) (h' := h'.toNat) (by omega) (by omega))
      · exact (run_fail h).elim
    · exact (run_fail h).elim
  · rename_i n m
    split at h
    · rename_i m' u har
      split at h
      · rename_i hmm; subst hmm
        obtain ⟨e', inf, hu, hie, hsz, _, _⟩ := arrOk_some har
        obtain ⟨B, lg4, h4, hB⟩ := run_bind_some h
        have hb := run_rB h4
        simp only at hB hb
        cases B with
        | box cs => exact (run_fail hB).elim
        | settled u' xs => exact (run_fail hB).elim
        | own u' excl xs =>
          simp only [cutArr] at hB
          split at hB
          · rename_i huu; subst huu
            obtain ⟨⟨l, h'⟩, lg5, h5, hB⟩ := run_bind_some hB
            have := run_pure' hB; simp at this; obtain ⟨rfl, _⟩ := this
            obtain ⟨b, hρ, hv⟩ := hy
            have hts : ToSettle st [(n, some (.settled u' xs))] := fun p hp => by simp at hp; subst hp; exact ⟨_, _, _, rfl, hb⟩
            have hlen : m' = List.length xs := by
              obtain ⟨S', H', hm, hmore, hset⟩ := settle_all _ hR.mem hts.all
              obtain ⟨t', xs', v', e1, e2, e3⟩ := hset _ (List.mem_singleton.2 rfl)
              simp at e1; obtain ⟨rfl, e1⟩ := e1; cases e1
              simp only at e2
              rw [hρ] at e2; cases e2
              obtain ⟨_, _, _, q, q1, q2, _⟩ := e3
              simp at q; obtain ⟨_, rfl, rfl⟩ := q
              exact q1
            obtain ⟨g1, g2, g3, hbd⟩ := bounds_run (P := P) (isS := false) (cap := m') hR h1 h2 h5 (n := m') rfl (Nat.le_refl _)
            refine Does.settled hR hts (v := .slice (if m' = l.toNat then some ⟨b, 0, none⟩ else (some (⟨b, 0, none⟩ : Addr)).map (·.add (l.toNat * u'.size))) (h'.toNat - l.toNat) (m' - l.toNat)) (by
              simp [execOp, ho, hv, Instr.sliceAt, underlying_run hu, Instr.sureAddr, hbd, sizeOf_run hie, hsz]
              split <;> rfl) (fun S' hS hset => ?_)
            obtain ⟨t', xs', v', e1, e2, e3⟩ := hset _ (List.mem_singleton.2 rfl)
            simp at e1; obtain ⟨rfl, e1⟩ := e1; cases e1
            simp only at e2
            rw [hρ] at e2; cases e2
            exact rd_drop_take e3 (l := l.toNat) (h' := h'.toNat) (by omega) (by omega)
          · exact (run_fail hB).elim
      · exact (run_fail h).elim
    · exact (run_fail h).elim
  · exact (run_fail h).elim

theorem eltA_does {t : TypeId} {y i : Operand} (ho : o.op = .indexAddr t y i) {u : Ty} {av : AV} {k : IntKind} {i' : Int} (h : (eltA P t u av i').run st lg = some (.out x, lg')) (hR : Rep X w S ρ H N st a)
    (hi : a.eval i = .int k i') (hy : RepTV w S ρ (.v (.one av)) (a.eval y)) : Does P X N st a w S ρ (execOp a.eval o) x := by
  unfold eltA at h
  split at h
  · rename_i inf hel
    obtain ⟨⟨xs, wr⟩, lg4, h4, h⟩ := run_bind_some h
    obtain ⟨_, lg5, h5, h⟩ := run_bind_some h
    have hg := run_guard h5
    simp only [Bool.and_eq_true, decide_eq_true_eq] at hg
    have := run_pure' h; simp at this; obtain ⟨rfl, _⟩ := this
    obtain ⟨e', hue, hie, hsz⟩ := elemOk_some hel
    obtain ⟨hts, hrd⟩ := toD_spec h4 hR.mem
    obtain ⟨S1, H1, hm1, hmore1, hset1⟩ := settle_all _ hR.mem hts.all
    obtain ⟨base, len, cap, hv, e1, e2, e3, e4, e5⟩ := hrd hmore1.s hset1 hy
    have e1 : len = xs.length := e1
    have hne : xs ≠ [] := by intro e; have := hg.2; rw [e] at this; simp at this; omega
    simp at hv
    obtain ⟨p, rfl, hS, _⟩ := e5 hne
    have hsp := e3 p rfl (by have := List.length_pos_iff.2 hne; omega)
    have ep : p = ⟨p.block, p.off, none⟩ := by cases p; simp at hsp; simp [hsp]
    have hlt : i' < len := by omega
    refine Does.settled hR hts (v := Ptr p.block (p.off + i'.toNat * u.size)) ?_ (fun S' hS' hset => ?_)
    · have hadd : p.add (i'.toNat * u.size) = ⟨p.block, p.off + i'.toNat * u.size, none⟩ := by rw [ep, addr_add]
      simp [execOp, ho, hv, hi, Instr.indexAt, asIntOf, underlying_run hue, sizeOf_run hie, hsz, hg.1, hlt, hadd]
    · obtain ⟨base', len', cap', hv', q1, q2, q3, q4, q5⟩ := hrd hS' hset hy
      rw [hv] at hv'; simp at hv'; obtain ⟨rfl, rfl, rfl⟩ := hv'
      obtain ⟨p', hp', hS'', hr⟩ := q5 hne
      simp at hp'; subst hp'
      exact ⟨by have := hg.2; omega, p.block, p.off, rfl, hS'', hr⟩
  · exact (run_fail h).elim
theorem eltOwn_does {t : TypeId} {y i : Operand} (ho : o.op = .indexAddr t y i) {u : Ty} {n : Nat} {k : IntKind} {i' : Int} (h : (eltOwn P t u n i').run st lg = some (.out x, lg')) (hR : Rep X w S ρ H N st a)
    (hi : a.eval i = .int k i') (hy : RepTV w S ρ (.v (.one (.own n))) (a.eval y)) : Does P X N st a w S ρ (execOp a.eval o) x := by
  unfold eltOwn at h
  split at h
  · rename_i inf hel
    obtain ⟨B, lg4, h4, h⟩ := run_bind_some h
    have hb := run_rB h4
    simp only at h hb
    split at h
    · rename_i u' excl xs
      split at h
      · rename_i e; subst e
        obtain ⟨_, lg5, h5, h⟩ := run_bind_some h
        have hg := run_guard h5
        simp only [Bool.and_eq_true, decide_eq_true_eq] at hg
        obtain rfl := out_eq h
        obtain ⟨e', hue, hie, hsz⟩ := elemOk_some hel
        obtain ⟨hρ, _⟩ := hy
        obtain ⟨v', h2, h3⟩ := hR.mem.rep n _ hb
        rw [hρ] at h2; simp at h2; subst h2
        have hpl : ∃ b off cap, a.eval y = .slice (some ⟨b, off, none⟩) (List.length xs) cap := by
          rcases h3 with ⟨b, _, len, cap, vs, el, k1, k2, _⟩ | ⟨_, _, h3, _⟩
          · exact ⟨b, 0, cap, by rw [k1, k2]⟩
          · obtain ⟨base, len, cap, q1, q2, q3, q4, q5, q6⟩ := h3
            simp at q1
            have q2 : len = List.length xs := q2
            have hne : xs ≠ [] := by intro e; have := hg.2; rw [e] at this; simp at this; omega
            obtain ⟨p, rfl, _⟩ := q6 hne
            have hsp := q4 p rfl (by have := List.length_pos_iff.2 hne; omega)
            have ep : p = ⟨p.block, p.off, none⟩ := by cases p; simp at hsp; simp [hsp]
            exact ⟨p.block, p.off, cap, by rw [q1, ← q2, ← ep]⟩
        obtain ⟨b, off, cap, hv⟩ := hpl
        refine Does.value hR (v := Ptr b (off + i'.toNat * u'.size)) ?_ ⟨hg.1, b, off, List.length xs, cap, by rw [hρ, hv], by omega, rfl⟩
        simp [execOp, ho, hv, hi, Instr.indexAt, asIntOf, underlying_run hue, sizeOf_run hie, hsz, hg.1, hg.2, addr_add]
      · exact (run_fail h).elim
    · exact eltA_does ho h hR hi hy
  · exact (run_fail h).elim
theorem does_indexAddr {t : TypeId} {y i : Operand} (ho : o.op = .indexAddr t y i) (h : (opA P sg fresh o).run st lg = some (.out x, lg')) (hR : Rep X w S ρ H N st a) : Does P X N st a w S ρ (execOp a.eval o) x := by
  simp only [opA, ho] at h
  obtain ⟨iv, lg1, h1, h⟩ := run_bind_some h
  obtain ⟨⟨k, i'⟩, lg2, h2, h⟩ := run_bind_some h
  obtain ⟨yv, lg3, h3, h⟩ := run_bind_some h
  have hi := opd_rep hR h1
  rw [asI_inv h2] at hi
  have hi := rep_i hi
  have hy := opd_rep hR h3
  simp only at h hy hi
  split at h
  · rename_i av e hu
    split at h
    · split at h
      · exact eltOwn_does ho h hR hi hy
      · exact eltA_does ho h hR hi hy
    · exact (run_fail h).elim
  · rename_i n m len e hu
    split at h
    · rename_i m' u har
      split at h
      · rename_i hmm; subst hmm
        obtain ⟨e', inf, hu', hie, hsz, _, _⟩ := arrOk_some har
        obtain ⟨_, lg5, h5, h⟩ := run_bind_some h
        have hg := run_guard h5
        simp only [Bool.and_eq_true, decide_eq_true_eq] at hg
        obtain rfl := out_eq h
        obtain ⟨b, hp, hpv⟩ := hy
        refine Does.value hR (v := Ptr b (0 + i'.toNat * u.size)) ?_ ⟨hg.1, b, 0, m', m', hp, by omega, rfl⟩
        simp [execOp, ho, hpv, hi, Instr.indexAt, asIntOf, underlying_run hu', Instr.sureAddr, sizeOf_run hie, hsz, hg.1, hg.2, addr_add]
      · exact (run_fail h).elim
    · exact (run_fail h).elim
  · rename_i n off len e hu
    split at h
    · rename_i inf hie
      obtain ⟨_, lg5, h5, h⟩ := run_bind_some h
      have hg := run_guard h5
      simp only [Bool.and_eq_true, decide_eq_true_eq] at hg
      obtain rfl := outA_eq h
      obtain ⟨b, hp, hpv⟩ := hy
      refine Does.value hR (v := Ptr b (off + i'.toNat * inf.size)) ?_ ⟨b, hp, rfl⟩
      simp [execOp, ho, hpv, hi, Instr.indexAt, asIntOf, underlying_run hu, Instr.sureAddr, sizeOf_run hie, hg.1, hg.2, addr_add]
    · exact (run_fail h).elim
  · exact (run_fail h).elim

theorem mergeVV_tt {p q : VV} {lg : List Loc} {r : VV × List Loc} (h : (mergeVV true p q).run st lg = some r) : r.1 = p := by
  unfold mergeVV at h
  split at h
  · split at h
    · have := run_pure' h; subst this; rfl
    · exact (run_fail h).elim
  · have := run_pure' (by simpa using run_brb h); subst this; rfl
theorem pickAt_rep {e : TypeId} {sz : Nat} {cs : List AV} {i : Int} {vs : Array Value} (hc : All2 (RepAV w S ρ) cs vs.toList) : ∀ (n j : Nat) {lg : List Loc} {r : VV × List Loc}, (pickAt P e sz cs i n j).run st lg = some r → (j : Int) ≤ i → i < ((j + n : Nat) : Int) →
    ∃ u, (part e vs (i.toNat * sz)).run P w = .ok u w ∧ RepVV w S ρ r.1 u
  | 0, j, lg, r, h, h1, h2 => by omega
  | n + 1, j, lg, r, h, h1, h2 => by
    simp only [pickAt] at h
    split at h
    · rename_i v hv
      obtain ⟨u, hu, hr⟩ := partA_run (P := P) hv hc
      cases n with
      | zero =>
        have := run_pure' h; subst this
        have : i.toNat = j := by omega
        rw [this]; exact ⟨u, hu, hr⟩
      | succ n =>
        simp only at h
        obtain ⟨q, lg1, h3, h⟩ := run_bind_some h
        by_cases e' : i = (j : Int)
        · rw [decide_eq_true e'] at h
          have : i.toNat = j := by omega
          rw [this]
          have := mergeVV_tt h
          rw [this]; exact ⟨u, hu, hr⟩
        · obtain ⟨u', hu', hr'⟩ := pickAt_rep hc (n + 1) (j + 1) h3 (by omega) (by omega)
          have hm := mergeVV_rep h hr hr'
          rw [decide_eq_false e'] at hm
          exact ⟨u', hu', by simpa using hm⟩
    · exact (run_fail h).elim

theorem does_index {t : TypeId} {y i : Operand} (ho : o.op = .index t y i) (h : (opA P sg fresh o).run st lg = some (.out x, lg')) (hR : Rep X w S ρ H N st a) : Does P X N st a w S ρ (execOp a.eval o) x := by
  simp only [opA, ho] at h
  obtain ⟨iv, lg1, h1, h⟩ := run_bind_some h
  obtain ⟨⟨k, i'⟩, lg2, h2, h⟩ := run_bind_some h
  obtain ⟨yv, lg3, h3, h⟩ := run_bind_some h
  have hi := opd_rep hR h1
  rw [asI_inv h2] at hi
  have hi := rep_i hi
  have hy := opd_rep hR h3
  simp only at h hy hi
  split at h
  · rename_i s
    split at h
    · rename_i hu
      obtain ⟨_, lg5, h5, h⟩ := run_bind_some h
      have hg := run_guard h5
      simp only [Bool.and_eq_true, decide_eq_true_eq] at hg
      obtain rfl := outA_eq h
      have hv := rep_s hy
      have hlt : i'.toNat < s.size := by omega
      refine Does.value hR (v := .int .u8 (bt s i')) ?_ (by simp [RepTV, RepVV, RepAV, Rd])
      have hget : s[i'.toNat]? = some s[i'.toNat] := by simp [hlt]
      have hbt : bt s i' = (s[i'.toNat]).toNat := by
        unfold bt
        have : s.data[i'.toNat]? = some s[i'.toNat] := by
          have := hlt
          simp only [ByteArray.size] at this
          rw [Array.getElem?_eq_getElem this]; rfl
        rw [this]; rfl
      rw [hbt]
      simp [execOp, ho, hv, hi, Instr.index, asIntOf, underlying_run hu, hg.1, hget]
    · exact (run_fail h).elim
  · rename_i cs
    split at h
    · rename_i len e hu
      split at h
      · rename_i inf hie
        obtain ⟨_, lg5, h5, h⟩ := run_bind_some h
        have hg := run_guard h5
        simp only [Bool.and_eq_true, decide_eq_true_eq] at hg
        obtain ⟨vv, lg6, h6, h⟩ := run_bind_some h
        obtain rfl := out_eq h
        obtain ⟨vs, hvs, hc⟩ := hy
        obtain ⟨u, hu', hr⟩ := pickAt_rep (P := P) hc _ _ h6 (by omega) (by omega)
        refine Does.value hR (v := u) ?_ hr
        simp [execOp, ho, hvs, hi, Instr.index, asIntOf, underlying_run hu, sizeOf_run hie, hg.1, hg.2, hu']
      · exact (run_fail h).elim
    · exact (run_fail h).elim
  · exact (run_fail h).elim
end
end Go.Proofs.Ytndkobhclggeiaa.Aev
