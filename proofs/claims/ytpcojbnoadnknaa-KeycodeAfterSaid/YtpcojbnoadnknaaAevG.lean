/- AEV: each operation does what the evaluator says (2). -/
import Derived.Test.YtpcojbnoadnknaaAevF
namespace Go.Proofs.Ytpcojbnoadnknaa.Aev
set_option linter.unusedVariables false
set_option linter.unusedSimpArgs false
open Go

section
variable {P : Program} {sg : FuncId → Option (Nat × List Nat)} {fresh : Nat} {X : Cx} {w : World} {S : Nat → Prop} {ρ : Nat → Option Value} {H : Nat → Option Nat} {N : Nat} {st : St} {a : Act} {o : Oper} {x : Out} {lg lg' : List Loc}

theorem does_load {t : TypeId} {y : Operand} (ho : o.op = .load t y) (h : (opA P sg fresh o).run st lg = some (.out x, lg')) (hR : Rep X w S ρ H N st a) : Does P X N st a w S ρ (execOp a.eval o) x := by
  simp only [opA, ho] at h
  obtain ⟨yv, lg1, h1, h⟩ := run_bind_some h
  refine loadA_does h hR (opd_rep hR h1) (fun b off v hu hl => ?_)
  simp [execOp, ho, Instr.loadAt, Instr.sureAddr, hu, hl]

theorem does_store {t : TypeId} {y z : Operand} (ho : o.op = .store t y z) (h : (opA P sg fresh o).run st lg = some (.out x, lg')) (hR : Rep X w S ρ H N st a) : Does P X N st a w S ρ (execOp a.eval o) x := by
  simp only [opA, ho] at h
  obtain ⟨yv, lg1, h1, h⟩ := run_bind_some h
  obtain ⟨⟨n, off⟩, lg2, h2, h⟩ := run_bind_some h
  obtain ⟨zv, lg3, h3, h⟩ := run_bind_some h
  obtain ⟨B, lg4, h4, h⟩ := run_bind_some h
  have hy := opd_rep hR h1
  rw [asP_inv h2] at hy
  have hz := opd_rep hR h3
  have hb := run_rB h4
  simp only at h hy hz hb
  split at h
  · rename_i xx cs
    split at h
    · rename_i inf hi
      split at h
      · rename_i hsz
        split at h
        · rename_i cs' hput
          have := run_pure' h; simp at this; obtain ⟨rfl, _⟩ := this
          obtain ⟨b, hp, hpv⟩ := hy
          obtain ⟨b', vs, e, hh, h5, h6, h7⟩ := hR.mem.rep n _ hb
          rw [hp] at h5; simp at h5; subst h5
          have hlen := h7.length
          obtain ⟨hfit, hrep⟩ := putCells_rep hput h7 (RepVV.cells hz)
          have hfit' := (putCells_some hput).1
          simp only [Array.length_toList] at hlen hfit
          have hst := storeVar_box (P := P) hi hz hsz h6 (off := off) (by omega)
          have hmem := hR.mem.write (w' := w.setRow b (vs.toList.take off ++ (a.eval z).cells.toList ++ vs.toList.drop (off + (a.eval z).cells.toList.length)).toArray) hb hh (by simp)
            (fun k hk => setRow_other w b k _ hk) rfl rfl rfl (B' := .box cs') (by
              refine ⟨b, _, e, rfl, hp, setRow_heap w b _ _ e _ h6, ?_⟩
              simp only
              refine hrep.imp fun _ _ => RepAV.mono (fun _ x => x) (fun k hk => setRow_other w b k _ (fun e => hR.mem.apart n _ b hb hh (e ▸ hk))) (fun _ _ x => x))
          have hmore : More w (w.setRow b (vs.toList.take off ++ (a.eval z).cells.toList ++ vs.toList.drop (off + (a.eval z).cells.toList.length)).toArray) S S ρ ρ :=
            ⟨fun _ x => x, fun k hk => setRow_other w b k _ (fun e => hR.mem.apart n _ b hb hh (e ▸ hk)), fun _ _ x => x⟩
          exact ⟨undef, _, S, ρ, H, .inr ⟨by simp [execOp, ho, Instr.storeAt, Instr.sureAddr, hpv, hst], rfl⟩, hR.of_mem hmem hmore rfl, rfl, hmore⟩
        · exact (run_fail h).elim
      · exact (run_fail h).elim
    · exact (run_fail h).elim
  · exact (run_fail h).elim

theorem fieldInfo_some {s : TypeId} {i : Nat} {f : Field} (h : fieldInfo P s i = some f) : ∃ fs, P.underlying s = some (.struct fs) ∧ fs[i]? = some f := by
  unfold fieldInfo at h
  split at h
  · rename_i fs hu; exact ⟨fs, hu, h⟩
  · simp at h

theorem does_fieldAddr {s : TypeId} {y : Operand} {i : Nat} (ho : o.op = .fieldAddr s y i) (h : (opA P sg fresh o).run st lg = some (.out x, lg')) (hR : Rep X w S ρ H N st a) : Does P X N st a w S ρ (execOp a.eval o) x := by
  simp only [opA, ho] at h
  obtain ⟨yv, lg1, h1, h⟩ := run_bind_some h
  obtain ⟨⟨n, off⟩, lg2, h2, h⟩ := run_bind_some h
  have hy := opd_rep hR h1
  rw [asP_inv h2] at hy
  simp only at h hy
  split at h
  · rename_i f hf
    split at h
    · rename_i inf hi
      split at h
      · exact (run_fail h).elim
      · rename_i hsz
        obtain rfl := outA_eq h
        obtain ⟨b, hp, hpv⟩ := hy
        obtain ⟨fs, hu, hfs⟩ := fieldInfo_some hf
        refine Does.value hR (v := Ptr b (off + f.offset)) ?_ ⟨b, hp, rfl⟩
        simp [execOp, ho, Instr.fieldAt, underlying_run hu, hfs, Instr.sureAddr, hpv, fieldPlace, sizeOf_run hi, hsz, addr_add]
    · exact (run_fail h).elim
  · exact (run_fail h).elim

theorem does_field {s : TypeId} {y : Operand} {i : Nat} (ho : o.op = .field s y i) (h : (opA P sg fresh o).run st lg = some (.out x, lg')) (hR : Rep X w S ρ H N st a) : Does P X N st a w S ρ (execOp a.eval o) x := by
  simp only [opA, ho] at h
  obtain ⟨yv, lg1, h1, h⟩ := run_bind_some h
  have hy := opd_rep hR h1
  simp only at h hy
  split at h
  · rename_i cs f hf
    split at h
    · rename_i v hv
      obtain rfl := out_eq h
      obtain ⟨vs, hvs, hc⟩ := hy
      obtain ⟨fs, hu, hfs⟩ := fieldInfo_some hf
      obtain ⟨u, hu', hr⟩ := partA_run hv hc
      exact Does.value hR (by simp [execOp, ho, Instr.field, underlying_run hu, hfs, hvs, asAgg, hu']) hr
    · exact (run_fail h).elim
  · exact (run_fail h).elim

theorem does_nilCheck {y : Operand} (ho : o.op = .nilCheck y) (h : (opA P sg fresh o).run st lg = some (.out x, lg')) (hR : Rep X w S ρ H N st a) : Does P X N st a w S ρ (execOp a.eval o) x := by
  simp only [opA, ho] at h
  obtain ⟨yv, lg1, h1, h⟩ := run_bind_some h
  have hy := opd_rep hR h1
  simp only at h hy
  split at h
  · obtain rfl := outA_eq h
    have hy' := hy
    obtain ⟨b, hp, hv⟩ := hy
    exact Does.value hR (by simp [execOp, ho, hv]) hy'
  · obtain rfl := outA_eq h
    have hy' := hy
    obtain ⟨vs, hv, _⟩ := hy
    exact Does.value hR (by simp [execOp, ho, hv]) hy'
  · exact (run_fail h).elim

theorem does_extract {y : Operand} {i : Nat} (ho : o.op = .extract y i) (h : (opA P sg fresh o).run st lg = some (.out x, lg')) (hR : Rep X w S ρ H N st a) : Does P X N st a w S ρ (execOp a.eval o) x := by
  simp only [opA, ho] at h
  obtain ⟨yv, lg1, h1, h⟩ := run_bind_some h
  have hy := opd_rep hR h1
  simp only at h hy
  split at h
  · rename_i xs
    split at h
    · rename_i v hv
      obtain rfl := out_eq h
      obtain ⟨vs, hvs, hc⟩ := hy
      obtain ⟨u, hu, hr⟩ := hc.get hv
      exact Does.value hR (by simp [execOp, ho, Instr.extract, hvs, show vs[i]? = some u by simpa using hu]) hr
    · exact (run_fail h).elim
  · exact (run_fail h).elim

theorem does_unOp {op : UnOp} {t : TypeId} {y : Operand} (ho : o.op = .unOp op t y) (h : (opA P sg fresh o).run st lg = some (.out x, lg')) (hR : Rep X w S ρ H N st a) : Does P X N st a w S ρ (execOp a.eval o) x := by
  simp only [opA, ho] at h
  obtain ⟨yv, lg1, h1, h⟩ := run_bind_some h
  have hy := opd_rep hR h1
  simp only at h hy
  split at h
  · split at h
    · obtain rfl := outA_eq h
      have := rep_b hy
      exact Does.value hR (by simp [execOp, ho, this, Op.unary]; rfl) (by simp [RepTV, RepVV, RepAV, Rd])
    · exact (run_fail h).elim
  · obtain ⟨c, lg2, h2, h⟩ := run_bind_some h
    obtain ⟨v, hs, hv⟩ := semV_inv h2
    obtain rfl := outA_eq h
    have := rep_i hy
    exact Does.value hR (by simp [execOp, ho, this, hs]) (ofValue_rep hv)
  · exact (run_fail h).elim

theorem caps_rep (hR : Rep X w S ρ H N st a) : ∀ {l : List Operand} {cs : List (Nat × Nat)},
    All2 (fun x y => ∃ lg1 lg2, (do asP (← opd x) : AM (Nat × Nat)).run st lg1 = some (y, lg2)) l cs →
    All2 (fun (p : Nat × Nat) u => ∃ b, ρ p.1 = some (Ptr b 0) ∧ u = Ptr b p.2) cs (l.map a.eval)
  | [], cs, hc => by rw [hc.nil_left]; trivial
  | y :: l, cs, hc => by
    obtain ⟨p, ps, rfl, ⟨lg2, lg3, h2⟩, hc⟩ := hc.cons_left
    obtain ⟨v, lg4, h3, h4⟩ := run_bind_some h2
    have hy := opd_rep hR h3
    rw [asP_inv h4] at hy
    exact ⟨hy, caps_rep hR hc⟩

theorem does_makeFunc {f : Fn} {fi ca : Array Operand} (ho : o.op = .makeFunc f fi ca) (h : (opA P sg fresh o).run st lg = some (.out x, lg')) (hR : Rep X w S ρ H N st a) : Does P X N st a w S ρ (execOp a.eval o) x := by
  cases f with
  | func f =>
    simp only [opA, ho] at h
    split at h
    · rename_i hfi
      have hfi : fi = #[] := by simpa using hfi
      subst hfi
      obtain ⟨cs, lg1, h1, h⟩ := run_bind_some h
      obtain rfl := outA_eq h
      have hc := run_mapM h1
      refine Does.value hR (v := .func (.func f) #[] (ca.map a.eval)) (by simp [execOp, ho, Instr.makeFunc]) ⟨_, rfl, ?_⟩
      rw [Array.toList_map]
      exact caps_rep hR hc
    · exact (run_fail h).elim
  | _ => simp only [opA, ho] at h; exact (run_fail h).elim

theorem bounds_run {isS : Bool} {cap : Nat} {lo hi : Option Operand} {l h len : Int} {lo' hi' : Option TV} {lg lg1 lg2 lg3 lg4 lg5 : List Loc} (hR : Rep X w S ρ H N st a)
    (h1 : (optM opd lo).run st lg = some (lo', lg1)) (h2 : (optM opd hi).run st lg2 = some (hi', lg3)) (h3 : (sliceB lo' hi' len).run st lg4 = some ((l, h), lg5)) {n : Nat} (hn : len = n) (hcap : n ≤ cap) :
    0 ≤ l ∧ l ≤ h ∧ h ≤ n ∧ (Instr.sliceBounds isS n cap (lo.map a.eval) (hi.map a.eval) none).run P w = .ok (l.toNat, h.toNat, cap) w := by
  subst hn
  unfold sliceB at h3
  obtain ⟨h', lg6, h4, h3⟩ := run_bind_some h3
  obtain ⟨l', lg7, h5, h3⟩ := run_bind_some h3
  obtain ⟨u, lg8, h6, h3⟩ := run_bind_some h3
  have hg := run_guard h6
  have := run_pure h3; simp at this; obtain ⟨⟨rfl, rfl⟩, _⟩ := this
  simp only [Bool.and_eq_true, decide_eq_true_eq] at hg
  obtain ⟨⟨g1, g2⟩, g3⟩ := hg
  refine ⟨g1, g2, g3, ?_⟩
  have hh : (match hi.map a.eval with | some v => Instr.sliceBound v cap (if isS then .sliceAcap else .sliceAlen) | none => (pure n : Sem Nat)).run P w = .ok h.toNat w := by
    cases hi with
    | none =>
      have := run_pure' h2; simp at this; obtain ⟨rfl, _⟩ := this
      have := run_pure' h4; simp at this; obtain ⟨rfl, _⟩ := this
      simp
    | some y =>
      obtain ⟨v, lg9, h7, h8⟩ := run_bind_some h2
      have := run_pure h8; simp at this; obtain ⟨rfl, _⟩ := this
      obtain ⟨⟨k, i⟩, lg10, h9, h10⟩ := run_bind_some h4
      have := run_pure h10; simp at this; obtain ⟨rfl, _⟩ := this
      have hy := opd_rep hR h7
      rw [asI_inv h9] at hy
      have hy := rep_i hy
      simp only at hy
      simp only [Option.map_some, hy, Instr.sliceBound, asIntOf, Sem.run_bind, Sem.run_pure, Result.andThen_ok]
      rw [if_pos (by omega)]
      rfl
  have hl : (match lo.map a.eval with | some v => Instr.sliceBound v h.toNat .sliceB | none => (pure 0 : Sem Nat)).run P w = .ok l.toNat w := by
    cases lo with
    | none =>
      have := run_pure' h1; simp at this; obtain ⟨rfl, _⟩ := this
      have := run_pure' h5; simp at this; obtain ⟨rfl, _⟩ := this
      simp
    | some y =>
      obtain ⟨v, lg9, h7, h8⟩ := run_bind_some h1
      have := run_pure h8; simp at this; obtain ⟨rfl, _⟩ := this
      obtain ⟨⟨k, i⟩, lg10, h9, h10⟩ := run_bind_some h5
      have := run_pure h10; simp at this; obtain ⟨rfl, _⟩ := this
      have hy := opd_rep hR h7
      rw [asI_inv h9] at hy
      have hy := rep_i hy
      simp only at hy
      simp only [Option.map_some, hy, Instr.sliceBound, asIntOf, Sem.run_bind, Sem.run_pure, Result.andThen_ok]
      rw [if_pos (by omega)]
      rfl
  unfold Instr.sliceBounds
  cases hi with
  | none =>
    cases lo with
    | none => simp at hh hl ⊢; exact ⟨hl, hh⟩
    | some y => simp at hh hl ⊢; simp [← hh] at hl ⊢; simp [hl]
  | some z =>
    cases lo with
    | none => simp at hh hl ⊢; simp [hh, hl]
    | some y => simp at hh hl ⊢; simp [hh, hl]

end
end Go.Proofs.Ytpcojbnoadnknaa.Aev
