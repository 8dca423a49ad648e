/- AEV: each operation does what the evaluator says (2). -/
import Derived.Test.YtndkobhclggeiaaAevF
namespace Go.Proofs.Ytndkobhclggeiaa.Aev
set_option linter.unusedVariables false
set_option linter.unusedSimpArgs false
open Go

section
variable {P : Program} {sg : FuncId → Option (Nat × List Nat)} {fresh : Nat} {X : Cx} {w : World} {S : Nat → Prop} {ρ : Nat → Option Value} {H : Nat → Option Nat} {N : Nat} {st : St} {a : Act} {o : Oper} {x : Out} {lg lg' : List Loc}

theorem does_load {t : TypeId} {y : Operand} (ho : o.op = .load t y) (h : (opA P sg fresh o).run st lg = some (.out x, lg')) (hR : Rep X w S ρ H N st a) : Does P X N st a w S ρ (execOp a.eval o) x := by
  simp only [opA, ho] at h
  obtain ⟨yv, lg1, h1, h⟩ := run_bind_some h
  refine loadA_does h hR (opd_rep hR h1) (fun b off v hu hl => ?_)
  simp [execOp, ho, Instr.loadAt, Instr.sureAddr, hu, hl]

theorem apartL_spec {l m : List Nat} (h : apartL l m = true) : ∀ n ∈ l, n ∉ m := by
  intro n hn hm
  unfold apartL at h
  rw [List.all_eq_true] at h
  have := h n hn
  simp [hm] at this

theorem splice_other {α : Type} {vs us : List α} {sz i j : Nat} (hus : us.length = sz) (hfit : i * sz + sz ≤ vs.length) (hne : j ≠ i) (hj : j * sz + sz ≤ vs.length) :
    ((vs.take (i * sz) ++ us ++ vs.drop (i * sz + us.length)).drop (j * sz)).take sz = (vs.drop (j * sz)).take sz := by
  apply List.ext_getElem?
  intro k
  rcases Nat.lt_or_ge k sz with hk | hk
  · rw [List.getElem?_take_of_lt hk, List.getElem?_take_of_lt hk, List.getElem?_drop, List.getElem?_drop, hus]
    rcases Nat.lt_or_ge j i with h | h
    · have : (j + 1) * sz ≤ i * sz := Nat.mul_le_mul_right _ h
      rw [Nat.add_mul, Nat.one_mul] at this
      rw [List.append_assoc, List.getElem?_append_left (by simp; omega), List.getElem?_take_of_lt (by omega)]
    · have : (i + 1) * sz ≤ j * sz := Nat.mul_le_mul_right _ (by omega)
      rw [Nat.add_mul, Nat.one_mul] at this
      rw [List.getElem?_append_right (by simp; omega), List.getElem?_drop]
      congr 1
      simp; omega
  · rw [List.getElem?_eq_none (by simp; omega), List.getElem?_eq_none (by simp; omega)]
theorem splice_same {α : Type} {vs us : List α} {sz i : Nat} (hus : us.length = sz) (hfit : i * sz + sz ≤ vs.length) :
    ((vs.take (i * sz) ++ us ++ vs.drop (i * sz + us.length)).drop (i * sz)).take sz = us := by
  rw [List.append_assoc, List.drop_append_of_le_length (by simp; omega)]
  rw [List.drop_eq_nil_of_le (by simp; omega), List.nil_append, ← hus, List.take_append_of_le_length (Nat.le_refl _), List.take_length]

theorem storeBox_does {t : TypeId} {y z : Operand} (ho : o.op = .store t y z) {n off : Nat} {zv : TV} (h : (storeBox P t n off zv).run st lg = some (.out x, lg')) (hR : Rep X w S ρ H N st a)
    (hy : RepTV w S ρ (.v (.one (.ptr n off))) (a.eval y)) (hz : RepTV w S ρ zv (a.eval z)) : Does P X N st a w S ρ (execOp a.eval o) x := by
  unfold storeBox at h
  obtain ⟨B, lg4, h4, h⟩ := run_bind_some h
  have hb := run_rB h4
  simp only at h hz hb
  split at h
  · rename_i xx cs
    split at h
    · rename_i inf hi
      split at h
      · rename_i hsz
        split at h
        · rename_i cs' hput
          have := run_pure' h; simp at this; obtain ⟨rfl, _⟩ := this
          obtain ⟨b, hp, hpv⟩ := hy
          obtain ⟨b', vs, e, hh, h5, h6, h7⟩ := hR.mem.rep n _ hb
          rw [hp] at h5; simp at h5; subst h5
          have hlen := h7.length
          obtain ⟨hfit, hrep⟩ := putCells_rep hput h7 (RepVV.cells hz)
          have hfit' := (putCells_some hput).1
          simp only [Array.length_toList] at hlen hfit
          have hst := storeVar_box (P := P) hi hz hsz h6 (off := off) (by omega)
          have hmem := hR.mem.write (w' := w.setRow b (vs.toList.take off ++ (a.eval z).cells.toList ++ vs.toList.drop (off + (a.eval z).cells.toList.length)).toArray) hb hh (by simp)
            (fun k hk => setRow_other w b k _ hk) rfl rfl rfl (B' := .box cs') (by
              refine ⟨b, _, e, rfl, hp, setRow_heap w b _ _ e _ h6, ?_⟩
              simp only
              refine hrep.imp fun _ _ => RepAV.mono (fun _ x => x) (fun k hk => setRow_other w b k _ (fun e => hR.mem.apart n _ b hb hh (e ▸ hk))) (fun _ _ x => x))
          have hmore : More w (w.setRow b (vs.toList.take off ++ (a.eval z).cells.toList ++ vs.toList.drop (off + (a.eval z).cells.toList.length)).toArray) S S ρ ρ :=
            ⟨fun _ x => x, fun k hk => setRow_other w b k _ (fun e => hR.mem.apart n _ b hb hh (e ▸ hk)), fun _ _ x => x⟩
          exact ⟨undef, _, S, ρ, H, .inr ⟨by simp [execOp, ho, Instr.storeAt, Instr.sureAddr, hpv, hst], rfl⟩, hR.of_mem hmem hmore rfl, rfl, hmore⟩
        · exact (run_fail h).elim
      · exact (run_fail h).elim
    · exact (run_fail h).elim
  · exact (run_fail h).elim


theorem storeRow_does {t : TypeId} {y z : Operand} (ho : o.op = .store t y z) {e : Ty} {n : Nat} {i : Int} {zv : TV} (h : (storeRow P t e n i zv).run st lg = some (.out x, lg')) (hR : Rep X w S ρ H N st a)
    (hy : RepTV w S ρ (.eltOf e n i) (a.eval y)) (hz : RepTV w S ρ zv (a.eval z)) : Does P X N st a w S ρ (execOp a.eval o) x := by
  unfold storeRow at h
  obtain ⟨B, lg4, h4, h⟩ := run_bind_some h
  have hb := run_rB h4
  simp only at h hz hb
  split at h
  · rename_i xx u xs _hz
    split at h
    · rename_i inf hi
      split at h
      · rename_i e'; subst e'
        split at h
        · rename_i hsz
          simp only [Bool.and_eq_true, decide_eq_true_eq, beq_iff_eq] at hsz
          obtain ⟨hsz1, hsz2⟩ := hsz
          obtain ⟨⟨d, wr, rest⟩, lg5, h5, h⟩ := run_bind_some h
          obtain ⟨hts, l1, e1, n1, hrd⟩ := asm_spec _ h5 hR.mem
          simp only at h hts e1 hrd
          split at h
          · split at h
            · rename_i hap
              have := run_pure' h; simp at this; obtain ⟨rfl, _⟩ := this
              have e1 : l1 = xx.cells := by simpa using e1.symm
              subst e1
              obtain ⟨S1, H1, hm1, hmore1, hset1⟩ := settle_all wr hR.mem hts.all
              have hnw : n ∉ wr.map (·.1) := apartL_spec hap n (by simp)
              have hn1 : (st.sets wr).blk n = some (some (.own u true xs)) := by
                rw [sets_other]
                · exact hb
                · intro p hp e; exact hnw (List.mem_map.2 ⟨p, hp, e⟩)
              obtain ⟨h0, b, off, len, cap, hp, hlt, hpv⟩ := hy
              obtain ⟨v', h2, h3⟩ := hm1.rep n _ hn1
              rw [hp] at h2; simp at h2; subst h2
              rcases h3 with ⟨b', hh, len', cap', vs, el, k1, k2, k3, k4, k5, k6⟩ | ⟨hf, _⟩
              · simp at k1
                obtain ⟨⟨rfl, rfl⟩, rfl, rfl⟩ := k1
                have hzc := RepVV.cells hz
                have hrdz := hrd hmore1.s hset1 hzc
                have hul : (a.eval z).cells.toList.length = u.size := by rw [← hzc.length, hsz1, hsz2]
                have hle : (i.toNat + 1) * u.size ≤ cap * u.size := Nat.mul_le_mul_right _ (by omega)
                rw [Nat.add_mul, Nat.one_mul] at hle
                have hst := storeVar_box (P := P) hi hz hsz1 k4 (off := i.toNat * u.size) (by rw [hsz1, hsz2, k5]; exact hle)
                have hvl : vs.toList.length = cap * u.size := by simpa using k5
                have hoth : ∀ k, k ≠ b → (w.setRow b (vs.toList.take (i.toNat * u.size) ++ (a.eval z).cells.toList ++ vs.toList.drop (i.toNat * u.size + (a.eval z).cells.toList.length)).toArray).heap[k]? = w.heap[k]? := fun k hk => setRow_other w b k _ hk
                have hSb : ∀ k, S1 k → k ≠ b := fun k hk e => hm1.apart n _ b hn1 hh (e ▸ hk)
                have hmem := hm1.write (w' := w.setRow b (vs.toList.take (i.toNat * u.size) ++ (a.eval z).cells.toList ++ vs.toList.drop (i.toNat * u.size + (a.eval z).cells.toList.length)).toArray) hn1 hh (by simp)
                  (fun k hk => hoth k hk) rfl rfl rfl (B' := .own u true ((xs : List u.den).set i.toNat d)) (by
                    refine ⟨_, hp, .inl ⟨b, rfl, len, cap, _, el, rfl, by rw [List.length_set]; exact k2, k3, setRow_heap w b _ _ el _ k4, by simp only [List.size_toArray, List.length_append, List.length_take, List.length_drop, hul, hvl]; omega, ?_⟩⟩
                    intro j hj
                    have hj' : j < xs.length := by simpa using hj
                    have hjc : (j + 1) * u.size ≤ cap * u.size := Nat.mul_le_mul_right _ (by omega)
                    rw [Nat.add_mul, Nat.one_mul] at hjc
                    refine ⟨_, ⟨_, el, (0, 0), setRow_heap w b _ _ el _ k4, by simp only [List.size_toArray, List.length_append, List.length_take, List.length_drop, hul, hvl]; omega, rfl⟩, ?_⟩
                    simp only
                    by_cases e : j = i.toNat
                    · subst e
                      rw [splice_same hul (by rw [hvl]; exact hle)]
                      simp only [List.getElem_set_self]
                      exact Rd.mono (fun _ x => x) (fun k hk => hoth k (hSb k hk)) _ _ _ hrdz
                    · rw [splice_other hul (by rw [hvl]; exact hle) e (by rw [hvl]; exact hjc)]
                      rw [List.getElem_set_ne (fun h => e h.symm)]
                      obtain ⟨us, ⟨c, e2, fr, q1, q2, q3⟩, q4⟩ := k6 j hj'
                      rw [k4] at q1
                      simp at q1
                      obtain ⟨rfl, rfl, rfl⟩ := q1
                      rw [← q3]
                      exact Rd.mono (fun _ x => x) (fun k hk => hoth k (hSb k hk)) _ _ _ q4)
                have hmore : More w (w.setRow b (vs.toList.take (i.toNat * u.size) ++ (a.eval z).cells.toList ++ vs.toList.drop (i.toNat * u.size + (a.eval z).cells.toList.length)).toArray) S1 S1 ρ ρ :=
                  ⟨fun _ x => x, fun k hk => hoth k (hSb k hk), fun _ _ x => x⟩
                have hM := hmore1.trans hmore
                refine ⟨undef, _, S1, ρ, H1, .inr ⟨by simp [execOp, ho, Instr.storeAt, Instr.sureAddr, hpv, hst], rfl⟩, hR.of_mem (st' := st.sets _) ?_ hM (sets_tmp _ _), rfl, hM⟩
                rw [sets_append]
                exact hmem
              · simp at hf
            · exact (run_fail h).elim
          · exact (run_fail h).elim
        · exact (run_fail h).elim
      · exact (run_fail h).elim
    · exact (run_fail h).elim
  · exact (run_fail h).elim

theorem does_store {t : TypeId} {y z : Operand} (ho : o.op = .store t y z) (h : (opA P sg fresh o).run st lg = some (.out x, lg')) (hR : Rep X w S ρ H N st a) : Does P X N st a w S ρ (execOp a.eval o) x := by
  simp only [opA, ho] at h
  obtain ⟨yv, lg1, h1, h⟩ := run_bind_some h
  have hy := opd_rep hR h1
  simp only at h hy
  split at h
  · obtain ⟨zv, lg3, h3, h⟩ := run_bind_some h
    exact storeBox_does ho h hR hy (opd_rep hR h3)
  · obtain ⟨zv, lg3, h3, h⟩ := run_bind_some h
    exact storeRow_does ho h hR hy (opd_rep hR h3)
  · exact (run_fail h).elim

theorem fieldInfo_some {s : TypeId} {i : Nat} {f : Field} (h : fieldInfo P s i = some f) : ∃ fs, P.underlying s = some (.struct fs) ∧ fs[i]? = some f := by
  unfold fieldInfo at h
  split at h
  · rename_i fs hu; exact ⟨fs, hu, h⟩
  · simp at h

theorem fldA_rep {o : Nat} {y : TV} {u : Value} (h : (fldA o y).run st lg = some (.out x, lg')) (hy : RepTV w S ρ y u) :
    ∃ b off, u = Ptr b off ∧ x = { tv := x.tv } ∧ RepTV w S ρ x.tv (Ptr b (off + o)) := by
  unfold fldA at h
  split at h
  · obtain rfl := outA_eq h
    obtain ⟨b, hp, rfl⟩ := hy
    exact ⟨_, _, rfl, rfl, b, hp, rfl⟩
  · obtain rfl := out_eq h
    obtain ⟨h0, b, off, rfl, h2⟩ := hy
    exact ⟨_, _, rfl, rfl, h0, b, off, rfl, h2⟩
  · obtain rfl := out_eq h
    obtain ⟨h0, b, off, len, cap, h1, h2, rfl⟩ := hy
    exact ⟨_, _, rfl, rfl, h0, b, off, len, cap, h1, h2, rfl⟩
  · obtain rfl := out_eq h
    obtain ⟨h0, b, off, rfl, h2⟩ := hy
    exact ⟨_, _, rfl, rfl, h0, b, off, by rw [Nat.add_assoc], h2⟩
  · obtain rfl := out_eq h
    obtain ⟨h0, b, off, len, cap, h1, h2, rfl⟩ := hy
    exact ⟨_, _, rfl, rfl, h0, b, off, len, cap, h1, h2, by rw [Nat.add_assoc]⟩
  · exact (run_fail h).elim
theorem does_fieldAddr {s : TypeId} {y : Operand} {i : Nat} (ho : o.op = .fieldAddr s y i) (h : (opA P sg fresh o).run st lg = some (.out x, lg')) (hR : Rep X w S ρ H N st a) : Does P X N st a w S ρ (execOp a.eval o) x := by
  simp only [opA, ho] at h
  obtain ⟨yv, lg1, h1, h⟩ := run_bind_some h
  have hy := opd_rep hR h1
  simp only at h hy
  split at h
  · rename_i f hf
    split at h
    · rename_i inf hi
      split at h
      · exact (run_fail h).elim
      · rename_i hsz
        obtain ⟨b, off, hpv, hx, hr⟩ := fldA_rep h hy
        rw [hx]
        obtain ⟨fs, hu, hfs⟩ := fieldInfo_some hf
        refine Does.value hR (v := Ptr b (off + f.offset)) ?_ hr
        simp [execOp, ho, Instr.fieldAt, underlying_run hu, hfs, Instr.sureAddr, hpv, fieldPlace, sizeOf_run hi, hsz, addr_add]
    · exact (run_fail h).elim
  · exact (run_fail h).elim

theorem does_field {s : TypeId} {y : Operand} {i : Nat} (ho : o.op = .field s y i) (h : (opA P sg fresh o).run st lg = some (.out x, lg')) (hR : Rep X w S ρ H N st a) : Does P X N st a w S ρ (execOp a.eval o) x := by
  simp only [opA, ho] at h
  obtain ⟨yv, lg1, h1, h⟩ := run_bind_some h
  have hy := opd_rep hR h1
  simp only at h hy
  split at h
  · rename_i cs f hf
    split at h
    · rename_i v hv
      obtain rfl := out_eq h
      obtain ⟨vs, hvs, hc⟩ := hy
      obtain ⟨fs, hu, hfs⟩ := fieldInfo_some hf
      obtain ⟨u, hu', hr⟩ := partA_run hv hc
      exact Does.value hR (by simp [execOp, ho, Instr.field, underlying_run hu, hfs, hvs, asAgg, hu']) hr
    · exact (run_fail h).elim
  · exact (run_fail h).elim

theorem does_nilCheck {y : Operand} (ho : o.op = .nilCheck y) (h : (opA P sg fresh o).run st lg = some (.out x, lg')) (hR : Rep X w S ρ H N st a) : Does P X N st a w S ρ (execOp a.eval o) x := by
  simp only [opA, ho] at h
  obtain ⟨yv, lg1, h1, h⟩ := run_bind_some h
  have hy := opd_rep hR h1
  simp only at h hy
  split at h
  · obtain rfl := outA_eq h
    have hy' := hy
    obtain ⟨b, hp, hv⟩ := hy
    exact Does.value hR (by simp [execOp, ho, hv]) hy'
  · obtain rfl := outA_eq h
    have hy' := hy
    obtain ⟨vs, hv, _⟩ := hy
    exact Does.value hR (by simp [execOp, ho, hv]) hy'
  · exact (run_fail h).elim

theorem does_extract {y : Operand} {i : Nat} (ho : o.op = .extract y i) (h : (opA P sg fresh o).run st lg = some (.out x, lg')) (hR : Rep X w S ρ H N st a) : Does P X N st a w S ρ (execOp a.eval o) x := by
  simp only [opA, ho] at h
  obtain ⟨yv, lg1, h1, h⟩ := run_bind_some h
  have hy := opd_rep hR h1
  simp only at h hy
  split at h
  · rename_i xs
    split at h
    · rename_i v hv
      obtain rfl := out_eq h
      obtain ⟨vs, hvs, hc⟩ := hy
      obtain ⟨u, hu, hr⟩ := hc.get hv
      exact Does.value hR (by simp [execOp, ho, Instr.extract, hvs, show vs[i]? = some u by simpa using hu]) hr
    · exact (run_fail h).elim
  · exact (run_fail h).elim

theorem does_unOp {op : UnOp} {t : TypeId} {y : Operand} (ho : o.op = .unOp op t y) (h : (opA P sg fresh o).run st lg = some (.out x, lg')) (hR : Rep X w S ρ H N st a) : Does P X N st a w S ρ (execOp a.eval o) x := by
  simp only [opA, ho] at h
  obtain ⟨yv, lg1, h1, h⟩ := run_bind_some h
  have hy := opd_rep hR h1
  simp only at h hy
  split at h
  · split at h
    · obtain rfl := outA_eq h
      have := rep_b hy
      exact Does.value hR (by simp [execOp, ho, this, Op.unary]; rfl) (by simp [RepTV, RepVV, RepAV, Rd])
    · exact (run_fail h).elim
  · obtain ⟨c, lg2, h2, h⟩ := run_bind_some h
    obtain ⟨v, hs, hv⟩ := semV_inv h2
    obtain rfl := outA_eq h
    have := rep_i hy
    exact Does.value hR (by simp [execOp, ho, this, hs]) (ofValue_rep hv)
  · exact (run_fail h).elim

theorem caps_rep (hR : Rep X w S ρ H N st a) : ∀ {l : List Operand} {cs : List (Nat × Nat)},
    All2 (fun x y => ∃ lg1 lg2, (do asP (← opd x) : AM (Nat × Nat)).run st lg1 = some (y, lg2)) l cs →
    All2 (fun (p : Nat × Nat) u => ∃ b, ρ p.1 = some (Ptr b 0) ∧ u = Ptr b p.2) cs (l.map a.eval)
  | [], cs, hc => by rw [hc.nil_left]; trivial
  | y :: l, cs, hc => by
    obtain ⟨p, ps, rfl, ⟨lg2, lg3, h2⟩, hc⟩ := hc.cons_left
    obtain ⟨v, lg4, h3, h4⟩ := run_bind_some h2
    have hy := opd_rep hR h3
    rw [asP_inv h4] at hy
    exact ⟨hy, caps_rep hR hc⟩

theorem does_makeFunc {f : Fn} {fi ca : Array Operand} (ho : o.op = .makeFunc f fi ca) (h : (opA P sg fresh o).run st lg = some (.out x, lg')) (hR : Rep X w S ρ H N st a) : Does P X N st a w S ρ (execOp a.eval o) x := by
  cases f with
  | func f =>
    simp only [opA, ho] at h
    split at h
    · rename_i hfi
      have hfi : fi = #[] := by simpa using hfi
      subst hfi
      obtain ⟨cs, lg1, h1, h⟩ := run_bind_some h
      obtain rfl := outA_eq h
      have hc := run_mapM h1
      refine Does.value hR (v := .func (.func f) #[] (ca.map a.eval)) (by simp [execOp, ho, Instr.makeFunc]) ⟨_, rfl, ?_⟩
      rw [Array.toList_map]
      exact caps_rep hR hc
    · exact (run_fail h).elim
  | _ => simp only [opA, ho] at h; exact (run_fail h).elim

theorem bounds_run {isS : Bool} {cap : Nat} {lo hi : Option Operand} {l h len : Int} {lo' hi' : Option TV} {lg lg1 lg2 lg3 lg4 lg5 : List Loc} (hR : Rep X w S ρ H N st a)
    (h1 : (optM opd lo).run st lg = some (lo', lg1)) (h2 : (optM opd hi).run st lg2 = some (hi', lg3)) (h3 : (sliceB lo' hi' len).run st lg4 = some ((l, h), lg5)) {n : Nat} (hn : len = n) (hcap : n ≤ cap) :
    0 ≤ l ∧ l ≤ h ∧ h ≤ n ∧ (Instr.sliceBounds isS n cap (lo.map a.eval) (hi.map a.eval) none).run P w = .ok (l.toNat, h.toNat, cap) w := by
  subst hn
  unfold sliceB at h3
  obtain ⟨h', lg6, h4, h3⟩ := run_bind_some h3
  obtain ⟨l', lg7, h5, h3⟩ := run_bind_some h3
  obtain ⟨u, lg8, h6, h3⟩ := run_bind_some h3
  have hg := run_guard h6
  have := run_pure h3; simp at this; obtain ⟨⟨rfl, rfl⟩, _⟩ := this
  simp only [Bool.and_eq_true, decide_eq_true_eq] at hg
  obtain ⟨⟨g1, g2⟩, g3⟩ := hg
  refine ⟨g1, g2, g3, ?_⟩
  have hh : (match hi.map a.eval with | some v => Instr.sliceBound v cap (if isS then .sliceAcap else .sliceAlen) | none => (pure n : Sem Nat)).run P w = .ok h.toNat w := by
    cases hi with
    | none =>
      have := run_pure' h2; simp at this; obtain ⟨rfl, _⟩ := this
      have := run_pure' h4; simp at this; obtain ⟨rfl, _⟩ := this
      simp
    | some y =>
      obtain ⟨v, lg9, h7, h8⟩ := run_bind_some h2
      have := run_pure h8; simp at this; obtain ⟨rfl, _⟩ := this
      obtain ⟨⟨k, i⟩, lg10, h9, h10⟩ := run_bind_some h4
      have := run_pure h10; simp at this; obtain ⟨rfl, _⟩ := this
      have hy := opd_rep hR h7
      rw [asI_inv h9] at hy
      have hy := rep_i hy
      simp only at hy
      simp only [Option.map_some, hy, Instr.sliceBound, asIntOf, Sem.run_bind, Sem.run_pure, Result.andThen_ok]
      rw [if_pos (by omega)]
      rfl
  have hl : (match lo.map a.eval with | some v => Instr.sliceBound v h.toNat .sliceB | none => (pure 0 : Sem Nat)).run P w = .ok l.toNat w := by
    cases lo with
    | none =>
      have := run_pure' h1; simp at this; obtain ⟨rfl, _⟩ := this
      have := run_pure' h5; simp at this; obtain ⟨rfl, _⟩ := this
      simp
    | some y =>
      obtain ⟨v, lg9, h7, h8⟩ := run_bind_some h1
      have := run_pure h8; simp at this; obtain ⟨rfl, _⟩ := this
      obtain ⟨⟨k, i⟩, lg10, h9, h10⟩ := run_bind_some h5
      have := run_pure h10; simp at this; obtain ⟨rfl, _⟩ := this
      have hy := opd_rep hR h7
      rw [asI_inv h9] at hy
      have hy := rep_i hy
      simp only at hy
      simp only [Option.map_some, hy, Instr.sliceBound, asIntOf, Sem.run_bind, Sem.run_pure, Result.andThen_ok]
      rw [if_pos (by omega)]
      rfl
  unfold Instr.sliceBounds
  cases hi with
  | none =>
    cases lo with
    | none => simp at hh hl ⊢; exact ⟨hl, hh⟩
    | some y => simp at hh hl ⊢; simp [← hh] at hl ⊢; simp [hl]
  | some z =>
    cases lo with
    | none => simp at hh hl ⊢; simp [hh, hl]
    | some y => simp at hh hl ⊢; simp [hh, hl]

end
end Go.Proofs.Ytndkobhclggeiaa.Aev
