/- AEV: each operation does what the evaluator says (6): literals. -/
import Derived.Test.YtndkobhclggeiaaAevK
import Derived.Great.BuildSlice
import Derived.Laws.MakeOwn
namespace Go.Proofs.Ytndkobhclggeiaa.Aev
set_option linter.unusedVariables false
set_option linter.unusedSimpArgs false
open Go

section
variable {P : Program} {sg : FuncId → Option (Nat × List Nat)} {fresh : Nat} {X : Cx} {w : World} {S : Nat → Prop} {ρ : Nat → Option Value} {H : Nat → Option Nat} {N : Nat} {st : St} {a : Act} {o : Oper} {x : Out} {lg lg' : List Loc}

theorem fold_put {off : Nat} {u : Array Value} {cs : Array Value} (h : off + u.size ≤ cs.size) :
    (u.zipIdx.foldl (fun cs (x : Value × Nat) => cs.setIfInBounds (off + x.2) x.1) cs).toList = cs.toList.take off ++ u.toList ++ cs.toList.drop (off + u.size) := by
  have hg := Great.foldl_set off u.toList 0 cs
  have e : u.zipIdx.foldl (fun cs (x : Value × Nat) => cs.setIfInBounds (off + x.2) x.1) cs = (u.toList.zipIdx 0).foldl (fun cs (x : Value × Nat) => cs.setIfInBounds (off + x.2) x.1) cs := by
    rw [← Array.foldl_toList]; simp
  rw [e]
  obtain ⟨h1, h2⟩ := hg
  apply List.ext_getElem?
  intro k
  rw [Array.getElem?_toList, h2 k]
  simp only [Nat.add_zero, Array.length_toList]
  by_cases hk : off ≤ k ∧ k < off + u.size ∧ k < cs.size
  · rw [if_pos hk]
    have hl : (cs.toList.take off).length = off := by simp; omega
    rw [List.append_assoc, List.getElem?_append_right (by omega), hl, List.getElem?_append_left (by simp; omega)]
  · rw [if_neg hk]
    by_cases hlt : k < off
    · rw [List.append_assoc, List.getElem?_append_left (by simp; omega), List.getElem?_take_of_lt hlt]; simp
    · have hl : (cs.toList.take off ++ u.toList).length = off + u.size := by simp; omega
      rw [List.getElem?_append_right (by omega), hl, List.getElem?_drop]
      by_cases hks : k < cs.size
      · simp; congr 1; omega
      · rw [Array.getElem?_eq_none (by omega), List.getElem?_eq_none (by simp; omega)]

theorem fillA_rep {place : Nat → Option (Nat × Nat)} : ∀ {parts : List (Nat × List AV)} {parts' : List (Nat × Value)} {cs l : List AV} {vs : Array Value}, fillA place cs parts = some l → All2 (RepAV w S ρ) cs vs.toList →
    All2 (fun p q => p.1 = q.1 ∧ All2 (RepAV w S ρ) p.2 q.2.cells.toList) parts parts' → ∃ arr, Instr.fill place vs parts' = some arr ∧ All2 (RepAV w S ρ) l arr.toList
  | [], parts', cs, l, vs, h, hc, hp => by
    rw [hp.nil_left]
    simp [fillA] at h; subst h
    exact ⟨vs, rfl, hc⟩
  | (i, new) :: parts, parts', cs, l, vs, h, hc, hp => by
    obtain ⟨⟨i', v⟩, m, rfl, ⟨e1, hv⟩, hm⟩ := hp.cons_left
    simp only at e1 hv
    subst e1
    simp only [fillA] at h
    split at h
    · rename_i off size hpl
      split at h
      · rename_i hsz
        split at h
        · rename_i cs' hput
          obtain ⟨h1, h2⟩ := putCells_rep hput hc hv
          have hvl := hv.length
          simp only [Array.length_toList] at hvl h1
          have hf := fold_put (off := off) (u := v.cells) (cs := vs) (by omega)
          obtain ⟨arr, h3, h4⟩ := fillA_rep (place := place) (vs := v.cells.zipIdx.foldl (fun cs (x : Value × Nat) => cs.setIfInBounds (off + x.2) x.1) vs) h (by rw [hf]; simpa using h2) hm
          refine ⟨arr, ?_, h4⟩
          unfold Instr.fill
          simp only [hpl]
          rw [if_neg (by simp; omega)]
          exact h3
        · simp at h
      · simp at h
    · simp at h

theorem partsA_rep (hR : Rep X w S ρ H N st a) : ∀ {parts : List (Nat × Operand)} {lg : List Loc} {r : List (Nat × List AV) × List Loc}, (partsA parts).run st lg = some r →
    All2 (fun p q => p.1 = q.1 ∧ All2 (RepAV w S ρ) p.2 q.2.cells.toList) r.1 (parts.map fun (p : Nat × Operand) => (p.1, a.eval p.2))
  | [], lg, r, h => by have := run_pure' h; subst this; trivial
  | (i, y) :: l, lg, r, h => by
    simp only [partsA] at h
    obtain ⟨v, lg1, h1, h⟩ := run_bind_some h
    have hy := opd_rep hR h1
    simp only at h hy
    split at h
    · obtain ⟨ps, lg2, h2, h⟩ := run_bind_some h
      have := run_pure h; subst this
      exact ⟨⟨rfl, RepVV.cells hy⟩, partsA_rep hR h2⟩
    · exact (run_fail h).elim

theorem zeroOf_some {t : TypeId} {zero : List AV} (h : zeroOf P t = some zero) : ∃ i z, P.info? t = some i ∧ i.zero = some z ∧ ofValues z.cells.toList = some zero := by
  unfold zeroOf at h
  cases hi : P.info? t with
  | none => simp [hi] at h
  | some i =>
    cases hz : i.zero with
    | none => simp [hi, hz] at h
    | some z => exact ⟨i, z, rfl, hz, by simpa [hi, hz] using h⟩

theorem does_build {t : TypeId} {parts : Array (Nat × Operand)} (ho : o.op = .build t parts) (h : (opA P sg fresh o).run st lg = some (.out x, lg')) (hR : Rep X w S ρ H N st a) : Does P X N st a w S ρ (execOp a.eval o) x := by
  simp only [opA, ho] at h
  obtain ⟨ps, lg1, h1, h⟩ := run_bind_some h
  have hp := partsA_rep hR h1
  simp only at hp
  split at h
  · rename_i pl zero hpl hzero
    split at h
    · rename_i cs hcs
      obtain rfl := out_eq h
      obtain ⟨i, z, hi, hz, hzv⟩ := zeroOf_some hzero
      obtain ⟨arr, h3, h4⟩ := fillA_rep (place := pl) (vs := z.cells) hcs (ofValues_rep hzv) hp
      have hb : P.built t (parts.map fun (p : Nat × Operand) => (p.1, a.eval p.2)).toList = some arr := by
        rw [Array.toList_map]
        unfold buildPlace at hpl
        unfold Program.built
        split at hpl
        · rename_i fields hu
          cases hm : fields.toList.mapM (fun f => (P.info? f.type).map fun i => (f.offset, i.size)) with
          | none => simp [hm] at hpl
          | some places =>
            simp [hm] at hpl
            subst hpl
            simp only [hi, hu, hz, hm]
            simpa using h3
        · rename_i n e hu
          cases hie : P.info? e with
          | none => simp [hie] at hpl
          | some ie =>
            simp [hie] at hpl
            subst hpl
            simp only [hi, hu, hz, hie]
            exact h3
        · simp at hpl
      exact Does.value hR (by simp [execOp, ho, run_build (P := P) w t _ arr hb]) ⟨arr, rfl, h4⟩
    · exact (run_fail h).elim
  · exact (run_fail h).elim

theorem asmRows_spec {t : Ty} : ∀ {n : Nat} {l : List AV} {lg : List Loc} {r : (List t.den × List (Nat × Option Blk)) × List Loc}, (asmRows t n l).run st lg = some r → Mem X w S ρ H st.blk →
    ToSettle st r.1.2 ∧ r.1.1.length = n ∧ ∀ {S' : Nat → Prop} {vs : List Value}, (∀ b, S b → S' b) → Settled w S' ρ r.1.2 → All2 (RepAV w S ρ) l vs → Rows w S' t vs r.1.1
  | 0, [], lg, r, h, hm => by
    have := run_pure' h; subst this
    exact ⟨ToSettle.nil, rfl, fun _ _ hv => by rw [hv.nil_left]; exact ⟨by simp, fun i hi => by simp at hi⟩⟩
  | 0, _ :: _, lg, r, h, hm => (run_fail h).elim
  | n + 1, l, lg, r, h, hm => by
    simp only [asmRows] at h
    obtain ⟨⟨y, wr, l'⟩, lg1, h1, h⟩ := run_bind_some h
    obtain ⟨⟨ys, wr'⟩, lg2, h2, h⟩ := run_bind_some h
    have := run_pure h; subst this
    obtain ⟨s1, p1, e1, n1, r1⟩ := asm_spec t h1 hm
    obtain ⟨s2, l2, r2⟩ := asmRows_spec h2 hm
    simp only at s1 e1 r1 s2 l2 r2
    refine ⟨s1.append s2, by simp [l2], fun hS hs hv => ?_⟩
    rw [e1] at hv
    obtain ⟨m1, m2, rfl, hv1, hv2⟩ := hv.split
    have hrd := r1 hS hs.left hv1
    have h1r : Rows w _ t m1 [y] := ⟨by simp [hrd.length], fun i hi => by
      have : i = 0 := by simpa using hi
      subst this
      simp only [Nat.zero_mul, List.drop_zero, List.getElem_cons_zero]
      rw [List.take_of_length_le (by rw [hrd.length]; exact Nat.le_refl _)]
      exact hrd⟩
    exact h1r.append (r2 hS hs.right hv2)

theorem zeros_rep {zero : List AV} {z : Array Value} (h : All2 (RepAV w S ρ) zero z.toList) (hz : 0 < z.size) : ∀ n : Nat, All2 (RepAV w S ρ) ((List.replicate n zero).flatten) ((List.range (n * z.size)).map (z[· % z.size]!))
  | 0 => by simp [All2]
  | n + 1 => by
    have e : (List.range ((n + 1) * z.size)).map (z[· % z.size]!) = z.toList ++ (List.range (n * z.size)).map (z[· % z.size]!) := by
      rw [Nat.add_mul, Nat.one_mul, Nat.add_comm, List.range_add, List.map_append]
      congr 1
      · apply List.ext_getElem
        · simp
        · intro i h1 h2
          simp at h1
          simp [Nat.mod_eq_of_lt h1, h1]
      · rw [List.map_map]
        apply List.map_congr_left
        intro i _
        simp
    rw [e, List.replicate_succ, List.flatten_cons]
    exact h.append (zeros_rep h hz n)

theorem does_buildSlice {t : TypeId} {len : Nat} {parts : Array (Nat × Operand)} (ho : o.op = .buildSlice t len parts) (h : (opA P sg fresh o).run st lg = some (.out x, lg')) (hR : Rep X w S ρ H N st a) : Does P X N st a w S ρ (execOp a.eval o) x := by
  simp only [opA, ho] at h
  obtain ⟨ps, lg1, h1, h⟩ := run_bind_some h
  have hp := partsA_rep hR h1
  simp only at hp
  split at h
  · rename_i e hu
    split at h
    · rename_i u hut
      split at h
      · rename_i inf zero hel hzero
        split at h
        · rename_i hc
          simp only [Bool.and_eq_true, decide_eq_true_eq, beq_iff_eq] at hc
          obtain ⟨⟨⟨c1, c2⟩, c3⟩, c4⟩ := hc
          split at h
          · rename_i cells hcells
            obtain ⟨⟨xs, wr⟩, lg2, h2, h⟩ := run_bind_some h
            have h := run_rdB h
            split at h
            · rename_i hfresh
              have := run_pure' h; simp at this; obtain ⟨rfl, _⟩ := this
              obtain ⟨e', hue, hie, hsz⟩ := elemOk_some hel
              rw [hu] at hue; simp at hue; subst hue
              obtain ⟨i, z, hi, hz, hzv⟩ := zeroOf_some hzero
              rw [hie] at hi; simp at hi; subst hi
              have hzr := ofValues_rep (w := w) (S := S) (ρ := ρ) hzv
              have hzl : z.cells.size = inf.size := by have := hzr.length; simp only [Array.length_toList] at this; omega
              obtain ⟨arr, h3, h4⟩ := fillA_rep (place := fun i => some (i * inf.size, inf.size)) (vs := (Array.range (len * inf.size)).map (z.cells[· % z.cells.size]!)) hcells
                (by have := zeros_rep hzr (by omega) len; rw [hzl] at this; simpa [hzl] using this) hp
              have hpos : ¬ len * inf.size = 0 := by
                have := Nat.mul_le_mul c2 c1
                omega
              have hrun := run_buildSlice (P := P) w t e len (parts.map fun (p : Nat × Operand) => (p.1, a.eval p.2)) arr inf z hu hie hz (by omega) hpos (by rw [Array.toList_map]; exact h3)
              obtain ⟨hts, hlen, hrows⟩ := asmRows_spec h2 hR.mem
              simp only at hts hlen hrows
              obtain ⟨S1, H1, hm1, hmore1, hset1⟩ := settle_all wr hR.mem hts.all
              have hro := hrows hmore1.s hset1 h4
              have hfw : (st.sets wr).blk fresh = none := by
                rw [sets_other]
                · exact hfresh
                · intro p hp e
                  obtain ⟨t', ex, xs', _, h5⟩ := hts p hp
                  rw [e, hfresh] at h5; simp at h5
              have hlt' : ∀ k, k < w.heap.size → (w.alloc (.cells arr e)).heap[k]? = w.heap[k]? := fun k hk => by
                show (w.heap.push _)[k]? = _
                rw [Array.getElem?_push, if_neg (by omega)]
              have hnew : (w.alloc (.cells arr e)).heap[w.heap.size]? = some (.cells arr e (0, 0)) := by
                show (w.heap.push _)[w.heap.size]? = _
                simp
              have hasz : arr.size = len * u.size := by have := hro.1; rw [hlen] at this; simpa using this
              have hrow : RowOwn (w.alloc (.cells arr e)) S1 u (.slice (some ⟨w.heap.size, 0, none⟩) xs.length len) xs w.heap.size := by
                refine rows_rowOwn (by omega) hnew hasz ?_
                rw [hlen, List.take_of_length_le (by simp [hasz])]
                exact hro.mono (fun _ x => x) (fun b hb => hlt' b (hm1.old b hb))
              obtain ⟨hmem, hmore⟩ := hm1.adopt hfw (home := some w.heap.size) (w' := w.alloc (.cells arr e))
                (fun b hb => by
                  simp at hb; subst hb
                  exact ⟨.inr hm1.size, fun hs => by have := hm1.old _ hs; omega, fun m C hC hh => by have := (hm1.rep m C hC).home_lt hh; omega⟩)
                (by show w.heap.size ≤ (w.heap.push _).size; simp) (fun k hk _ => hlt' k hk) rfl rfl rfl
                (v := .slice (some ⟨w.heap.size, 0, none⟩) xs.length len) (B := .own u true xs)
                ⟨_, by rw [upd_same], .inl ⟨_, rfl, hrow⟩⟩
              have hM := hmore1.trans hmore
              refine ⟨.slice (some ⟨w.heap.size, 0, none⟩) xs.length len, w.alloc (.cells arr e), S1, upd ρ fresh (some (.slice (some ⟨w.heap.size, 0, none⟩) xs.length len)), upd H1 fresh (some w.heap.size), .inl (by simp [execOp, ho, hrun, hlen]), hR.of_mem (st' := st.sets _) ?_ hM (sets_tmp _ _), ⟨by rw [upd_same], _, _, _, rfl⟩, hM⟩
              rw [sets_append]
              exact hmem
            · exact (run_fail h).elim
          · exact (run_fail h).elim
        · exact (run_fail h).elim
      · exact (run_fail h).elim
    · exact (run_fail h).elim
  · exact (run_fail h).elim
theorem does_alloc {t : TypeId} (ho : o.op = .alloc t) (h : (opA P sg fresh o).run st lg = some (.out x, lg')) (hR : Rep X w S ρ H N st a) : Does P X N st a w S ρ (execOp a.eval o) x := by
  simp only [opA, ho] at h
  split at h
  · rename_i z hz
    split at h
    · rename_i cs hcs
      cases hi : P.info? t with
      | none => simp [hi] at hz
      | some inf =>
        have hz : inf.zero = some z := by simpa [hi] using hz
        have hv : (zeroValue t).run P w = .ok z w := by simp [zeroValue, typeInfo_run hi, hz]
        have hs : (execOp a.eval o).run P w = .ok (.value (Ptr w.heap.size 0)) { w with heap := w.heap.push (.cells z.cells t (0, 0)) } := by simp [execOp, ho, Instr.alloc, newVar, newRow, hv]
        have hcr := ofValues_rep (w := w) (S := S) (ρ := ρ) hcs
        split at h
        · rename_i m u har
          obtain ⟨⟨xs, wr⟩, lg1, h1, h⟩ := run_bind_some h
          obtain ⟨hts, hlen, hrows⟩ := asmRows_spec h1 hR.mem
          simp only at h hlen hrows
          split at h
          · have h := run_rdB h
            split at h
            · rename_i hfresh
              have := run_pure' h; simp at this; obtain ⟨rfl, _⟩ := this
              have hro := hrows (S' := S) (fun _ x => x) (by intro p hp; simp at hp) hcr
              have hlt : ∀ b, S b → ({ w with heap := w.heap.push (.cells z.cells t (0, 0)) } : World).heap[b]? = w.heap[b]? := fun b hb => by
                have := hR.mem.old b hb
                show (w.heap.push _)[b]? = _
                rw [Array.getElem?_push, if_neg (by omega)]
              have hnew : ({ w with heap := w.heap.push (.cells z.cells t (0, 0)) } : World).heap[w.heap.size]? = some (.cells z.cells t (0, 0)) := by
                show (w.heap.push _)[w.heap.size]? = _
                simp
              have hasz : z.cells.size = m * u.size := by have := hro.1; rw [hlen] at this; simpa using this
              have hrow : RowOwn { w with heap := w.heap.push (.cells z.cells t (0, 0)) } S u (.slice (some ⟨w.heap.size, 0, none⟩) xs.length m) xs w.heap.size := by
                refine rows_rowOwn (by omega) hnew hasz ?_
                rw [hlen, List.take_of_length_le (by simp [hasz])]
                exact hro.mono (fun _ x => x) hlt
              rw [hlen] at hrow
              have hρ := upd_le (v := .slice (some ⟨w.heap.size, 0, none⟩) m m) (hR.mem.never fresh hfresh)
              have hm := hR.mem.alloc hfresh (o := .cells z.cells t (0, 0)) (v := .slice (some ⟨w.heap.size, 0, none⟩) m m) (B := .own u true xs)
                ⟨_, by rw [upd_same], .inl ⟨w.heap.size, rfl, hrow⟩⟩
              have hmore : More w { w with heap := w.heap.push (.cells z.cells t (0, 0)) } S S ρ (upd ρ fresh (some (.slice (some ⟨w.heap.size, 0, none⟩) m m))) := ⟨fun _ x => x, hlt, hρ⟩
              exact ⟨_, _, S, _, _, .inl hs, hR.of_mem hm hmore rfl, ⟨w.heap.size, by rw [upd_same], rfl⟩, hmore⟩
            · exact (run_fail h).elim
          · exact (run_fail h).elim
        · exact newBox_does (e := t) h hR hcr hs
    · exact (run_fail h).elim
  · exact (run_fail h).elim
theorem made_chunk {z : Array Value} {n i : Nat} (hz : 0 < z.size) (hi : i < n) : (((List.range (n * z.size)).map (z[· % z.size]!)).drop (i * z.size)).take z.size = z.toList := by
  have hle : (i + 1) * z.size ≤ n * z.size := Nat.mul_le_mul_right _ hi
  rw [Nat.add_mul, Nat.one_mul] at hle
  apply List.ext_getElem
  · simp; omega
  · intro k h1 h2
    simp at h1 h2
    simp only [List.getElem_take, List.getElem_drop, List.getElem_map, List.getElem_range]
    have : (i * z.size + k) % z.size = k := by rw [Nat.mul_comm, Nat.mul_add_mod]; exact Nat.mod_eq_of_lt h2
    rw [this, getElem!_pos z k h2]; simp

theorem does_makeSlice {t : TypeId} {lo co : Operand} (ho : o.op = .makeSlice t lo co) (h : (opA P sg fresh o).run st lg = some (.out x, lg')) (hR : Rep X w S ρ H N st a) : Does P X N st a w S ρ (execOp a.eval o) x := by
  simp only [opA, ho] at h
  obtain ⟨lv, lg1, h1, h⟩ := run_bind_some h
  obtain ⟨⟨kl, l⟩, lg2, h2, h⟩ := run_bind_some h
  obtain ⟨cv, lg3, h3, h⟩ := run_bind_some h
  obtain ⟨⟨kc, c⟩, lg4, h4, h⟩ := run_bind_some h
  have hl := opd_rep hR h1
  rw [asI_inv h2] at hl
  have hl := rep_i hl
  have hcv := opd_rep hR h3
  rw [asI_inv h4] at hcv
  have hcv := rep_i hcv
  simp only at h hl hcv
  unfold makeA at h
  split at h
  · rename_i e hu
    split at h
    · rename_i u hut
      split at h
      · rename_i inf zero hel hzero
        split at h
        · rename_i hc
          simp only [Bool.and_eq_true, decide_eq_true_eq, beq_iff_eq] at hc
          obtain ⟨⟨c1, c2⟩, c3⟩ := hc
          obtain ⟨_, lg5, h5, h⟩ := run_bind_some h
          have hg := run_guard h5
          simp only [Bool.and_eq_true, decide_eq_true_eq, maxBytes] at hg
          obtain ⟨⟨g1, g2⟩, g3⟩ := hg
          obtain ⟨⟨z0, wr, rest⟩, lg6, h6, h⟩ := run_bind_some h
          obtain ⟨hts, l1, e1, n1, hrd⟩ := asm_spec _ h6 hR.mem
          simp only at h hts e1 hrd
          split at h
          · have h := run_rdB h
            split at h
            · rename_i hfresh
              have := run_pure' h; simp at this; obtain ⟨rfl, _⟩ := this
              have e1 : l1 = zero := by simpa using e1.symm
              subst e1
              obtain ⟨e', hue, hie, hsz⟩ := elemOk_some hel
              rw [hu] at hue; simp at hue; subst hue
              obtain ⟨i, z, hi, hz, hzv⟩ := zeroOf_some hzero
              rw [hie] at hi; simp at hi; subst hi
              have hzr := ofValues_rep (w := w) (S := S) (ρ := ρ) hzv
              have hzl : z.cells.size = inf.size := by have := hzr.length; simp only [Array.length_toList] at this; omega
              have hrdz := hrd (S' := S) (fun _ x => x) (fun p hp => by simp at hp) hzr
              have g3' : c * inf.bytes ≤ 35184372088832 := of_decide_eq_true g3
              have hb : (inf.bytes : Int) * c ≤ 281474976710656 := by rw [Int.mul_comm]; omega
              have hcle : c ≤ 9223372036854775807 := by
                have : c * 1 ≤ c * inf.bytes := Int.mul_le_mul_of_nonneg_left (by omega) (by omega)
                omega
              have hrun := run_make (P := P) w t e inf z hu hie hz kl kc l c g1 g2 hb hcle
              have hlt' : ∀ k, k < w.heap.size → (w.alloc (.cells (madeCells z.cells (c.toNat * inf.size)) e)).heap[k]? = w.heap[k]? := fun k hk => by
                show (w.heap.push _)[k]? = _
                rw [Array.getElem?_push, if_neg (by omega)]
              have hnew : (w.alloc (.cells (madeCells z.cells (c.toNat * inf.size)) e)).heap[w.heap.size]? = some (.cells (madeCells z.cells (c.toNat * inf.size)) e (0, 0)) := by
                show (w.heap.push _)[w.heap.size]? = _
                simp
              have hrow : RowOwn (w.alloc (.cells (madeCells z.cells (c.toNat * inf.size)) e)) S u (.slice (some ⟨w.heap.size, 0, none⟩) (List.replicate l.toNat z0).length c.toNat) (List.replicate l.toNat z0) w.heap.size := by
                refine rows_rowOwn (by simp; omega) hnew (by rw [size_madeCells, hsz]) ?_
                have etake : (madeCells z.cells (c.toNat * inf.size)).toList.take ((List.replicate l.toNat z0).length * u.size) = (List.range (l.toNat * z.cells.size)).map (z.cells[· % z.cells.size]!) := by
                  simp only [madeCells, Array.toList_map, Array.toList_range, List.length_replicate]
                  rw [← List.map_take, List.take_range, hzl, hsz]
                  congr 2
                  have : l.toNat * u.size ≤ c.toNat * u.size := Nat.mul_le_mul_right _ (by omega)
                  omega
                rw [etake]
                refine ⟨by simp [hzl, hsz], fun i hi => ?_⟩
                have hi : i < l.toNat := by simpa using hi
                have hchunk := made_chunk (z := z.cells) (n := l.toNat) (i := i) (by omega) hi
                rw [← hsz, ← hzl, hchunk]
                simp only [List.getElem_replicate]
                rw [hzl]
                exact Rd.mono (fun _ x => x) (fun b hb => hlt' b (hR.mem.old b hb)) _ _ _ hrdz
              obtain ⟨hmem, hmore⟩ := hR.mem.adopt hfresh (home := some w.heap.size) (w' := w.alloc (.cells (madeCells z.cells (c.toNat * inf.size)) e))
                (fun b hb => by
                  simp at hb; subst hb
                  exact ⟨.inr hR.mem.size, fun hs => by have := hR.mem.old _ hs; omega, fun m C hC hh => by have := (hR.mem.rep m C hC).home_lt hh; omega⟩)
                (by show w.heap.size ≤ (w.heap.push _).size; simp) (fun k hk _ => hlt' k hk) rfl rfl rfl
                (v := .slice (some ⟨w.heap.size, 0, none⟩) l.toNat c.toNat) (B := .own u true (List.replicate l.toNat z0))
                ⟨_, by rw [upd_same], .inl ⟨_, rfl, by simpa using hrow⟩⟩
              exact ⟨.slice (some ⟨w.heap.size, 0, none⟩) l.toNat c.toNat, _, S, upd ρ fresh (some (.slice (some ⟨w.heap.size, 0, none⟩) l.toNat c.toNat)), upd H fresh (some w.heap.size), .inl (by simp [execOp, ho, hl, hcv, hrun]), hR.of_mem (st' := st.sets _) hmem hmore (sets_tmp _ _), ⟨by rw [upd_same], _, _, _, rfl⟩, hmore⟩
            · exact (run_fail h).elim
          · exact (run_fail h).elim
        · exact (run_fail h).elim
      · exact (run_fail h).elim
    · exact (run_fail h).elim
  · exact (run_fail h).elim
end
end Go.Proofs.Ytndkobhclggeiaa.Aev
