/- AEV: parts, loads and stores as the model runs them. -/
import Derived.Test.YtndkobhclggeiaaAevD
namespace Go.Proofs.Ytndkobhclggeiaa.Aev
set_option linter.unusedVariables false
set_option linter.unusedSimpArgs false
open Go

theorem underlying_run {P : Program} {t : TypeId} {d : TypeDesc} (h : P.underlying t = some d) (w : World) : (underlying t).run P w = .ok d w := run_underlying h w
theorem typeInfo_run {P : Program} {t : TypeId} {i : TypeInfo} (h : P.info? t = some i) (w : World) : (typeInfo t).run P w = .ok i w := by simp [typeInfo, h]
theorem sizeOf_run {P : Program} {t : TypeId} {i : TypeInfo} (h : P.info? t = some i) (w : World) : (Go.sizeOf t).run P w = .ok i.size w := by simp [Go.sizeOf, typeInfo_run h]

theorem isAggT_run {P : Program} {t : TypeId} {b : Bool} {n : Nat} (h : isAggT P t = some (b, n)) (w : World) : (isAgg t).run P w = .ok b w ∧ (Go.sizeOf t).run P w = .ok n w := by
  unfold isAggT at h
  split at h
  · rename_i fs i h1 h2
    simp at h; obtain ⟨rfl, rfl⟩ := h
    exact ⟨by simp [isAgg, underlying_run h1], sizeOf_run h2 w⟩
  · rename_i k e i h1 h2
    simp at h; obtain ⟨rfl, rfl⟩ := h
    exact ⟨by simp [isAgg, underlying_run h1], sizeOf_run h2 w⟩
  · rename_i d i h3 h4 h1 h2
    simp at h; obtain ⟨rfl, rfl⟩ := h
    refine ⟨?_, sizeOf_run h2 w⟩
    simp only [isAgg, Sem.run_bind, underlying_run h1, Result.andThen_ok]
    first | rfl | (split <;> first | rfl | (exfalso; first | exact h3 _ rfl | exact h4 _ _ rfl))
  · simp at h

section
variable {w : World} {S : Nat → Prop} {ρ : Nat → Option Value}

theorem cut_some {cs l : List AV} {off n : Nat} (h : cut cs off n = some l) : off + n ≤ cs.length ∧ l = (cs.drop off).take n := by
  unfold cut at h
  split at h
  · rename_i hl; simp at h; exact ⟨hl, h.symm⟩
  · simp at h

theorem partA_run {P : Program} {t : TypeId} {cs : List AV} {off : Nat} {v : VV} (h : partA P t cs off = some v) {vs : Array Value} (hc : All2 (RepAV w S ρ) cs vs.toList) :
    ∃ u, (part t vs off).run P w = .ok u w ∧ RepVV w S ρ v u := by
  unfold partA at h
  have hlen := hc.length
  split at h
  · rename_i n hg
    obtain ⟨ha, hs⟩ := isAggT_run hg w
    cases hcut : cut cs off n with
    | none => simp [hcut] at h
    | some l =>
      simp [hcut] at h; subst h
      obtain ⟨h1, rfl⟩ := cut_some hcut
      refine ⟨.agg (vs.extract off (off + n)), by simp [part, ha, hs], vs.extract off (off + n), rfl, ?_⟩
      have := (hc.drop off).take n
      rw [Array.toList_extract, List.extract_eq_take_drop]
      rwa [Nat.add_sub_cancel_left]
  · rename_i n hg
    obtain ⟨ha, hs⟩ := isAggT_run hg w
    split at h
    · rename_i c hcut
      simp at h; subst h
      obtain ⟨h1, h2⟩ := cut_some hcut
      have hoff : cs[off]? = some c := by
        have : ((cs.drop off).take 1)[0]? = some c := by rw [← h2]; rfl
        simpa using this
      obtain ⟨u, hu, hr⟩ := hc.get hoff
      have hu' : vs[off]? = some u := by simpa using hu
      exact ⟨u, by simp [part, ha, hu'], hr⟩
    · simp at h
  · simp at h

theorem addr_add {b off i : Nat} : (⟨b, off, none⟩ : Addr).add i = ⟨b, off + i, none⟩ := by unfold Addr.add; split <;> simp_all

theorem load_cells {P : Program} {b off n : Nat} {us : List Value} (h : cellsAt w b off n us) : (loadCells ⟨b, off, none⟩ n).run P w = .ok us.toArray w := by
  have hl := h.length
  obtain ⟨c, e, fr, h1, h2, h3⟩ := h
  rw [← hl]
  refine run_loadCells_list w _ us (fun j v hv => ?_)
  rw [addr_add, cell_of_row w b _ c e fr h1]
  have hj : j < n := by
    have : j < us.length := by
      rcases Nat.lt_or_ge j us.length with h | h
      · exact h
      · simp [List.getElem?_eq_none h] at hv
    omega
  rw [h3] at hv
  simp [hj] at hv
  simpa using hv

theorem cellsAt_of_heap {b off n : Nat} {vs : Array Value} {e : TypeId} {fr : Nat × Nat} (h : w.heap[b]? = some (.cells vs e fr)) (hn : off + n ≤ vs.size) : cellsAt w b off n ((vs.toList.drop off).take n) :=
  ⟨vs, e, fr, h, hn, rfl⟩

/-- A variable read out of cells. -/
theorem loadVar_cells {P : Program} {t : TypeId} {isA : Bool} {n b off : Nat} (hg : isAggT P t = some (isA, n)) {us : List Value} (h : cellsAt w b off (if isA then n else 1) us) :
    (loadVar t ⟨b, off, none⟩).run P w = .ok (if isA then .agg us.toArray else us.headD undef) w := by
  obtain ⟨ha, hs⟩ := isAggT_run hg w
  cases isA with
  | true =>
    have h : cellsAt w b off n us := by simpa using h
    simp [loadVar, ha, hs, load_cells (P := P) h]
  | false =>
    have hl := h.length
    obtain ⟨c, e, fr, h1, h2, h3⟩ := h
    simp only [Bool.false_eq_true, if_false] at hl h2 h3
    match us, hl with
    | [u], _ =>
      have hcell : w.cell? ⟨b, off, none⟩ = some u := by
        rw [cell_of_row w b _ c e fr h1]
        have : ((c.toList.drop off).take 1)[0]? = some u := by rw [← h3]; rfl
        simpa using this
      simp [loadVar, ha, hcell]

/-- .. out of a box. -/
theorem loadVar_box {P : Program} {t : TypeId} {cs : List AV} {off b : Nat} {v : VV} (h : partA P t cs off = some v) {vs : Array Value} {e : TypeId} {fr : Nat × Nat}
    (hb : w.heap[b]? = some (.cells vs e fr)) (hc : All2 (RepAV w S ρ) cs vs.toList) : ∃ u, (loadVar t ⟨b, off, none⟩).run P w = .ok u w ∧ RepVV w S ρ v u := by
  have hlen := hc.length
  simp only [Array.length_toList] at hlen
  unfold partA at h
  split at h
  · rename_i n hg
    cases hcut : cut cs off n with
    | none => simp [hcut] at h
    | some l =>
      simp [hcut] at h; subst h
      obtain ⟨h1, rfl⟩ := cut_some hcut
      have hc' := cellsAt_of_heap (off := off) (n := n) hb (by omega)
      exact ⟨_, loadVar_cells hg (by simpa using hc'), _, rfl, by simpa using (hc.drop off).take n⟩
  · rename_i n hg
    split at h
    · rename_i c hcut
      simp at h; subst h
      obtain ⟨h1, h2⟩ := cut_some hcut
      have hc' := cellsAt_of_heap (off := off) (n := 1) hb (by omega)
      have hr := (hc.drop off).take 1
      rw [← h2] at hr
      obtain ⟨u, m, hu, hr', hn⟩ := hr.cons_left
      rw [hu] at hc'
      exact ⟨u, by have := loadVar_cells (P := P) hg (us := u :: m) (by simpa using hc'); simpa using this, hr'⟩
    · simp at h
  · simp at h

theorem putCells_some {cs new l : List AV} {off : Nat} (h : putCells cs off new = some l) : off + new.length ≤ cs.length ∧ l = cs.take off ++ new ++ cs.drop (off + new.length) := by
  by_cases hl : off + new.length ≤ cs.length
  · simp [putCells, hl] at h; exact ⟨hl, by simp [← h]⟩
  · simp [putCells, hl] at h

/-- Cells put in the place of cells. -/
theorem putCells_rep {cs new l : List AV} {off : Nat} (h : putCells cs off new = some l) {vs us : List Value} (hc : All2 (RepAV w S ρ) cs vs) (hn : All2 (RepAV w S ρ) new us) :
    off + us.length ≤ vs.length ∧ All2 (RepAV w S ρ) l (vs.take off ++ us ++ vs.drop (off + us.length)) := by
  obtain ⟨h1, rfl⟩ := putCells_some h
  have e1 := hc.length
  have e2 := hn.length
  exact ⟨by omega, ((hc.take off).append hn).append (e2 ▸ hc.drop _)⟩

theorem All2.all {R : AV → Value → Prop} {p : Value → Prop} (h : ∀ a v, R a v → p v) : ∀ {l : List AV} {m : List Value}, All2 R l m → ∀ v ∈ m, p v
  | [], [], _, v, hv => by simp at hv
  | a :: l, b :: m, ⟨h1, h2⟩, v, hv => by
    simp at hv
    rcases hv with rfl | hv
    · exact h _ _ h1
    · exact All2.all h h2 v hv
  | [], _ :: _, h', _, _ => h'.elim
  | _ :: _, [], h', _, _ => h'.elim

/-- A store into a box. -/
theorem storeVar_box {P : Program} {t : TypeId} {inf : TypeInfo} (hi : P.info? t = some inf) {x : VV} {u : Value} (hx : RepVV w S ρ x u) (hsz : x.cells.length = inf.size)
    {b off : Nat} {vs : Array Value} {e : TypeId} (hb : w.heap[b]? = some (.cells vs e (0, 0))) (hfit : off + x.cells.length ≤ vs.size) :
    (storeVar t ⟨b, off, none⟩ u).run P w = .ok () (w.setRow b (vs.toList.take off ++ u.cells.toList ++ vs.toList.drop (off + u.cells.toList.length)).toArray) := by
  have hc := hx.cells
  have hl := hc.length
  have h1 : u.cells.size = inf.size := by rw [← hsz, hl]; simp
  have hst := run_storeCells_at P b off e u.cells.toList 0 vs w hb (by omega) (All2.all (R := RepAV w S ρ) (p := fun v => v.oneCell' = true) (fun a v h => RepAV.oneCell h) hc)
  simp only [Nat.add_zero] at hst
  simp only [storeVar, Sem.run_bind, sizeOf_run hi, Result.andThen_ok, h1]
  simp [hst]
end

end Go.Proofs.Ytndkobhclggeiaa.Aev
