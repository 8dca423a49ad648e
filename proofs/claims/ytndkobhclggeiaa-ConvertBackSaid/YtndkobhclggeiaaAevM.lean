/- AEV: renaming, calls, and that every operation does what the evaluator says. -/
import Derived.Test.YtndkobhclggeiaaAevL
namespace Go.Proofs.Ytndkobhclggeiaa.Aev
set_option linter.unusedVariables false
set_option linter.unusedSimpArgs false
open Go

section
variable {P : Program} {sg : FuncId → Option (Nat × List Nat)} {fresh : Nat} {X : Cx} {w : World} {S : Nat → Prop} {ρ : Nat → Option Value} {H : Nat → Option Nat} {N : Nat} {st : St} {a : Act} {o : Oper} {x : Out} {lg lg' : List Loc}

/-- Every operation but a call of a function. -/
theorem opA_does (h : (opA P sg fresh o).run st lg = some (.out x, lg')) (hR : Rep X w S ρ H N st a) (hc : ∀ c f, o.op = .call c → c.callee ≠ .value f) : Does P X N st a w S ρ (execOp a.eval o) x := by
  cases hop : o.op with
  | move y => exact does_move (.inl hop) (by simpa only [opA, hop] using h) hR
  | assign y => exact does_move (.inr hop) (by simpa only [opA, hop] using h) hR
  | pick c y z => exact does_pick hop h hR
  | alloc t => exact does_alloc hop h hR
  | box t y => exact does_box hop h hR
  | build t ps => exact does_build hop h hR
  | buildSlice t n ps => exact does_buildSlice hop h hR
  | load t y => exact does_load hop h hR
  | store t y z => exact does_store hop h hR
  | nilCheck y => exact does_nilCheck hop h hR
  | binOp op t y z t' => exact does_binOp hop h hR
  | unOp op t y => exact does_unOp hop h hR
  | convert s t y => exact does_convert hop h hR
  | makeFunc f fi ca => exact does_makeFunc hop h hR
  | slice t y lo hi mx => exact does_slice hop h hR
  | fieldAddr s y i => exact does_fieldAddr hop h hR
  | field s y i => exact does_field hop h hR
  | indexAddr t y i => exact does_indexAddr hop h hR
  | index t y i => exact does_index hop h hR
  | extract y i => exact does_extract hop h hR
  | makeSlice t l c => exact does_makeSlice hop h hR
  | call c =>
    cases hcal : c.callee with
    | value f => exact (hc c f hop hcal).elim
    | builtin b => exact does_callB hop hcal h hR
    | invoke r m =>
      simp only [opA, hop] at h
      obtain ⟨args, lg1, h1, h⟩ := run_bind_some h
      simp only [callA, hcal] at h
      exact (run_fail h).elim
  | _ => simp only [opA, hop] at h; exact (run_fail h).elim
end

/-! ### renaming -/
section ren
variable {w : World} {S : Nat → Prop} {ρ1 ρ2 : Nat → Option Value} {f : Nat → Option Nat}

theorem optMapM {α β : Type} {g : α → Option β} : ∀ {l : List α} {m : List β}, l.mapM g = some m → All2 (fun x y => g x = some y) l m
  | [], m, h => by simp at h; subst h; trivial
  | x :: l, m, h => by
    rw [List.mapM_cons] at h
    cases hx : g x with
    | none => simp [hx] at h
    | some y =>
      cases hl : l.mapM g with
      | none => simp [hx, hl] at h
      | some ys => simp [hx, hl] at h; subst h; exact ⟨hx, optMapM hl⟩
theorem All2.ren {α β : Type} {R R' : α → β → Prop} {g : α → Option α} (h : ∀ a a' v, g a = some a' → R a v → R' a' v) : ∀ {l l' : List α} {m : List β}, All2 (fun x y => g x = some y) l l' → All2 R l m → All2 R' l' m
  | [], [], m, _, h2 => by rw [h2.nil_left]; trivial
  | a :: l, a' :: l', m, ⟨h1, h1'⟩, h2 => by
    obtain ⟨v, m', rfl, h3, h4⟩ := h2.cons_left
    exact ⟨h _ _ _ h1 h3, All2.ren h h1' h4⟩
  | [], _ :: _, _, h', _ => h'.elim
  | _ :: _, [], _, h', _ => h'.elim

variable (hf : ∀ m m' v, f m = some m' → ρ1 m = some v → ρ2 m' = some v)
include hf
theorem RepAV.ren {a a' : AV} {v : Value} (hr : a.ren f = some a') (h : RepAV w S ρ1 a v) : RepAV w S ρ2 a' v := by
  cases a with
  | d t x => simp [AV.ren] at hr; subst hr; exact h
  | raw u => simp [AV.ren] at hr; subst hr; exact h
  | ptr n off =>
    simp only [AV.ren] at hr
    cases hn : f n with
    | none => simp [hn] at hr
    | some m => simp [hn] at hr; subst hr; obtain ⟨b, h1, h2⟩ := h; exact ⟨b, hf _ _ _ hn h1, h2⟩
  | own n =>
    simp only [AV.ren] at hr
    cases hn : f n with
    | none => simp [hn] at hr
    | some m => simp [hn] at hr; subst hr; exact ⟨hf _ _ _ hn h.1, h.2⟩
  | arr n l =>
    simp only [AV.ren] at hr
    cases hn : f n with
    | none => simp [hn] at hr
    | some m => simp [hn] at hr; subst hr; obtain ⟨b, h1, h2⟩ := h; exact ⟨b, hf _ _ _ hn h1, h2⟩
  | fn g caps =>
    simp only [AV.ren] at hr
    cases hc : caps.mapM (fun p => (f p.1).map fun m => (m, p.2)) with
    | none => simp [hc] at hr
    | some caps' =>
      simp [hc] at hr; subst hr
      obtain ⟨vs, h1, h2⟩ := h
      refine ⟨vs, h1, ?_⟩
      have := optMapM hc
      refine All2.ren (R := fun (p : Nat × Nat) u => ∃ b, ρ1 p.1 = some (Ptr b 0) ∧ u = Ptr b p.2) (g := fun p => (f p.1).map fun m => (m, p.2)) ?_ this h2
      rintro ⟨n, off⟩ p' u hg ⟨b, hb, hu⟩
      cases hn : f n with
      | none => simp [hn] at hg
      | some m => simp [hn] at hg; subst hg; exact ⟨b, hf _ _ _ hn hb, hu⟩
theorem RepVV.ren {a a' : VV} {v : Value} (hr : a.ren f = some a') (h : RepVV w S ρ1 a v) : RepVV w S ρ2 a' v := by
  cases a with
  | one a =>
    simp only [VV.ren] at hr
    cases hn : a.ren f with
    | none => simp [hn] at hr
    | some m => simp [hn] at hr; subst hr; exact RepAV.ren hf hn h
  | agg cs =>
    simp only [VV.ren] at hr
    cases hn : cs.mapM (AV.ren f) with
    | none => simp [hn] at hr
    | some m =>
      simp [hn] at hr; subst hr
      obtain ⟨vs, h1, h2⟩ := h
      exact ⟨vs, h1, All2.ren (R := RepAV w S ρ1) (R' := RepAV w S ρ2) (fun a a' v hg hr => RepAV.ren hf hg hr) (optMapM hn) h2⟩
theorem RepTV.ren {a a' : TV} {v : Value} (hr : a.ren f = some a') (h : RepTV w S ρ1 a v) : RepTV w S ρ2 a' v := by
  cases a with
  | v x =>
    simp only [TV.ren] at hr
    cases hn : x.ren f with
    | none => simp [hn] at hr
    | some m => simp [hn] at hr; subst hr; exact RepVV.ren hf hn h
  | tup xs =>
    simp only [TV.ren] at hr
    cases hn : xs.mapM (VV.ren f) with
    | none => simp [hn] at hr
    | some m =>
      simp [hn] at hr; subst hr
      obtain ⟨vs, h1, h2⟩ := h
      exact ⟨vs, h1, All2.ren (R := RepVV w S ρ1) (R' := RepVV w S ρ2) (fun a a' v hg hr => RepVV.ren hf hg hr) (optMapM hn) h2⟩
  | elt e l i => simp [TV.ren] at hr; subst hr; exact h
  | eltOf e n i =>
    simp only [TV.ren] at hr
    cases hn : f n with
    | none => simp [hn] at hr
    | some m =>
      simp [hn] at hr; subst hr
      obtain ⟨h0, b, off, len, cap, h1, h2⟩ := h
      exact ⟨h0, b, off, len, cap, hf _ _ _ hn h1, h2⟩
  | fld e l i o => simp [TV.ren] at hr; subst hr; exact h
  | fldOf e n i o =>
    simp only [TV.ren] at hr
    cases hn : f n with
    | none => simp [hn] at hr
    | some m =>
      simp [hn] at hr; subst hr
      obtain ⟨h0, b, off, len, cap, h1, h2⟩ := h
      exact ⟨h0, b, off, len, cap, hf _ _ _ hn h1, h2⟩
  | undef => simp [TV.ren] at hr; subst hr; exact h
theorem RepBlk.ren {i n : Nat} {home : Option Nat} {B B' : Blk} (hi : f i = some n) (hr : B.ren f = some B') (h : RepBlk w S ρ1 i home B) : RepBlk w S ρ2 n home B' := by
  cases B with
  | box cs =>
    simp only [Blk.ren] at hr
    cases hn : cs.mapM (AV.ren f) with
    | none => simp [hn] at hr
    | some m =>
      simp [hn] at hr; subst hr
      obtain ⟨b, vs, e, h0, h1, h2, h3⟩ := h
      exact ⟨b, vs, e, h0, hf _ _ _ hi h1, h2, All2.ren (R := RepAV w S ρ1) (R' := RepAV w S ρ2) (fun a a' v hg hr => RepAV.ren hf hg hr) (optMapM hn) h3⟩
  | own t excl xs =>
    simp [Blk.ren] at hr; subst hr
    obtain ⟨v, h1, h2⟩ := h
    exact ⟨v, hf _ _ _ hi h1, h2⟩
  | settled t xs =>
    simp [Blk.ren] at hr; subst hr
    obtain ⟨v, h1, h2⟩ := h
    exact ⟨v, hf _ _ _ hi h1, h2⟩
end ren

theorem idx_some {l : List Nat} {n i : Nat} (h : idx l n = some i) : l[i]? = some n := by
  unfold idx at h
  rw [List.findIdx?_eq_some_iff_getElem] at h
  obtain ⟨hi, h1, _⟩ := h
  rw [List.getElem?_eq_getElem hi]
  simpa using h1
theorem nodupB_spec : ∀ {l : List Nat}, nodupB l = true → ∀ {i j n : Nat}, l[i]? = some n → l[j]? = some n → i = j
  | [], _, i, j, n, h, _ => by simp at h
  | m :: l, hd, i, j, n, hi, hj => by
    simp only [nodupB, Bool.and_eq_true, Bool.not_eq_true'] at hd
    have hm : m ∉ l := by simpa using hd.1
    cases i with
    | zero =>
      cases j with
      | zero => rfl
      | succ j =>
        simp at hi hj; subst hi
        exact (hm (List.mem_of_getElem? hj)).elim
    | succ i =>
      cases j with
      | zero =>
        simp at hi hj; subst hj
        exact (hm (List.mem_of_getElem? hi)).elim
      | succ j => simp at hi hj; rw [nodupB_spec hd.2 hi hj]

/-! ### packages -/
/-- What a call begins with, as the callee's frame. -/
def pkgCx (w : World) (S : Nat → Prop) (ρ : Nat → Option Value) (H : Nat → Option Nat) (blks : List Blk) (nin : Nat) : Cx :=
  { w0 := w, S0 := S, M0 := fun b => ∃ m C, blks[m]? = some C ∧ H m = some b, ρ0 := fun n => if n < nin then ρ n else none }
def live (blks : List Blk) (n : Nat) : Option (Option Blk) := (blks[n]?).map some

/-- How a call of a function is carried out. -/
def CallsTo (P : Program) (g : FuncId) (args : Array Value) (w : World) (R : Ending → World → Prop) : Prop :=
  ((callFunc g args).run P w = .ok (.enter g args) w ∧ Calls P g args w R) ∨ ∃ v w', (callFunc g args).run P w = .ok (.value v) w' ∧ R (.returned v) w'

/-- A contract that holds. -/
def CtOK (P : Program) (g : FuncId) (c : Ct) : Prop :=
  ∀ tvs blks res, c.F tvs blks some = some res → ∀ w S ρ H vals, Mem (pkgCx w S ρ H blks c.nin) w S ρ H (live blks) → All2 (RepTV w S ρ) tvs vals →
    CallsTo P g vals.toArray w fun e w' => ∃ v S' ρ' H', e = .returned v ∧ Mem (pkgCx w S ρ H blks c.nin) w' S' ρ' H' (fun n => res.blks[n]?) ∧ RepTV w' S' ρ' res.tv v

theorem sets_mem : ∀ {l : List (Nat × Option Blk)} {st : St} {n : Nat} {b : Option Blk}, (l.map (·.1)).Nodup → (n, b) ∈ l → (st.sets l).blk n = some b
  | (m, c) :: l, st, n, b, hd, h => by
    simp only [List.map_cons, List.nodup_cons] at hd
    rw [St.sets]
    simp only [List.mem_cons] at h
    rcases h with h | h
    · cases h
      rw [sets_other]
      · rw [set_blk, upd_same]
      · intro p hp e
        exact hd.1 (List.mem_map.2 ⟨p, hp, e⟩)
    · exact sets_mem hd.2 h

end Go.Proofs.Ytndkobhclggeiaa.Aev
