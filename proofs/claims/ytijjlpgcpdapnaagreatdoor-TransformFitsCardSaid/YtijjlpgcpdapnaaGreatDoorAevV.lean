import Derived.Test.YtijjlpgcpdapnaaGreatDoorAevP
import Derived.Scope
import Derived.RangeFuncLeaves
import Derived.Maps.RangeRun
/- AEV: an evaluator of loaded functions over abstract values, and that it is sound: M N O Q R S T U V. -/
/- AEV: renaming, calls, and that every operation does what the evaluator says. -/
namespace Go.Proofs.YtijjlpgcpdapnaaGreatDoor.Aev
set_option linter.unusedVariables false
set_option linter.unusedSimpArgs false
open Go

section
variable {P : Program} {sg : FuncId → Option (Nat × List Nat)} {fresh : Nat} {X : Cx} {w : World} {S : Nat → Prop} {ρ : Nat → Option Value} {H : Nat → Option Nat} {N : Nat} {st : St} {a : Act} {o : Oper} {x : Out} {lg lg' : List Loc}

theorem opA_does (h : (opA P sg fresh o).run st lg = some (.out x, lg')) (hR : Rep X w S ρ H N st a) (hc : ∀ c f, o.op = .call c → c.callee ≠ .value f) : Does P X N st a w S ρ (execOp a.eval o) x := by
 cases hop : o.op with
 | move y => exact does_move (.inl hop) (by simpa only [opA, hop] using h) hR
 | assign y => exact does_move (.inr hop) (by simpa only [opA, hop] using h) hR
 | pick c y z => exact does_pick hop h hR
 | alloc t => exact does_alloc hop h hR
 | box t y => exact does_box hop h hR
 | build t ps => exact does_build hop h hR
 | buildSlice t n ps => exact does_buildSlice hop h hR
 | load t y => exact does_load hop h hR
 | store t y z => exact does_store hop h hR
 | nilCheck y => exact does_nilCheck hop h hR
 | binOp op t y z t' => exact does_binOp hop h hR
 | unOp op t y => exact does_unOp hop h hR
 | convert s t y => exact does_convert hop h hR
 | makeFunc f fi ca => exact does_makeFunc hop h hR
 | slice t y lo hi mx => exact does_slice hop h hR
 | fieldAddr s y i => exact does_fieldAddr hop h hR
 | field s y i => exact does_field hop h hR
 | indexAddr t y i => exact does_indexAddr hop h hR
 | index t y i => exact does_index hop h hR
 | extract y i => exact does_extract hop h hR
 | makeSlice t l c => exact does_makeSlice hop h hR
 | makeInterface t y => exact does_makeInterface hop h hR
 | makeMap t r => exact does_makeMap hop h hR
 | insert t m k v => exact does_insert hop h hR
 | lookup t m k ok => exact does_lookup hop h hR
 | typeAssert y xT T ok => exact does_typeAssert hop h hR
 | call c =>
  cases hcal : c.callee with
  | value f => exact (hc c f hop hcal).elim
  | builtin b => exact does_callB hop hcal h hR
  | invoke r m =>
   simp only [opA, hop] at h
   obtain ⟨args, lg1, h1, h⟩ := rbs h
   simp only [callA, hcal] at h
   exact (rfl0 h).elim
 | _ => simp only [opA, hop] at h; exact (rfl0 h).elim
end

/-! ### renaming -/
section ren
variable {w : World} {S : Nat → Prop} {ρ1 ρ2 : Nat → Option Value} {f : Nat → Option Nat}

theorem optMapM {α β : Type} {g : α → Option β} : ∀ {l : List α} {m : List β}, l.mapM g = some m → All2 (fun x y => g x = some y) l m
 | [], m, h => by simp at h; subst h; trivial
 | x :: l, m, h => by
  rw [List.mapM_cons] at h
  cases hx : g x with
  | none => simp [hx] at h
  | some y =>
   cases hl : l.mapM g with
   | none => simp [hx, hl] at h
   | some ys => simp [hx, hl] at h; subst h; exact ⟨hx, optMapM hl⟩
theorem All2.ren {α β : Type} {R R' : α → β → Prop} {g : α → Option α} (h : ∀ a a' v, g a = some a' → R a v → R' a' v) : ∀ {l l' : List α} {m : List β}, All2 (fun x y => g x = some y) l l' → All2 R l m → All2 R' l' m
 | [], [], m, _, h2 => by rw [h2.nil_left]; trivial
 | a :: l, a' :: l', m, ⟨h1, h1'⟩, h2 => by
  obtain ⟨v, m', rfl, h3, h4⟩ := h2.cons_left
  exact ⟨h _ _ _ h1 h3, All2.ren h h1' h4⟩
 | [], _ :: _, _, h', _ => h'.elim
 | _ :: _, [], _, h', _ => h'.elim

variable (hf : ∀ m m' v, f m = some m' → ρ1 m = some v → ρ2 m' = some v)
include hf
theorem RepAV.ren {a a' : AV} {v : Value} (hr : a.ren f = some a') (h : RepAV w S ρ1 a v) : RepAV w S ρ2 a' v := by
 cases a with
 | d t x => simp [AV.ren] at hr; subst hr; exact h
 | raw u => simp [AV.ren] at hr; subst hr; exact h
 | ifc t ag ty x => simp [AV.ren] at hr; subst hr; exact h
 | slb n m =>
  simp only [AV.ren] at hr
  cases hn : f n with
  | none => simp [hn] at hr
  | some m => simp [hn] at hr; subst hr; obtain ⟨b, h1, h2⟩ := h; exact ⟨b, hf _ _ _ hn h1, h2⟩
 | mp n =>
  simp only [AV.ren] at hr
  cases hn : f n with
  | none => simp [hn] at hr
  | some m => simp [hn] at hr; subst hr; obtain ⟨b, h1, h2⟩ := h; exact ⟨b, hf _ _ _ hn h1, h2⟩
 | ptr n off =>
  simp only [AV.ren] at hr
  cases hn : f n with
  | none => simp [hn] at hr
  | some m => simp [hn] at hr; subst hr; obtain ⟨b, h1, h2⟩ := h; exact ⟨b, hf _ _ _ hn h1, h2⟩
 | own n =>
  simp only [AV.ren] at hr
  cases hn : f n with
  | none => simp [hn] at hr
  | some m => simp [hn] at hr; subst hr; exact ⟨hf _ _ _ hn h.1, h.2⟩
 | arr n l =>
  simp only [AV.ren] at hr
  cases hn : f n with
  | none => simp [hn] at hr
  | some m => simp [hn] at hr; subst hr; obtain ⟨b, h1, h2⟩ := h; exact ⟨b, hf _ _ _ hn h1, h2⟩
 | fn g caps =>
  simp only [AV.ren] at hr
  cases hc : caps.mapM (fun p => (f p.1).map fun m => (m, p.2)) with
  | none => simp [hc] at hr
  | some caps' =>
   simp [hc] at hr; subst hr
   obtain ⟨vs, h1, h2⟩ := h
   refine ⟨vs, h1, ?_⟩
   have := optMapM hc
   refine All2.ren (R := fun (p : Nat × Nat) u => ∃ b, ρ1 p.1 = some (Ptr b 0) ∧ u = Ptr b p.2) (g := fun p => (f p.1).map fun m => (m, p.2)) ?_ this h2
   rintro ⟨n, off⟩ p' u hg ⟨b, hb, hu⟩
   cases hn : f n with
   | none => simp [hn] at hg
   | some m => simp [hn] at hg; subst hg; exact ⟨b, hf _ _ _ hn hb, hu⟩
theorem RepVV.ren {a a' : VV} {v : Value} (hr : a.ren f = some a') (h : RepVV w S ρ1 a v) : RepVV w S ρ2 a' v := by
 cases a with
 | one a =>
  simp only [VV.ren] at hr
  cases hn : a.ren f with
  | none => simp [hn] at hr
  | some m => simp [hn] at hr; subst hr; exact RepAV.ren hf hn h
 | agg cs =>
  simp only [VV.ren] at hr
  cases hn : cs.mapM (AV.ren f) with
  | none => simp [hn] at hr
  | some m =>
   simp [hn] at hr; subst hr
   obtain ⟨vs, h1, h2⟩ := h
   exact ⟨vs, h1, All2.ren (R := RepAV w S ρ1) (R' := RepAV w S ρ2) (fun a a' v hg hr => RepAV.ren hf hg hr) (optMapM hn) h2⟩
theorem RepTV.ren {a a' : TV} {v : Value} (hr : a.ren f = some a') (h : RepTV w S ρ1 a v) : RepTV w S ρ2 a' v := by
 cases a with
 | v x =>
  simp only [TV.ren] at hr
  cases hn : x.ren f with
  | none => simp [hn] at hr
  | some m => simp [hn] at hr; subst hr; exact RepVV.ren hf hn h
 | tup xs =>
  simp only [TV.ren] at hr
  cases hn : xs.mapM (VV.ren f) with
  | none => simp [hn] at hr
  | some m =>
   simp [hn] at hr; subst hr
   obtain ⟨vs, h1, h2⟩ := h
   exact ⟨vs, h1, All2.ren (R := RepVV w S ρ1) (R' := RepVV w S ρ2) (fun a a' v hg hr => RepVV.ren hf hg hr) (optMapM hn) h2⟩
 | elt e l i => simp [TV.ren] at hr; subst hr; exact h
 | eltOf e n i =>
  simp only [TV.ren] at hr
  cases hn : f n with
  | none => simp [hn] at hr
  | some m =>
   simp [hn] at hr; subst hr
   obtain ⟨h0, b, off, len, cap, h1, h2⟩ := h
   exact ⟨h0, b, off, len, cap, hf _ _ _ hn h1, h2⟩
 | fld e l i o => simp [TV.ren] at hr; subst hr; exact h
 | fldOf e n i o =>
  simp only [TV.ren] at hr
  cases hn : f n with
  | none => simp [hn] at hr
  | some m =>
   simp [hn] at hr; subst hr
   obtain ⟨h0, b, off, len, cap, h1, h2⟩ := h
   exact ⟨h0, b, off, len, cap, hf _ _ _ hn h1, h2⟩
 | undef => simp [TV.ren] at hr; subst hr; exact h
theorem RepBlk.ren {i n : Nat} {home : Option Nat} {B B' : Blk} (hi : f i = some n) (hr : B.ren f = some B') (h : RepBlk w S ρ1 i home B) : RepBlk w S ρ2 n home B' := by
 cases B with
 | box cs =>
  simp only [Blk.ren] at hr
  cases hn : cs.mapM (AV.ren f) with
  | none => simp [hn] at hr
  | some m =>
   simp [hn] at hr; subst hr
   obtain ⟨b, vs, e, h0, h1, h2, h3⟩ := h
   exact ⟨b, vs, e, h0, hf _ _ _ hi h1, h2, All2.ren (R := RepAV w S ρ1) (R' := RepAV w S ρ2) (fun a a' v hg hr => RepAV.ren hf hg hr) (optMapM hn) h3⟩
 | own t excl xs =>
  simp [Blk.ren] at hr; subst hr
  obtain ⟨v, h1, h2⟩ := h
  exact ⟨v, hf _ _ _ hi h1, h2⟩
 | settled t xs =>
  simp [Blk.ren] at hr; subst hr
  obtain ⟨v, h1, h2⟩ := h
  exact ⟨v, hf _ _ _ hi h1, h2⟩
 | mp kt et es =>
  simp [Blk.ren] at hr; subst hr
  obtain ⟨b, vs, h0, h1, h2⟩ := h
  exact ⟨b, vs, h0, hf _ _ _ hi h1, h2⟩
end ren

theorem idx_some {l : List Nat} {n i : Nat} (h : idx l n = some i) : l[i]? = some n := by
 unfold idx at h
 rw [List.findIdx?_eq_some_iff_getElem] at h
 obtain ⟨hi, h1, _⟩ := h
 rw [List.getElem?_eq_getElem hi]
 simpa using h1
theorem nodupB_spec : ∀ {l : List Nat}, nodupB l = true → ∀ {i j n : Nat}, l[i]? = some n → l[j]? = some n → i = j
 | [], _, i, j, n, h, _ => by simp at h
 | m :: l, hd, i, j, n, hi, hj => by
  simp only [nodupB, Bool.and_eq_true, Bool.not_eq_true'] at hd
  have hm : m ∉ l := by simpa using hd.1
  cases i with
  | zero =>
   cases j with
   | zero => rfl
   | succ j =>
    simp at hi hj; subst hi
    exact (hm (List.mem_of_getElem? hj)).elim
  | succ i =>
   cases j with
   | zero =>
    simp at hi hj; subst hj
    exact (hm (List.mem_of_getElem? hi)).elim
   | succ j => simp at hi hj; rw [nodupB_spec hd.2 hi hj]

/-! ### packages -/
def pkgCx (w : World) (S : Nat → Prop) (ρ : Nat → Option Value) (H : Nat → Option Nat) (blks : List Blk) (nin : Nat) : Cx :=
 { w0 := w, S0 := S, M0 := fun b => ∃ m C, blks[m]? = some C ∧ H m = some b, ρ0 := fun n => if n < nin then ρ n else none }
def live (blks : List Blk) (n : Nat) : Option (Option Blk) := (blks[n]?).map some

def CallsTo (P : Program) (g : FuncId) (args : Array Value) (w : World) (R : Ending → World → Prop) : Prop :=
 ((callFunc g args).run P w = .ok (.enter g args) w ∧ Calls P g args w R) ∨ ∃ v w', (callFunc g args).run P w = .ok (.value v) w' ∧ R (.returned v) w'

def CtOK (P : Program) (g : FuncId) (c : Ct) : Prop :=
 ∀ tvs blks res, c.F tvs blks some = some res → ∀ w S ρ H vals, Mem (pkgCx w S ρ H blks c.nin) w S ρ H (live blks) → All2 (RepTV w S ρ) tvs vals →
  CallsTo P g vals.toArray w fun e w' => ∃ v S' ρ' H', e = .returned v ∧ Mem (pkgCx w S ρ H blks c.nin) w' S' ρ' H' (fun n => res.blks[n]?) ∧ RepTV w' S' ρ' res.tv v

end Go.Proofs.YtijjlpgcpdapnaaGreatDoor.Aev

/- AEV: a call of a function by its contract. -/
namespace Go.Proofs.YtijjlpgcpdapnaaGreatDoor.Aev
set_option linter.unusedVariables false
set_option linter.unusedSimpArgs false
open Go

section
variable {P : Program} {sg : FuncId → Option (Nat × List Nat)} {fresh : Nat} {X : Cx} {w : World} {S : Nat → Prop} {ρ : Nat → Option Value} {H : Nat → Option Nat} {N : Nat} {st : St} {a : Act} {o : Oper} {x : Out} {lg lg' : List Loc}

theorem normT_spec {keep : Bool} {t : Option TypeId} {y : TV} {r : (TV × List (Nat × Option Blk)) × List Loc} (h : (normT P keep t y).run st lg = some r) (hm : Mem X w S ρ H st.blk) :
  ToSettle st r.1.2 ∧ ∀ {S' : Nat → Prop} {v : Value}, (∀ b, S b → S' b) → Settled w S' ρ r.1.2 → RepTV w S ρ y v → RepTV w S' ρ r.1.1 v := by
 unfold normT at h
 split at h
 ·have := run_pure' h; subst this
  exact ⟨ToSettle.nil, fun hS _ hv => hv.mono hS (fun _ _ => rfl) (fun _ _ x => x)⟩
 ·split at h
  ·have := run_pure' h; subst this
   exact ⟨ToSettle.nil, fun hS _ hv => hv.mono hS (fun _ _ => rfl) (fun _ _ x => x)⟩
  ·obtain ⟨⟨y', wr⟩, lg1, h1, h⟩ := rbs h
   have := run_pure h; subst this
   exact normVV_spec h1 hm
  ·have := run_pure' h; subst this
   exact ⟨ToSettle.nil, fun hS _ hv => hv.mono hS (fun _ _ => rfl) (fun _ _ x => x)⟩
theorem normAll_spec {mv : List Nat} {ts : List TypeId} : ∀ {ys : List TV} {i : Nat} {lg : List Loc} {r : (List TV × List (Nat × Option Blk)) × List Loc}, (normAll P mv ts i ys).run st lg = some r → Mem X w S ρ H st.blk →
  ToSettle st r.1.2 ∧ ∀ {S' : Nat → Prop} {vs : List Value}, (∀ b, S b → S' b) → Settled w S' ρ r.1.2 → All2 (RepTV w S ρ) ys vs → All2 (RepTV w S' ρ) r.1.1 vs
 | [], i, lg, r, h, hm => by have := run_pure' h; subst this; exact ⟨ToSettle.nil, fun _ _ hv => by rw [hv.nil_left]; trivial⟩
 | y :: ys, i, lg, r, h, hm => by
  simp only [normAll] at h
  obtain ⟨⟨y', wr⟩, lg1, h1, h⟩ := rbs h
  obtain ⟨⟨ys', wr'⟩, lg2, h2, h⟩ := rbs h
  have := run_pure h; subst this
  obtain ⟨s1, r1⟩ := normT_spec h1 hm
  obtain ⟨s2, r2⟩ := normAll_spec h2 hm
  refine ⟨s1.append s2, fun hS hs hv => ?_⟩
  obtain ⟨v, m, rfl, hv1, hv2⟩ := hv.cons_left
  exact ⟨r1 hS hs.left hv1, r2 hS hs.right hv2⟩

theorem reach_spec : ∀ {k : Nat} {seen todo : List Nat} {lg : List Loc} {r : List (Nat × Blk) × List Loc}, (reach k seen todo).run st lg = some r → ∀ p ∈ r.1, st.blk p.1 = some (some p.2)
 | 0, _, _, lg, r, h => (rfl0 h).elim
 | k + 1, _, [], lg, r, h => by have := run_pure' h; subst this; intro p hp; simp at hp
 | k + 1, seen, n :: todo, lg, r, h => by
  simp only [reach] at h
  split at h
  ·exact reach_spec h
  ·obtain ⟨b, lg1, h1, h⟩ := rbs h
   obtain ⟨q, lg2, h2, h⟩ := rbs h
   have := run_pure h; subst this
   have hb := run_rB h1
   intro p hp
   simp only [List.mem_cons] at hp
   rcases hp with rfl | hp
   ·exact hb
   ·exact reach_spec h2 p hp

structure ReqOK (st : St) (args : List TV) (r : Req) : Prop where
 len : r.blks.length = r.names.length
 nin : r.nin ≤ r.names.length
 nodup : ∀ {i j n : Nat}, r.names[i]? = some n → r.names[j]? = some n → i = j
 apart : ∀ n ∈ r.names, n ∉ r.wr.map (·.1)
 blk : ∀ (i n : Nat), r.names[i]? = some n → ∃ b b', st.blk n = some (some b) ∧ r.blks[i]? = some b' ∧ b.ren (idx r.names) = some b'
 args : All2 (fun x y => TV.ren (idx r.names) x = some y) args r.args

theorem pack_spec {g : FuncId} {nin : Nat} {args : List TV} {wr : List (Nat × Option Blk)} {r : Req} (h : (pack g nin args wr).run st lg = some (r, lg')) :
  r.f = g ∧ r.nin = nin ∧ r.wr = wr ∧ ReqOK st args r := by
 unfold pack at h
 obtain ⟨nb, lg1, h1, h⟩ := rbs h
 obtain ⟨args', lg2, h2, h⟩ := rbs h
 obtain ⟨blks', lg3, h3, h⟩ := rbs h
 have ha := run_ofO h2
 have hb := run_ofO h3
 simp only at ha hb
 split at h
 ·rename_i hc
  simp only [Bool.and_eq_true, decide_eq_true_eq] at hc
  obtain ⟨⟨c1, c2⟩, c3⟩ := hc
  cases run_pure' h
  refine ⟨rfl, rfl, rfl, ?_⟩
  have hbl := optMapM hb
  refine { len := ?_, nin := c3, nodup := fun hi hj => nodupB_spec c2 hi hj, apart := apartL_spec c1, blk := ?_, args := optMapM ha }
  ·have := hbl.length; simp only [List.length_map] at this ⊢; exact this.symm
  ·intro i n hi
   simp only [List.getElem?_map, Option.map_eq_some_iff] at hi
   obtain ⟨p, hp, rfl⟩ := hi
   obtain ⟨b', hb', hr⟩ := hbl.get (i := i) (a := p.2) (by simp only [List.getElem?_map, hp, Option.map_some])
   refine ⟨p.2, b', reach_spec h1 p ?_, hb', hr⟩
   have := List.mem_of_getElem? hp
   simp only [List.mem_append, List.mem_filter] at this
   rcases this with ⟨h, _⟩ | ⟨h, _⟩ <;> exact h
 ·exact (rfl0 h).elim

theorem caps_ptrs {S' : Nat → Prop} : ∀ {caps : List (Nat × Nat)} {m : List Value}, All2 (fun (p : Nat × Nat) u => ∃ b, ρ p.1 = some (Ptr b 0) ∧ u = Ptr b p.2) caps m →
  All2 (RepTV w S' ρ) (caps.map fun p => .v (.one (.ptr p.1 p.2))) m
 | [], m, h => by rw [h.nil_left]; trivial
 | p :: caps, m, h => by
  obtain ⟨u, m', rfl, hu, hm⟩ := h.cons_left
  exact ⟨hu, caps_ptrs hm⟩

theorem method_run {t : TypeId} {name : String} {g : FuncId} (h : methodA P t name = some g) (n : Nat) (v : Value) (w : World) : (method (n + 1) t v name).run P w = .ok (g, v) w := by
 unfold methodA at h
 split at h
 ·rename_i m hm
  split at h
  ·rename_i hp
   obtain ⟨i, hi, hf⟩ := Option.bind_eq_some_iff.1 hm
   have hp' : m.path.toList = [] := by simpa using hp
   split at h
   ·simp at h
   ·rename_i f d hnp hfun hu
    simp at h; subst h
    have hr : ∀ s, (receiverAt t (.val v) false s).run P w = .ok v w := by
     intro s
     unfold receiverAt
     simp only [Sem.run_bind, ur0 hu, Result.andThen]
     cases d <;> first | rfl | exact (hnp _ rfl).elim
    simp only [method, Sem.run_bind, typeInfo_run hi, Result.andThen, hf, hp', follow, hfun, Sem.run_pure, hr]
   ·simp at h
  ·simp at h
 ·simp at h
theorem reqA_spec {c : Call} {f : Operand} {r : Req} (hop : o.op = .call c) (hcal : c.callee = .value f ∨ ∃ nm, c.callee = .invoke f nm) (h : (reqA P sg c f).run st lg = some (r, lg')) (hR : Rep X w S ρ H N st a) :
  ∃ mv args vals, sg r.f = some (r.nin, mv) ∧ ReqOK st args r ∧ ToSettle st r.wr ∧ (∀ {S' : Nat → Prop}, (∀ b, S b → S' b) → Settled w S' ρ r.wr → All2 (RepTV w S' ρ) args vals) ∧ (execOp a.eval o).run P w = (callFunc r.f vals.toArray).run P w := by
 simp only [reqA] at h
 obtain ⟨args, lg1, h1, h⟩ := rbs h
 have hargs := args_rep hR h1
 obtain ⟨fv, lg2, h2, h⟩ := rbs h
 have hf := opd_rep hR h2
 simp only at h hf
 split at h
 ·rename_i f' g caps hcal'
  have hcal : c.callee = .value f := by
   rcases hcal with hcal | ⟨nm, hcal⟩
   ·exact hcal
   ·rw [hcal] at hcal'; cases hcal'
  split at h
  ·rename_i nin mv hsg
   obtain ⟨⟨args', wr⟩, lg3, h3, h⟩ := rbs h
   obtain ⟨e1, e2, e3, hok⟩ := pack_spec h
   obtain ⟨s1, n1⟩ := normAll_spec h3 hR.mem
   obtain ⟨vs, hfv, hcaps⟩ := hf
   simp only at s1 n1
   refine ⟨mv, _, (c.args.map a.eval).toList ++ vs.toList, by rw [e1, e2]; exact hsg, hok, by rw [e3]; exact s1, fun {S'} hS hs => ?_, ?_⟩
   ·rw [e3] at hs
    refine (n1 hS hs hargs).append ?_
    exact caps_ptrs hcaps
   ·rw [e1]
    have : (do let d ← resolve a.eval c o.type; invoke d.target d.args : Sem Next) = callFunc g (c.args.map a.eval ++ vs) := by
     simp only [resolve, hcal, hfv, Deferred.ofValue]
     show invoke (.fn (.func g) vs) (#[] ++ c.args.map a.eval) = _
     simp [invoke]
    simp only [execOp, hop, this]
    congr 2
    simp
  ·exact (rfl0 h).elim
 ·rename_i f' nm t ag ty x hcal'
  have hcal : c.callee = .invoke f nm := by
   rcases hcal with hcal | ⟨nm', hcal⟩
   ·rw [hcal] at hcal'; cases hcal'
   ·rw [hcal] at hcal'; cases hcal'; exact hcal
  split at h
  ·rename_i g y hg hy
   split at h
   ·rename_i nin mv hsg
    obtain ⟨⟨args', wr⟩, lg3, h3, h⟩ := rbs h
    obtain ⟨e1, e2, e3, hok⟩ := pack_spec h
    obtain ⟨s1, n1⟩ := normAll_spec h3 hR.mem
    obtain ⟨u, hfv, hu⟩ := behindA_rep hy hf
    simp only at s1 n1
    refine ⟨mv, _, u :: (c.args.map a.eval).toList, by rw [e1, e2]; exact hsg, hok, by rw [e3]; exact s1, fun {S'} hS hs => ?_, ?_⟩
    ·rw [e3] at hs
     exact n1 hS hs ⟨hu, hargs⟩
    ·rw [e1]
     simp only [execOp, hop, resolve, hcal, hfv]
     show (invoke (.fn (.method nm) #[]) (#[.iface t u] ++ c.args.map a.eval)).run P w = _
     have e : (#[Value.iface t u] ++ c.args.map a.eval).extract 1 (#[Value.iface t u] ++ c.args.map a.eval).size = c.args.map a.eval := by
      apply Array.ext'
      simp
      exact List.take_of_length_le (by simp)
     have e0 : (#[Value.iface t u] ++ c.args.map a.eval)[0]? = some (.iface t u) := by
      rw [Array.getElem?_append_left (by simp)]
      rfl
     simp only [invoke, e0, e, callMethod, Sem.run_bind]
     have hm := method_run hg (P.types.size + Made.depth - 1) u w
     have hd : P.types.size + Made.depth - 1 + 1 = P.types.size + Made.depth := by
      have h100 : Made.depth = 100 := rfl
      omega
     rw [hd] at hm
     show ((program.run P w).andThen fun p w' => _) = _
     simp only [run_program, Result.andThen, hm]
     congr 2
     apply Array.ext'
     simp
   ·exact (rfl0 h).elim
  ·exact (rfl0 h).elim
 ·exact (rfl0 h).elim
end
end Go.Proofs.YtijjlpgcpdapnaaGreatDoor.Aev

/- AEV: behind a call, the caller's state. -/
namespace Go.Proofs.YtijjlpgcpdapnaaGreatDoor.Aev
set_option linter.unusedVariables false
set_option linter.unusedSimpArgs false
open Go

theorem sets_idx : ∀ {l : List (Nat × Option Blk)} {st : St} {n : Nat} {b : Option Blk} {i : Nat}, l[i]? = some (n, b) → (∀ j p, l[j]? = some p → p.1 = n → j = i) → (st.sets l).blk n = some b
 | [], st, n, b, i, h, _ => by simp at h
 | (m, c) :: l, st, n, b, 0, h, hu => by
  simp at h
  obtain ⟨rfl, rfl⟩ := h
  rw [St.sets, sets_other]
  ·rw [set_blk, upd_same]
  ·intro p hp e
   obtain ⟨j, hj⟩ := List.getElem?_of_mem hp
   have := hu (j + 1) p (by simpa using hj) e
   omega
 | (m, c) :: l, st, n, b, i + 1, h, hu => by
  rw [St.sets]
  refine sets_idx (i := i) (by simpa using h) (fun j p hj e => ?_)
  have := hu (j + 1) p (by simpa using hj) e
  omega

theorem idx_of {l : List Nat} (hn : ∀ {i j n : Nat}, l[i]? = some n → l[j]? = some n → i = j) {n i : Nat} (h : l[i]? = some n) : idx l n = some i := by
 cases hx : idx l n with
 | none =>
  unfold idx at hx
  rw [List.findIdx?_eq_none_iff] at hx
  have := hx n (List.mem_of_getElem? h)
  simp at this
 | some j => rw [hn (idx_some hx) h]

section
variable {P : Program} {sg : FuncId → Option (Nat × List Nat)} {fresh : Nat} {X : Cx} {w : World} {S : Nat → Prop} {ρ : Nat → Option Value} {H : Nat → Option Nat} {N : Nat} {st : St} {a : Act} {o : Oper} {x : Out} {lg lg' : List Loc}

theorem freshOk_spec : ∀ {k : Nat} {lg : List Loc} {r : Unit × List Loc}, (freshOk fresh k).run st lg = some r → ∀ j, j < k → st.blk (fresh + j) = none
 | 0, lg, r, h, j, hj => by omega
 | k + 1, lg, r, h, j, hj => by
  simp only [freshOk] at h
  have h := run_rdB h
  split at h
  ·rename_i hn
   by_cases e : j = k
   ·rw [e]; exact hn
   ·exact freshOk_spec h j (by omega)
  ·exact (rfl0 h).elim

structure UnpackOK (st : St) (r : Req) (fresh : Nat) (s : Res) (x : Out) (bs : List (Option Blk)) : Prop where
 tv : s.tv.ren (back r.names r.nin fresh) = some x.tv
 all : All2 (fun b b' => renO (back r.names r.nin fresh) b = some b') s.blks bs
 nin : r.nin ≤ s.blks.length
 free : ∀ j, j < s.blks.length - r.nin → st.blk (fresh + j) = none
 wr : x.wr = r.wr ++ (r.names.drop r.nin).map (fun n => (n, none)) ++ (r.names.take r.nin).zip bs ++ ((bs.drop r.nin).zipIdx fresh).map fun p => (p.2, p.1)

theorem unpack_spec {r : Req} {s : Res} (h : (unpack r fresh s).run st lg = some (x, lg')) : (r.names = [] ∧ scalarTV s.tv = true ∧ x = ⟨s.tv, []⟩) ∨ ∃ bs, UnpackOK st r fresh s x bs := by
 unfold unpack at h
 split at h
 ·rename_i hc
  simp only [Bool.and_eq_true, List.isEmpty_iff] at hc
  cases run_pure' h
  exact .inl ⟨hc.1.1, hc.2, rfl⟩
 right
 obtain ⟨tv, lg1, h1, h⟩ := rbs h
 obtain ⟨bs, lg2, h2, h⟩ := rbs h
 obtain ⟨_, lg3, h3, h⟩ := rbs h
 split at h
 ·rename_i hc
  simp only [Bool.and_eq_true, decide_eq_true_eq] at hc
  cases run_pure' h
  exact ⟨bs, { tv := run_ofO h1, all := optMapM (run_ofO h2), nin := hc.1, free := freshOk_spec h3, wr := rfl }⟩
 ·exact (rfl0 h).elim

theorem renO_some {f : Nat → Option Nat} {b : Option Blk} {B : Blk} (h : renO f b = some (some B)) : ∃ B0, b = some B0 ∧ B0.ren f = some B := by
 cases b with
 | none => simp [renO] at h
 | some B0 =>
  simp only [renO] at h
  cases hr : B0.ren f with
  | none => simp [hr] at h
  | some B' => simp [hr] at h; subst h; exact ⟨B0, rfl, hr⟩

theorem pkg_mem {r : Req} {args : List TV} {S1 : Nat → Prop} {H1 : Nat → Option Nat} (hok : ReqOK st args r) (hm : Mem X w S1 ρ H1 (st.sets r.wr).blk) :
  let ρp := fun i => (r.names[i]?).bind ρ
  let Hp := fun i => (r.names[i]?).bind H1
  Mem (pkgCx w S1 ρp Hp r.blks r.nin) w S1 ρp Hp (live r.blks) ∧ (∀ n ∈ r.names, ∃ B, (st.sets r.wr).blk n = some (some B)) := by
 intro ρp Hp
 have hlive : ∀ n ∈ r.names, (st.sets r.wr).blk n = st.blk n := fun n hn => by
  rw [sets_other]
  intro p hp e
  exact hok.apart n hn (List.mem_map.2 ⟨p, hp, e⟩)
 have get : ∀ i B, live r.blks i = some (some B) → ∃ n b, r.names[i]? = some n ∧ (st.sets r.wr).blk n = some (some b) ∧ b.ren (idx r.names) = some B := by
  intro i B hB
  have hB : r.blks[i]? = some B := by
   unfold live at hB
   cases hx : r.blks[i]? with
   | none => simp [hx] at hB
   | some C => simp [hx] at hB; rw [hB]
  have hi : i < r.names.length := by
   rw [← hok.len]
   rcases Nat.lt_or_ge i r.blks.length with h | h
   ·exact h
   ·simp [List.getElem?_eq_none h] at hB
  obtain ⟨b, b', h1, h2, h3⟩ := hok.blk i r.names[i] (List.getElem?_eq_getElem hi)
  rw [hB] at h2; cases h2
  exact ⟨r.names[i], b, List.getElem?_eq_getElem hi, by rw [hlive _ (List.getElem_mem hi)]; exact h1, h3⟩
 have hp : ∀ {i n : Nat}, r.names[i]? = some n → ρp i = ρ n ∧ Hp i = H1 n := fun h => by simp [ρp, Hp, h]
 refine ⟨?_, fun n hn => ?_⟩
 ·refine { rep := ?_, sep := ?_, apart := ?_, homes := ?_, old := hm.old, never := ?_, s0 := fun _ h => h, smine := fun _ h => .inl h, names := ?_, os := rfl, tape := rfl, output := rfl, size := Nat.le_refl _, same := fun _ _ _ => rfl, gl := hm.gl }
  ·intro i B hB
   obtain ⟨n, b, h1, h2, h3⟩ := get i B hB
   rw [(hp h1).2]
   refine RepBlk.ren (ρ1 := ρ) (f := idx r.names) (fun m m' v h4 h5 => ?_) (idx_of (fun {_ _ _} => hok.nodup) h1) h3 (hm.rep n b h2)
   rw [(hp (idx_some h4)).1]; exact h5
  ·intro i j B C b hB hC h1 h2
   obtain ⟨n, b1, k1, k2, k3⟩ := get i B hB
   obtain ⟨m, b2, j1, j2, j3⟩ := get j C hC
   rw [(hp k1).2] at h1; rw [(hp j1).2] at h2
   have := hm.sep n m b1 b2 b k2 j2 h1 h2
   subst this
   exact hok.nodup k1 j1
  ·intro i B b hB h1
   obtain ⟨n, b1, k1, k2, k3⟩ := get i B hB
   rw [(hp k1).2] at h1
   exact hm.apart n b1 b k2 h1
  ·intro i B b hB h1
   refine .inl ⟨i, B, ?_, h1⟩
   unfold live at hB
   cases hx : r.blks[i]? with
   | none => simp [hx] at hB
   | some C => simp [hx] at hB; rw [hB]
  ·intro i hi
   unfold live at hi
   have hi : r.blks[i]? = none := by simpa using hi
   have : r.names[i]? = none := by
    rw [List.getElem?_eq_none_iff] at hi ⊢
    rw [← hok.len]; exact hi
   simp [ρp, this]
  ·intro i v hi
   simp only [pkgCx] at hi
   split at hi
   ·exact hi
   ·simp at hi
 ·obtain ⟨i, hi⟩ := List.getElem?_of_mem hn
  obtain ⟨b, b', h1, _, _⟩ := hok.blk i n hi
  exact ⟨b, by rw [hlive n hn]; exact h1⟩

theorem call_mem {r : Req} {args : List TV} {S1 : Nat → Prop} {H1 : Nat → Option Nat} (hok : ReqOK st args r) (hm : Mem X w S1 ρ H1 (st.sets r.wr).blk) (hts : ToSettle st r.wr) {s : Res} {bs : List (Option Blk)} (hu : UnpackOK st r fresh s x bs)
  {w' : World} {S' : Nat → Prop} {ρ' : Nat → Option Value} {H' : Nat → Option Nat}
  (hpost : Mem (pkgCx w S1 (fun i => (r.names[i]?).bind ρ) (fun i => (r.names[i]?).bind H1) r.blks r.nin) w' S' ρ' H' (fun n => s.blks[n]?)) {v : Value} (hv : RepTV w' S' ρ' s.tv v) :
  ∃ ρ'' H'', Mem X w' S' ρ'' H'' (st.sets x.wr).blk ∧ More w w' S1 S' ρ ρ'' ∧ RepTV w' S' ρ'' x.tv v := by
 obtain ⟨hpk, hall⟩ := pkg_mem hok hm
 have hbl := hu.all.length
 -- names and places
 let inF : Nat → Prop := fun n => fresh ≤ n ∧ n < fresh + (s.blks.length - r.nin)
 have hfree1 : ∀ n, inF n → (st.sets r.wr).blk n = none := by
  intro n hn
  have h0 : st.blk n = none := by
   have := hu.free (n - fresh) (by omega)
   rwa [show fresh + (n - fresh) = n by omega] at this
  rw [sets_other]
  ·exact h0
  ·intro p hp e
   exact hts.no hp (by rw [e]; exact h0)
 have hnotF : ∀ n ∈ r.names, ¬ inF n := by
  intro n hn hf
  obtain ⟨B, hB⟩ := hall n hn
  rw [hfree1 n hf] at hB; simp at hB
 classical
 let ρ'' : Nat → Option Value := fun n => if inF n then ρ' (r.nin + (n - fresh)) else ρ n
 let H'' : Nat → Option Nat := fun n => if inF n then H' (r.nin + (n - fresh)) else match idx (r.names.take r.nin) n with | some i => H' i | none => H1 n
 have hρF : ∀ n, inF n → ρ'' n = ρ' (r.nin + (n - fresh)) := fun n h => by simp [ρ'', h]
 have hρO : ∀ n, ¬ inF n → ρ'' n = ρ n := fun n h => by simp [ρ'', h]
 -- the state's blocks
 let st1 := st.sets r.wr
 let l1 := (r.names.drop r.nin).map (fun n => (n, (none : Option Blk)))
 let l2 := (r.names.take r.nin).zip bs
 let l3 := ((bs.drop r.nin).zipIdx fresh).map fun p => (p.2, p.1)
 have hst : (st.sets x.wr).blk = (((st1.sets l1).sets l2).sets l3).blk := by rw [hu.wr, sets_append, sets_append, sets_append]
 have hl3 : ∀ j p, l3[j]? = some p → p.1 = fresh + j ∧ j < s.blks.length - r.nin ∧ bs[r.nin + j]? = some p.2 := by
  intro j p hj
  simp only [l3, List.getElem?_map, Option.map_eq_some_iff] at hj
  obtain ⟨q, hq, rfl⟩ := hj
  rw [List.getElem?_zipIdx, List.getElem?_drop] at hq
  simp only [Option.map_eq_some_iff] at hq
  obtain ⟨b, hb, rfl⟩ := hq
  have hlt : r.nin + j < bs.length := by
   rcases Nat.lt_or_ge (r.nin + j) bs.length with h | h
   ·exact h
   ·simp [List.getElem?_eq_none h] at hb
  exact ⟨rfl, by omega, hb⟩
 have hl2 : ∀ j p, l2[j]? = some p → j < r.nin ∧ r.names[j]? = some p.1 ∧ bs[j]? = some p.2 := by
  intro j p hj
  simp only [l2] at hj
  rw [List.getElem?_zip_eq_some] at hj
  obtain ⟨h1, h2⟩ := hj
  have hlt : j < r.nin := by
   rcases Nat.lt_or_ge j r.nin with h | h
   ·exact h
   ·have := List.getElem?_eq_none (l := r.names.take r.nin) (i := j) (by simp; omega)
    rw [this] at h1; simp at h1
  rw [List.getElem?_take_of_lt hlt] at h1
  exact ⟨hlt, h1, h2⟩
 have hl1 : ∀ j p, l1[j]? = some p → r.names[r.nin + j]? = some p.1 ∧ p.2 = none := by
  intro j p hj
  simp only [l1, List.getElem?_map, Option.map_eq_some_iff, List.getElem?_drop] at hj
  obtain ⟨n, hn, rfl⟩ := hj
  exact ⟨hn, rfl⟩
 have blkF : ∀ j, j < s.blks.length - r.nin → ∃ b, bs[r.nin + j]? = some b ∧ (st.sets x.wr).blk (fresh + j) = some b := by
  intro j hj
  have hlt : r.nin + j < bs.length := by omega
  refine ⟨bs[r.nin + j], List.getElem?_eq_getElem hlt, ?_⟩
  rw [hst]
  refine sets_idx (i := j) ?_ (fun k p hk e => ?_)
  ·simp only [l3, List.getElem?_map, List.getElem?_zipIdx, List.getElem?_drop, List.getElem?_eq_getElem hlt, Option.map_some]
  ·have := (hl3 k p hk).1; omega
 have notl3 : ∀ n, ¬ inF n → ((((st1.sets l1).sets l2).sets l3).blk n = ((st1.sets l1).sets l2).blk n) := by
  intro n hn
  rw [sets_other]
  intro p hp e
  obtain ⟨j, hj⟩ := List.getElem?_of_mem hp
  obtain ⟨h1, h2, _⟩ := hl3 j p hj
  exact hn ⟨by omega, by omega⟩
 have blkI : ∀ i n, i < r.nin → r.names[i]? = some n → ∃ b, bs[i]? = some b ∧ (st.sets x.wr).blk n = some b := by
  intro i n hi hn
  have hlt : i < bs.length := by have := hu.nin; omega
  refine ⟨bs[i], List.getElem?_eq_getElem hlt, ?_⟩
  rw [hst, notl3 n (hnotF n (List.mem_of_getElem? hn))]
  refine sets_idx (i := i) ?_ (fun k p hk e => ?_)
  ·simp only [l2]
   rw [List.getElem?_zip_eq_some]
   exact ⟨by rw [List.getElem?_take_of_lt hi]; exact hn, List.getElem?_eq_getElem hlt⟩
  ·obtain ⟨_, h2, _⟩ := hl2 k p hk
   rw [e] at h2
   exact hok.nodup h2 hn
 have blkM : ∀ i n, r.nin ≤ i → r.names[i]? = some n → (st.sets x.wr).blk n = some none := by
  intro i n hi hn
  rw [hst, notl3 n (hnotF n (List.mem_of_getElem? hn)), sets_other]
  ·refine sets_idx (i := i - r.nin) ?_ (fun k p hk e => ?_)
   ·simp only [l1, List.getElem?_map, List.getElem?_drop, show r.nin + (i - r.nin) = i by omega, hn, Option.map_some]
   ·obtain ⟨h2, _⟩ := hl1 k p hk
    rw [e] at h2
    have := hok.nodup h2 hn
    omega
  ·intro p hp e
   obtain ⟨j, hj⟩ := List.getElem?_of_mem hp
   obtain ⟨h1, h2, _⟩ := hl2 j p hj
   rw [e] at h2
   have := hok.nodup h2 hn
   omega
 have blkO : ∀ n, ¬ inF n → n ∉ r.names → (st.sets x.wr).blk n = st1.blk n := by
  intro n hF hn
  rw [hst, notl3 n hF, sets_other, sets_other]
  ·intro p hp e
   obtain ⟨j, hj⟩ := List.getElem?_of_mem hp
   obtain ⟨h1, _⟩ := hl1 j p hj
   exact hn (e ▸ List.mem_of_getElem? h1)
  ·intro p hp e
   obtain ⟨j, hj⟩ := List.getElem?_of_mem hp
   obtain ⟨_, h1, _⟩ := hl2 j p hj
   exact hn (e ▸ List.mem_of_getElem? h1)
 have htake : ∀ i n, i < r.nin → r.names[i]? = some n → H'' n = H' i := by
  intro i n hi hn
  have hidx : idx (r.names.take r.nin) n = some i := idx_of (l := r.names.take r.nin) (fun {a b c} h1 h2 => by
   have ha : a < r.nin := by
    rcases Nat.lt_or_ge a r.nin with h | h
    ·exact h
    ·rw [List.getElem?_eq_none (by simp; omega)] at h1; simp at h1
   have hb : b < r.nin := by
    rcases Nat.lt_or_ge b r.nin with h | h
    ·exact h
    ·rw [List.getElem?_eq_none (by simp; omega)] at h2; simp at h2
   rw [List.getElem?_take_of_lt ha] at h1
   rw [List.getElem?_take_of_lt hb] at h2
   exact hok.nodup h1 h2) (by rw [List.getElem?_take_of_lt hi]; exact hn)
  simp [H'', hnotF n (List.mem_of_getElem? hn), hidx]
 have hHO : ∀ n, ¬ inF n → n ∉ r.names → H'' n = H1 n := by
  intro n hF hn
  have : idx (r.names.take r.nin) n = none := by
   cases hx : idx (r.names.take r.nin) n with
   | none => rfl
   | some i => exact (hn (List.mem_of_mem_take (List.mem_of_getElem? (idx_some hx)))).elim
  simp [H'', hF, this]
 have hHF : ∀ n, inF n → H'' n = H' (r.nin + (n - fresh)) := fun n h => by simp [H'', h]
 -- every live name, by kind
 have kinds : ∀ (n : Nat) (B : Blk), (st.sets x.wr).blk n = some (some B) →
   (∃ i : Nat, s.blks[i]? ≠ none ∧ back r.names r.nin fresh i = some n ∧ bs[i]? = some (some B) ∧ H'' n = H' i) ∨ (¬ inF n ∧ n ∉ r.names ∧ st1.blk n = some (some B) ∧ H'' n = H1 n) := by
  intro n B hB
  by_cases hF : inF n
  ·obtain ⟨b, hb, hbl'⟩ := blkF (n - fresh) (by omega)
   rw [show fresh + (n - fresh) = n by have := hF.1; omega] at hbl'
   rw [hbl'] at hB; cases hB
   refine .inl ⟨r.nin + (n - fresh), ?_, ?_, hb, hHF n hF⟩
   ·have : r.nin + (n - fresh) < s.blks.length := by have := hu.nin; have := hF.2; omega
    rw [List.getElem?_eq_getElem this]; simp
   ·unfold back
    rw [if_neg (by omega)]
    congr 1
    have := hF.1; omega
  ·by_cases hn : n ∈ r.names
   ·obtain ⟨i, hi⟩ := List.getElem?_of_mem hn
    by_cases hlt : i < r.nin
    ·obtain ⟨b, hb, hbl'⟩ := blkI i n hlt hi
     rw [hbl'] at hB; cases hB
     refine .inl ⟨i, ?_, ?_, hb, htake i n hlt hi⟩
     ·have : i < s.blks.length := by have := hu.nin; omega
      rw [List.getElem?_eq_getElem this]; simp
     ·unfold back; rw [if_pos hlt]; exact hi
    ·rw [blkM i n (by omega) hi] at hB; cases hB
   ·refine .inr ⟨hF, hn, ?_, hHO n hF hn⟩
    rw [blkO n hF hn] at hB; exact hB
 have resB : ∀ (i : Nat) (B : Blk), bs[i]? = some (some B) → ∃ B0 : Blk, s.blks[i]? = some (some B0) ∧ B0.ren (back r.names r.nin fresh) = some B := by
  intro i B hB
  obtain ⟨b, hb, hr⟩ := hu.all.get' hB
  obtain ⟨B0, rfl, h⟩ := renO_some hr
  exact ⟨B0, hb, h⟩
 have hren : ∀ m m' u, back r.names r.nin fresh m = some m' → ρ' m = some u → ρ'' m' = some u := by
  intro m m' u hb hr
  unfold back at hb
  split at hb
  ·rename_i hlt
   have hmem := List.mem_of_getElem? hb
   rw [hρO m' (hnotF m' hmem)]
   obtain ⟨B, hB⟩ := hall m' hmem
   have hsome : ∃ u', ρ m' = some u' := by
    have := hm.rep m' B hB
    cases B with
    | box cs => obtain ⟨b, vs, e, _, h1, _⟩ := this; exact ⟨_, h1⟩
    | own t excl xs => obtain ⟨v, h1, _⟩ := this; exact ⟨_, h1⟩
    | settled t xs => obtain ⟨v, h1, _⟩ := this; exact ⟨_, h1⟩
    | mp kt et es => obtain ⟨b, vs, _, h1, _⟩ := this; exact ⟨_, h1⟩
   obtain ⟨u', hu'⟩ := hsome
   have := hpost.names m u' (by simp [pkgCx, hlt, hb, hu'])
   rw [hr] at this; rw [hu', ← this]
  ·rename_i hge
   simp at hb; subst hb
   have hlt : m < s.blks.length := by
    rcases Nat.lt_or_ge m s.blks.length with h | h
    ·exact h
    ·have := hpost.never m (by simp [List.getElem?_eq_none h])
     rw [hr] at this; simp at this
   rw [hρF _ ⟨by omega, by omega⟩]
   rw [show r.nin + (fresh + (m - r.nin) - fresh) = m by omega]; exact hr
 have hmine : ∀ b, (∃ (m : Nat) (C : Blk), r.blks[m]? = some C ∧ ((r.names[m]?).bind H1) = some b) → X.mine b := by
  rintro b ⟨m, C, hC, hb⟩
  cases hn : r.names[m]? with
  | none => simp [hn] at hb
  | some n =>
   simp [hn] at hb
   obtain ⟨B, hB⟩ := hall n (List.mem_of_getElem? hn)
   exact hm.homes n B b hB hb
 have hnotM : ∀ n B b, n ∉ r.names → st1.blk n = some (some B) → H1 n = some b → ¬ ∃ (m : Nat) (C : Blk), r.blks[m]? = some C ∧ ((r.names[m]?).bind H1) = some b := by
  rintro n B b hn hB hb ⟨m, C, hC, hb'⟩
  cases hn' : r.names[m]? with
  | none => simp [hn'] at hb'
  | some n' =>
   simp [hn'] at hb'
   obtain ⟨B', hB'⟩ := hall n' (List.mem_of_getElem? hn')
   have := hm.sep n n' B B' b hB hB' hb hb'
   subst this
   exact hn (List.mem_of_getElem? hn')
 have hkeep : ∀ n B b, n ∉ r.names → st1.blk n = some (some B) → H1 n = some b → w'.heap[b]? = w.heap[b]? := fun n B b hn hB hb =>
  hpost.same b ((hm.rep n B hB).home_lt hb) (hnotM n B b hn hB hb)
 have hS1 : ∀ b, S1 b → w'.heap[b]? = w.heap[b]? := by
  intro b hb
  refine hpost.same b (hm.old b hb) ?_
  rintro ⟨m, C, hC, hb'⟩
  cases hn' : r.names[m]? with
  | none => simp [hn'] at hb'
  | some n' =>
   simp [hn'] at hb'
   obtain ⟨B', hB'⟩ := hall n' (List.mem_of_getElem? hn')
   exact hm.apart n' B' b hB' hb' hb
 have hρle : ∀ n u, ρ n = some u → ρ'' n = some u := by
  intro n u hn
  by_cases hF : inF n
  ·have := hm.never n (hfree1 n hF); rw [this] at hn; simp at hn
  ·rw [hρO n hF]; exact hn
 have hmore : More w w' S1 S' ρ ρ'' := ⟨hpost.s0, hS1, hρle⟩
 have hnew : ∀ b, S' b → S1 b ∨ (∃ (m : Nat) (C : Blk), r.blks[m]? = some C ∧ ((r.names[m]?).bind H1) = some b) ∨ w.heap.size ≤ b := by
  intro b hb
  rcases hpost.smine b hb with h | h | h
  ·exact .inl h
  ·exact .inr (.inl h)
  ·exact .inr (.inr h)
 refine ⟨ρ'', H'', ?_, hmore, RepTV.ren hren hu.tv hv⟩
 refine { rep := ?_, sep := ?_, apart := ?_, homes := ?_, old := hpost.old, never := ?_, s0 := fun b hb => hpost.s0 b (hm.s0 b hb), smine := ?_, names := fun n u hn => hρle n u (hm.names n u hn), os := hpost.os.trans hm.os, tape := hpost.tape.trans hm.tape, output := hpost.output.trans hm.output, size := Nat.le_trans hm.size hpost.size, same := ?_, gl := hpost.gl }
 ·intro n B hB
  rcases kinds n B hB with ⟨i, _, h1, h2, h3⟩ | ⟨hF, hn, h1, h2⟩
  ·obtain ⟨B0, h4, h5⟩ := resB i B h2
   rw [h3]
   exact RepBlk.ren hren h1 h5 (hpost.rep i B0 h4)
  ·rw [h2]
   exact (hm.rep n B h1).mono hpost.s0 hS1 hρle (fun b hb => hkeep n B b hn h1 hb)
 ·intro n m B C b hB hC h1 h2
  rcases kinds n B hB with ⟨i, _, i1, i2, i3⟩ | ⟨iF, iN, i1, i2⟩ <;> rcases kinds m C hC with ⟨j, _, j1, j2, j3⟩ | ⟨jF, jN, j1, j2⟩
  ·obtain ⟨B0, h4, _⟩ := resB i B i2
   obtain ⟨C0, h5, _⟩ := resB j C j2
   rw [i3] at h1; rw [j3] at h2
   have := hpost.sep i j B0 C0 b h4 h5 h1 h2
   subst this
   rw [i1] at j1; simpa using j1
  ·obtain ⟨B0, h4, _⟩ := resB i B i2
   rw [i3] at h1; rw [j2] at h2
   have hlt := (hm.rep m C j1).home_lt h2
   rcases hpost.homes i B0 b h4 h1 with h | h
   ·exact (hnotM m C b jN j1 h2 h).elim
   ·have : (pkgCx w S1 (fun i => (r.names[i]?).bind ρ) (fun i => (r.names[i]?).bind H1) r.blks r.nin).w0.heap.size = w.heap.size := rfl
    omega
  ·obtain ⟨C0, h5, _⟩ := resB j C j2
   rw [i2] at h1; rw [j3] at h2
   have hlt := (hm.rep n B i1).home_lt h1
   rcases hpost.homes j C0 b h5 h2 with h | h
   ·exact (hnotM n B b iN i1 h1 h).elim
   ·have : (pkgCx w S1 (fun i => (r.names[i]?).bind ρ) (fun i => (r.names[i]?).bind H1) r.blks r.nin).w0.heap.size = w.heap.size := rfl
    omega
  ·rw [i2] at h1; rw [j2] at h2
   exact hm.sep n m B C b i1 j1 h1 h2
 ·intro n B b hB h1
  rcases kinds n B hB with ⟨i, _, i1, i2, i3⟩ | ⟨iF, iN, i1, i2⟩
  ·obtain ⟨B0, h4, _⟩ := resB i B i2
   rw [i3] at h1
   exact hpost.apart i B0 b h4 h1
  ·rw [i2] at h1
   intro hs
   rcases hnew b hs with h | h | h
   ·exact hm.apart n B b i1 h1 h
   ·exact hnotM n B b iN i1 h1 h
   ·have := (hm.rep n B i1).home_lt h1; omega
 ·intro n B b hB h1
  rcases kinds n B hB with ⟨i, _, i1, i2, i3⟩ | ⟨iF, iN, i1, i2⟩
  ·obtain ⟨B0, h4, _⟩ := resB i B i2
   rw [i3] at h1
   rcases hpost.homes i B0 b h4 h1 with h | h
   ·exact hmine b h
   ·exact .inr (Nat.le_trans hm.size h)
  ·rw [i2] at h1
   exact hm.homes n B b i1 h1
 ·intro n hn
  by_cases hF : inF n
  ·obtain ⟨b, _, hb⟩ := blkF (n - fresh) (by have := hF.2; have := hF.1; omega)
   rw [show fresh + (n - fresh) = n by have := hF.1; omega, hn] at hb; simp at hb
  ·rw [hρO n hF]
   by_cases hnn : n ∈ r.names
   ·obtain ⟨i, hi⟩ := List.getElem?_of_mem hnn
    by_cases hlt : i < r.nin
    ·obtain ⟨b, _, hb⟩ := blkI i n hlt hi
     rw [hn] at hb; simp at hb
    ·have := blkM i n (by omega) hi
     rw [hn] at this; simp at this
   ·exact hm.never n (by rw [← blkO n hF hnn]; exact hn)
 ·intro b hb
  rcases hnew b hb with h | h | h
  ·exact hm.smine b h
  ·exact .inr (hmine b h)
  ·exact .inr (.inr (Nat.le_trans hm.size h))
 ·intro b hb hM
  rw [hpost.same b (Nat.lt_of_lt_of_le hb hm.size) ?_]
  ·exact hm.same b hb hM
  ·intro h
   rcases hmine b h with h' | h'
   ·exact hM h'
   ·omega
end
end Go.Proofs.YtijjlpgcpdapnaaGreatDoor.Aev

/- AEV: the orders that the model may draw for a region. -/
namespace Go.Proofs.YtijjlpgcpdapnaaGreatDoor.Aev
set_option linter.unusedVariables false
set_option linter.unusedSimpArgs false
open Go

theorem nodup_le : ∀ {l m : List Nat}, l.Nodup → l ⊆ m → l.length ≤ m.length
 | [], m, _, _ => by simp
 | a :: l, m, hn, hs => by
  obtain ⟨m1, m2, rfl⟩ := List.append_of_mem (hs (List.mem_cons_self))
  have hn' := List.nodup_cons.1 hn
  have := nodup_le (m := m1 ++ m2) hn'.2 (fun x hx => by
   have := hs (List.mem_cons_of_mem _ hx)
   simp only [List.mem_append, List.mem_cons] at this ⊢
   rcases this with h | h | h
   ·exact .inl h
   ·subst h; exact (hn'.1 hx).elim
   ·exact .inr h)
  simp at this ⊢; omega

section lin
variable (m : Region.Mode) (ops : Array Oper)

def Good : List Nat → Prop
 | [] => True
 | j :: l => j < ops.size ∧ j ∉ l ∧ (∀ o, ops[j]? = some o → ∀ e ∈ o.after, Region.binds m e = true → e.on ∈ l) ∧ Good l

def Stuck (acc : List Nat) : Prop := ∀ i, i < ops.size → i ∉ acc → ∃ o, ops[i]? = some o ∧ ∃ e ∈ o.after, Region.binds m e = true ∧ e.on ∉ acc

theorem Good.nodup : ∀ {l : List Nat}, Good m ops l → l.Nodup
 | [], _ => List.nodup_nil
 | j :: l, ⟨_, h1, _, h2⟩ => List.nodup_cons.2 ⟨h1, Good.nodup h2⟩
theorem Good.lt : ∀ {l : List Nat}, Good m ops l → ∀ i ∈ l, i < ops.size
 | [], _, i, h => by simp at h
 | j :: l, ⟨h0, _, _, h2⟩, i, h => by
  simp only [List.mem_cons] at h
  rcases h with rfl | h
  ·exact h0
  ·exact Good.lt h2 i h

theorem go_spec : ∀ (fuel t : Nat) (listed : Array Bool) (acc : List Nat), listed.size = ops.size → (∀ i, i < ops.size → (listed[i]? = some true ↔ i ∈ acc)) → Good m ops acc →
  ∃ acc', Region.linearise.go m ops fuel t listed acc = acc'.reverse ∧ Good m ops acc' ∧ (Stuck m ops acc' ∨ acc'.length = acc.length + fuel)
 | 0, t, listed, acc, hs, hl, hg => ⟨acc, rfl, hg, .inr rfl⟩
 | fuel + 1, t, listed, acc, hs, hl, hg => by
  unfold Region.linearise.go
  simp only
  generalize hrs : (List.range ops.size).filter (fun i => !listed.getD i true && ((ops[i]?).map (·.after.all fun e => !Region.binds m e || listed.getD e.on false)).getD false) = rs
  have hmem : ∀ i, i ∈ rs ↔ i < ops.size ∧ i ∉ acc ∧ ∃ o, ops[i]? = some o ∧ ∀ e ∈ o.after, Region.binds m e = true → e.on ∈ acc := by
   intro i
   rw [← hrs, List.mem_filter, List.mem_range]
   constructor
   ·rintro ⟨hi, h⟩
    simp only [Bool.and_eq_true, Bool.not_eq_true'] at h
    obtain ⟨h1, h2⟩ := h
    have hni : i ∉ acc := by
     intro h
     have := (hl i hi).2 h
     simp [Array.getD_eq_getD_getElem?, this] at h1
    refine ⟨hi, hni, ?_⟩
    cases ho : ops[i]? with
    | none => simp [ho] at h2
    | some o =>
     refine ⟨o, rfl, fun e he hb => ?_⟩
     simp only [ho, Option.map_some, Option.getD_some, Array.all_eq_true_iff_forall_mem] at h2
     have := h2 e he
     simp only [hb, Bool.not_true, Bool.false_or] at this
     have hlt : e.on < ops.size := by
      rcases Nat.lt_or_ge e.on ops.size with h | h
      ·exact h
      ·simp [Array.getD_eq_getD_getElem?, Array.getElem?_eq_none (hs ▸ h)] at this
     refine (hl e.on hlt).1 ?_
     rw [Array.getD_eq_getD_getElem?] at this
     cases hx : listed[e.on]? with
     | none => simp [hx] at this
     | some b => simp [hx] at this; rw [this]
   ·rintro ⟨hi, hni, o, ho, hall⟩
    refine ⟨hi, ?_⟩
    simp only [Bool.and_eq_true, Bool.not_eq_true']
    constructor
    ·rw [Array.getD_eq_getD_getElem?]
     have hlt : i < listed.size := by omega
     rw [Array.getElem?_eq_getElem hlt]
     simp only [Option.getD_some]
     cases hb : listed[i] with
     | false => rfl
     | true => exact (hni ((hl i hi).1 (by rw [Array.getElem?_eq_getElem hlt, hb]))).elim
    ·simp only [ho, Option.map_some, Option.getD_some, Array.all_eq_true_iff_forall_mem]
     intro e he
     by_cases hb : Region.binds m e = true
     ·simp only [hb, Bool.not_true, Bool.false_or]
      have hin := hall e he hb
      have := (hl e.on (hg.lt _ _ _ hin)).2 hin
      simp [Array.getD_eq_getD_getElem?, this]
     ·simp [hb]
  cases hx : rs[t % rs.length]? with
  | none =>
   refine ⟨acc, rfl, hg, .inl ?_⟩
   have hnil : rs = [] := by
    rcases Nat.eq_zero_or_pos rs.length with h | h
    ·exact List.length_eq_zero_iff.1 h
    ·have := Nat.mod_lt t h
     rw [List.getElem?_eq_getElem this] at hx; simp at hx
   intro i hi hni
   have : i ∉ rs := by rw [hnil]; simp
   rw [hmem] at this
   cases ho : ops[i]? with
   | none => rw [Array.getElem?_eq_none_iff] at ho; omega
   | some o =>
    refine ⟨o, rfl, ?_⟩
    apply Classical.byContradiction
    intro hno
    apply this
    refine ⟨hi, hni, o, ho, fun e he hb => ?_⟩
    apply Classical.byContradiction
    intro hne
    exact hno ⟨e, he, hb, hne⟩
  | some i =>
   have hi := (hmem i).1 (List.mem_of_getElem? hx)
   obtain ⟨hi1, hi2, o, ho, hall⟩ := hi
   obtain ⟨acc', h1, h2, h3⟩ := go_spec fuel (t / rs.length) (listed.setIfInBounds i true) (i :: acc) (by simpa using hs) (fun j hj => by
    rw [Array.getElem?_setIfInBounds]
    by_cases e : i = j
    ·subst e; simp; omega
    ·simp [e, Ne.symm e, hl j hj]) ⟨hi1, hi2, fun o' ho' e he hb => by rw [ho] at ho'; cases ho'; exact hall e he hb, hg⟩
   refine ⟨acc', h1, h2, ?_⟩
   rcases h3 with h3 | h3
   ·exact .inl h3
   ·exact .inr (by rw [h3]; simp; omega)

theorem linearise_spec (t : Nat) : ∃ acc, Region.linearise m ops t = acc.reverse ∧ Good m ops acc ∧ (Stuck m ops acc ∨ acc.length = ops.size) := by
 unfold Region.linearise
 obtain ⟨acc, h1, h2, h3⟩ := go_spec m ops ops.size t (Array.replicate ops.size false) [] (by simp) (fun i hi => by simp [hi]) trivial
 exact ⟨acc, h1, h2, by simpa using h3⟩

theorem full_of_full {l0 acc : List Nat} (hg0 : Good m ops l0) (hl0 : l0.length = ops.size) (hg : Good m ops acc) (hs : Stuck m ops acc ∨ acc.length = ops.size) : acc.length = ops.size := by
 rcases hs with hs | hs
 ·have key : ∀ l, Good m ops l → ∀ i ∈ l, i ∈ acc := by
   intro l
   induction l with
   | nil => intro _ i h; simp at h
   | cons j l ih =>
    rintro ⟨hj, _, hp, hl⟩ i hi
    simp only [List.mem_cons] at hi
    rcases hi with rfl | hi
    ·apply Classical.byContradiction
     intro hn
     obtain ⟨o, ho, e, he, hb, hne⟩ := hs i hj hn
     exact hne (ih hl _ (hp o ho e he hb))
    ·exact ih hl i hi
  have h1 : l0 ⊆ acc := key l0 hg0
  have h2 := nodup_le hg0.nodup h1
  have h3 : acc ⊆ List.range ops.size := fun j hj => by rw [List.mem_range]; exact hg.lt _ _ _ hj
  have h4 := nodup_le hg.nodup h3
  simp at h4; omega
 ·exact hs
end lin
end Go.Proofs.YtijjlpgcpdapnaaGreatDoor.Aev

/- AEV: regions, in whatever order the model draws. -/
namespace Go.Proofs.YtijjlpgcpdapnaaGreatDoor.Aev
set_option linter.unusedVariables false
set_option linter.unusedSimpArgs false
open Go

theorem St.ext' {s t : St} (h1 : ∀ n, s.tmp n = t.tmp n) (h2 : ∀ n, s.blk n = t.blk n) : s = t := by
 cases s; cases t
 simp only [St.mk.injEq]
 exact ⟨funext h1, funext h2⟩
theorem put_self {st : St} {t : Nat} {v : TV} (h : st.tmp t = some v) : st.put (some t) v = st := by
 refine St.ext' (fun n => ?_) (fun n => rfl)
 simp only [St.put]
 split
 ·rename_i e; rw [e, h]
 ·rfl

section
variable (E : Env) (ops : Array Oper) (base : Nat)

def exec1 (i : Nat) (o : Oper) (st : St) (rd : List Loc) : Option (Out × LogE) :=
 match calleeOf o.op with
 | some (c, f) => match (reqA E.P E.sg c f).run st rd with
  | none => none
  | some (r, rd) => match E.ct r.f with
   | none => none
   | some ct => match ct.F r.args r.blks some with
    | none => none
    | some s => match (unpack r (base + 8 * i) s).run st rd with
     | none => none
     | some (x, rd) => some (x, logOf o rd x.wr)
 | none => match (opA E.P E.sg (base + 8 * i) o).run st rd with
  | some (.out x, rd) => some (x, logOf o rd x.wr)
  | _ => none
def undefOut : Out := { tv := .undef }
def step1 (i : Nat) (st : St) : Option (Out × LogE) :=
 match ops[i]? with
 | none => none
 | some o => if dstOk E.N o.dst then
   match o.guard with
   | none => exec1 E base i o st []
   | some (j, want) => match (ops[j]?).bind (·.dst) with
    | none => none
    | some tj => match st.tmp tj with
     | some (.v (.one (.d .bool b))) => if b = want then exec1 E base i o st [.t tj] else some (undefOut, logOf o [.t tj] [])
     | some .undef => some (undefOut, logOf o [.t tj] [])
     | _ => none
  else none
def next1 (i : Nat) (st : St) (x : Out) : St := (st.sets x.wr).put ((ops[i]?).bind (·.dst)) x.tv

inductive Runs : List (Nat × LogE) → St → St → Prop where
 | nil (st : St) : Runs [] st st
 | cons {i : Nat} {le : LogE} {l : List (Nat × LogE)} {st st' : St} {x : Out} (h : step1 E ops base i st = some (x, le)) (hr : Runs l (next1 ops i st x) st') : Runs ((i, le) :: l) st st'

variable {E ops base}

theorem evOps_runs {β : Type} {K : St → List LogE → Option β} {r : β} : ∀ {l : List Nat} {st : St} {lg : List LogE}, evOps E ops base K l st lg = some r →
  ∃ (L : List (Nat × LogE)) (st' : St), L.map (·.1) = l ∧ Runs E ops base L st st' ∧ K st' ((L.map (·.2)).reverse ++ lg) = some r := by
 intro l
 induction l with
 | nil => intro st lg h; exact ⟨[], st, rfl, .nil st, h⟩
 | cons i rest ih =>
  intro st lg h
  simp only [evOps] at h
  cases ho : ops[i]? with
  | none => simp [ho] at h
  | some o =>
   simp only [ho] at h
   split at h
   ·rename_i hd
    -- what one operation gives
    have fin : ∀ x le, step1 E ops base i st = some (x, le) → evOps E ops base K rest ((st.sets x.wr).put o.dst x.tv) (le :: lg) = some r →
      ∃ (L : List (Nat × LogE)) (st' : St), L.map (·.1) = i :: rest ∧ Runs E ops base L st st' ∧ K st' ((L.map (·.2)).reverse ++ lg) = some r := by
     intro x le hs hk
     obtain ⟨L, st', h1, h2, h3⟩ := ih hk
     refine ⟨(i, le) :: L, st', by simp [h1], .cons hs ?_, by simpa using h3⟩
     simpa [next1, ho] using h2
    have ex : ∀ rd, (∀ x le, exec1 E base i o st rd = some (x, le) → step1 E ops base i st = some (x, le)) →
      (match calleeOf o.op with
       | some (c, f) => (reqA E.P E.sg c f).runK st rd fun r rd => match E.ct r.f with
        | none => none
        | some ct => ct.F r.args r.blks fun s => (unpack r (base + 8 * i) s).runK st rd fun x rd =>
          evOps E ops base K rest ((st.sets x.wr).put o.dst x.tv) (logOf o rd x.wr :: lg)
       | none => (opA E.P E.sg (base + 8 * i) o).runK st rd fun e rd =>
        match e with
        | .out x => evOps E ops base K rest ((st.sets x.wr).put o.dst x.tv) (logOf o rd x.wr :: lg)
        | .call _ => none) = some r →
      ∃ (L : List (Nat × LogE)) (st' : St), L.map (·.1) = i :: rest ∧ Runs E ops base L st st' ∧ K st' ((L.map (·.2)).reverse ++ lg) = some r := by
     intro rd hstep h
     cases hc : calleeOf o.op with
     | some cf =>
      obtain ⟨c, f⟩ := cf
      simp only [hc] at h
      obtain ⟨rq, rd1, h1, h⟩ := runK_some h
      cases hct : E.ct rq.f with
      | none => simp [hct] at h
      | some ct =>
       simp only [hct] at h
       obtain ⟨s, hs, h⟩ := ct.legit _ _ _ _ h
       obtain ⟨x, rd2, h2, h⟩ := runK_some h
       exact fin x _ (hstep _ _ (by simp only [exec1, hc, h1, hct, hs, h2])) h
     | none =>
      simp only [hc] at h
      obtain ⟨e, rd1, h1, h⟩ := runK_some h
      cases e with
      | out x => exact fin x _ (hstep _ _ (by simp only [exec1, hc, h1])) h
      | call q => simp at h
    cases hg : o.guard with
    | none =>
     simp only [hg] at h
     exact ex [] (fun x le he => by simp only [step1, ho, hd, if_true, hg]; exact he) h
    | some jw =>
     obtain ⟨j, want⟩ := jw
     simp only [hg] at h
     cases htj : (ops[j]?).bind (·.dst) with
     | none => simp [htj] at h
     | some tj =>
      simp only [htj] at h
      split at h
      ·rename_i b hb
       cases b with
       | true =>
        simp only at h
        rw [put_self hb] at h
        cases want with
        | true =>
         simp only [if_true] at h
         exact ex [.t tj] (fun x le he => by simp only [step1, ho, hd, if_true, hg, htj, hb]; exact he) h
        | false =>
         simp only [Bool.false_eq_true, if_false] at h
         exact fin undefOut _ (by simp [step1, ho, hd, hg, htj, hb]) h
       | false =>
        simp only at h
        rw [put_self hb] at h
        cases want with
        | true =>
         simp only [if_true] at h
         exact fin undefOut _ (by simp [step1, ho, hd, hg, htj, hb]) h
        | false =>
         simp only [Bool.false_eq_true, if_false] at h
         exact ex [.t tj] (fun x le he => by simp only [step1, ho, hd, if_true, hg, htj, hb]; exact he) h
      ·rename_i hb
       exact fin undefOut _ (by simp [step1, ho, hd, hg, htj, hb]) h
      ·simp at h
   ·simp at h

/-! ### what an operation touches -/
def agree (s s' : St) (rd : List Loc) : Prop := (∀ n, Loc.t n ∈ rd → s'.tmp n = s.tmp n) ∧ (∀ n, Loc.b n ∈ rd → s'.blk n = s.blk n)

theorem exec1_log {i : Nat} {o : Oper} {st : St} {rd : List Loc} {x : Out} {le : LogE} (h : exec1 E base i o st rd = some (x, le)) : le.wr = o.dst.toList.map Loc.t ++ x.wr.map (fun p => .b p.1) ∧ ∀ l ∈ rd, l ∈ le.rd := by
 unfold exec1 at h
 split at h
 ·split at h
  ·simp at h
  ·rename_i rq rd1 h1
   split at h
   ·simp at h
   ·split at h
    ·simp at h
    ·split at h
     ·simp at h
     ·rename_i y rd2 h2
      simp at h; obtain ⟨rfl, rfl⟩ := h
      obtain ⟨r1, e1, k1⟩ := run_local (s' := st) _ _ _ _ h1
      obtain ⟨r2, e2, k2⟩ := run_local (s' := st) _ _ _ _ h2
      subst e1; subst e2
      exact ⟨rfl, fun l hl => by simp [logOf, hl]⟩
 ·split at h
  ·rename_i y rd1 h1
   simp at h; obtain ⟨rfl, rfl⟩ := h
   obtain ⟨r1, e1, k1⟩ := run_local (s' := st) _ _ _ _ h1
   subst e1
   exact ⟨rfl, fun l hl => by simp [logOf, hl]⟩
  ·simp at h

theorem exec1_local {i : Nat} {o : Oper} {st s' : St} {rd : List Loc} {x : Out} {le : LogE} (h : exec1 E base i o st rd = some (x, le)) (ha : agree st s' le.rd) : exec1 E base i o s' rd = some (x, le) := by
 cases hc : calleeOf o.op with
 | some cf =>
  obtain ⟨c, f⟩ := cf
  simp only [exec1, hc] at h ⊢
  split at h
  ·simp at h
  ·rename_i rq rd1 h1
   split at h
   ·simp at h
   ·rename_i ct hct
    split at h
    ·simp at h
    ·rename_i s hs
     split at h
     ·simp at h
     ·rename_i y rd2 h2
      simp at h; obtain ⟨rfl, rfl⟩ := h
      obtain ⟨r1, e1, k1⟩ := run_local (s' := s') _ _ _ _ h1
      obtain ⟨r2, e2, k2⟩ := run_local (s' := s') _ _ _ _ h2
      subst e1; subst e2
      simp only [logOf] at ha
      have h1' := k1 (fun n hn => ha.1 n (by simp [hn])) (fun n hn => ha.2 n (by simp [hn])) rd
      have h2' := k2 (fun n hn => ha.1 n (by simp [hn])) (fun n hn => ha.2 n (by simp [hn])) (r1 ++ rd)
      simp only [h1', hct, hs, h2']
 | none =>
  simp only [exec1, hc] at h ⊢
  split at h
  ·rename_i y rd1 h1
   simp at h; obtain ⟨rfl, rfl⟩ := h
   obtain ⟨r1, e1, k1⟩ := run_local (s' := s') _ _ _ _ h1
   subst e1
   simp only [logOf] at ha
   have h1' := k1 (fun n hn => ha.1 n (by simp [hn])) (fun n hn => ha.2 n (by simp [hn])) rd
   simp only [h1']
  ·simp at h
theorem step1_local {i : Nat} {st s' : St} {x : Out} {le : LogE} (h : step1 E ops base i st = some (x, le)) (ha : agree st s' le.rd) : step1 E ops base i s' = some (x, le) := by
 cases ho : ops[i]? with
 | none => simp [step1, ho] at h
 | some o =>
  simp only [step1, ho] at h ⊢
  split at h
  ·rename_i hd
   rw [if_pos hd]
   cases hg : o.guard with
   | none =>
    simp only [hg] at h ⊢
    exact exec1_local h ha
   | some jw =>
    obtain ⟨j, want⟩ := jw
    simp only [hg] at h ⊢
    cases htj : (ops[j]?).bind (·.dst) with
    | none => simp [htj] at h
    | some tj =>
     simp only [htj] at h ⊢
     split at h
     ·rename_i b hb
      split at h
      ·rename_i e
       have hin := (exec1_log h).2 (.t tj) (by simp)
       rw [ha.1 tj hin, hb]
       simp only [e, if_true]
       exact exec1_local h ha
      ·rename_i e
       simp at h; obtain ⟨rfl, rfl⟩ := h
       rw [ha.1 tj (by simp [logOf]), hb]
       simp [e]
     ·rename_i hb
      simp at h; obtain ⟨rfl, rfl⟩ := h
      rw [ha.1 tj (by simp [logOf]), hb]
     ·simp at h
  ·simp at h
theorem step1_log {i : Nat} {st : St} {x : Out} {le : LogE} (h : step1 E ops base i st = some (x, le)) : le.wr = ((ops[i]?).bind (·.dst)).toList.map Loc.t ++ x.wr.map (fun p => .b p.1) := by
 unfold step1 at h
 split at h
 ·simp at h
 ·rename_i o ho
  split at h
  ·split at h
   ·simpa [ho] using (exec1_log h).1
   ·split at h
    ·simp at h
    ·split at h
     ·split at h
      ·simpa [ho] using (exec1_log h).1
      ·simp at h; obtain ⟨rfl, rfl⟩ := h; simp [logOf, undefOut, ho]
     ·simp at h; obtain ⟨rfl, rfl⟩ := h; simp [logOf, undefOut, ho]
     ·simp at h
  ·simp at h

theorem next1_other {i : Nat} {st : St} {x : Out} {wr : List Loc} (hw : wr = ((ops[i]?).bind (·.dst)).toList.map Loc.t ++ x.wr.map (fun p => .b p.1)) :
  (∀ n, Loc.t n ∉ wr → (next1 ops i st x).tmp n = st.tmp n) ∧ (∀ n, Loc.b n ∉ wr → (next1 ops i st x).blk n = st.blk n) := by
 subst hw
 constructor
 ·intro n hn
  unfold next1
  cases hd : (ops[i]?).bind (·.dst) with
  | none => simp only [St.put, sets_tmp]
  | some d =>
   simp only [St.put, sets_tmp]
   rw [if_neg]
   rintro rfl
   exact hn (by simp [hd])
 ·intro n hn
  have : (next1 ops i st x).blk n = (st.sets x.wr).blk n := by
   unfold next1
   cases hd : (ops[i]?).bind (·.dst) <;> rfl
  rw [this, sets_other]
  rintro p hp rfl
  exact hn (by simp only [List.mem_append, List.mem_map]; exact .inr ⟨p, hp, rfl⟩)

theorem sets_congr : ∀ (wr : List (Nat × Option Blk)) (s s' : St) (n : Nat), (∀ m, (∀ p ∈ wr, p.1 ≠ m) → s.blk m = s'.blk m → True) → ((∃ p ∈ wr, p.1 = n) ∨ s.blk n = s'.blk n) → (s.sets wr).blk n = (s'.sets wr).blk n
 | [], s, s', n, _, h => by
  rcases h with ⟨p, hp, _⟩ | h
  ·simp at hp
  ·exact h
 | (m, b) :: wr, s, s', n, _, h => by
  rw [St.sets, St.sets]
  refine sets_congr wr _ _ n (fun _ _ _ => trivial) ?_
  by_cases e : ∃ p ∈ wr, p.1 = n
  ·exact .inl e
  ·right
   rw [set_blk, set_blk]
   by_cases em : n = m
   ·subst em; rw [upd_same, upd_same]
   ·rw [upd_other _ _ em, upd_other _ _ em]
    rcases h with ⟨p, hp, hn⟩ | h
    ·simp only [List.mem_cons] at hp
     rcases hp with rfl | hp
     ·exact (em hn.symm).elim
     ·exact (e ⟨p, hp, hn⟩).elim
    ·exact h

theorem next1_same {i : Nat} {s s' : St} {x : Out} {wr : List Loc} (hw : wr = ((ops[i]?).bind (·.dst)).toList.map Loc.t ++ x.wr.map (fun p => .b p.1)) :
  (∀ n, Loc.t n ∈ wr → (next1 ops i s x).tmp n = (next1 ops i s' x).tmp n) ∧ (∀ n, Loc.b n ∈ wr → (next1 ops i s x).blk n = (next1 ops i s' x).blk n) := by
 subst hw
 constructor
 ·intro n hn
  unfold next1
  cases hd : (ops[i]?).bind (·.dst) with
  | none => simp [hd] at hn
  | some d =>
   simp [hd] at hn
   subst hn
   simp [St.put]
 ·intro n hn
  have e : ∀ s : St, (next1 ops i s x).blk n = (s.sets x.wr).blk n := fun s => by
   unfold next1
   cases hd : (ops[i]?).bind (·.dst) <;> rfl
  rw [e, e]
  refine sets_congr _ _ _ n (fun _ _ _ => trivial) (.inl ?_)
  simp only [List.mem_append, List.mem_map] at hn
  rcases hn with ⟨d, _, h⟩ | ⟨p, hp, h⟩
  ·simp at h
  ·simp at h; exact ⟨p, hp, h⟩

theorem meets_false {l m : List Loc} (h : meets l m = false) : ∀ x ∈ l, x ∉ m := by
 intro x hx hm
 unfold meets at h
 rw [List.any_eq_false] at h
 have := h x hx
 simp [hm] at this
theorem indep_spec {a b : LogE} (h : indep a b = true) : (∀ x ∈ a.wr, x ∉ b.wr) ∧ (∀ x ∈ a.wr, x ∉ b.rd) ∧ (∀ x ∈ a.rd, x ∉ b.wr) := by
 simp only [indep, Bool.and_eq_true, Bool.not_eq_true'] at h
 exact ⟨meets_false h.1.1, meets_false h.1.2, meets_false h.2⟩

theorem runs_swap {p q : Nat × LogE} {l : List (Nat × LogE)} {st st' : St} (h : Runs E ops base (p :: q :: l) st st') (hi : indep p.2 q.2 = true) : Runs E ops base (q :: p :: l) st st' := by
 obtain ⟨i, a⟩ := p
 obtain ⟨j, b⟩ := q
 cases h with
 | cons h1 h =>
  cases h with
  | cons h2 h3 =>
   rename_i x y
   obtain ⟨i1, i2, i3⟩ := indep_spec hi
   simp only at i1 i2 i3
   have w1 := step1_log h1
   have w2 := step1_log h2
   have o1 := next1_other (st := st) w1
   have h2' : step1 E ops base j st = some (y, b) := by
    refine step1_local h2 ⟨fun n hn => ?_, fun n hn => ?_⟩
    ·exact (o1.1 n (fun h => i2 _ h hn)).symm
    ·exact (o1.2 n (fun h => i2 _ h hn)).symm
   have o2 := next1_other (st := st) w2
   have h1' : step1 E ops base i (next1 ops j st y) = some (x, a) := by
    refine step1_local h1 ⟨fun n hn => ?_, fun n hn => ?_⟩
    ·exact o2.1 n (fun h => i3 _ hn h)
    ·exact o2.2 n (fun h => i3 _ hn h)
   refine .cons h2' (.cons h1' ?_)
   have e : next1 ops i (next1 ops j st y) x = next1 ops j (next1 ops i st x) y := by
    have p1 := next1_other (st := next1 ops j st y) w1
    have p2 := next1_other (st := next1 ops i st x) w2
    have q1 := next1_same (s := next1 ops j st y) (s' := st) w1
    have q2 := next1_same (s := next1 ops i st x) (s' := st) w2
    refine St.ext' (fun n => ?_) (fun n => ?_)
    ·by_cases ha : Loc.t n ∈ a.wr
     ·rw [q1.1 n ha, p2.1 n (i1 _ ha)]
     ·rw [p1.1 n ha]
      by_cases hb : Loc.t n ∈ b.wr
      ·rw [q2.1 n hb]
      ·rw [p2.1 n hb, o1.1 n ha, o2.1 n hb]
    ·by_cases ha : Loc.b n ∈ a.wr
     ·rw [q1.2 n ha, p2.2 n (i1 _ ha)]
     ·rw [p1.2 n ha]
      by_cases hb : Loc.b n ∈ b.wr
      ·rw [q2.2 n hb]
      ·rw [p2.2 n hb, o1.2 n ha, o2.2 n hb]
   rw [e]; exact h3

theorem runs_front : ∀ {l : List (Nat × LogE)} {p : Nat × LogE} {l2 : List (Nat × LogE)} {st st' : St}, Runs E ops base (l ++ p :: l2) st st' → (∀ q ∈ l, indep q.2 p.2 = true) → Runs E ops base (p :: (l ++ l2)) st st'
 | [], p, l2, st, st', h, _ => h
 | q :: l, p, l2, st, st', h, hi => by
  cases h with
  | cons h1 h2 =>
   have := runs_front h2 (fun r hr => hi r (by simp [hr]))
   exact runs_swap (.cons h1 this) (hi _ (by simp))

theorem runs_perm : ∀ {σ : List Nat} {L : List (Nat × LogE)} {st st' : St}, Runs E ops base L st st' → σ.Perm (L.map (·.1)) → σ.Nodup →
  (∀ p q, [p, q].Sublist L → [q.1, p.1].Sublist σ → indep p.2 q.2 = true) → ∃ L', L'.map (·.1) = σ ∧ Runs E ops base L' st st'
 | [], L, st, st', h, hp, _, _ => by
  have : L = [] := by
   have := hp.length_eq
   simp at this
   exact List.length_eq_zero_iff.1 this.symm
  subst this
  exact ⟨[], rfl, h⟩
 | m :: σ, L, st, st', h, hp, hn, hi => by
  have hm : m ∈ L.map (·.1) := hp.subset (List.mem_cons_self)
  obtain ⟨p, hpL, rfl⟩ := List.mem_map.1 hm
  obtain ⟨L1, L2, rfl⟩ := List.append_of_mem hpL
  have hp' : σ.Perm ((L1 ++ L2).map (·.1)) := by
   have h1 : ((L1 ++ p :: L2).map (·.1)).Perm (p.1 :: (L1 ++ L2).map (·.1)) := by
    simp only [List.map_append, List.map_cons]
    exact List.perm_middle
   exact (hp.trans h1).cons_inv
  have hn' := List.nodup_cons.1 hn
  have hf := runs_front h (fun q hq => by
   refine hi q p ?_ ?_
   ·obtain ⟨A, B, rfl⟩ := List.append_of_mem hq
    have : [q, p].Sublist ([q] ++ [p]) := List.Sublist.refl _
    refine this.trans (List.Sublist.append ?_ ?_)
    ·simp
    ·simp
   ·have : q.1 ∈ σ := hp'.symm.subset (by simp only [List.map_append, List.mem_append, List.mem_map]; exact .inl ⟨q, hq, rfl⟩)
    exact List.Sublist.cons_cons _ (List.singleton_sublist.2 this))
  cases hf with
  | cons h1 h2 =>
   obtain ⟨L', e, hr⟩ := runs_perm h2 hp' hn'.2 (fun a b hab hba => by
    refine hi a b (hab.trans ?_) (List.Sublist.cons _ hba)
    exact List.Sublist.append (List.Sublist.refl _) (List.sublist_cons_self _ _))
   exact ⟨_ :: L', by simp [e], .cons h1 hr⟩
end
end Go.Proofs.YtijjlpgcpdapnaaGreatDoor.Aev

/- AEV: what the evaluator says of a region holds. -/
namespace Go.Proofs.YtijjlpgcpdapnaaGreatDoor.Aev
set_option linter.unusedVariables false
set_option linter.unusedSimpArgs false
open Go

def EnvOK (E : Env) : Prop := ∀ f c, E.ct f = some c → CtOK E.P f c

section
variable {E : Env} {ops : Array Oper} {base : Nat} {X : Cx} {w : World} {S : Nat → Prop} {ρ : Nat → Option Value} {H : Nat → Option Nat} {st : St} {a : Act} {o : Oper} {x : Out} {le : LogE}

theorem dst_of {i : Nat} (ho : ops[i]? = some o) : (ops[i]?).bind (·.dst) = o.dst := by rw [ho]; rfl

theorem calleeOf_some {op : Op} {c : Call} {f : Operand} (h : calleeOf op = some (c, f)) : op = .call c ∧ (c.callee = .value f ∨ ∃ nm, c.callee = .invoke f nm) := by
 unfold calleeOf at h
 split at h
 ·rename_i c'
  split at h
  ·rename_i f' hf
   simp at h; obtain ⟨rfl, rfl⟩ := h
   exact ⟨rfl, .inl hf⟩
  ·rename_i f' nm hf
   simp at h; obtain ⟨rfl, rfl⟩ := h
   exact ⟨rfl, .inr ⟨nm, hf⟩⟩
  ·simp at h
 ·simp at h

theorem Rd.scalar {w w' : World} {S S' : Nat → Prop} : ∀ (t : Ty) (vs : List Value) (x : t.den), scalarTy t = true → Rd w S t vs x → Rd w' S' t vs x := by
 intro t
 induction t with
 | sl e ih => intro vs x h; simp [scalarTy] at h
 | pair a b iha ihb =>
  rintro vs x h ⟨v1, v2, h0, h1, h2⟩
  simp only [scalarTy, Bool.and_eq_true] at h
  exact ⟨v1, v2, h0, iha _ _ h.1 h1, ihb _ _ h.2 h2⟩
 | _ => exact fun _ _ _ h => h
theorem RepAV.scalar {w w' : World} {S S' : Nat → Prop} {ρ ρ' : Nat → Option Value} {c : AV} {v : Value} (h : scalarAV c = true) (hr : RepAV w S ρ c v) : RepAV w' S' ρ' c v := by
 cases c with
 | d t x => exact Rd.scalar _ _ _ h hr
 | raw u => exact hr
 | ifc t ag ty x => obtain ⟨us, u, h1, h2, h3⟩ := hr; exact ⟨us, u, h1, Rd.scalar _ _ _ h h2, h3⟩
 | _ => simp [scalarAV] at h
theorem RepVV.scalar {w w' : World} {S S' : Nat → Prop} {ρ ρ' : Nat → Option Value} {x : VV} {v : Value} (h : x.cells.all scalarAV = true) (hr : RepVV w S ρ x v) : RepVV w' S' ρ' x v := by
 cases x with
 | one c => exact RepAV.scalar (by simpa [VV.cells] using h) hr
 | agg cs =>
  obtain ⟨vs, h1, h2⟩ := hr
  refine ⟨vs, h1, ?_⟩
  replace h : ∀ c ∈ cs, scalarAV c = true := by simpa [VV.cells] using h
  clear h1
  generalize vs.toList = l at h2
  induction cs generalizing l with
  | nil => rw [h2.nil_left]; trivial
  | cons c cs ih =>
   obtain ⟨u, m, rfl, h3, h4⟩ := h2.cons_left
   exact ⟨RepAV.scalar (h c (by simp)) h3, ih (fun d hd => h d (by simp [hd])) _ h4⟩
theorem RepTV.scalar {w w' : World} {S S' : Nat → Prop} {ρ ρ' : Nat → Option Value} {x : TV} {v : Value} (h : scalarTV x = true) (hr : RepTV w S ρ x v) : RepTV w' S' ρ' x v := by
 cases x with
 | v x => exact RepVV.scalar h hr
 | tup xs =>
  obtain ⟨vs, h1, h2⟩ := hr
  refine ⟨vs, h1, ?_⟩
  replace h : ∀ x ∈ xs, x.cells.all scalarAV = true := by simpa only [scalarTV, List.all_eq_true] using h
  clear h1
  generalize vs.toList = l at h2
  induction xs generalizing l with
  | nil => rw [h2.nil_left]; trivial
  | cons c cs ih =>
   obtain ⟨u, m, rfl, h3, h4⟩ := h2.cons_left
   exact ⟨RepVV.scalar (h c (by simp)) h3, ih (fun d hd => h d (by simp [hd])) _ h4⟩
 | _ => simp [scalarTV] at h
theorem exec1_sound (hE : EnvOK E) {i : Nat} {rd : List Loc} (ho : ops[i]? = some o) (hd : dstOk E.N o.dst = true) (h : exec1 E base i o st rd = some (x, le)) (hR : Rep X w S ρ H E.N st a)
  {next : Act → World → Prop} {Q : Exit → Act → World → Prop} (hk : ∀ a' w' S' ρ' H', Rep X w' S' ρ' H' E.N (next1 ops i st x) a' → More w w' S S' ρ ρ' → next a' w') : o.wp E.P a w next Q := by
 cases hc : calleeOf o.op with
 | some cf =>
  obtain ⟨c, f⟩ := cf
  obtain ⟨hop, hcal⟩ := calleeOf_some hc
  simp only [exec1, hc] at h
  split at h
  ·simp at h
  ·rename_i r rd1 h1
   split at h
   ·simp at h
   ·rename_i ct hct
    split at h
    ·simp at h
    ·rename_i s hs
     split at h
     ·simp at h
     ·rename_i y rd2 h2
      simp at h; obtain ⟨rfl, rfl⟩ := h
      obtain ⟨mv, args, vals, hsg, hok, hts, hargs, hexec⟩ := reqA_spec hop hcal h1 hR
      have hnin : ct.nin = r.nin := by
       unfold Env.sg at hsg; rw [hct] at hsg; simp at hsg; exact hsg.1
      obtain ⟨S1, H1, hm1, hmore1, hset1⟩ := settle_all _ hR.mem hts.all
      obtain ⟨hpk, _⟩ := pkg_mem hok hm1
      have hav := hargs hmore1.s hset1
      have hav' : All2 (RepTV w S1 (fun i => (r.names[i]?).bind ρ)) r.args vals := by
       refine All2.ren (R := RepTV w S1 ρ) (R' := RepTV w S1 (fun i => (r.names[i]?).bind ρ)) (g := TV.ren (idx r.names)) (fun a a' v hg hr => RepTV.ren (fun m m' u h3 h4 => ?_) hg hr) hok.args hav
       simp [idx_some h3, h4]
      have hus := unpack_spec h2
      have hfin : ∀ e w', (∃ v S' ρ' H', e = Ending.returned v ∧ Mem (pkgCx w S1 (fun i => (r.names[i]?).bind ρ) (fun i => (r.names[i]?).bind H1) r.blks ct.nin) w' S' ρ' H' (fun n => s.blks[n]?) ∧ RepTV w' S' ρ' s.tv v) →
        ∃ v, e = .returned v ∧ next (a.put o.dst v) w' := by
       rintro e w' ⟨v, S', ρ', H', rfl, hpost, hv⟩
       rw [hnin] at hpost
       rcases hus with ⟨hnames, hsc, rfl⟩ | ⟨bs, hu⟩
       ·have hblks : r.blks = [] := by
         have := hok.len
         rw [hnames] at this
         exact List.length_eq_zero_iff.1 this
        have hkeep : ∀ k, k < w.heap.size → w'.heap[k]? = w.heap[k]? := fun k hk => hpost.same k hk (by
         rintro ⟨m, C, hC, _⟩
         rw [hblks] at hC; simp at hC)
        have hm2 := hR.mem.later hpost.size hkeep hpost.os hpost.tape hpost.output
        have hM : More w w' S S ρ ρ := ⟨fun _ x => x, fun b hb => hkeep b (hR.mem.old b hb), fun _ _ x => x⟩
        refine ⟨v, rfl, hk _ _ S ρ H ?_ hM⟩
        have := (hR.of_mem (st' := st.sets []) hm2 hM rfl).put hd (RepTV.scalar (S' := S) (ρ' := ρ) (w' := w') hsc hv)
        unfold next1
        rw [dst_of ho]; exact this
       obtain ⟨ρ'', H'', hm2, hmore2, hv2⟩ := call_mem hok hm1 hts hu hpost hv
       have hM := hmore1.trans hmore2
       refine ⟨v, rfl, hk _ _ S' ρ'' H'' ?_ hM⟩
       have := (hR.of_mem (st' := st.sets y.wr) hm2 hM (sets_tmp _ _)).put hd hv2
       unfold next1
       rw [dst_of ho]; exact this
      have hcall := hE r.f ct hct r.args r.blks s hs w S1 _ _ vals (by rw [hnin]; exact hpk) hav'
      unfold Oper.wp
      rw [hexec]
      rcases hcall with ⟨hrun, hcalls⟩ | ⟨v, w', hrun, hpost⟩
      ·rw [hrun, Oper.upon_enter]
       refine hcalls.mono (fun e w' he => ?_)
       obtain ⟨v, rfl, hn⟩ := hfin e w' he
       exact hn
      ·rw [hrun, Oper.upon_value]
       obtain ⟨v', e, hn⟩ := hfin _ _ hpost
       cases e; exact hn
 | none =>
  simp only [exec1, hc] at h
  split at h
  ·rename_i y rd1 h1
   simp at h; obtain ⟨rfl, rfl⟩ := h
   obtain ⟨v, w', S', ρ', H', hrun, hR', hv, hmore⟩ := opA_does h1 hR (fun c f hop hcal => by simp [calleeOf, hop, hcal] at hc)
   have hn := hk _ _ S' ρ' H' (by unfold next1; rw [dst_of ho]; exact hR'.put hd hv) hmore
   unfold Oper.wp
   rcases hrun with hrun | ⟨hrun, rfl⟩
   ·rw [hrun, Oper.upon_value]; exact hn
   ·rw [hrun, Oper.upon_skip]; exact hn
  ·simp at h

theorem yielded_b {j tj : Nat} {b : Bool} (hj : (ops[j]?).bind (·.dst) = some tj) (hv : a.tmps.getD tj undef = .bool b) : yielded ops a.tmps j = some b := by
 unfold yielded
 rw [hj]
 simp only [Option.bind_some]
 rw [Array.getD_eq_getD_getElem?] at hv
 cases hx : a.tmps[tj]? with
 | none => rw [hx] at hv; simp [undef] at hv
 | some v => rw [hx] at hv; simp at hv; subst hv; rfl
theorem yielded_u {j tj : Nat} (hj : (ops[j]?).bind (·.dst) = some tj) (hv : a.tmps.getD tj undef = undef) : yielded ops a.tmps j = none := by
 unfold yielded
 rw [hj]
 simp only [Option.bind_some]
 rw [Array.getD_eq_getD_getElem?] at hv
 cases hx : a.tmps[tj]? with
 | none => rfl
 | some v => rw [hx] at hv; simp at hv; subst hv; rfl

theorem step1_sound (hE : EnvOK E) {i : Nat} (ho : ops[i]? = some o) (h : step1 E ops base i st = some (x, le)) (hR : Rep X w S ρ H E.N st a)
  {next : Act → World → Prop} {Q : Exit → Act → World → Prop} (hk : ∀ a' w' S' ρ' H', Rep X w' S' ρ' H' E.N (next1 ops i st x) a' → More w w' S S' ρ ρ' → next a' w') :
  if Region.wanted o (yielded ops a.tmps) then o.wp E.P a w next Q else next (a.put o.dst undef) w := by
 simp only [step1, ho] at h
 split at h
 ·rename_i hd
  have skip : le = le → x = undefOut → next (a.put o.dst undef) w := fun _ hx => by
   refine hk _ _ S ρ H ?_ (More.refl _ _ _)
   unfold next1
   rw [dst_of ho, hx]
   exact hR.put (tv := .undef) hd rfl
  cases hg : o.guard with
  | none =>
   simp only [hg] at h
   rw [if_pos (by simp [Region.wanted, hg])]
   exact exec1_sound hE ho hd h hR hk
  | some jw =>
   obtain ⟨j, want⟩ := jw
   simp only [hg] at h
   cases htj : (ops[j]?).bind (·.dst) with
   | none => simp [htj] at h
   | some tj =>
    simp only [htj] at h
    split at h
    ·rename_i b hb
     have hv := rep_b (hR.tmp tj _ hb)
     have hy := yielded_b htj hv
     split at h
     ·rename_i e
      rw [if_pos (by simp [Region.wanted, hg, hy, e])]
      exact exec1_sound hE ho hd h hR hk
     ·rename_i e
      rw [if_neg (by simp [Region.wanted, hg, hy, e])]
      simp at h
      exact skip rfl h.1.symm
    ·rename_i hb
     have hv : a.tmps.getD tj undef = undef := hR.tmp tj _ hb
     have hy := yielded_u htj hv
     rw [if_neg (by simp [Region.wanted, hg, hy])]
     simp at h
     exact skip rfl h.1.symm
    ·simp at h
 ·simp at h

theorem runs_sound (hE : EnvOK E) {Q : Exit → Act → World → Prop} : ∀ {L : List (Nat × LogE)} {st st' : St} {a : Act} {w : World} {S : Nat → Prop} {ρ : Nat → Option Value} {H : Nat → Option Nat}, Runs E ops base L st st' → Rep X w S ρ H E.N st a →
  (∀ a' w' S' ρ' H', Rep X w' S' ρ' H' E.N st' a' → More w w' S S' ρ ρ' → Q .normal a' w') → wpOps E.P ops Q (L.map (·.1)) a w
 | [], st, st', a, w, S, ρ, H, h, hR, hk => by
  cases h
  exact hk a w S ρ H hR (More.refl _ _ _)
 | (i, le) :: L, st, st', a, w, S, ρ, H, h, hR, hk => by
  cases h with
  | cons h1 h2 =>
   rename_i x
   cases ho : ops[i]? with
   | none => simp [step1, ho] at h1
   | some o =>
    simp only [List.map_cons, wpOps, ho]
    have := step1_sound hE ho h1 hR (next := wpOps E.P ops Q (L.map (·.1))) (Q := Q) (fun a' w' S' ρ' H' hR' hM => runs_sound hE h2 hR' (fun a'' w'' S'' ρ'' H'' hR'' hM' => hk a'' w'' S'' ρ'' H'' hR'' (hM.trans hM')))
    split
    ·rename_i hw
     rw [if_pos hw] at this
     exact .inl this
    ·rename_i hw
     rw [if_neg hw] at this
     exact this

theorem runs_sound' (hE : EnvOK E) {Q : Exit → Act → World → Prop} {tl : List Nat} : ∀ {L : List (Nat × LogE)} {st st' : St} {a : Act} {w : World} {S : Nat → Prop} {ρ : Nat → Option Value} {H : Nat → Option Nat}, Runs E ops base L st st' → Rep X w S ρ H E.N st a →
  (∀ a' w' S' ρ' H', Rep X w' S' ρ' H' E.N st' a' → More w w' S S' ρ ρ' → wpOps E.P ops Q tl a' w') → wpOps E.P ops Q (L.map (·.1) ++ tl) a w
 | [], st, st', a, w, S, ρ, H, h, hR, hk => by
  cases h
  exact hk a w S ρ H hR (More.refl _ _ _)
 | (i, le) :: L, st, st', a, w, S, ρ, H, h, hR, hk => by
  cases h with
  | cons h1 h2 =>
   rename_i x
   cases ho : ops[i]? with
   | none => simp [step1, ho] at h1
   | some o =>
    simp only [List.map_cons, List.cons_append, wpOps, ho]
    have := step1_sound hE ho h1 hR (next := wpOps E.P ops Q (L.map (·.1) ++ tl)) (Q := Q) (fun a' w' S' ρ' H' hR' hM => runs_sound' hE h2 hR' (fun a'' w'' S'' ρ'' H'' hR'' hM' => hk a'' w'' S'' ρ'' H'' hR'' (hM.trans hM')))
    split
    ·rename_i hw
     rw [if_pos hw] at this
     exact .inl this
    ·rename_i hw
     rw [if_neg hw] at this
     exact this

/-! ### the drawn orders -/
theorem aheadM_bit {acc : List Nat} {i : Nat} : ∀ (l : List Edge) (m : Nat), (l.foldl (aheadM acc) m).testBit i = true → m.testBit i = true ∨ ∃ e ∈ l, binding e = true ∧ (i = e.on ∨ (acc.getD e.on 0).testBit i = true)
 | [], m, h => .inl h
 | e :: l, m, h => by
  rw [List.foldl_cons] at h
  rcases aheadM_bit l _ h with h | ⟨e', h1, h2, h3⟩
  ·unfold aheadM at h
   cases hb : binding e with
   | false => rw [hb] at h; exact .inl h
   | true =>
    rw [hb] at h
    have h' : ((m ||| 2 ^ e.on) ||| acc.getD e.on 0).testBit i = true := h
    rw [Nat.testBit_or, Nat.testBit_or, Nat.testBit_two_pow] at h'
    simp only [Bool.or_eq_true, decide_eq_true_eq] at h'
    rcases h' with (h' | h') | h'
    ·exact .inl h'
    ·exact .inr ⟨e, by simp, hb, .inl h'.symm⟩
    ·exact .inr ⟨e, by simp, hb, .inr h'⟩
  ·exact .inr ⟨e', by simp [h1], h2, h3⟩
theorem ahead_eq (l : List Oper) : ahead l = l.foldl aheadStep [] := rfl
def AheadInv (ops : List Oper) (acc : List Nat) : Prop :=
 ∀ j a, acc[j]? = some a → ∃ o, ops[j]? = some o ∧ ∀ i, a.testBit i = true → ∃ e ∈ o.after, binding e = true ∧ (i = e.on ∨ ∃ a', acc[e.on]? = some a' ∧ e.on < j ∧ a'.testBit i = true)
theorem ahead_inv (all : List Oper) : ∀ (l pre : List Oper) (acc : List Nat), all = pre ++ l → acc.length = pre.length → AheadInv all acc → AheadInv all (l.foldl aheadStep acc)
 | [], pre, acc, _, _, h => h
 | o :: l, pre, acc, he, hl, h => by
  rw [List.foldl_cons]
  refine ahead_inv all l (pre ++ [o]) (aheadStep acc o) (by simp [he]) (by simp [aheadStep, hl]) ?_
  intro j a hj
  unfold aheadStep at hj
  by_cases hlt : j < acc.length
  ·rw [List.getElem?_append_left hlt] at hj
   obtain ⟨o', ho', hi⟩ := h j a hj
   refine ⟨o', ho', fun i hi' => ?_⟩
   obtain ⟨e, he, hb, hc⟩ := hi i hi'
   refine ⟨e, he, hb, ?_⟩
   rcases hc with hc | ⟨a', h1, h2, h3⟩
   ·exact .inl hc
   ·refine .inr ⟨a', ?_, h2, h3⟩
    unfold aheadStep
    rw [List.getElem?_append_left (by omega)]; exact h1
  ·rw [List.getElem?_append_right (by omega)] at hj
   have hj0 : j - acc.length = 0 := by
    rcases Nat.eq_zero_or_pos (j - acc.length) with h | h
    ·exact h
    ·rw [List.getElem?_eq_none (by simp; omega)] at hj; simp at hj
   rw [hj0] at hj
   simp only [List.getElem?_cons_zero, Option.some.injEq] at hj
   have hjl : j = pre.length := by omega
   refine ⟨o, by rw [he, hjl]; simp, fun i hi => ?_⟩
   rw [← hj] at hi
   rcases aheadM_bit _ _ hi with hi | ⟨e, hem, hb, hie⟩
   ·simp at hi
   ·refine ⟨e, by simpa using hem, hb, ?_⟩
    rcases hie with hie | hie
    ·exact .inl hie
    ·right
     cases hx : acc[e.on]? with
     | none => simp [List.getD, hx] at hie
     | some a' =>
      have hlt' : e.on < acc.length := by
       rcases Nat.lt_or_ge e.on acc.length with h | h
       ·exact h
       ·rw [List.getElem?_eq_none h] at hx; simp at hx
      refine ⟨a', ?_, by omega, by simpa [List.getD, hx] using hie⟩
      unfold aheadStep
      rw [List.getElem?_append_left hlt']; exact hx

theorem binds_of {m : Region.Mode} {e : Edge} (h : binding e = true) : Region.binds m e = true := by
 unfold binding at h
 unfold Region.binds
 split at h <;> simp_all

theorem good_ahead {m : Region.Mode} (hI : AheadInv ops.toList (ahead ops.toList)) : ∀ (n : Nat) {j i a : Nat} {A B : List Nat}, j < n → (ahead ops.toList)[j]? = some a → a.testBit i = true → Good m ops (A ++ j :: B) → i ∈ B
 | 0, j, i, a, A, B, hn, _, _, _ => by omega
 | n + 1, j, i, a, A, B, hn, hj, hi, hg => by
  have hgB : Good m ops (j :: B) := by
   clear hn hj hi
   induction A with
   | nil => exact hg
   | cons x A ih => exact ih hg.2.2.2
  obtain ⟨o, ho, hall⟩ := hI j a hj
  obtain ⟨e, he, hb, hc⟩ := hall i hi
  have ho' : ops[j]? = some o := by simpa using ho
  have hin := hgB.2.2.1 o ho' e he (binds_of hb)
  rcases hc with rfl | ⟨a', h1, h2, h3⟩
  ·exact hin
  ·obtain ⟨A', B', rfl⟩ := List.append_of_mem hin
   have := good_ahead hI n (by omega) h1 h3 hgB.2.2.2
   simp [this]

theorem backFrom_spec : ∀ {l : List Oper} {i : Nat}, backFrom i l = true → ∀ {k : Nat} {o : Oper}, l[k]? = some o → ∀ e ∈ o.after, e.on < i + k
 | [], i, _, k, o, h, _, _ => by simp at h
 | o' :: l, i, hb, k, o, h, e, he => by
  simp only [backFrom, Bool.and_eq_true, List.all_eq_true] at hb
  cases k with
  | zero =>
   simp at h; subst h
   have := hb.1 e (by simpa using he)
   have := Nat.le_of_ble_eq_true this
   omega
  | succ k =>
   have := backFrom_spec hb.2 (by simpa using h) e he
   omega
theorem back_good (hb : backFrom 0 ops.toList = true) (m : Region.Mode) : Good m ops (List.range ops.size).reverse := by
 have key : ∀ n, n ≤ ops.size → Good m ops (List.range n).reverse := by
  intro n
  induction n with
  | zero => intro _; exact trivial
  | succ n ih =>
   intro hn
   rw [List.range_succ, List.reverse_append, List.reverse_singleton, List.singleton_append]
   refine ⟨by omega, by simp, fun o ho e he _ => ?_, ih (by omega)⟩
   have := backFrom_spec hb (k := n) (by simpa using ho) e he
   simp; omega
 exact key _ (Nat.le_refl _)
theorem sched_good (hs : schedOk ops = true) (mixed : Bool) (t : Nat) : ∃ m acc, Region.schedule mixed ops t = acc.reverse ∧ Good m ops acc ∧ acc.length = ops.size := by
 have key : ∀ m t, (Region.linearise m ops 0).length = ops.size → ∃ acc, Region.linearise m ops t = acc.reverse ∧ Good m ops acc ∧ acc.length = ops.size := by
  intro m t h0
  obtain ⟨l0, e0, g0, _⟩ := linearise_spec m ops 0
  obtain ⟨acc, e1, g1, s1⟩ := linearise_spec m ops t
  rw [e0] at h0
  exact ⟨acc, e1, g1, full_of_full m ops g0 (by simpa using h0) g1 s1⟩
 have key2 : backFrom 0 ops.toList = true → ∀ m t, ∃ acc, Region.linearise m ops t = acc.reverse ∧ Good m ops acc ∧ acc.length = ops.size := by
  intro hb m t
  obtain ⟨acc, e1, g1, s1⟩ := linearise_spec m ops t
  exact ⟨acc, e1, g1, full_of_full m ops (back_good hb m) (by simp) g1 s1⟩
 unfold schedOk at hs
 rw [Bool.or_eq_true] at hs
 rcases hs with hs | hs
 ·unfold Region.schedule
  split
  ·obtain ⟨acc, h⟩ := key2 hs .any t; exact ⟨_, acc, h⟩
  ·split
   ·obtain ⟨acc, h⟩ := key2 hs .text (t / 2); exact ⟨_, acc, h⟩
   ·obtain ⟨acc, h⟩ := key2 hs .gc (t / 2); exact ⟨_, acc, h⟩
 simp only [Bool.and_eq_true, beq_iff_eq] at hs
 obtain ⟨⟨s1, s2⟩, s3⟩ := hs
 unfold Region.schedule
 split
 ·obtain ⟨acc, h⟩ := key .any t s1; exact ⟨_, acc, h⟩
 ·split
  ·obtain ⟨acc, h⟩ := key .text (t / 2) s2; exact ⟨_, acc, h⟩
  ·obtain ⟨acc, h⟩ := key .gc (t / 2) s3; exact ⟨_, acc, h⟩

theorem range_perm {acc : List Nat} {n : Nat} (hn : acc.Nodup) (hlt : ∀ i ∈ acc, i < n) (hl : acc.length = n) : acc.reverse.Perm (List.range n) := by
 refine (List.reverse_perm acc).trans ?_
 have hsub : ∀ i, i < n → i ∈ acc := by
  intro i hi
  apply Classical.byContradiction
  intro hni
  have h1 : (i :: acc).Nodup := List.nodup_cons.2 ⟨hni, hn⟩
  have := nodup_le h1 (m := List.range n) (fun j hj => by
   simp only [List.mem_cons] at hj
   rw [List.mem_range]
   rcases hj with rfl | hj
   ·exact hi
   ·exact hlt j hj)
  simp at this; omega
 rw [List.perm_ext_iff_of_nodup hn List.nodup_range]
 intro i
 rw [List.mem_range]
 exact ⟨hlt i, hsub i⟩

theorem idx_range {L : List (Nat × LogE)} {n : Nat} (h : L.map (·.1) = List.range n) {k : Nat} {p : Nat × LogE} (hk : L[k]? = some p) : p.1 = k := by
 have : (L.map (·.1))[k]? = some p.1 := by simp [hk]
 rw [h] at this
 rw [List.getElem?_range] at this
 ·simpa using this.symm
 ·rcases Nat.lt_or_ge k n with h' | h'
  ·exact h'
  ·rw [List.getElem?_eq_none (by simpa using h')] at this; simp at this

theorem region_sound (hE : EnvOK E) {id : Nat} {draw : Bool} {L : List (Nat × LogE)} {st' : St} (hL : L.map (·.1) = List.range ops.size) (hr : Runs E ops base L st st')
  (hd : draw = true → freeOf (ahead ops.toList) ((L.map (·.2)).reverse) = true ∧ schedOk ops = true) (hR : Rep X w S ρ H E.N st a) {Q : Exit → Act → World → Prop}
  (hk : ∀ a' w' S' ρ' H', Rep X w' S' ρ' H' E.N st' a' → More w w' S S' ρ ρ' → Q .normal a' w') : (Code.region id ops draw).wp E.P Q a w := by
 cases draw with
 | false =>
  refine wp_region ?_
  rw [← hL]
  exact runs_sound hE hr hR hk
 | true =>
  obtain ⟨hf, hs⟩ := hd rfl
  refine wp_region_draw (fun t => ?_)
  have hR' : Rep X { w with drawn := w.drawn + 1 } S ρ H E.N st a := hR.of_mem (hR.mem.world rfl rfl rfl rfl) ⟨fun _ x => x, fun _ _ => rfl, fun _ _ x => x⟩ rfl
  obtain ⟨m, acc, e, hg, hl⟩ := sched_good hs (E.P.follows .mixedOrders) t
  rw [e]
  have hperm : acc.reverse.Perm (L.map (·.1)) := by
   rw [hL]
   exact range_perm (hg.nodup m ops) (hg.lt m ops) hl
  have hI : AheadInv ops.toList (ahead ops.toList) := by
   rw [ahead_eq]
   exact ahead_inv ops.toList ops.toList [] [] (by simp) rfl (fun j a h => by simp at h)
  have hnd : acc.reverse.Nodup := ((List.reverse_perm acc).nodup_iff).2 (hg.nodup m ops)
  obtain ⟨L', e', hr'⟩ := runs_perm hr hperm hnd (fun p q hpq hqp => by
   -- places of the two
   obtain ⟨k1, hk1⟩ := List.getElem?_of_mem (hpq.subset (List.mem_cons_self))
   obtain ⟨k2, hk2⟩ := List.getElem?_of_mem (hpq.subset (by simp : q ∈ [p, q]))
   have i1 := idx_range hL hk1
   have i2 := idx_range hL hk2
   have hlt : p.1 < q.1 := by
    have : [p.1, q.1].Sublist (List.range ops.size) := by rw [← hL]; exact hpq.map (·.1)
    have hp := List.pairwise_lt_range (n := ops.size)
    have := hp.sublist this
    simpa using this
   have hchk : ((ahead ops.toList).getD q.1 0).testBit p.1 = true ∨ indep p.2 q.2 = true := by
    unfold freeOf at hf
    simp only [List.reverse_reverse] at hf
    rw [List.all_eq_true] at hf
    have m2 : (q.2, q.1) ∈ ((L.map (·.2)).zipIdx) := by
     refine List.mem_of_getElem? (i := k2) ?_
     rw [List.getElem?_zipIdx]; simp [hk2, i2]
    have m1 : (p.2, p.1) ∈ ((L.map (·.2)).zipIdx) := by
     refine List.mem_of_getElem? (i := k1) ?_
     rw [List.getElem?_zipIdx]; simp [hk1, i1]
    have h1 := hf _ m2
    simp only at h1
    rw [List.all_eq_true] at h1
    have h2 := h1 _ m1
    simp only [hlt, decide_true, Bool.not_true, Bool.false_or, Bool.or_eq_true] at h2
    exact h2
   rcases hchk with hc | hc
   ·exfalso
    have hmem : ∃ a, (ahead ops.toList)[q.1]? = some a ∧ a.testBit p.1 = true := by
     cases hx : (ahead ops.toList)[q.1]? with
     | none => simp [List.getD, hx] at hc
     | some a => exact ⟨a, rfl, by simpa [List.getD, hx] using hc⟩
    obtain ⟨a', ha', hpa⟩ := hmem
    have hqp' : [p.1, q.1].Sublist acc := by
     have := hqp.reverse
     simpa using this
    -- acc = A ++ p :: .. q ..; q's place has p behind it
    have hqacc : q.1 ∈ acc := hqp'.subset (by simp)
    obtain ⟨A, B, rfl⟩ := List.append_of_mem hqacc
    have hpB := good_ahead hI (q.1 + 1) (Nat.lt_succ_self _) ha' hpa hg
    have hnd' := hg.nodup m ops
    -- p is in B; but p stands ahead of q in acc
    have : ∀ (A : List Nat), (A ++ q.1 :: B).Nodup → [p.1, q.1].Sublist (A ++ q.1 :: B) → False := by
     intro A
     induction A with
     | nil =>
      intro hn hsub
      simp only [List.nil_append] at hn hsub
      have hn' := List.nodup_cons.1 hn
      rcases List.sublist_cons_iff.mp hsub with h | ⟨r, hr, h⟩
      ·exact hn'.1 (h.subset (by simp))
      ·simp at hr
       exact hn'.1 (hr.1 ▸ hpB)
     | cons x A ih =>
      intro hn hsub
      have hn' := List.nodup_cons.1 (by simpa using hn : (x :: (A ++ q.1 :: B)).Nodup)
      rcases List.sublist_cons_iff.mp hsub with h | ⟨r, hr, h⟩
      ·exact ih hn'.2 h
      ·simp at hr
       exact hn'.1 (by rw [← hr.1]; simp [hpB])
    exact this A hnd' hqp'
   ·exact hc)
  rw [← e']
  exact runs_sound hE hr' hR' (fun a' w' S' ρ' H' hR'' hM => hk a' w' S' ρ' H' hR'' ⟨hM.s, hM.heap, hM.names⟩)
end
end Go.Proofs.YtijjlpgcpdapnaaGreatDoor.Aev

/- AEV: packages of a state, what is done ahead of a segment, and results. -/
namespace Go.Proofs.YtijjlpgcpdapnaaGreatDoor.Aev
set_option linter.unusedVariables false
set_option linter.unusedSimpArgs false
open Go

section
variable {P : Program} {X : Cx} {w : World} {S : Nat → Prop} {ρ : Nat → Option Value} {H : Nat → Option Nat} {N : Nat} {st : St} {a : Act} {lg lg' : List Loc}

theorem Rep.tell (h : Rep X w S ρ H N st a) {t : Nat} {tv : TV} (hv : RepTV w S ρ tv (a.tmps.getD t undef)) : Rep X w S ρ H N (st.put (some t) tv) a := by
 refine { mem := h.mem, tmp := ?_, size := h.size, defers := h.defers }
 intro n u hu
 simp only [St.put] at hu
 split at hu
 ·rename_i e; subst e; cases hu; exact hv
 ·exact h.tmp n u hu

theorem settle_rep (h : Rep X w S ρ H N st a) {wr : List (Nat × Option Blk)} (ht : ToSettle st wr) : ∃ S' H', Rep X w S' ρ H' N (st.sets wr) a ∧ More w w S S' ρ ρ ∧ Settled w S' ρ wr := by
 obtain ⟨S', H', hm, hmore, hset⟩ := settle_all wr h.mem ht.all
 exact ⟨S', H', h.of_mem hm hmore (sets_tmp _ _), hmore, hset⟩

theorem toOwn_rep {fr : Nat} {e : Ty} {c : AV} {v : Value} {r : (AV × List (Nat × Option Blk)) × List Loc} (h : (toOwn fr e c).run st lg = some r) (hR : Rep X w S ρ H N st a) (hv : RepAV w S ρ c v) :
  ∃ ρ' H', Rep X w S ρ' H' N (st.sets r.1.2) a ∧ More w w S S ρ ρ' ∧ RepAV w S ρ' r.1.1 v ∧ (∀ p ∈ r.1.2, st.blk p.1 = none ∨ ∃ t ex xs, st.blk p.1 = some (some (.own t ex xs))) := by
 unfold toOwn at h
 split at h
 ·have h := run_rdB h
  split at h
  ·rename_i hn
   cases run_pure' h
   obtain ⟨rfl, _⟩ := hv
   obtain ⟨hm, hmore⟩ := hR.mem.adopt hn (home := none) (w' := w) (fun b hb => by simp at hb) (Nat.le_refl _) (fun k _ _ => rfl) rfl rfl rfl (v := .slice none 0 0) (B := .own e false [])
    ⟨_, by rw [upd_same], .inr ⟨rfl, rfl, rd_nil, none, rfl⟩⟩
   refine ⟨_, _, hR.of_mem (st' := st.sets [(fr, some (.own e false []))]) hm hmore rfl, hmore, ⟨by rw [upd_same], _, _, _, rfl⟩, fun p hp => ?_⟩
   simp at hp; subst hp; exact .inl hn
  ·exact (rfl0 h).elim
 ·rename_i n
  obtain ⟨B, lg1, h1, h⟩ := rbs h
  have hb := run_rB h1
  simp only at h hb
  split at h
  ·rename_i u ex xs
   split at h
   ·cases run_pure' h
    obtain ⟨v', h2, h3⟩ := hR.mem.rep n _ hb
    have hm := hR.mem.retell hb (B' := .own u false xs) ⟨v', h2, by
     rcases h3 with h3 | ⟨_, h3⟩
     ·exact .inl h3
     ·exact .inr ⟨rfl, h3⟩⟩
    refine ⟨ρ, H, hR.of_mem (st' := st.sets [(n, some (.own u false xs))]) hm (More.refl _ _ _) rfl, More.refl _ _ _, hv, fun p hp => ?_⟩
    simp at hp; subst hp; exact .inr ⟨_, _, _, hb⟩
   ·exact (rfl0 h).elim
  ·exact (rfl0 h).elim
 ·exact (rfl0 h).elim

theorem cut_id (vs : List Value) (off n : Nat) (h : off + n ≤ vs.length) : vs.take off ++ (vs.drop off).take n ++ vs.drop (off + n) = vs := by
 rw [List.append_assoc]
 have : vs.drop (off + n) = (vs.drop off).drop n := by rw [List.drop_drop]
 rw [this, List.take_append_drop, List.take_append_drop]

theorem prepA_rep {fr : Nat} {p : Prep} {r : (Option (Nat × TV) × List (Nat × Option Blk)) × List Loc} (h : (prepA fr p).run st lg = some r) (hR : Rep X w S ρ H N st a) :
  ∃ S' ρ' H', Rep X w S' ρ' H' N (match r.1.1 with | some (t, v) => (st.sets r.1.2).put (some t) v | none => st.sets r.1.2) a ∧ More w w S S' ρ ρ' := by
 cases p with
 | dat t ty =>
  simp only [prepA] at h
  obtain ⟨v, lg1, h1, h⟩ := rbs h
  have hv := hR.tmp _ _ (run_rT h1)
  simp only at h hv
  split at h
  ·obtain ⟨⟨y, wr⟩, lg2, h2, h⟩ := rbs h
   cases run_pure h
   obtain ⟨hts, hn⟩ := normVV_spec h2 hR.mem
   obtain ⟨S', H', hR', hmore, hset⟩ := settle_rep hR hts
   exact ⟨S', ρ, H', hR'.tell (hn hmore.s hset hv), hmore⟩
  ·exact (rfl0 h).elim
 | own t e =>
  simp only [prepA] at h
  obtain ⟨v, lg1, h1, h⟩ := rbs h
  have hv := hR.tmp _ _ (run_rT h1)
  simp only at h hv
  split at h
  ·obtain ⟨⟨y, wr⟩, lg2, h2, h⟩ := rbs h
   cases run_pure h
   obtain ⟨ρ', H', hR', hmore, hv', _⟩ := toOwn_rep h2 hR hv
   exact ⟨S, ρ', H', hR'.tell hv', hmore⟩
  ·exact (rfl0 h).elim
 | cellDat t off ty =>
  simp only [prepA] at h
  obtain ⟨v, lg1, h1, h⟩ := rbs h
  obtain ⟨⟨n, o⟩, lg2, h2, h⟩ := rbs h
  obtain ⟨B, lg3, h3, h⟩ := rbs h
  have hb := run_rB h3
  simp only at h hb
  split at h
  ·rename_i cs
   split at h
   ·rename_i l hcut
    obtain ⟨⟨y, wr⟩, lg4, h4, h⟩ := rbs h
    simp only at h
    split at h
    ·rename_i cs' hput
     split at h
     ·rename_i hap
      cases run_pure' h
      obtain ⟨hts, hn⟩ := normVV_spec h4 hR.mem
      obtain ⟨S', H', hR', hmore, hset⟩ := settle_rep hR hts
      have hb' : (st.sets wr).blk n = some (some (.box cs)) := by
       rw [sets_other]
       ·exact hb
       ·intro p hp e
        exact apartL_spec hap n (by simp) (List.mem_map.2 ⟨p, hp, e⟩)
      obtain ⟨b, vs, el, e1, e2, e3, e4⟩ := hR'.mem.rep n _ hb'
      obtain ⟨_, vs0, _, e1', e2', e3', e4'⟩ := hR.mem.rep n _ hb
      rw [e2'] at e2; simp at e2; subst e2
      rw [e3'] at e3; simp at e3; obtain ⟨rfl, _⟩ := e3
      obtain ⟨hc1, rfl⟩ := cut_some hcut
      have hlen := e4.length
      have hy := hn (v := .agg ((vs0.toList.drop (o + off)).take ty.size).toArray) hmore.s hset ⟨_, rfl, by simpa using (e4'.drop (o + off)).take ty.size⟩
      have hyc := RepVV.cells hy
      obtain ⟨h5, h6⟩ := putCells_rep hput e4 hyc
      have hsz : (Value.agg ((vs0.toList.drop (o + off)).take ty.size).toArray).cells.toList = (vs0.toList.drop (o + off)).take ty.size := by simp [Value.cells]
      rw [hsz] at h6
      have hl : ((vs0.toList.drop (o + off)).take ty.size).length = ty.size := by simp at hlen ⊢; omega
      rw [hl, cut_id _ _ _ (by omega)] at h6
      have hm := hR'.mem.retell hb' (B' := .box cs') ⟨_, vs0, _, e1, e2', e3', h6⟩
      refine ⟨S', ρ, H', ?_, hmore⟩
      have := hR'.of_mem (st' := (st.sets wr).sets [(n, some (.box cs'))]) hm (More.refl _ _ _) rfl
      simp only [sets_append]
      exact this
     ·exact (rfl0 h).elim
    ·exact (rfl0 h).elim
   ·exact (rfl0 h).elim
  ·exact (rfl0 h).elim
 | cellOwn t off e =>
  simp only [prepA] at h
  obtain ⟨v, lg1, h1, h⟩ := rbs h
  split at h
  ·cases run_pure' h
   exact ⟨S, ρ, H, hR, More.refl _ _ _⟩
  obtain ⟨⟨n, o⟩, lg2, h2, h⟩ := rbs h
  obtain ⟨B, lg3, h3, h⟩ := rbs h
  have hb := run_rB h3
  simp only at h hb
  split at h
  ·rename_i cs
   split at h
   ·rename_i c hcut
    obtain ⟨⟨y, wr⟩, lg4, h4, h⟩ := rbs h
    simp only at h
    split at h
    ·rename_i cs' hput
     split at h
     ·rename_i hap
      cases run_pure' h
      obtain ⟨_, vs0, _, e1', e2', e3', e4'⟩ := hR.mem.rep n _ hb
      obtain ⟨hc1, hc2⟩ := cut_some hcut
      have hcut' := (e4'.drop (o + off)).take 1
      rw [← hc2] at hcut'
      obtain ⟨u, m, hu, hvc, hm0⟩ := hcut'.cons_left
      have hm0 := hm0.nil_left
      subst hm0
      obtain ⟨ρ', H', hR', hmore, hv', _⟩ := toOwn_rep h4 hR hvc
      have hb' : (st.sets wr).blk n = some (some (.box cs)) := by
       rw [sets_other]
       ·exact hb
       ·intro p hp e
        exact apartL_spec hap n (by simp) (List.mem_map.2 ⟨p, hp, e⟩)
      obtain ⟨b, vs, el, e1, e2, e3, e4⟩ := hR'.mem.rep n _ hb'
      have e2'' := hmore.names _ _ e2'
      rw [e2''] at e2; simp at e2; subst e2
      rw [e3'] at e3; simp at e3; obtain ⟨rfl, _⟩ := e3
      have hlen := e4.length
      obtain ⟨h5, h6⟩ := putCells_rep hput e4 (us := [u]) ⟨hv', trivial⟩
      rw [← hu] at h6
      have hl : ((vs0.toList.drop (o + off)).take 1).length = 1 := by rw [hu]; rfl
      rw [hl, cut_id _ _ _ (by omega)] at h6
      have hm := hR'.mem.retell hb' (B' := .box cs') ⟨_, vs0, _, e1, e2'', e3', h6⟩
      refine ⟨S, ρ', H', ?_, hmore⟩
      have := hR'.of_mem (st' := (st.sets wr).sets [(n, some (.box cs'))]) hm (More.refl _ _ _) rfl
      simp only [sets_append]
      exact this
     ·exact (rfl0 h).elim
    ·exact (rfl0 h).elim
   ·cases run_pure' h
    exact ⟨S, ρ, H, hR, More.refl _ _ _⟩
   ·exact (rfl0 h).elim
  ·exact (rfl0 h).elim

theorem runPreps_rep {β : Type} {K : St → Option β} {r : β} : ∀ {ps : List Prep} {fr : Nat} {st : St} {S : Nat → Prop} {ρ : Nat → Option Value} {H : Nat → Option Nat}, runPreps K ps fr st = some r → Rep X w S ρ H N st a →
  ∃ st' S' ρ' H', K st' = some r ∧ Rep X w S' ρ' H' N st' a
 | [], fr, st, S, ρ, H, h, hR => ⟨st, S, ρ, H, h, hR⟩
 | p :: ps, fr, st, S, ρ, H, h, hR => by
  simp only [runPreps] at h
  obtain ⟨q, lg', h1, h⟩ := runK_some h
  obtain ⟨S', ρ', H', hR', _⟩ := prepA_rep h1 hR
  simp only at h hR'
  split at h
  ·rename_i t v hq
   rw [hq] at hR'
   exact runPreps_rep h hR'
  ·rename_i hq
   rw [hq] at hR'
   exact runPreps_rep h hR'

theorem packN_rep {nin : Nat} {wr : List (Nat × Option Blk)} {tvs : List TV} {vals : List Value} {r : (List TV × List (Option Blk)) × List Loc} (h : (packN nin wr tvs).run st lg = some r)
  {st2 : St} (h2 : ∀ n, n ∉ wr.map (·.1) → st2.blk n = st.blk n) (hm : Mem X w S ρ H st2.blk) (hX : ∀ n v, X.ρ0 n = some v → n < nin) (hv : All2 (RepTV w S ρ) tvs vals) :
  ∃ ρ' H', Mem X w S ρ' H' (fun n => r.1.2[n]?) ∧ All2 (RepTV w S ρ') r.1.1 vals := by
 unfold packN at h
 obtain ⟨ins, lg1, h1, h⟩ := rbs h
 obtain ⟨nb, lg2, h3, h⟩ := rbs h
 obtain ⟨tvs', lg3, h4, h⟩ := rbs h
 obtain ⟨blks', lg4, h5, h⟩ := rbs h
 have ht := optMapM (run_ofO h4)
 have hb := optMapM (run_ofO h5)
 simp only at ht hb h
 split at h
 ·rename_i hc
  simp only [Bool.and_eq_true] at hc
  obtain ⟨c1, c2⟩ := hc
  cases run_pure' h
  have hins := run_mapM h1
  simp only at hins
  generalize hnames : List.range nin ++ nb.map (·.1) = names at ht hb c1 c2
  have hnd : ∀ {i j n : Nat}, names[i]? = some n → names[j]? = some n → i = j := fun hi hj => nodupB_spec c2 hi hj
  have hlive : ∀ n ∈ names, st2.blk n = st.blk n := fun n hn => h2 n (apartL_spec c1 n hn)
  have hinl : ins.length = nin := by have := hins.length; simp at this; exact this.symm
  -- the block of each name
  have get : ∀ (i : Nat) (b : Option Blk), (ins ++ nb.map fun p => some p.2)[i]? = some b → ∃ n, names[i]? = some n ∧ st2.blk n = some b := by
   intro i b hi
   by_cases hlt : i < nin
   ·rw [List.getElem?_append_left (by omega)] at hi
    obtain ⟨n, hn, lg5, lg6, hr⟩ := hins.get' hi
    rw [List.getElem?_range hlt] at hn
    simp at hn; subst hn
    have hr := run_rdB hr
    have hni : names[i]? = some i := by rw [← hnames, List.getElem?_append_left (by simpa using hlt), List.getElem?_range hlt]
    refine ⟨i, hni, ?_⟩
    rw [hlive i (List.mem_of_getElem? hni)]
    split at hr
    ·rename_i b' hb'
     cases run_pure' hr
     exact hb'
    ·exact (rfl0 hr).elim
   ·rw [List.getElem?_append_right (by omega), hinl] at hi
    simp only [List.getElem?_map, Option.map_eq_some_iff] at hi
    obtain ⟨p, hp, rfl⟩ := hi
    have hni : names[i]? = some p.1 := by
     rw [← hnames, List.getElem?_append_right (by simp; omega)]
     simp [hp]
    refine ⟨p.1, hni, ?_⟩
    rw [hlive _ (List.mem_of_getElem? hni)]
    exact reach_spec h3 p (List.mem_of_getElem? hp)
  have hlen : names.length = blks'.length := by
   have := hb.length
   rw [← hnames]; simp at this ⊢; omega
  let ρ' : Nat → Option Value := fun i => (names[i]?).bind ρ
  let H' : Nat → Option Nat := fun i => (names[i]?).bind H
  have hp : ∀ {i n : Nat}, names[i]? = some n → ρ' i = ρ n ∧ H' i = H n := fun h => by simp [ρ', H', h]
  have hren : ∀ m m' v, idx names m = some m' → ρ m = some v → ρ' m' = some v := fun m m' v h4 h5 => by rw [(hp (idx_some h4)).1]; exact h5
  have getB : ∀ (i : Nat) (B : Blk), blks'[i]? = some (some B) → ∃ n B0, names[i]? = some n ∧ st2.blk n = some (some B0) ∧ B0.ren (idx names) = some B := by
   intro i B hB
   obtain ⟨b0, hb0, hr⟩ := hb.get' hB
   obtain ⟨B0, rfl, hr2⟩ := renO_some hr
   obtain ⟨n, h6, h7⟩ := get i _ hb0
   exact ⟨n, B0, h6, h7, hr2⟩
  refine ⟨ρ', H', ?_, All2.ren (R := RepTV w S ρ) (R' := RepTV w S ρ') (fun a a' v hg hr => RepTV.ren hren hg hr) ht hv⟩
  refine { rep := ?_, sep := ?_, apart := ?_, homes := ?_, old := hm.old, never := ?_, s0 := hm.s0, smine := hm.smine, names := ?_, os := hm.os, tape := hm.tape, output := hm.output, size := hm.size, same := hm.same, gl := hm.gl }
  ·intro i B hB
   obtain ⟨n, B0, h6, h7, h8⟩ := getB i B hB
   rw [(hp h6).2]
   exact RepBlk.ren hren (idx_of (fun {_ _ _} => hnd) h6) h8 (hm.rep n B0 h7)
  ·intro i j B C b hB hC e1 e2
   obtain ⟨n, B0, h6, h7, h8⟩ := getB i B hB
   obtain ⟨m, C0, k6, k7, k8⟩ := getB j C hC
   rw [(hp h6).2] at e1; rw [(hp k6).2] at e2
   have := hm.sep n m B0 C0 b h7 k7 e1 e2
   subst this
   exact hnd h6 k6
  ·intro i B b hB e1
   obtain ⟨n, B0, h6, h7, h8⟩ := getB i B hB
   rw [(hp h6).2] at e1
   exact hm.apart n B0 b h7 e1
  ·intro i B b hB e1
   obtain ⟨n, B0, h6, h7, h8⟩ := getB i B hB
   rw [(hp h6).2] at e1
   exact hm.homes n B0 b h7 e1
  ·intro i hi
   have : names[i]? = none := by
    rw [List.getElem?_eq_none_iff] at hi ⊢
    have hi : blks'.length ≤ i := hi
    omega
   simp [ρ', this]
  ·intro n v hn
   have hlt := hX n v hn
   have hni : names[n]? = some n := by rw [← hnames, List.getElem?_append_left (by simpa using hlt), List.getElem?_range hlt]
   rw [(hp hni).1]
   exact hm.names n v hn
 ·exact (rfl0 h).elim
end
end Go.Proofs.YtijjlpgcpdapnaaGreatDoor.Aev

/- AEV: what the evaluator says of a function holds. -/
namespace Go.Proofs.YtijjlpgcpdapnaaGreatDoor.Aev
set_option linter.unusedVariables false
set_option linter.unusedSimpArgs false
open Go

def LoopWp (P : Program) (c : Code) (Q : Exit → Act → World → Prop) (a : Act) (w : World) : Prop :=
 ∀ (b : Frame) (k : List Item) (cs : List Frame), ∃ e a' w', Q e a' w' ∧ Arrives P (lone (b.at a (.code c :: .inLoop c :: k)) cs w) b k cs e a' w'
theorem LoopWp.of_round {P : Program} {c : Code} {Q : Exit → Act → World → Prop} {a : Act} {w : World} (h : c.wp P (Exit.then (LoopWp P c Q) Q) a w) : LoopWp P c Q a w := by
 intro b k cs
 obtain ⟨e, a₁, w₁, hq, harr⟩ := h b (.inLoop c :: k) cs
 cases e with
 | normal =>
  obtain ⟨e₂, a₂, w₂, hq₂, harr₂⟩ := hq b k cs
  exact ⟨e₂, a₂, w₂, hq₂, .of_steps (Steps.trans harr (.one step_inLoop)) harr₂⟩
 | exit id => exact ⟨_, a₁, w₁, hq, .pass (x := .inLoop c) rfl (fun _ _ => .inl (by simp)) harr⟩
 | goto l => exact ⟨_, a₁, w₁, hq, .pass (x := .inLoop c) rfl (fun _ _ => .inl (by simp)) harr⟩
 | ret => exact ⟨_, a₁, w₁, hq, .pass (x := .inLoop c) rfl (fun _ _ => .inl (by simp)) harr⟩
 | panic ch => exact ⟨_, a₁, w₁, hq, .pass (x := .inLoop c) rfl (fun _ _ => .inl (by simp)) harr⟩
 | outgrown => exact ⟨_, a₁, w₁, hq, .pass (x := .inLoop c) rfl (fun _ _ => .inl (by simp)) harr⟩
theorem wp_of_LoopWp {P : Program} {c : Code} {Q : Exit → Act → World → Prop} {a : Act} {w : World} (h : LoopWp P c Q a w) : (Code.loop c).wp P Q a w := by
 intro b k cs
 obtain ⟨e, a', w', hq, harr⟩ := h b k cs
 exact ⟨e, a', w', hq, .of_steps (.one step_loop) harr⟩

def RestWp (P : Program) (c rest : Code) (Q : Exit → Act → World → Prop) (a : Act) (w : World) : Prop :=
 ∀ (b : Frame) (k : List Item) (cs : List Frame), ∃ e a' w', Q e a' w' ∧ Arrives P (lone (b.at a (.code rest :: .inScope c :: k)) cs w) b k cs e a' w'
def ScopeQ (P : Program) (c : Code) (Q : Exit → Act → World → Prop) : Exit → Act → World → Prop
 | .goto l, a, w => ∃ rest, findLabel c l = some rest ∧ RestWp P c rest Q a w
 | e, a, w => Q e a w
theorem RestWp.of {P : Program} {c rest : Code} {Q : Exit → Act → World → Prop} {a : Act} {w : World} (h : rest.wp P (ScopeQ P c Q) a w) : RestWp P c rest Q a w := by
 intro b k cs
 obtain ⟨e, a₁, w₁, hq, harr⟩ := h b (.inScope c :: k) cs
 cases e with
 | normal => exact ⟨.normal, a₁, w₁, hq, Steps.trans harr (.one step_inScope)⟩
 | exit id => exact ⟨.exit id, a₁, w₁, hq, fun k' hk => harr k' (by simp [exitTo, hk])⟩
 | goto l =>
  obtain ⟨rest', hf, hr⟩ := hq
  obtain ⟨e₂, a₂, w₂, hq₂, harr₂⟩ := hr b k cs
  exact ⟨e₂, a₂, w₂, hq₂, .of_steps (harr _ (by simp [gotoIn, hf])) harr₂⟩
 | ret => exact ⟨_, a₁, w₁, hq, harr⟩
 | panic ch => exact ⟨_, a₁, w₁, hq, harr⟩
 | outgrown => exact ⟨_, a₁, w₁, hq, harr⟩
theorem wp_scopeQ {P : Program} {c : Code} {Q : Exit → Act → World → Prop} {a : Act} {w : World} (h : c.wp P (ScopeQ P c Q) a w) : (Code.scope c).wp P Q a w := by
 intro b k cs
 obtain ⟨e, a', w', hq, harr⟩ := RestWp.of h b k cs
 exact ⟨e, a', w', hq, .of_steps (.one step_scope) harr⟩

def EnterSem (P : Program) (c : Code) (Q : Exit → Act → World → Prop) (a : Act) (w : World) : Prop :=
 match c with
 | .loop b => LoopWp P b Q a w
 | c => c.wp P Q a w
theorem EnterSem.wp {P : Program} {c : Code} {Q : Exit → Act → World → Prop} {a : Act} {w : World} (h : EnterSem P c Q a w) : c.wp P Q a w := by
 cases c with
 | loop b => exact wp_of_LoopWp h
 | _ => exact h

def stkQ (P : Program) (B : Exit → Act → World → Prop) : List Fr → Exit → Act → World → Prop
 | [] => B
 | .seqL b :: k => Exit.then (b.wp P (stkQ P B k)) (stkQ P B k)
 | .seqR :: k => stkQ P B k
 | .arm :: k => stkQ P B k
 | .blk id :: k => Exit.inBlock id (stkQ P B k)
 | .loop b :: k => Exit.then (LoopWp P b (stkQ P B k)) (stkQ P B k)
 | .scope c :: k => ScopeQ P c (stkQ P B k)

def Rres (X : Cx) (res : Res) (e : Ending) (w' : World) : Prop :=
 ∃ v S' ρ' H', e = .returned v ∧ Mem X w' S' ρ' H' (fun n => res.blks[n]?) ∧ RepTV w' S' ρ' res.tv v
structure FnOK (E : FEnv) (fn : Func) : Prop where
 rvs : fn.results.toList = E.rvs

def BP (P : Program) (fn : Func) (R : Ending → World → Prop) : Exit → Act → World → Prop := bodyPostM Fence.wide 5 P fn R
theorem BP_of {P : Program} {fn : Func} {R : Ending → World → Prop} {a : Act} {w : World} (h : bodyPost P fn R .normal a w) : BP P fn R .normal a w := by
 obtain ⟨hd, v, h1, h2⟩ := h
 show LeavesInM Fence.wide 5 P fn a.tmps R a.defers .returning w
 rw [hd]
 exact ⟨v, h1, h2⟩
def CxOK (E : FEnv) (X : Cx) : Prop := ∀ n v, X.ρ0 n = some v → n < E.nin
def SegOK (E : FEnv) (fn : Func) (s : Seg) : Prop :=
 ∀ tvs blks res, s.F tvs blks some = some res → ∀ c stk, codeAt E.body s.path = some (c, stk) →
  ∀ X w S ρ H a, CxOK E X → Rep X w S ρ H E.N (stOf s.keep tvs blks) a → EnterSem E.P c (stkQ E.P (BP E.P fn (Rres X res)) stk) a w

section
variable {E : FEnv} {fn : Func} {X : Cx} {w : World} {S : Nat → Prop} {ρ : Nat → Option Value} {H : Nat → Option Nat} {st : St} {a : Act} {lg lg' : List Loc}

theorem resTV_run {rv : ResultVar} {r : VV × List Loc} (h : (resTV E.P rv).run st lg = some r) (hR : Rep X w S ρ H E.N st a) :
  ∃ v, (match rv with | .tmp t => pure (a.tmps.getD t undef) | .cell q t => do loadVar t (← asAddr (a.tmps.getD q undef)) : Sem Value).run E.P w = .ok v w ∧ RepVV w S ρ r.1 v := by
 cases rv with
 | tmp t =>
  simp only [resTV] at h
  obtain ⟨tv, lg1, h1, h⟩ := rbs h
  have hv := hR.tmp _ _ (run_rT h1)
  simp only at h hv
  split at h
  ·cases run_pure h
   exact ⟨_, rfl, hv⟩
  ·exact (rfl0 h).elim
 | cell q t =>
  simp only [resTV] at h
  obtain ⟨tv, lg1, h1, h⟩ := rbs h
  obtain ⟨e, lg2, h2, h⟩ := rbs h
  have hv := hR.tmp _ _ (run_rT h1)
  simp only at h hv
  split at h
  ·rename_i x
   cases run_pure h
   obtain ⟨b, off, v, hu, hl, _, hr⟩ := loadA_val h2 hR hv
   exact ⟨v, by simp [hu, asAddr, hl], hr⟩
  ·exact (rfl0 h).elim

theorem resTVs_run : ∀ {rvs : List ResultVar} {lg : List Loc} {r : List VV × List Loc}, (rvs.mapM (resTV E.P)).run st lg = some r → Rep X w S ρ H E.N st a →
  ∃ vs, (rvs.mapM (fun rv => match rv with | .tmp t => pure (a.tmps.getD t undef) | .cell q t => do loadVar t (← asAddr (a.tmps.getD q undef)) : ResultVar → Sem Value)).run E.P w = .ok vs w ∧ All2 (RepVV w S ρ) r.1 vs
 | [], lg, r, h, hR => by rw [List.mapM_nil] at h; cases run_pure h; exact ⟨[], by simp, trivial⟩
 | rv :: rvs, lg, r, h, hR => by
  rw [List.mapM_cons] at h
  obtain ⟨x, lg1, h1, h⟩ := rbs h
  obtain ⟨xs, lg2, h2, h⟩ := rbs h
  cases run_pure h
  obtain ⟨v, hv, hr⟩ := resTV_run h1 hR
  obtain ⟨vs, hvs, hrs⟩ := resTVs_run h2 hR
  exact ⟨v :: vs, by simp only [List.mapM_cons, Sem.run_bind, hv, Result.andThen_ok, hvs, Sem.run_pure], hr, hrs⟩

theorem All2.map_left {α β γ : Type} {R : γ → β → Prop} {f : α → γ} : ∀ {l : List α} {m : List β}, All2 (fun a b => R (f a) b) l m → All2 R (l.map f) m
 | [], m, h => by rw [h.nil_left]; trivial
 | a :: l, m, h => by
  obtain ⟨b, m', rfl, h1, h2⟩ := h.cons_left
  exact ⟨h1, All2.map_left h2⟩
theorem vvs_spec : ∀ {l : List TV} {xs : List VV}, vvs l = some xs → l = xs.map TV.v
 | [], xs, h => by simp [vvs] at h; subst h; rfl
 | t :: l, xs, h => by
  cases t with
  | v x =>
   simp only [vvs] at h
   cases hv : vvs l with
   | none => simp [hv] at h
   | some ys => simp [hv] at h; subst h; simp [vvs_spec hv]
  | _ => simp [vvs] at h
theorem All2.of_map {α β γ : Type} {R : γ → β → Prop} {f : α → γ} : ∀ {l : List α} {m : List β}, All2 R (l.map f) m → All2 (fun a b => R (f a) b) l m
 | [], m, h => by rw [h.nil_left]; trivial
 | a :: l, m, h => by
  obtain ⟨b, m', rfl, h1, h2⟩ := h.cons_left
  exact ⟨h1, All2.of_map h2⟩

theorem bind_ok {α β : Type} {P : Program} {w : World} {m : Sem α} {f : α → Sem β} {x : α} (h : m.run P w = .ok x w) : (m >>= f).run P w = (f x).run P w := by rw [Sem.run_bind, h]; rfl

theorem resA_post {r : (Res × List (Nat × Option Blk)) × List Loc} (hfn : FnOK E fn) (hX : CxOK E X) (h : (resA E.P E.nin E.rmv E.rts E.rvs).run st lg = some r) (hR : Rep X w S ρ H E.N st a) :
  BP E.P fn (Rres X r.1.1) .normal a w := by
 refine BP_of ?_
 unfold resA at h
 obtain ⟨xs, lg1, h1, h⟩ := rbs h
 obtain ⟨⟨tvs, wr⟩, lg2, h2, h⟩ := rbs h
 obtain ⟨⟨tvs', blks⟩, lg3, h3, h⟩ := rbs h
 obtain ⟨vs, hvs, hxs⟩ := resTVs_run h1 hR
 simp only at h2 h3 h hxs
 obtain ⟨hts, hn⟩ := normAll_spec h2 hR.mem
 obtain ⟨S', H', hR', hmore, hset⟩ := settle_rep hR hts
 have hx1 : All2 (RepTV w S ρ) (xs.map .v) vs := All2.map_left hxs
 have hx2 := hn hmore.s hset hx1
 simp only at hts hx2
 obtain ⟨ρ', H'', hm, hx3⟩ := packN_rep h3 (st2 := st.sets wr) (fun n hn => sets_other _ _ _ (fun p hp e => hn (List.mem_map.2 ⟨p, hp, e⟩))) hR'.mem hX hx2
 simp only at hm hx3
 refine ⟨hR.defers, ?_⟩
 have hres : ∀ v, (if h : vs.length = 1 then vs[0] else Value.tuple vs.toArray) = v → (results fn a.tmps).run E.P w = .ok v w := by
  intro v hv
  unfold results
  have : (fn.results.mapM (fun rv => match rv with | .tmp t => pure (a.tmps.getD t undef) | .cell q t => do loadVar t (← asAddr (a.tmps.getD q undef)) : ResultVar → Sem Value)).run E.P w = .ok vs.toArray w := by
   rw [Array.mapM_eq_mapM_toList, hfn.rvs]
   simp only [Sem.run_map, hvs, Result.andThen_ok]
  refine (bind_ok this).trans ?_
  simp only [Sem.run_pure]
  rw [← hv]
  simp
 split at h
 ·rename_i tv
  cases run_pure h
  obtain ⟨v, m, rfl, hv, hm'⟩ := hx3.cons_left
  have hm' := hm'.nil_left
  subst hm'
  exact ⟨v, hres v (by simp), v, S', ρ', H'', rfl, hm, hv⟩
 ·rename_i l hl
  split at h
  ·rename_i ys hys
   cases run_pure h
   have hlen : vs.length ≠ 1 := by
    intro e
    have := hx3.length
    rw [e] at this
    match tvs', this with
    | [v], _ => exact hl v rfl
   refine ⟨.tuple vs.toArray, hres _ (by simp [hlen]), .tuple vs.toArray, S', ρ', H'', rfl, hm, vs.toArray, rfl, ?_⟩
   rw [vvs_spec hys] at hx3
   exact hx3.of_map
  ·exact (rfl0 h).elim

def MdSem (P : Program) (Q : Exit → Act → World → Prop) (stk : List Fr) (a : Act) (w : World) : Md → Prop
 | .enter _ c => EnterSem P c (stkQ P Q stk) a w
 | .done => stkQ P Q stk .normal a w
 | .exit id => stkQ P Q stk (.exit id) a w
 | .goto l => stkQ P Q stk (.goto l) a w
 | .ret => stkQ P Q stk .ret a w
def At (E : FEnv) (stk : List Fr) (path : List Nat) : Md → Prop
 | .enter _ c => codeAt E.body path = some (c, stk)
 | _ => ∃ c, codeAt E.body path = some (c, stk)

theorem codeAt_cons {body : Code} {d : Nat} {p : List Nat} {c : Code} {k : List Fr} (h : codeAt body (d :: p) = some (c, k)) :
  ∃ c' k', codeAt body p = some (c', k') ∧ (match d, c' with
   | 0, .seq x y => c = x ∧ k = .seqL y :: k'
   | 1, .seq _ y => c = y ∧ k = .seqR :: k'
   | 2, .cond _ x _ => c = x ∧ k = .arm :: k'
   | 3, .cond _ _ y => c = y ∧ k = .arm :: k'
   | 4, .block id b => c = b ∧ k = .blk id :: k'
   | 5, .loop b => c = b ∧ k = .loop b :: k'
   | 6, .scope b => c = b ∧ k = .scope b :: k'
   | d, .scope b => k = .scope b :: k'
   | _, _ => False) := by
 simp only [codeAt] at h
 split at h
 ·rename_i c' k' hp
  refine ⟨c', k', hp, ?_⟩
  split at h <;> first | (simp at h; done) | (simp only [Option.some.injEq, Prod.mk.injEq] at h; obtain ⟨rfl, rfl⟩ := h; exact ⟨rfl, rfl⟩) | (split at h <;> first | (simp at h; done) | (simp only [Option.map_eq_some_iff, Prod.mk.injEq] at h; obtain ⟨_, _, _, rfl⟩ := h; split <;> simp_all))
 ·simp at h
end
/-! ### a walk over a map's entries -/
theorem findV_none {w : ByteArray} : ∀ {l : List (Int × ByteArray)}, findV w l = none ↔ ∀ p ∈ l, (p.2.toList == w.toList) = false
 | [] => by simp [findV]
 | p :: l => by
  simp only [findV, List.forall_mem_cons]
  cases h : p.2.toList == w.toList with
  | true => simp
  | false => simp only [cond_false, true_and]; exact findV_none
theorem findV_one {w : ByteArray} : ∀ {l : List (Int × ByteArray)}, oneV w l = true → ∀ p ∈ l, (p.2.toList == w.toList) = true → findV w l = some p.1
 | [], _, p, hp, _ => by cases hp
 | q :: l, h1, p, hp, hq => by
  simp only [oneV] at h1
  simp only [findV]
  cases hw : q.2.toList == w.toList with
  | true =>
   rw [hw] at h1
   simp only [cond_true] at h1 ⊢
   cases List.mem_cons.1 hp with
   | inl e => rw [e]
   | inr e =>
    have := findV_none.1 (by simpa using h1) p e
    rw [this] at hq; cases hq
  | false =>
   rw [hw] at h1
   simp only [cond_false] at h1 ⊢
   cases List.mem_cons.1 hp with
   | inl e => rw [e, hw] at hq; cases hq
   | inr e => exact findV_one h1 p e hq
/-! ### regions of operations that give values -/
def opsWp (P : Program) (K : Act → World → Prop) : List (Nat × Op) → Act → World → Prop
 | [], a, w => K a w
 | (d, op) :: l, a, w => ∃ v w', (∀ o : Oper, o.op = op → (execOp a.eval o).run P w = .ok (.value v) w') ∧ opsWp P K l (a.put (some d) v) w'
theorem op2_some {o : Oper} {p : Nat × Op} (h : op2 o = some p) : o.dst = some p.1 ∧ o.guard = none ∧ o.op = p.2 := by
 unfold op2 at h
 split at h
 ·rename_i d h1 h2; cases h; exact ⟨h1, h2, rfl⟩
 ·cases h
theorem wpOps_of {P : Program} {ops : Array Oper} {Q : Exit → Act → World → Prop} : ∀ (l pre : List Oper) (m : List (Nat × Op)) (a : Act) (w : World), ops.toList = pre ++ l → opsOf l = some m → opsWp P (Q .normal) m a w → wpOps P ops Q (List.range' pre.length l.length) a w
 | [], pre, m, a, w, _, h2, h3 => by
  simp [opsOf] at h2; subst h2
  exact h3
 | o :: l, pre, m, a, w, h1, h2, h3 => by
  unfold opsOf at h2
  rw [List.mapM_cons] at h2
  obtain ⟨p, hp, h2⟩ := Option.bind_eq_some_iff.1 h2
  obtain ⟨ms, hm, h2⟩ := Option.bind_eq_some_iff.1 h2
  cases h2
  obtain ⟨hd, hg, ho⟩ := op2_some hp
  obtain ⟨v, w', hrun, h3⟩ := h3
  have hi : ops[pre.length]? = some o := by
   rw [← Array.getElem?_toList, h1]; simp
  rw [List.length_cons, List.range'_succ, wpOps]
  simp only [hi]
  rw [if_pos (by simp [Region.wanted, hg])]
  refine .inl ?_
  unfold Oper.wp
  rw [hrun o ho, Oper.upon_value, hd]
  have := wpOps_of (P := P) (ops := ops) (Q := Q) l (pre ++ [o]) ms (a.put (some p.1) v) w' (by simp [h1]) hm h3
  simpa using this
theorem region_of {P : Program} {ops : Array Oper} {id : Nat} {Q : Exit → Act → World → Prop} {m : List (Nat × Op)} {a : Act} {w : World} (h : opsOf ops.toList = some m) (hk : opsWp P (Q .normal) m a w) : (Code.region id ops false).wp P Q a w := by
 refine wp_region ?_
 have := wpOps_of (P := P) (ops := ops) (Q := Q) ops.toList [] m a w (by simp) h hk
 rw [List.range_eq_range']
 simpa using this
theorem toList_inj' {s t : ByteArray} (h : s.toList = t.toList) : s = t := by
 rw [ByteArray.toList_eq, ByteArray.toList_eq] at h
 cases s with | mk s => cases t with | mk t => rw [show s = t from Array.toList_inj.mp h]
theorem str_eq {P : Program} {w : World} {ty : TypeId} {s ws : ByteArray} {x y : Operand} (e : Bool) : (do eqGuard (if e = true then .eql else .neq) ty x y (.string s) (.string ws); binOp (if e = true then .eql else .neq) ty (.string s) (.string ws) : Sem Value).run P w = .ok (.bool (if e = true then (s.toList == ws.toList) else !(s.toList == ws.toList))) w := by
 cases e <;> rfl
theorem exec_v {P : Program} {w w' : World} {s : Sem Value} {v : Value} (h : s.run P w = .ok v w') : (do pure (Next.value (← s)) : Sem Next).run P w = .ok (.value v) w' := by
 rw [Sem.run_bind, h]; rfl
theorem getD_put {a : Act} {t : Nat} {v : Value} (h : t < a.tmps.size) : (a.put (some t) v).tmps.getD t undef = v := by
 simp [Act.put, Array.getD_eq_getD_getElem?, Array.getElem?_setIfInBounds, h]
theorem getD_put_ne {a : Act} {t t' : Nat} {v : Value} (h : t' ≠ t) : (a.put (some t) v).tmps.getD t' undef = a.tmps.getD t' undef := by
 simp [Act.put, Array.getD_eq_getD_getElem?, Array.getElem?_setIfInBounds, Ne.symm h]
theorem size_put {a : Act} {d : Option Nat} {v : Value} : (a.put d v).tmps.size = a.tmps.size := by cases d <;> simp [Act.put]
theorem defers_put {a : Act} {d : Option Nat} {v : Value} : (a.put d v).defers = a.defers := by cases d <;> rfl
/-! ### the rounds -/
def RG.o1 (g : RG) : List (Nat × Op) := [(g.t1, .next (.tmp g.it) false), (g.c1, .extract (.tmp g.t1) 0)]
def RG.o3 (g : RG) : List (Nat × Op) := [(g.t3, .entry (.tmp g.it)), (g.t4, .extract (.tmp g.t3) 0), (g.t5, .extract (.tmp g.t3) 1), (g.k, .assign (.tmp g.t4)), (g.v, .assign (.tmp g.t5))]
def RG.o4 (g : RG) : List (Nat × Op) := [(g.t6, .move (.tmp g.v)), (g.t7, .move (.tmp g.wd)), (g.c2, .binOp (if g.eq then .eql else .neq) g.ty (.tmp g.t6) (.tmp g.t7) g.ty2)]
structure Walk (g : RG) (w0 : World) (a0 : Act) (N : Nat) (ws : ByteArray) (bm : Nat) (vs : Array MapEntry) (a : Act) (w : World) (seen : Array Nat) : Prop where
 size : w.heap.size = w0.heap.size + 1
 heap : ∀ b, b < w0.heap.size → w.heap[b]? = w0.heap[b]?
 iter : ∃ c, vs.size ≤ c ∧ w.heap[w0.heap.size]? = some (.mapIter (some bm) vs.size seen c)
 os : w.os = w0.os
 tape : w.tape = w0.tape
 output : w.output = w0.output
 tmps : N ≤ a.tmps.size
 defers : a.defers = a0.defers
 it : a.tmps.getD g.it undef = .pointer (some ⟨w0.heap.size, 0, none⟩)
 rest : ∀ t, t ∉ g.all → a.tmps.getD t undef = a0.tmps.getD t undef
section
variable {P : Program} {g : RG} {w0 : World} {a0 : Act} {N : Nat} {ws : ByteArray} {bm : Nat} {vs : Array MapEntry} {b cnd : Code} {Q Qc : Exit → Act → World → Prop} {Kx : Act → World → Prop}
theorem Walk.put {a : Act} {w : World} {seen : Array Nat} (h : Walk g w0 a0 N ws bm vs a w seen) {t : Nat} {u : Value} (ht : t ∈ g.all) (hi : t ≠ g.it) : Walk g w0 a0 N ws bm vs (a.put (some t) u) w seen :=
 { h with
   tmps := by rw [size_put]; exact h.tmps
   defers := by rw [defers_put]; exact h.defers
   it := by rw [getD_put_ne (Ne.symm hi)]; exact h.it
   rest := fun s hs => by rw [getD_put_ne (fun e => hs (by rw [e]; exact ht))]; exact h.rest s hs }
theorem rounds (hn : (g.wd :: g.all).Nodup) (hN : ∀ t ∈ g.wd :: g.all, t < N) (hbm : w0.heap[bm]? = some (.map vs vs.size)) (hb0 : bm < w0.heap.size) (hborn : (vs.toList.map (·.born)) = List.range vs.toList.length) (hstr : ∀ e ∈ vs.toList, ∃ s, e.val = .string s)
  (hwd : a0.tmps.getD g.wd undef = .string ws)
  (hround : ∀ a w, opsWp P (fun a w => (a.tmps.getD g.c1 undef = .bool false ∧ Kx a w) ∨ (a.tmps.getD g.c1 undef = .bool true ∧ opsWp P (opsWp P (cnd.wp P Qc) g.o4) g.o3 a w)) g.o1 a w → LoopWp P b Q a w)
  (hexit : (∀ e ∈ vs.toList, e.val ≠ .string ws) → ∀ a w seen, Walk g w0 a0 N ws bm vs a w seen → Kx a w)
  (hfound : ∀ e ∈ vs.toList, e.val = .string ws → ∀ a w seen, Walk g w0 a0 N ws bm vs a w seen → a.tmps.getD g.k undef = e.key → a.tmps.getD g.c2 undef = .bool g.eq → cnd.wp P Qc a w)
  (hmiss : ∀ a w, a.tmps.getD g.c2 undef = .bool (!g.eq) → LoopWp P b Q a w → cnd.wp P Qc a w) : ∀ (n : Nat) (seen : Array Nat) (a : Act) (w : World), (leftOf vs seen).size ≤ n → (∀ e ∈ vs.toList, seen.contains e.born = true → e.val ≠ .string ws) → Walk g w0 a0 N ws bm vs a w seen → LoopWp P b Q a w := by
 have hnb : (vs.toList.map (·.born)).Nodup := by rw [hborn]; exact List.nodup_range
 have hold : ∀ x ∈ vs.toList, x.born < vs.size := fun x hx => by
  have : x.born ∈ vs.toList.map (·.born) := List.mem_map.2 ⟨x, hx, rfl⟩
  rw [hborn] at this
  simpa using this
 simp only [RG.all, List.nodup_cons, List.mem_cons, List.not_mem_nil, or_false, not_or, List.nodup_nil, and_true, not_false_eq_true] at hn
 simp only [RG.all, List.mem_cons, List.not_mem_nil, or_false, forall_eq_or_imp, forall_eq] at hN
 obtain ⟨n0, n1, n2, n3, n4, n5, n6, n7, n8, n9, n10⟩ := hn
 obtain ⟨i1, i2, i3, i4, i5, i6, i7, i8, i9, i10⟩ := n1
 obtain ⟨b0, b1, b2, b3, b4, b5, b6, b7, b8, b9, b10, b11⟩ := hN
 intro n
 induction n using Nat.strongRecOn with
 | _ n ih =>
  intro seen a w hl hp hW
  obtain ⟨c, hc, hit⟩ := hW.iter
  have hmp : w.heap[bm]? = some (.map vs vs.size) := (hW.heap bm hb0).trans hbm
  refine hround a w ?_
  have hput : ∀ {a : Act} {w : World} {seen : Array Nat} (h : Walk g w0 a0 N ws bm vs a w seen) {t : Nat} (u : Value), t ∈ g.all → t ≠ g.it → Walk g w0 a0 N ws bm vs (a.put (some t) u) w seen := fun h _ u h1 h2 => h.put h1 h2
  have sz : ∀ {t : Nat} {a : Act}, t < N → N ≤ a.tmps.size → t < a.tmps.size := fun h h' => Nat.lt_of_lt_of_le h h'
  rcases run_next_at (P := P) w 0 w0.heap.size bm vs.size c seen vs vs.size hit hmp hold hc with ⟨h0, hrun⟩ | ⟨e, he, w1, hw1, hrun⟩
  ·refine ⟨.tuple #[.bool false], w, fun o ho => ?_, ?_⟩
   ·have hrun' : (Instr.next (.pointer (some ⟨w0.heap.size, 0, none⟩)) false o.type).run P w = .ok (.tuple #[.bool false]) w := hrun
    simp only [execOp, ho, Act.eval, hW.it]
    exact exec_v hrun'
   ·have W1 := hput hW (t := g.t1) (.tuple #[.bool false]) (by simp [RG.all]) (Ne.symm i1)
    refine ⟨.bool false, w, fun o ho => ?_, .inl ⟨?_, ?_⟩⟩
    ·simp only [execOp, ho, Act.eval, getD_put (sz b2 hW.tmps)]
     exact exec_v rfl
    ·exact getD_put (sz b3 W1.tmps)
    ·refine hexit (fun e he => hp e he (all_seen vs seen h0 e he)) _ _ seen ?_
     exact hput W1 (t := g.c1) _ (by simp [RG.all]) (Ne.symm i2)
  ·obtain ⟨hem, hes⟩ := mem_left he
   obtain ⟨s, hs⟩ := hstr e hem
   have hit1 : w1.heap[w0.heap.size]? = some (.mapIter (some bm) vs.size seen c) := by rcases hw1 with rfl | rfl <;> exact hit
   have hset := Go.MapKept.heap_set (o' := .mapIter (some bm) vs.size (seen.push e.born) vs.size) hit1
   have W' : Walk g w0 a0 N ws bm vs a (Go.ChangeMaps.setBlock w1 w0.heap.size (.mapIter (some bm) vs.size (seen.push e.born) vs.size)) (seen.push e.born) :=
    by
    refine ⟨?_, fun b hb => ?_, ⟨vs.size, Nat.le_refl _, hset.1⟩, ?_, ?_, ?_, hW.tmps, hW.defers, hW.it, hW.rest⟩
    ·have : w1.heap.size = w.heap.size := by rcases hw1 with rfl | rfl <;> rfl
     rw [← hW.size, ← this]; simp [Go.ChangeMaps.setBlock]
    ·have : w1.heap[b]? = w.heap[b]? := by rcases hw1 with rfl | rfl <;> rfl
     exact (hset.2 b (Nat.ne_of_lt hb)).trans (this.trans (hW.heap b hb))
    ·rcases hw1 with rfl | rfl <;> exact hW.os
    ·rcases hw1 with rfl | rfl <;> exact hW.tape
    ·rcases hw1 with rfl | rfl <;> exact hW.output
   have hmp' := (W'.heap bm hb0).trans hbm
   obtain ⟨w2, hw2⟩ : ∃ w2, w2 = Go.ChangeMaps.setBlock w1 w0.heap.size (.mapIter (some bm) vs.size (seen.push e.born) vs.size) := ⟨_, rfl⟩
   rw [← hw2] at hrun W' hmp'
   have hit2 : w2.heap[w0.heap.size]? = some (.mapIter (some bm) vs.size (seen.push e.born) vs.size) := by rw [hw2]; exact hset.1
   have hent := run_entry_at (P := P) w2 w0.heap.size bm vs.size seen vs vs.size e hit2 hmp' hem hnb
   -- next, and whether there was one
   refine ⟨.tuple #[.bool true, e.key, e.val], w2, fun o ho => ?_, ?_⟩
   ·have hrun' : (Instr.next (.pointer (some ⟨w0.heap.size, 0, none⟩)) false o.type).run P w = .ok (.tuple #[.bool true, e.key, e.val]) w2 := hrun
    simp only [execOp, ho, Act.eval, hW.it]
    exact exec_v hrun'
   have W1 := hput W' (t := g.t1) (.tuple #[.bool true, e.key, e.val]) (by simp [RG.all]) (Ne.symm i1)
   refine ⟨.bool true, w2, fun o ho => ?_, .inr ⟨getD_put (sz b3 W1.tmps), ?_⟩⟩
   ·simp only [execOp, ho, Act.eval, getD_put (sz b2 W'.tmps)]
    exact exec_v rfl
   have W2 := hput W1 (t := g.c1) (.bool true) (by simp [RG.all]) (Ne.symm i2)
   -- the entry, its key and its element
   refine ⟨.tuple #[e.key, e.val], w2, fun o ho => ?_, ?_⟩
   ·simp only [execOp, ho, Act.eval, W2.it]
    exact exec_v hent
   have W3 := hput W2 (t := g.t3) (.tuple #[e.key, e.val]) (by simp [RG.all]) (Ne.symm i3)
   refine ⟨e.key, w2, fun o ho => ?_, ?_⟩
   ·simp only [execOp, ho, Act.eval, getD_put (sz b4 W2.tmps)]
    exact exec_v rfl
   have W4 := hput W3 (t := g.t4) e.key (by simp [RG.all]) (Ne.symm i4)
   refine ⟨e.val, w2, fun o ho => ?_, ?_⟩
   ·simp only [execOp, ho, Act.eval, getD_put_ne (show g.t3 ≠ g.t4 from n4.1), getD_put (sz b4 W2.tmps)]
    exact exec_v rfl
   have W5 := hput W4 (t := g.t5) e.val (by simp [RG.all]) (Ne.symm i5)
   refine ⟨e.key, w2, fun o ho => ?_, ?_⟩
   ·simp only [execOp, ho, Act.eval, getD_put_ne (show g.t4 ≠ g.t5 from n5.1), getD_put (sz b5 W3.tmps)]
    rfl
   have W6 := hput W5 (t := g.k) e.key (by simp [RG.all]) (Ne.symm i6)
   refine ⟨e.val, w2, fun o ho => ?_, ?_⟩
   ·simp only [execOp, ho, Act.eval, getD_put_ne (show g.t5 ≠ g.k from n6.1), getD_put (sz b6 W4.tmps)]
    rfl
   have W7 := hput W6 (t := g.v) e.val (by simp [RG.all]) (Ne.symm i7)
   -- the comparison
   refine ⟨e.val, w2, fun o ho => ?_, ?_⟩
   ·simp only [execOp, ho, Act.eval, getD_put (sz b8 W6.tmps)]
    rfl
   have W8 := hput W7 (t := g.t6) e.val (by simp [RG.all]) (Ne.symm i8)
   have hwd8 := (W8.rest g.wd (by simp only [RG.all, List.mem_cons, List.not_mem_nil, or_false, not_or]; exact n0)).trans hwd
   refine ⟨.string ws, w2, fun o ho => ?_, ?_⟩
   ·simp only [execOp, ho, Act.eval]
    rw [hwd8]
    rfl
   have W9 := hput W8 (t := g.t7) (.string ws) (by simp [RG.all]) (Ne.symm i9)
   have hk9 : ((((((a.put (some g.t1) (.tuple #[.bool true, e.key, e.val])).put (some g.c1) (.bool true)).put (some g.t3) (.tuple #[e.key, e.val])).put (some g.t4) e.key).put (some g.t5) e.val).put (some g.k) e.key).tmps.getD g.k undef = e.key := getD_put (sz b7 W5.tmps)
   obtain ⟨q, hq⟩ : ∃ q : Bool, (s.toList == ws.toList) = q := ⟨_, rfl⟩
   obtain ⟨cv, hcv⟩ : ∃ cv : Bool, cv = (if g.eq = true then q else !q) := ⟨_, rfl⟩
   refine ⟨.bool cv, w2, fun o ho => ?_, ?_⟩
   ·simp only [execOp, ho, Act.eval, getD_put_ne (show g.t6 ≠ g.t7 from n9.1), getD_put (sz b9 W7.tmps), getD_put (sz b10 W8.tmps)]
    rw [hcv, ← hq, hs]
    exact exec_v (str_eq g.eq)
   obtain ⟨a9, ha9⟩ : ∃ a9, a9 = (((((((((a.put (some g.t1) (.tuple #[.bool true, e.key, e.val])).put (some g.c1) (.bool true)).put (some g.t3) (.tuple #[e.key, e.val])).put (some g.t4) e.key).put (some g.t5) e.val).put (some g.k) e.key).put (some g.v) e.val).put (some g.t6) e.val).put (some g.t7) (.string ws)) := ⟨_, rfl⟩
   have hk : a9.tmps.getD g.k undef = e.key := by
    rw [ha9, getD_put_ne (show g.k ≠ g.t7 from n7.2.2.1), getD_put_ne (show g.k ≠ g.t6 from n7.2.1), getD_put_ne (show g.k ≠ g.v from n7.1)]
    exact hk9
   rw [← ha9] at W9 ⊢
   have W10 := hput W9 (t := g.c2) (.bool cv) (by simp [RG.all]) (Ne.symm i10)
   have hc2 : (a9.put (some g.c2) (.bool cv)).tmps.getD g.c2 undef = .bool cv := getD_put (sz b11 W9.tmps)
   have hk' : (a9.put (some g.c2) (.bool cv)).tmps.getD g.k undef = e.key := by rw [getD_put_ne (show g.k ≠ g.c2 from n7.2.2.2)]; exact hk
   cases q with
   | true =>
    have hsw : s = ws := toList_inj' (by simpa using hq)
    refine hfound e hem (by rw [hs, hsw]) _ _ _ W10 hk' ?_
    rw [hc2, hcv]; cases g.eq <;> rfl
   | false =>
    refine hmiss _ _ (by rw [hc2, hcv]; cases g.eq <;> rfl) ?_
    refine ih (leftOf vs (seen.push e.born)).size (Nat.lt_of_lt_of_le (left_shrinks vs seen e he) hl) (seen.push e.born) _ _ (Nat.le_refl _) (fun x hx hxs => ?_) W10
    rw [contains_push] at hxs
    cases hxe : seen.contains x.born with
    | true => exact hp x hx hxe
    | false =>
     rw [hxe] at hxs
     simp at hxs
     have : x = e := by
      obtain ⟨i, hi, rfl⟩ := List.getElem_of_mem hx
      obtain ⟨j, hj, rfl⟩ := List.getElem_of_mem hem
      have hij : (vs.toList.map (·.born))[i]'(by simpa using hi) = (vs.toList.map (·.born))[j]'(by simpa using hj) := by simpa using hxs
      have hpw := List.pairwise_iff_getElem.1 hnb
      rcases Nat.lt_trichotomy i j with hlt | rfl | hlt
      ·exact absurd hij (hpw i j (by simpa using hi) (by simpa using hj) hlt)
      ·rfl
      ·exact absurd hij.symm (hpw j i (by simpa using hj) (by simpa using hi) hlt)
     rw [this, hs]
     intro h'
     cases h'
     simp at hq
end
/-! ### from the map's reading on -/
theorem All2.mem_right {α β : Type} {R : α → β → Prop} : ∀ {l : List α} {m : List β}, All2 R l m → ∀ y ∈ m, ∃ x ∈ l, R x y
 | [], [], _, y, hy => by cases hy
 | a :: l, b :: m, ⟨h1, h2⟩, y, hy => by
  cases List.mem_cons.1 hy with
  | inl e => exact ⟨a, by simp, e ▸ h1⟩
  | inr e =>
   obtain ⟨x, hx, hr⟩ := All2.mem_right h2 y e
   exact ⟨x, List.mem_cons_of_mem _ hx, hr⟩
theorem All2.mem_left {α β : Type} {R : α → β → Prop} : ∀ {l : List α} {m : List β}, All2 R l m → ∀ x ∈ l, ∃ y ∈ m, R x y
 | [], [], _, y, hy => by cases hy
 | a :: l, b :: m, ⟨h1, h2⟩, y, hy => by
  cases List.mem_cons.1 hy with
  | inl e => exact ⟨b, by simp, e ▸ h1⟩
  | inr e =>
   obtain ⟨x, hx, hr⟩ := All2.mem_left h2 y e
   exact ⟨x, List.mem_cons_of_mem _ hx, hr⟩
theorem walk_wp {P : Program} {X : Cx} {w : World} {S : Nat → Prop} {ρ : Nat → Option Value} {H : Nat → Option Nat} {N : Nat} {st : St} {a : Act} {g : RG} {n : Nat} {m : Nat} {es : List (Int × ByteArray)} {ws : ByteArray} {b cnd : Code} {Q Qc : Exit → Act → World → Prop} {Kx : Act → World → Prop}
  (hR : Rep X w S ρ H N st a) (hn : (g.wd :: g.all).Nodup) (hN : ∀ t ∈ g.wd :: g.all, t < N)
  (hm : st.tmp m = some (.v (.one (.mp n)))) (hb : st.blk n = some (some (.mp (.int .i64) .str es))) (hw : st.tmp g.wd = some (.v (.one (.d .str ws)))) (h1 : oneV ws es = true)
  (hround : ∀ a w, opsWp P (fun a w => (a.tmps.getD g.c1 undef = .bool false ∧ Kx a w) ∨ (a.tmps.getD g.c1 undef = .bool true ∧ opsWp P (opsWp P (cnd.wp P Qc) g.o4) g.o3 a w)) g.o1 a w → LoopWp P b Q a w)
  (hexit : findV ws es = none → ∀ a w, Rep X w S ρ H N (st.forget g.all) a → Kx a w)
  (hfound : ∀ key, findV ws es = some key → ∀ a w, Rep X w S ρ H N (((st.forget g.all).put (some g.k) (.v (.one (.d (.int .i64) key)))).put (some g.c2) (.v (.one (.d .bool g.eq)))) a → cnd.wp P Qc a w)
  (hmiss : ∀ a w, a.tmps.getD g.c2 undef = .bool (!g.eq) → LoopWp P b Q a w → cnd.wp P Qc a w) :
  ∃ bm vs, a.tmps.getD m undef = .map (some bm) ∧ w.heap[bm]? = some (.map vs vs.size) ∧ LoopWp P b Q (a.put (some g.it) (.pointer (some ⟨w.heap.size, 0, none⟩))) (w.alloc (.mapIter (some bm) vs.size #[] vs.size)) := by
 obtain ⟨bm, hρ, hv⟩ : ∃ bm, ρ n = some (.map (some bm)) ∧ a.tmps.getD m undef = .map (some bm) := hR.tmp _ _ hm
 obtain ⟨b', vs, hh, hρ', hheap, hents, hborn⟩ := hR.mem.rep _ _ hb
 obtain rfl : bm = b' := by rw [hρ] at hρ'; simpa using hρ'
 have hwd : a.tmps.getD g.wd undef = .string ws := by
  have : Rd w S .str [a.tmps.getD g.wd undef] ws := hR.tmp _ _ hw
  simpa [Rd] using this
 have hlt : bm < w.heap.size := (Array.getElem?_eq_some_iff.1 hheap).1
 refine ⟨bm, vs, hv, hheap, ?_⟩
 have hrep : ∀ {a' : Act} {w' : World} {seen : Array Nat}, Walk g w a N ws bm vs a' w' seen → Rep X w' S ρ H N (st.forget g.all) a' := fun {a' w' seen} hW => {
  mem := hR.mem.later (by rw [hW.size]; omega) hW.heap hW.os hW.tape hW.output
  tmp := fun t v ht => by
   simp only [St.forget] at ht
   split at ht
   ·cases ht
   ·rename_i hc
    rw [hW.rest t (by simpa using hc)]
    exact (hR.tmp t v ht).mono (fun _ x => x) (fun b hS => hW.heap b (hR.mem.old b hS)) (fun _ _ x => x)
  size := hW.tmps
  defers := hW.defers.trans hR.defers }
 have hsz : ∀ t ∈ g.all, t < N := fun t ht => hN t (List.mem_cons_of_mem _ ht)
 have hkey : ∀ e ∈ vs.toList, ∃ x ∈ es, e.key = .int .i64 x.1 ∧ e.val = .string x.2 := fun e he => by
  obtain ⟨x, hx, r1, r2⟩ := All2.mem_right hents e he
  exact ⟨x, hx, by simpa [Rd] using r1, by simpa [Rd] using r2⟩
 have hinit : Walk g w a N ws bm vs (a.put (some g.it) (.pointer (some ⟨w.heap.size, 0, none⟩))) (w.alloc (.mapIter (some bm) vs.size #[] vs.size)) #[] := {
  size := by show (w.heap.push _).size = _; simp
  heap := fun b hb => heap_alloc_old w _ hb
  iter := ⟨vs.size, Nat.le_refl _, heap_alloc_new w _⟩
  os := rfl, tape := rfl, output := rfl
  tmps := by rw [size_put]; exact hR.size
  defers := defers_put
  it := getD_put (Nat.lt_of_lt_of_le (hsz _ (by simp [RG.all])) hR.size)
  rest := fun t ht => getD_put_ne (fun e => ht (by rw [e]; simp [RG.all])) }
 refine rounds (P := P) (g := g) (w0 := w) (a0 := a) (N := N) (ws := ws) (bm := bm) (vs := vs) (b := b) (cnd := cnd) (Q := Q) (Qc := Qc) (Kx := Kx) hn hN hheap hlt hborn (fun e he => ?_) hwd hround ?_ ?_ hmiss _ #[] _ _ (Nat.le_refl _) (fun e _ h => by simp at h) hinit
 ·obtain ⟨x, _, _, h⟩ := hkey e he
  exact ⟨_, h⟩
 ·intro hno a' w' seen hW
  refine hexit (findV_none.2 fun p hp => ?_) a' w' (hrep hW)
  obtain ⟨e, he, r1, r2⟩ := All2.mem_left hents p hp
  have hval : e.val = .string p.2 := by simpa [Rd] using r2
  have := hno e he
  cases hq : p.2.toList == ws.toList with
  | false => rfl
  | true =>
   have : p.2 = ws := toList_inj' (by simpa using hq)
   exact absurd (by rw [hval, this]) (hno e he)
 ·intro e he hval a' w' seen hW hk hc
  obtain ⟨x, hx, h2, h3⟩ := hkey e he
  have hxw : x.2 = ws := by rw [h3] at hval; simpa using hval
  have hf : findV ws es = some x.1 := findV_one h1 x hx (by rw [hxw]; simp)
  refine hfound x.1 hf a' w' ?_
  have hW' := hrep hW
  have k1 : g.k < N := hsz _ (by simp [RG.all])
  have k2 : g.c2 < N := hsz _ (by simp [RG.all])
  refine { mem := hW'.mem, tmp := ?_, size := hW'.size, defers := hW'.defers }
  intro t v ht
  simp only [St.put] at ht
  split at ht
  ·rename_i e1
   subst e1
   cases ht
   show Rd w' S .bool [_] _
   rw [hc]; simp [Rd]
  ·split at ht
   ·rename_i e1
    subst e1
    cases ht
    show Rd w' S (.int .i64) [_] _
    rw [hk, h2]; simp [Rd]
   ·exact hW'.tmp t v ht
theorem opsWp_mono {P : Program} {K K' : Act → World → Prop} (h : ∀ a w, K a w → K' a w) : ∀ {l : List (Nat × Op)} {a : Act} {w : World}, opsWp P K l a w → opsWp P K' l a w
 | [], a, w, hk => h a w hk
 | _ :: _, a, w, ⟨v, w', h1, h2⟩ => ⟨v, w', h1, opsWp_mono h h2⟩
theorem p1_some {l : List Oper} {it t1 c1 : Nat} (h : p1 l = some (it, t1, c1)) : opsOf l = some [(t1, .next (.tmp it) false), (c1, .extract (.tmp t1) 0)] := by
 unfold p1 at h
 split at h
 ·rename_i hq
  split at h
  ·rename_i e
   cases h; subst e; exact hq
  ·cases h
 ·cases h
theorem p3_some {l : List Oper} {it t3 t4 t5 k v : Nat} (h : p3 l = some (it, t3, t4, t5, k, v)) : opsOf l = some [(t3, .entry (.tmp it)), (t4, .extract (.tmp t3) 0), (t5, .extract (.tmp t3) 1), (k, .assign (.tmp t4)), (v, .assign (.tmp t5))] := by
 unfold p3 at h
 split at h
 ·rename_i hq
  split at h
  ·rename_i e
   cases h
   obtain ⟨rfl, rfl, rfl, rfl⟩ := e
   exact hq
  ·cases h
 ·cases h
theorem p4_some {l : List Oper} {t6 t7 c2 v wd : Nat} {e : Bool} {ty ty2 : TypeId} (h : p4 l = some (t6, t7, c2, v, wd, e, ty, ty2)) : opsOf l = some [(t6, .move (.tmp v)), (t7, .move (.tmp wd)), (c2, .binOp (if e then .eql else .neq) ty (.tmp t6) (.tmp t7) ty2)] := by
 unfold p4 at h
 split at h
 ·rename_i hq
  split at h
  ·rename_i e
   cases h
   obtain ⟨rfl, rfl⟩ := e
   exact hq
  ·cases h
 ·rename_i hq
  split at h
  ·rename_i e
   cases h
   obtain ⟨rfl, rfl⟩ := e
   exact hq
  ·cases h
 ·cases h
theorem wkBody_spec {P : Program} {B : Exit → Act → World → Prop} {e1 : Nat} {b cnd : Code} {g : RG} {fr : List Fr} {pth : List Nat} (h : wkBody e1 b = some (g, fr, pth, cnd)) (stk : List Fr) :
  (∀ a w, opsWp P (fun a w => (a.tmps.getD g.c1 undef = .bool false ∧ stkQ P B (.blk e1 :: .seqR :: stk) (.exit e1) a w) ∨ (a.tmps.getD g.c1 undef = .bool true ∧ opsWp P (opsWp P (cnd.wp P (stkQ P B (fr ++ stk))) g.o4) g.o3 a w)) g.o1 a w → LoopWp P b (stkQ P B (.blk e1 :: .seqR :: stk)) a w) ∧
  (∀ a w, a.tmps.getD g.c2 undef = .bool (!g.eq) → LoopWp P b (stkQ P B (.blk e1 :: .seqR :: stk)) a w → cnd.wp P (stkQ P B (fr ++ stk)) a w) ∧
  (∀ body path id ops, codeAt body path = some (.seq (.region id ops false) (.block e1 (.loop b)), stk) → codeAt body (pth ++ path) = some (cnd, fr ++ stk)) := by
 unfold wkBody at h
 split at h
 ·rename_i i1 r1 c x1 e2 i3 r3 y
  split at h
  ·rename_i it t1 c1 it' t3 t4 t5 k v hp1 hp3
   split at h
   ·rename_i he
    obtain ⟨rfl, rfl, rfl⟩ := he
    have q1 := p1_some hp1
    have q3 := p3_some hp3
    split at h
    ·rename_i i4 r4 d th
     split at h
     ·rename_i t6 t7 c2 v' wd ty ty2 hp4
      split at h
      ·rename_i he
       obtain ⟨rfl, rfl⟩ := he
       have q4 := p4_some hp4
       cases h
       refine ⟨fun a w hw => ?_, fun a w hc hl => ?_, fun body path id ops hat => by simp [codeAt, hat]⟩
       ·refine LoopWp.of_round (wp_seq (region_of q1 (opsWp_mono (fun a w hk => ?_) hw)))
        rcases hk with ⟨hc, hx⟩ | ⟨hc, hk⟩
        ·exact wp_seq (wp_cond_false hc (wp_exit hx))
        ·refine wp_seq (wp_cond_true hc (wp_skip ?_))
         refine wp_block (wp_seq (region_of q3 (opsWp_mono (fun a w hk => ?_) hk)))
         exact wp_seq (region_of q4 hk)
       ·exact wp_cond_false hc (wp_skip hl)
      ·cases h
     ·cases h
    ·rename_i i4 r4 d x2 rest
     split at h
     ·rename_i t6 t7 c2 v' wd ty ty2 hp4
      split at h
      ·rename_i he
       obtain ⟨rfl, rfl, rfl⟩ := he
       have q4 := p4_some hp4
       cases h
       refine ⟨fun a w hw => ?_, fun a w hc hl => ?_, fun body path id ops hat => by simp [codeAt, hat]⟩
       ·refine LoopWp.of_round (wp_seq (region_of q1 (opsWp_mono (fun a w hk => ?_) hw)))
        rcases hk with ⟨hc, hx⟩ | ⟨hc, hk⟩
        ·exact wp_seq (wp_cond_false hc (wp_exit hx))
        ·refine wp_seq (wp_cond_true hc (wp_skip ?_))
         refine wp_block (wp_seq (region_of q3 (opsWp_mono (fun a w hk => ?_) hk)))
         exact wp_seq (wp_seq (region_of q4 hk))
       ·refine wp_cond_true hc (wp_exit ?_)
        show (if _ = _ then _ else _)
        rw [if_pos rfl]
        exact hl
      ·cases h
     ·cases h
    ·cases h
   ·cases h
  ·cases h
 ·cases h
theorem wkOf_spec {P : Program} {N : Nat} {x y : Code} {q : Wk} (h : wkOf P N x y = some q) : ∃ id e1 b ty kt et o rest, x = .region id q.ops false ∧ y = .block e1 (.loop b) ∧ q.ops.toList.reverse = o :: rest ∧ op2 o = some (q.g.it, .range ty (.tmp q.m)) ∧ P.underlying ty = some (.map kt et) ∧
  wkBody e1 b = some (q.g, q.fr, q.pth, q.cnd) ∧ (q.g.wd :: q.g.all).Nodup ∧ ∀ t ∈ q.g.wd :: q.g.all, t < N := by
 unfold wkOf at h
 split at h
 ·split at h
  ·rename_i ops e1 b o rest hr
   split at h
   ·rename_i it ty m ho
    split at h
    ·rename_i kt et g fr pth cnd hu hb
     split at h
     ·rename_i he
      cases h
      obtain ⟨rfl, hn, hN⟩ := he
      exact ⟨_, _, _, _, _, _, _, _, rfl, rfl, hr, ho, hu, hb, hn, hN⟩
     ·cases h
    ·cases h
   ·cases h
  ·cases h
 ·cases h
theorem wkRead_spec {q : Wk} {st : St} {lg : List Loc} {r : (List (Int × ByteArray) × ByteArray) × List Loc} (h : (wkRead q).run st lg = some r) : ∃ n, st.tmp q.m = some (.v (.one (.mp n))) ∧ st.blk n = some (some (.mp (.int .i64) .str r.1.1)) ∧ st.tmp q.g.wd = some (.v (.one (.d .str r.1.2))) := by
 unfold wkRead at h
 obtain ⟨tv, lg1, h1, h⟩ := rbs h
 replace h1 := run_rT h1
 simp only at h h1
 split at h
 ·rename_i n
  obtain ⟨B, lg2, h2, h⟩ := rbs h
  replace h2 := run_rB h2
  simp only at h h2
  split at h
  ·rename_i es
   obtain ⟨tw, lg3, h3, h⟩ := rbs h
   replace h3 := run_rT h3
   simp only at h h3
   split at h
   ·rename_i w
    have := run_pure' h
    subst this
    exact ⟨n, h1, h2, h3⟩
   ·exact (rfl0 h).elim
  ·exact (rfl0 h).elim
 ·exact (rfl0 h).elim
end Go.Proofs.YtijjlpgcpdapnaaGreatDoor.Aev

/- AEV: the evaluator is sound; contracts of functions. -/
namespace Go.Proofs.YtijjlpgcpdapnaaGreatDoor.Aev
set_option linter.unusedVariables false
set_option linter.unusedSimpArgs false
open Go

theorem stkQ_ret {P : Program} {B : Exit → Act → World → Prop} : ∀ {stk : List Fr} {a : Act} {w : World}, B .ret a w → stkQ P B stk .ret a w
 | [], a, w, h => h
 | .seqL _ :: k, a, w, h => stkQ_ret (stk := k) h
 | .seqR :: k, a, w, h => stkQ_ret (stk := k) h
 | .arm :: k, a, w, h => stkQ_ret (stk := k) h
 | .blk _ :: k, a, w, h => stkQ_ret (stk := k) h
 | .loop _ :: k, a, w, h => stkQ_ret (stk := k) h
 | .scope _ :: k, a, w, h => stkQ_ret (stk := k) h

section
variable {E : FEnv} {fn : Func} {X : Cx} {w : World} {S : Nat → Prop} {ρ : Nat → Option Value} {H : Nat → Option Nat} {st : St} {a : Act} {lg lg' : List Loc}

theorem stOf_tmp {keep : List Nat} {tvs : List TV} {blks : List (Option Blk)} {t : Nat} {v : TV} (h : (stOf keep tvs blks).tmp t = some v) : ∃ i : Nat, keep[i]? = some t ∧ tvs[i]? = some v := by
 simp only [stOf] at h
 split at h
 ·rename_i i hi
  exact ⟨i, idx_some (l := keep) (n := t) hi, h⟩
 ·simp at h

theorem keep_rep (hR : Rep X w S ρ H E.N st a) : ∀ {keep : List Nat} {tvs : List TV}, All2 (fun x y => ∃ lg1 lg2, (AM.rT x).run st lg1 = some (y, lg2)) keep tvs → All2 (RepTV w S ρ) tvs (keep.map fun t => a.tmps.getD t undef)
 | [], tvs, hk => by rw [hk.nil_left]; trivial
 | t :: keep, tvs, hk => by
  obtain ⟨v, m, rfl, ⟨l1, l2, hr⟩, hk⟩ := hk.cons_left
  exact ⟨hR.tmp _ _ (run_rT hr), keep_rep hR hk⟩

theorem jump_rep {keep : List Nat} {r : (List TV × List (Option Blk)) × List Loc} (h : (do packN E.nin [] (← keep.mapM AM.rT) : AM (List TV × List (Option Blk))).run st lg = some r) (hX : CxOK E X) (hR : Rep X w S ρ H E.N st a) :
  ∃ ρ' H', Rep X w S ρ' H' E.N (stOf keep r.1.1 r.1.2) a := by
 obtain ⟨tvs, lg1, h1, h⟩ := rbs h
 have hk := run_mapM h1
 simp only at hk h
 have hv : All2 (RepTV w S ρ) tvs (keep.map fun t => a.tmps.getD t undef) := keep_rep hR hk
 obtain ⟨ρ', H', hm, hv'⟩ := packN_rep h (st2 := st) (fun _ _ => rfl) hR.mem hX hv
 refine ⟨ρ', H', { mem := hm, tmp := ?_, size := hR.size, defers := hR.defers }⟩
 intro t v ht
 obtain ⟨i, h2, h3⟩ := stOf_tmp ht
 obtain ⟨u, hu, hr⟩ := hv'.get h3
 simp only [List.getElem?_map, h2, Option.map_some, Option.some.injEq] at hu
 rw [hu]; exact hr

theorem at_down {stk : List Fr} {path : List Nat} {f : Fr} {k : List Fr} (h : ∃ c, codeAt E.body path = some (c, f :: k)) : ∃ d p c, path = d :: p ∧ codeAt E.body (d :: p) = some (c, f :: k) := by
 obtain ⟨c, h⟩ := h
 cases path with
 | nil => simp [codeAt] at h
 | cons d p => exact ⟨d, p, c, rfl, h⟩

theorem at_parent {path : List Nat} {f : Fr} {k : List Fr} (h : ∃ c, codeAt E.body path = some (c, f :: k)) : ∃ c, codeAt E.body path.tail = some (c, k) := by
 obtain ⟨d, p, c, e, h'⟩ := at_down (stk := []) h
 subst e
 obtain ⟨c', k', h1, h2⟩ := codeAt_cons h'
 refine ⟨c', ?_⟩
 simp only [List.tail_cons]
 rw [h1]
 split at h2 <;> first | exact h2.elim | (cases h2; rfl) | (obtain ⟨_, h3⟩ := h2; cases h3 <;> rfl)
theorem at_right {path : List Nat} {b : Code} {k : List Fr} (h : ∃ c, codeAt E.body path = some (c, .seqL b :: k)) : codeAt E.body (1 :: path.tail) = some (b, .seqR :: k) := by
 obtain ⟨d, p, c, e, h'⟩ := at_down (stk := []) h
 subst e
 obtain ⟨c', k', h1, h2⟩ := codeAt_cons h'
 simp only [List.tail_cons]
 split at h2 <;> first | exact h2.elim | (cases h2; done) | (obtain ⟨_, h3⟩ := h2; cases h3 <;> simp [codeAt, h1])
theorem at_loop {path : List Nat} {b : Code} {k : List Fr} (h : ∃ c, codeAt E.body path = some (c, .loop b :: k)) : codeAt E.body path.tail = some (.loop b, k) := by
 obtain ⟨d, p, c, e, h'⟩ := at_down (stk := []) h
 subst e
 obtain ⟨c', k', h1, h2⟩ := codeAt_cons h'
 simp only [List.tail_cons]
 rw [h1]
 split at h2 <;> first | exact h2.elim | (cases h2; done) | (obtain ⟨_, h3⟩ := h2; cases h3 <;> rfl)

theorem at_scope {path : List Nat} {b : Code} {k : List Fr} (h : ∃ c, codeAt E.body path = some (c, .scope b :: k)) : codeAt E.body path.tail = some (.scope b, k) := by
 obtain ⟨d, p, c, e, h'⟩ := at_down (stk := []) h
 subst e
 obtain ⟨c', k', h1, h2⟩ := codeAt_cons h'
 simp only [List.tail_cons]
 rw [h1]
 split at h2 <;> first | exact h2.elim | (cases h2; rfl) | (obtain ⟨_, h3⟩ := h2; cases h3 <;> rfl)
theorem codeAt_goto {body c rest : Code} {p : List Nat} {k : List Fr} {l : Nat} (h : codeAt body p = some (.scope c, k)) (hf : findLabel c l = some rest) : codeAt body ((100 + l) :: p) = some (rest, .scope c :: k) := by
 simp only [codeAt, h]
 split <;> first | (exfalso; omega) | (rename_i e; cases e; simp [hf]) | (simp_all; done) | skip

theorem ev_sound (hE : EnvOK E.toEnv) (hfn : FnOK E fn) (hseg : ∀ s ∈ E.segs, SegOK E fn s) (hX : CxOK E X) {res : Res} : ∀ (n : Nat) {md : Md} {stk : List Fr} {path : List Nat} {fr : Nat} {st : St} {a : Act} {w : World} {S : Nat → Prop} {ρ : Nat → Option Value} {H : Nat → Option Nat},
  ev E some n md stk path fr st = some res → At E stk path md → Rep X w S ρ H E.N st a → MdSem E.P (BP E.P fn (Rres X res)) stk a w md
 | 0, md, stk, path, fr, st, a, w, S, ρ, H, h, _, _ => by simp [ev] at h
 | n + 1, md, stk, path, fr, st, a, w, S, ρ, H, h, hat, hR => by
  have ih := fun {md : Md} {stk : List Fr} {path : List Nat} {fr : Nat} {st : St} {a : Act} {w : World} {S : Nat → Prop} {ρ : Nat → Option Value} {H : Nat → Option Nat} => ev_sound hE hfn hseg hX (res := res) n (md := md) (stk := stk) (path := path) (fr := fr) (st := st) (a := a) (w := w) (S := S) (ρ := ρ) (H := H)
  cases md with
  | enter skip c =>
   have hat : codeAt E.body path = some (c, stk) := hat
   simp only [ev] at h
   show EnterSem E.P c _ a w
   split at h
   ·rename_i s hs
    have hs' : E.segs.find? (fun s => s.path == path) = some s := by
     cases skip with
     | true => simp at hs
     | false => simpa using hs
    have hmem := List.mem_of_find?_eq_some hs'
    have hpath : s.path = path := by
     have := List.find?_some hs'
     simpa using this
    obtain ⟨st', S', ρ', H', hk, hR'⟩ := runPreps_rep h hR
    obtain ⟨p, lg', h1, h2⟩ := runK_some hk
    obtain ⟨ρ'', H'', hR''⟩ := jump_rep h1 hX hR'
    exact hseg s hmem p.1 p.2 res h2 c stk (by rw [hpath]; exact hat) X w S' ρ'' H'' a hX hR''
   ·cases c with
    | skip => exact wp_skip (ih h ⟨_, hat⟩ hR)
    | label l => exact wp_label (ih h ⟨_, hat⟩ hR)
    | region id ops draw =>
     simp only at h
     obtain ⟨L, st', hL, hr, hk⟩ := evOps_runs h
     cases draw with
     | false =>
      refine region_sound hE hL hr (fun e => by simp at e) hR (fun a' w' S' ρ' H' hR' _ => ?_)
      exact ih (md := .done) hk ⟨_, hat⟩ hR'
     | true =>
      simp only [if_true] at hk
      split at hk
      ·rename_i hc
       simp only [Bool.and_eq_true, List.append_nil] at hc
       refine region_sound hE hL hr (fun _ => hc) hR (fun a' w' S' ρ' H' hR' _ => ?_)
       exact ih (md := .done) hk ⟨_, hat⟩ hR'
      ·simp at hk
    | seq x y =>
     simp only at h
     split at h
     ·refine wp_seq ?_
      have := ih (md := .enter false x) (stk := .seqL y :: stk) (path := 0 :: path) h (by simp [At, codeAt, hat]) hR
      exact EnterSem.wp this
     ·rename_i q hq
      obtain ⟨L, st', hL, hr, hk⟩ := evOps_runs h
      obtain ⟨p, lg1, h1, h2⟩ := runK_some hk
      obtain ⟨n', hm, hb, hw⟩ := wkRead_spec h1
      obtain ⟨id, e1, b, ty, kt, et, o, rest, rfl, rfl, hrev, ho, hu, hbody, hn, hN⟩ := wkOf_spec hq
      obtain ⟨s1, s2, s3⟩ := wkBody_spec (P := E.P) (B := BP E.P fn (Rres X res)) hbody stk
      have hops : q.ops.toList = rest.reverse ++ [o] := by
       have := congrArg List.reverse hrev
       simpa using this
      have hsz : q.ops.size = rest.length + 1 := by
       have := congrArg List.length hops
       simpa using this
      obtain ⟨hd, hg, hop⟩ := op2_some ho
      refine wp_seq (wp_region ?_)
      have hrange : List.range q.ops.size = L.map (·.1) ++ [q.ops.size - 1] := by
       rw [hL, hsz]; simp [List.range_succ]
      rw [hrange]
      refine runs_sound' hE hr hR (fun a' w' S' ρ' H' hR' _ => ?_)
      have hlast : q.ops[q.ops.size - 1]? = some o := by
       rw [← Array.getElem?_toList, hops, hsz]; simp
      simp only [wpOps, hlast]
      rw [if_pos (by simp [Region.wanted, hg])]
      refine .inl ?_
      cases h1v : oneV p.2 p.1 with
      | false => rw [h1v] at h2; cases h2
      | true =>
       rw [h1v] at h2
       simp only [cond_true] at h2
       obtain ⟨bm, vs, hv, hheap, hloop⟩ := walk_wp (P := E.P) (b := b) (cnd := q.cnd) (Q := stkQ E.P (BP E.P fn (Rres X res)) (.blk e1 :: .seqR :: stk)) (Qc := stkQ E.P (BP E.P fn (Rres X res)) (q.fr ++ stk)) (Kx := fun a w => stkQ E.P (BP E.P fn (Rres X res)) (.blk e1 :: .seqR :: stk) (.exit e1) a w) hR' hn hN hm hb hw h1v s1
        (fun hnone a2 w2 hR2 => by
         rw [hnone] at h2
         show (if e1 = e1 then _ else _)
         rw [if_pos rfl]
         exact ih (md := .done) h2 ⟨_, hat⟩ hR2)
        (fun key hsome a2 w2 hR2 => by
         rw [hsome] at h2
         exact EnterSem.wp (ih (md := .enter false q.cnd) h2 (s3 _ _ _ _ hat) hR2))
        s2
       unfold Oper.wp
       have hrun : (execOp a'.eval o).run E.P w' = .ok (.value (.pointer (some ⟨w'.heap.size, 0, none⟩))) (w'.alloc (.mapIter (some bm) vs.size #[] vs.size)) := by
        simp only [execOp, hop, Act.eval, hv]
        exact exec_v (run_range_map w' ty kt et bm vs vs.size hu hheap)
       rw [hrun, Oper.upon_value, hd]
       exact wp_block (wp_of_LoopWp hloop)
    | cond c x y =>
     simp only at h
     obtain ⟨t, lg1, h1, h⟩ := runK_some h
     obtain ⟨v, lg2, h2, h3⟩ := rbs h1
     have hv := opd_rep hR h2
     rw [asB_inv h3] at hv
     have hv := rep_b hv
     cases t with
     | true =>
      refine wp_cond_true hv ?_
      exact EnterSem.wp (ih (md := .enter false x) (stk := .arm :: stk) (path := 2 :: path) h (by simp [At, codeAt, hat]) hR)
     | false =>
      refine wp_cond_false hv ?_
      exact EnterSem.wp (ih (md := .enter false y) (stk := .arm :: stk) (path := 3 :: path) h (by simp [At, codeAt, hat]) hR)
    | block id b =>
     refine wp_block ?_
     exact EnterSem.wp (ih (md := .enter false b) (stk := .blk id :: stk) (path := 4 :: path) h (by simp [At, codeAt, hat]) hR)
    | loop b =>
     refine LoopWp.of_round ?_
     exact EnterSem.wp (ih (md := .enter false b) (stk := .loop b :: stk) (path := 5 :: path) h (by simp [At, codeAt, hat]) hR)
    | exit id => exact wp_exit (ih (md := .exit id) h ⟨_, hat⟩ hR)
    | ret => exact wp_ret (ih (md := .ret) h ⟨_, hat⟩ hR)
    | rangeFunc f ps x y => simp at h
    | scope b =>
     refine wp_scopeQ ?_
     exact EnterSem.wp (ih (md := .enter false b) (stk := .scope b :: stk) (path := 6 :: path) h (by simp [At, codeAt, hat]) hR)
    | goto l => exact wp_goto (ih (md := .goto l) h ⟨_, hat⟩ hR)
    | refuse why => simp at h
  | done =>
   have hat : ∃ c, codeAt E.body path = some (c, stk) := hat
   simp only [ev] at h
   show stkQ _ _ stk .normal a w
   cases stk with
   | nil =>
    obtain ⟨r, lg', h1, h2⟩ := runK_some h
    simp at h2; subst h2
    exact resA_post hfn hX h1 hR
   | cons f k =>
    cases f with
    | seqL b => exact EnterSem.wp (ih (md := .enter false b) (stk := .seqR :: k) (path := 1 :: path.tail) h (at_right hat) hR)
    | seqR => exact ih (md := .done) (stk := k) h (at_parent hat) hR
    | arm => exact ih (md := .done) (stk := k) h (at_parent hat) hR
    | blk id => exact ih (md := .done) (stk := k) h (at_parent hat) hR
    | scope _ => exact ih (md := .done) (stk := k) h (at_parent hat) hR
    | loop b => exact ih (md := .enter false (.loop b)) (stk := k) (path := path.tail) h (at_loop hat) hR
  | exit id =>
   have hat : ∃ c, codeAt E.body path = some (c, stk) := hat
   simp only [ev] at h
   show stkQ _ _ stk (.exit id) a w
   cases stk with
   | nil => simp at h
   | cons f k =>
    cases f with
    | seqL b => exact ih (md := .exit id) (stk := k) h (at_parent hat) hR
    | seqR => exact ih (md := .exit id) (stk := k) h (at_parent hat) hR
    | arm => exact ih (md := .exit id) (stk := k) h (at_parent hat) hR
    | loop b => exact ih (md := .exit id) (stk := k) h (at_parent hat) hR
    | scope _ => exact ih (md := .exit id) (stk := k) h (at_parent hat) hR
    | blk id' =>
     simp only at h
     show (if id = id' then stkQ _ _ k .normal a w else stkQ _ _ k (.exit id) a w)
     split at h
     ·rename_i e
      rw [if_pos e.symm]
      exact ih (md := .done) (stk := k) h (at_parent hat) hR
     ·rename_i e
      rw [if_neg (fun h => e h.symm)]
      exact ih (md := .exit id) (stk := k) h (at_parent hat) hR
  | goto l =>
   have hat : ∃ c, codeAt E.body path = some (c, stk) := hat
   simp only [ev] at h
   show stkQ _ _ stk (.goto l) a w
   cases stk with
   | nil => simp at h
   | cons f k =>
    cases f with
    | seqL b => exact ih (md := .goto l) (stk := k) h (at_parent hat) hR
    | seqR => exact ih (md := .goto l) (stk := k) h (at_parent hat) hR
    | arm => exact ih (md := .goto l) (stk := k) h (at_parent hat) hR
    | loop b => exact ih (md := .goto l) (stk := k) h (at_parent hat) hR
    | blk id' => exact ih (md := .goto l) (stk := k) h (at_parent hat) hR
    | scope c =>
     simp only at h
     split at h
     ·rename_i rest hf
      exact ⟨rest, hf, RestWp.of (EnterSem.wp (ih (md := .enter false rest) (stk := .scope c :: k) (path := (100 + l) :: path.tail) h (codeAt_goto (at_scope hat) hf) hR))⟩
     ·simp at h
  | ret =>
   simp only [ev] at h
   obtain ⟨r, lg', h1, h2⟩ := runK_some h
   simp at h2; subst h2
   exact stkQ_ret (resA_post hfn hX h1 hR)

theorem seg_of_ev (hE : EnvOK E.toEnv) (hfn : FnOK E fn) (hseg : ∀ s ∈ E.segs, SegOK E fn s) {s : Seg} (h : ∀ tvs blks res, s.F tvs blks some = some res → evAt E s.path s.keep tvs blks some = some res) : SegOK E fn s := by
 intro tvs blks res hs c stk hat X w S ρ H a hX hR
 have := h tvs blks res hs
 unfold evAt at this
 rw [hat] at this
 exact ev_sound hE hfn hseg hX _ (md := .enter true c) this hat hR
end

structure FnIs (E : FEnv) (f : FuncId) (fn : Func) : Prop where
 func : E.P.funcs[f]? = some fn
 body : fn.body = some E.body
 rvs : fn.results.toList = E.rvs
 ntmps : fn.ntmps = E.N
 name : (fn.name == "runtime.NumGoroutine") = false

theorem ct_of_ev {E : FEnv} {f : FuncId} {fn : Func} (hf : FnIs E f fn) (hE : EnvOK E.toEnv) (hseg : ∀ s ∈ E.segs, SegOK E fn s) {c : Ct} (hn : c.nin = E.nin)
  (h : ∀ tvs blks res, c.F tvs blks some = some res → evAt E [] (List.range tvs.length) tvs (blks.map some) some = some res) : CtOK E.P f c := by
 intro tvs blks res hF w S ρ H vals hm hv
 have hev := h tvs blks res hF
 have hfn : FnOK E fn := ⟨hf.rvs⟩
 left
 refine ⟨?_, ?_⟩
 ·have hnm : ¬ fn.name = "runtime.NumGoroutine" := by simpa using hf.name
  simp [callFunc, hf.func, hf.body, hnm]
 ·refine callsIn_wide.1 (callsIn_of_wp_marks (F := Fence.wide) (n := 5) hf.func hf.body trivial (wpIn_wide.2 ?_))
  have hlen := hv.length
  have hX : CxOK E (pkgCx w S ρ H blks c.nin) := by
   intro n v hn'
   simp only [pkgCx] at hn'
   split at hn'
   ·rename_i hlt; rw [← hn]; exact hlt
   ·simp at hn'
  have hR : Rep (pkgCx w S ρ H blks c.nin) w S ρ H E.N (stOf (List.range tvs.length) tvs (blks.map some)) { tmps := vals.toArray ++ Array.replicate (fn.ntmps - vals.toArray.size) undef, defers := [] } := by
   refine { mem := ?_, tmp := ?_, size := by simp [hf.ntmps]; omega, defers := rfl }
   ·have : (stOf (List.range tvs.length) tvs (blks.map some)).blk = live blks := by
     funext n
     simp [stOf, live]
    rw [this]; exact hm
   ·intro t v ht
    obtain ⟨i, h1, h2⟩ := stOf_tmp ht
    have hi : i < tvs.length := by
     rcases Nat.lt_or_ge i tvs.length with h | h
     ·exact h
     ·rw [List.getElem?_eq_none h] at h2; simp at h2
    rw [List.getElem?_range hi] at h1
    simp at h1; subst h1
    obtain ⟨u, hu, hr⟩ := hv.get h2
    have : (vals.toArray ++ Array.replicate (fn.ntmps - vals.toArray.size) undef).getD i undef = u := by
     rw [Array.getD_eq_getD_getElem?, Array.getElem?_append_left (by simp; omega)]
     simp [hu]
    rw [this]; exact hr
  unfold evAt at hev
  simp only [codeAt] at hev
  have := ev_sound hE hfn hseg hX _ (md := .enter true E.body) (stk := []) (path := []) hev rfl hR
  have := EnterSem.wp this
  exact wp_mono this (fun e a w h => h)
end Go.Proofs.YtijjlpgcpdapnaaGreatDoor.Aev
