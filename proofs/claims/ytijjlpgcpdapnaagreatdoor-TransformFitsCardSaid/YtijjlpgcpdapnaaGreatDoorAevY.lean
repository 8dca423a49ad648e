import Derived.Test.YtijjlpgcpdapnaaGreatDoorAevX
import Derived.RangeFuncNested
import Derived.RangeFuncBound
import Derived.RangeFuncCalls
import Derived.RangeFuncLeaves
import Derived.Shelf.Abstract
import Derived.OwnWalkIn
/- AEV: plain regions in any fence; memory over a part of a function; for ranges over functions. -/
namespace Go.Proofs.YtijjlpgcpdapnaaGreatDoor.Aev
set_option linter.unusedVariables false
set_option linter.unusedSimpArgs false
open Go

def plainOps (ops : Array Oper) : Bool := ops.toList.all fun o => (calleeOf o.op).isNone && o.guard.isNone

section
variable {E : Env} {ops : Array Oper} {base : Nat} {X : Cx} {o : Oper} {x : Out} {le : LogE}

theorem plain_step {w : World} {S : Nat → Prop} {ρ : Nat → Option Value} {H : Nat → Option Nat} {st : St} {a : Act} {ds : List Deferred} {i : Nat} (hp : plainOps ops = true) (ho : ops[i]? = some o) (h : step1 E ops base i st = some (x, le)) (hR : Rep X w S ρ H E.N st { a with defers := ds }) :
  o.guard = none ∧ (∀ c, o.op ≠ .defer c) ∧ ∃ v w' S' ρ' H', ((execOp a.eval o).run E.P w = .ok (.value v) w' ∨ ((execOp a.eval o).run E.P w = .ok .skip w' ∧ v = undef)) ∧
   Rep X w' S' ρ' H' E.N (next1 ops i st x) { (a.put o.dst v) with defers := ds } ∧ More w w' S S' ρ ρ' := by
 have hm : o ∈ ops.toList := by
  obtain ⟨hi, rfl⟩ := Array.getElem?_eq_some_iff.1 ho
  simp
 have hpo := List.all_eq_true.1 hp o hm
 simp only [Bool.and_eq_true, Option.isNone_iff_eq_none] at hpo
 obtain ⟨hc, hg⟩ := hpo
 simp only [step1, ho, hg] at h
 split at h
 ·rename_i hd
  simp only [exec1, hc] at h
  split at h
  ·rename_i y rd1 h1
   simp at h; obtain ⟨rfl, rfl⟩ := h
   refine ⟨hg, ?_, ?_⟩
   ·intro c e
    simp [opA, e, AM.run] at h1
   ·obtain ⟨v, w', S', ρ', H', hrun, hR', hv, hmore⟩ := opA_does h1 hR (fun c f hop hcal => by simp [calleeOf, hop, hcal] at hc)
    refine ⟨v, w', S', ρ', H', hrun, ?_, hmore⟩
    have := hR'.put hd hv
    unfold next1
    rw [dst_of ho]
    cases hdst : o.dst with
    | none => rw [hdst] at this; exact this
    | some d => rw [hdst] at this; exact this
  ·simp at h
 ·simp at h

theorem runs_in {F : Fence} {n : Nat} (hF : ∀ f, F.fn f) (hp : plainOps ops = true) {Q : Exit → Act → World → Prop} : ∀ {L : List (Nat × LogE)} {st st' : St} {a : Act} {w : World} {S : Nat → Prop} {ρ : Nat → Option Value} {H : Nat → Option Nat} {ds : List Deferred}, Runs E ops base L st st' → Rep X w S ρ H E.N st { a with defers := ds } →
  (∀ a' w' S' ρ' H', Rep X w' S' ρ' H' E.N st' { a' with defers := ds } → a'.defers = a.defers → More w w' S S' ρ ρ' → Q .normal a' w') → wpOpsIn F n E.P ops Q (L.map (·.1)) a w
 | [], st, st', a, w, S, ρ, H, ds, h, hR, hk => by
  cases h
  exact hk a w S ρ H hR rfl (More.refl _ _ _)
 | (i, le) :: L, st, st', a, w, S, ρ, H, ds, h, hR, hk => by
  cases h with
  | cons h1 h2 =>
   rename_i x
   cases ho : ops[i]? with
   | none => simp [step1, ho] at h1
   | some o =>
    simp only [List.map_cons, wpOpsIn, ho]
    obtain ⟨hg, hd, v, w', S', ρ', H', hrun, hR', hM⟩ := plain_step hp ho h1 hR
    rw [if_pos (by simp [Region.wanted, hg])]
    have hn : wpOpsIn F n E.P ops Q (L.map (·.1)) (a.put o.dst v) w' := runs_in hF hp h2 hR' (fun a'' w'' S'' ρ'' H'' hR'' hd'' hM' => hk a'' w'' S'' ρ'' H'' hR'' (hd''.trans (by cases hdst : o.dst <;> rfl)) (hM.trans hM'))
    refine ⟨fun f _ => hF f, ?_⟩
    rw [Oper.semAt_plain F _ _ hd]
    rcases hrun with hrun | ⟨hrun, rfl⟩
    ·rw [hrun, Oper.uponIn_value]; exact hn
    ·rw [hrun, Oper.uponIn_skip]; exact hn

theorem region_in {F : Fence} {n : Nat} (hF : ∀ f, F.fn f) (hp : plainOps ops = true) {Q : Exit → Act → World → Prop} {st : St} {a : Act} {w : World} {S : Nat → Prop} {ρ : Nat → Option Value} {H : Nat → Option Nat} {ds : List Deferred} {id : Nat}
  {β : Type} {K : St → List LogE → Option β} {r : β} (h : evOps E ops base K (List.range ops.size) st [] = some r) (hR : Rep X w S ρ H E.N st { a with defers := ds })
  (hk : ∀ st' lg a' w' S' ρ' H', K st' lg = some r → Rep X w' S' ρ' H' E.N st' { a' with defers := ds } → a'.defers = a.defers → More w w' S S' ρ ρ' → Q .normal a' w') : (Code.region id ops false).wpIn F n E.P Q a w := by
 obtain ⟨L, st', h1, h2, h3⟩ := evOps_runs h
 refine wpIn_region ?_
 rw [← h1]
 exact runs_in hF hp h2 hR (fun a' w' S' ρ' H' => hk st' _ a' w' S' ρ' H' h3)
end

def Mem.cx (X : Cx) (w : World) (S : Nat → Prop) (ρ : Nat → Option Value) (H : Nat → Option Nat) (blk : Nat → Option (Option Blk)) (m : Nat) : Cx :=
 { w0 := w, S0 := S, M0 := fun b => ∃ n B, blk n = some (some B) ∧ H n = some b, ρ0 := fun n => if n < m then ρ n else X.ρ0 n }
section
variable {X : Cx} {w w' : World} {S S' : Nat → Prop} {ρ ρ' : Nat → Option Value} {H H' : Nat → Option Nat} {blk blk' : Nat → Option (Option Blk)}
theorem Mem.restart (h : Mem X w S ρ H blk) (m : Nat) : Mem (Mem.cx X w S ρ H blk m) w S ρ H blk where
 rep := h.rep
 sep := h.sep
 apart := h.apart
 homes := fun n B b h1 h2 => .inl ⟨n, B, h1, h2⟩
 old := h.old
 never := h.never
 s0 := fun b hb => hb
 smine := fun b hb => .inl hb
 names := fun n v hn => by
  simp only [Mem.cx] at hn
  split at hn
  ·exact hn
  ·exact h.names n v hn
 os := rfl
 tape := rfl
 output := rfl
 size := Nat.le_refl _
 same := fun _ _ _ => rfl
 gl := h.gl
theorem Mem.below (h : Mem X w S ρ H blk) (hb : RowKit.Below w.heap.size w w') : Mem X w' S ρ H blk := h.later hb.size hb.block hb.os hb.tape hb.output
theorem Mem.chain (h : Mem X w S ρ H blk) {m : Nat} (k : Mem (Mem.cx X w S ρ H blk m) w' S' ρ' H' blk') : Mem X w' S' ρ' H' blk' := by
 have hmine : ∀ b, (Mem.cx X w S ρ H blk m).mine b → X.mine b := by
  intro b hb
  rcases hb with ⟨n, B, h1, h2⟩ | hb
  ·exact h.homes n B b h1 h2
  ·exact .inr (Nat.le_trans h.size hb)
 exact {
  rep := k.rep
  sep := k.sep
  apart := k.apart
  homes := fun n B b h1 h2 => hmine b (k.homes n B b h1 h2)
  old := k.old
  never := k.never
  s0 := fun b hb => k.s0 b (h.s0 b hb)
  smine := fun b hb => by
   rcases k.smine b hb with hb | hb
   ·exact h.smine b hb
   ·exact .inr (hmine b hb)
  names := fun n v hn => by
   refine k.names n v ?_
   simp only [Mem.cx]
   split
   ·exact h.names n v hn
   ·exact hn
  os := k.os.trans h.os
  tape := k.tape.trans h.tape
  output := k.output.trans h.output
  size := Nat.le_trans h.size k.size
  same := fun b hb hM => by
   refine (k.same b (Nat.lt_of_lt_of_le hb h.size) ?_).trans (h.same b hb hM)
   rintro ⟨n, B, h1, h2⟩
   rcases h.homes n B b h1 h2 with h3 | h3
   ·exact hM h3
   ·exact absurd hb (Nat.not_lt.2 h3)
  gl := k.gl }
theorem Mem.shrink {S1 : Nat → Prop} (h : Mem X w S ρ H blk) (h0 : ∀ b, X.S0 b → S1 b) (h1 : ∀ b, S1 b → S b) (hd : ∀ n B, blk' n = some (some B) → ∃ B', blk n = some (some B')) (hn : ∀ n, blk' n = none → blk n = none)
  (hr : ∀ n B, blk' n = some (some B) → RepBlk w S1 ρ n (H n) B) (hgl : Gl w S1) : Mem X w S1 ρ H blk' where
 rep := hr
 sep := fun n m B C b h2 h3 h4 h5 => by
  obtain ⟨B', h6⟩ := hd n B h2
  obtain ⟨C', h7⟩ := hd m C h3
  exact h.sep n m B' C' b h6 h7 h4 h5
 apart := fun n B b h2 h3 h4 => by
  obtain ⟨B', h6⟩ := hd n B h2
  exact h.apart n B' b h6 h3 (h1 b h4)
 homes := fun n B b h2 h3 => by
  obtain ⟨B', h6⟩ := hd n B h2
  exact h.homes n B' b h6 h3
 old := fun b hb => h.old b (h1 b hb)
 never := fun n h2 => h.never n (hn n h2)
 s0 := h0
 smine := fun b hb => h.smine b (h1 b hb)
 names := h.names
 os := h.os
 tape := h.tape
 output := h.output
 size := h.size
 same := h.same
 gl := hgl
def Blk.isMp : Blk → Bool
 | .mp _ _ _ => true
 | _ => false
theorem RepBlk.cells {n b : Nat} {B : Blk} (h : RepBlk w S ρ n (some b) B) (hB : B.isMp = false) : ∃ vs e, w.heap[b]? = some (.cells vs e (0, 0)) := by
 cases B with
 | box cs => obtain ⟨b', vs, e, h1, _, h2, _⟩ := h; cases h1; exact ⟨vs, e, h2⟩
 | own t x xs =>
  obtain ⟨v, _, ⟨b', h1, h2⟩ | ⟨_, h1, _⟩⟩ := h
  ·cases h1
   obtain ⟨_, _, vs, e, _, _, _, h3, _⟩ := h2
   exact ⟨vs, e, h3⟩
  ·cases h1
 | settled t xs => obtain ⟨v, _, h1, _⟩ := h; cases h1
 | mp kt et es => cases hB
theorem Mem.turned (h : Mem X w S ρ H blk) {row : Option Nat} (hg : w.grownBy w' row) (hB : ∀ n B, blk n = some (some B) → B.isMp = false) (hS : ∀ r, row = some r → ¬ S r) (hr : ∀ r, row = some r → X.w0.heap.size ≤ r ∧ ∃ o : Obj, w.heap[r]? = some o ∧ o.isCells = false) : Mem X w' S ρ H blk := by
 have hk : ∀ b, b < w.heap.size → row ≠ some b → w'.heap[b]? = w.heap[b]? := fun b hb hne => hg.block b hb (fun e => hne e.symm)
 have hSs : ∀ b, S b → w'.heap[b]? = w.heap[b]? := fun b hb => hk b (h.old b hb) (fun e => hS b e hb)
 have hcell : ∀ (b : Nat) (vs : Array Value) (e : TypeId), w.heap[b]? = some (Obj.cells vs e (0, 0)) → w'.heap[b]? = w.heap[b]? := fun b vs e hb => hk b (Array.getElem?_eq_some_iff.1 hb).1 (fun e' => by
  obtain ⟨_, o, ho, hc⟩ := hr b e'
  rw [hb] at ho; cases ho; simp [Obj.isCells] at hc)
 exact {
  rep := fun n B hnB => by
   have := h.rep n B hnB
   refine RepBlk.mono (fun b x => x) hSs (fun _ _ x => x) (fun b e => ?_) this
   rw [e] at this
   obtain ⟨vs, e', hb⟩ := this.cells (hB n B hnB)
   exact hcell b vs e' hb
  sep := h.sep
  apart := h.apart
  homes := h.homes
  old := fun b hb => Nat.lt_of_lt_of_le (h.old b hb) hg.size
  never := h.never
  s0 := h.s0
  smine := h.smine
  names := h.names
  os := hg.os.trans h.os
  tape := hg.tape.trans h.tape
  output := hg.output.trans h.output
  size := Nat.le_trans h.size hg.size
  same := fun b hb hM => by
   rw [hk b (Nat.lt_of_lt_of_le hb h.size) (fun e => by have := (hr b e).1; omega)]
   exact h.same b hb hM
  gl := h.gl.mono (fun _ x => x) hSs }
end
end Go.Proofs.YtijjlpgcpdapnaaGreatDoor.Aev
