import Derived.Test.YtijjlpgcpdapnaaGreatDoorAevW
import Derived.ChangeArms
import Derived.OpenShut
import Derived.ChangeOld
import Derived.Carry
import Derived.Below
import Derived.DataReads
/- AEV: a law's arguments as they are read, and the law's call. -/
namespace Go.Proofs.YtijjlpgcpdapnaaGreatDoor.Aev
set_option linter.unusedVariables false
set_option linter.unusedSimpArgs false
open Go Go.RowKit

def Fit : (t : Ty) → t.den → Prop
 | .unit, _ => True
 | .bool, _ => True
 | .int k, x => k.min ≤ x ∧ x ≤ k.max
 | .str, x => ByteArray.size x ≤ maxLen
 | .flt, x => (x : Nat) < 2 ^ 64
 | .pair a b, x => Fit a x.1 ∧ Fit b x.2
 | .sl e, xs => List.length xs ≤ maxLen ∧ ∀ x ∈ (xs : List e.den), Fit e x

def szOk (P : Program) (d : Nat) (t : TypeId) : Bool := (tyOf P d t).map Ty.size == some (P.cellsOf t)
def layFs (P : Program) (lay : TypeId → Bool) (d : Nat) : Nat → List Field → Option Nat
 | off, [] => some off
 | off, f :: fs => if f.offset = off ∧ lay f.type = true ∧ szOk P d f.type = true then layFs P lay d (off + P.cellsOf f.type) fs else none
def layT (P : Program) : Nat → TypeId → Bool
 | 0, _ => false
 | d + 1, t => match P.underlying t with
  | some (.struct fs) => layFs P (layT P d) d 0 fs.toList == some (P.cellsOf t)
  | some (.array n e) => layT P d e && szOk P d e && P.cellsOf t == n * P.cellsOf e
  | some (.slice e) => layT P d e && szOk P d e && decide (1 ≤ P.cellsOf e)
  | _ => true

theorem exists_list {α : Type} {Q : Nat → α → Prop} : ∀ n, (∀ i, i < n → ∃ a, Q i a) → ∃ l : List α, l.length = n ∧ ∀ i (h : i < l.length), Q i l[i]
 | 0, _ => ⟨[], rfl, fun i h => by simp at h⟩
 | n + 1, h => by
  obtain ⟨l, h1, h2⟩ := exists_list n (fun i hi => h i (by omega))
  obtain ⟨a, ha⟩ := h n (by omega)
  refine ⟨l ++ [a], by simp [h1], fun i hi => ?_⟩
  rcases Nat.lt_or_ge i l.length with hl | hl
  ·rw [List.getElem_append_left hl]; exact h2 i hl
  ·simp at hi
   obtain rfl : i = l.length := by omega
   simp [h1]; exact ha

theorem cellsAt_of_cells? {w : World} {a : Addr} {n : Nat} {cs : List Value} (h : w.cells? 0 a n = some cs) (hn : 1 ≤ n) : a.spot = none ∧ cellsAt w a.block a.off n cs := by
 obtain ⟨-, hl, hc⟩ := World.cells?_some h
 have h0 : w.cell? (a.add 0) = cs[0]? := hc 0 (by omega)
 have hlt : 0 < cs.length := by omega
 rw [List.getElem?_eq_getElem hlt] at h0
 have hsp := World.cell?_spot h0
 simp [Addr.add] at hsp
 refine ⟨hsp, ?_⟩
 have ea : a = ⟨a.block, a.off, none⟩ := by cases a; simp at hsp; simp [hsp]
 unfold World.cell? at h0
 split at h0
 ·rename_i c e fr hb
  have hb : w.heap[a.block]? = some (.cells c e fr) := by simpa [Addr.add] using hb
  have hcell : ∀ i, i < n → c[a.off + i]? = cs[i]? := by
   intro i hi
   have := hc i hi
   rw [ea, addr_add] at this
   unfold World.cell? at this
   simp only [hb] at this
   simpa using this
  have hsz : a.off + n ≤ c.size := by
   have := hcell (n - 1) (by omega)
   rw [List.getElem?_eq_getElem (show n - 1 < cs.length by omega)] at this
   have := (Array.getElem?_eq_some_iff.1 this).1
   omega
  refine ⟨c, e, fr, hb, hsz, ?_⟩
  apply List.ext_getElem?
  intro i
  rcases Nat.lt_or_ge i n with hi | hi
  ·rw [List.getElem?_take_of_lt hi, List.getElem?_drop, ← hcell i hi]
   simp
  ·rw [List.getElem?_eq_none (by omega), List.getElem?_eq_none (by simp; omega)]
 ·simp at h0

section
variable {H : Type} {enc : TypeId × Value → H} {P : Program} {w : World}
def Sz (w : World) (b : Nat) : Prop := b < w.heap.size

theorem rd_fields {d : Nat} {lay : TypeId → Bool} {cs : List Value} : ∀ (fs : List Field) (off : Nat) (T : Ty),
  fs.foldr (fun f r => match tyOf P d f.type, r with | some a, some b => some (Ty.pair a b) | _, _ => none) (some .unit) = some T → layFs P lay d off fs = some cs.length →
  (∀ f ∈ fs, ∀ T, tyOf P d f.type = some T → lay f.type = true → ∃ x : T.den, Rd w (Sz w) T ((cs.drop f.offset).take (P.cellsOf f.type)) x ∧ Fit T x) →
  ∃ x : T.den, Rd w (Sz w) T (cs.drop off) x ∧ Fit T x
 | [], off, T, h, hl, _ => by
  simp at h; subst h
  simp [layFs] at hl
  exact ⟨(), by simp [Rd, hl], trivial⟩
 | f :: fs, off, T, h, hl, hh => by
  simp only [List.foldr_cons] at h
  split at h
  ·rename_i a b ha hb
   simp at h; subst h
   unfold layFs at hl
   split at hl
   ·rename_i hc
    obtain ⟨h1, h2, h3⟩ := hc
    obtain ⟨x, hx, fx⟩ := hh f (by simp) a ha h2
    obtain ⟨y, hy, fy⟩ := rd_fields fs _ b hb hl (fun g hg => hh g (by simp [hg]))
    refine ⟨(x, y), ⟨_, _, ?_, hx, hy⟩, fx, fy⟩
    rw [h1, ← List.drop_drop, List.take_append_drop]
   ·simp at hl
  ·simp at h

theorem rd_array {e : Ty} {c : Nat} {cs : List Value} : ∀ (n off : Nat), off + n * c = cs.length →
  (∀ i, i < n → ∃ x : e.den, Rd w (Sz w) e ((cs.drop (off + i * c)).take c) x ∧ Fit e x) →
  ∃ x : ((List.replicate n e).foldr Ty.pair .unit).den, Rd w (Sz w) ((List.replicate n e).foldr Ty.pair .unit) (cs.drop off) x ∧ Fit _ x
 | 0, off, h, _ => ⟨(), by simp [Rd]; omega, trivial⟩
 | n + 1, off, h, hh => by
  rw [Nat.succ_mul] at h
  obtain ⟨x, hx, fx⟩ := hh 0 (by omega)
  obtain ⟨y, hy, fy⟩ := rd_array (e := e) (c := c) (cs := cs) n (off + c) (by omega) (fun i hi => by
   have := hh (i + 1) (by omega)
   rw [Nat.succ_mul] at this
   rwa [show off + c + i * c = off + (i * c + c) by omega])
  refine ⟨(x, y), ⟨_, _, ?_, hx, hy⟩, fx, fy⟩
  simp only [Nat.zero_mul, Nat.add_zero]
  rw [← List.drop_drop, List.take_append_drop]

theorem rd_of_trod : ∀ (d : Nat) (t : TypeId) (T : Ty), tyOf P d t = some T → layT P d t = true → ∀ (fuel : Nat) (cs : List Value) (x : DataW H × List MemPlace),
  DataW.trod enc P w 0 (fun _ => true) true fuel t cs = some x → ∃ y : T.den, Rd w (Sz w) T cs y ∧ Fit T y
 | 0, t, T, h, _, _, _, _, _ => by simp [tyOf] at h
 | d + 1, t, T, h, hl, fuel, cs, x, ht => by
  have ih := rd_of_trod d
  unfold tyOf at h
  split at h
  ·rename_i hu
   simp at h; subst h
   obtain ⟨b, rfl, _⟩ := DataW.trod_bool hu ht
   exact ⟨b, rfl, trivial⟩
  ·rename_i k hu
   simp at h; subst h
   obtain ⟨n, rfl, _, hw⟩ := DataW.trod_int hu ht
   exact ⟨n, rfl, by simpa [Lit.wf, Fit] using hw⟩
  ·rename_i hu
   simp at h; subst h
   obtain ⟨s, rfl, _, hw⟩ := DataW.trod_string hu ht
   exact ⟨s, rfl, hw⟩
  ·rename_i hu
   simp at h; subst h
   cases fuel with
   | zero => simp [DataW.trod] at ht
   | succ n =>
    unfold DataW.trod at ht
    rw [hu] at ht
    split at ht <;> first | (exfalso; simp_all; done) | skip
    rename_i k' k b e1
    split at ht
    ·rename_i hc
     obtain ⟨hk, hw⟩ := hc
     cases e1
     subst hk
     exact ⟨b, rfl, by simpa [Lit.wf, Fit] using hw⟩
    ·simp at ht
  ·rename_i e hu
   simp only [Option.map_eq_some_iff] at h
   obtain ⟨E, hE, rfl⟩ := h
   unfold layT at hl
   rw [hu] at hl
   simp only [Bool.and_eq_true, decide_eq_true_eq, szOk, hE, Option.map_some, beq_iff_eq, Option.some.injEq] at hl
   obtain ⟨⟨hl1, hl2⟩, hl3⟩ := hl
   rcases DataW.trod_slice hu ht with ⟨rfl, _⟩ | ⟨a, len, cap, elems, rest, n, rfl, rfl, rfl, _, hlc, hcap, hlen, hel, hre, _⟩
   ·exact ⟨[], ⟨none, 0, 0, rfl, rfl, Nat.le_refl _, fun a h => by simp at h, fun _ => rfl, fun h => absurd rfl h⟩, by simp [Fit]⟩
   ·have hcell : ∀ i, i < len → ∃ us, w.cells? 0 (a.add (i * P.cellsOf e)) (P.cellsOf e) = some us ∧ ∃ y, DataW.trod enc P w 0 (fun _ => true) true n e us = some y := by
     intro i hi
     have := hel i hi
     rw [List.getElem?_eq_getElem (by omega)] at this
     obtain ⟨us, h1, h2⟩ := Option.bind_eq_some_iff.1 this
     exact ⟨us, h1, _, h2⟩
    obtain ⟨xs, hx1, hx2⟩ := exists_list (α := E.den) (Q := fun i y => Fit E y ∧ (a.spot = none ∧ ∃ us, cellsAt w a.block (a.off + i * E.size) E.size us ∧ Rd w (Sz w) E us y)) len (fun i hi => by
     obtain ⟨us, h1, y, h2⟩ := hcell i hi
     obtain ⟨z, hz, fz⟩ := ih e E hE hl1 _ _ _ h2
     obtain ⟨h3, h4⟩ := cellsAt_of_cells? h1 hl3
     have hsp : a.spot = none := by
      obtain ⟨us0, h10, _⟩ := hcell 0 (by omega)
      obtain ⟨h30, _⟩ := cellsAt_of_cells? h10 hl3
      simpa [Addr.add] using h30
     refine ⟨z, fz, hsp, us, ?_, hz⟩
     have ea : a = ⟨a.block, a.off, none⟩ := by cases a; simp at hsp; simp [hsp]
     rw [ea, addr_add] at h4
     rw [hl2]; exact h4)
    refine ⟨xs, ⟨some a, len, cap, rfl, hx1.symm, hlc, ?_, fun h => by simp at h, ?_⟩, ?_, ?_⟩
    ·intro a' ha' hc
     simp at ha'; subst ha'
     rcases Nat.eq_zero_or_pos len with h0 | h0
     ·subst h0
      obtain ⟨hr1, hr2⟩ := hre rfl
      have := hr2 0 (by omega)
      rw [List.getElem?_eq_getElem (by omega)] at this
      obtain ⟨us, h1, h2⟩ := Option.bind_eq_some_iff.1 this
      obtain ⟨h3, _⟩ := cellsAt_of_cells? h1 hl3
      simpa [Addr.add] using h3
     ·exact (hx2 0 (by omega)).2.1
    ·intro hne
     have h0 : 0 < xs.length := List.length_pos_iff.2 hne
     refine ⟨a, rfl, ?_, fun i hi => (hx2 i hi).2.2⟩
     obtain ⟨_, _, us, hc, _⟩ := hx2 0 h0
     exact hc.lt
    ·show xs.length ≤ maxLen
     omega
    ·intro y hy
     obtain ⟨i, hi, rfl⟩ := List.getElem_of_mem hy
     exact (hx2 i hi).1
  ·rename_i fs hu
   unfold layT at hl
   rw [hu] at hl
   simp only [beq_iff_eq] at hl
   obtain ⟨xs, n, rfl, rfl, hcl, hxl, hf⟩ := DataW.trod_struct hu ht
   have := rd_fields (w := w) (cs := cs) fs.toList 0 T h (by rw [hl, hcl]) (fun f hf' T' hT hlay => by
    obtain ⟨i, hi, rfl⟩ := List.getElem_of_mem hf'
    simp at hi
    have h1 := hf i fs[i] (by simp [hi])
    rw [List.getElem?_eq_getElem (by omega)] at h1
    simp only [Array.getElem_toList] at hT hlay ⊢
    exact ih _ T' hT hlay _ _ _ h1)
   simpa using this
  ·rename_i n e hu
   simp only [Option.map_eq_some_iff] at h
   obtain ⟨E, hE, rfl⟩ := h
   unfold layT at hl
   rw [hu] at hl
   simp only [Bool.and_eq_true, szOk, hE, Option.map_some, beq_iff_eq, Option.some.injEq] at hl
   obtain ⟨⟨hl1, hl2⟩, hl3⟩ := hl
   obtain ⟨xs, m, rfl, rfl, hcl, hxl, hf⟩ := DataW.trod_array hu ht
   have := rd_array (w := w) (e := E) (c := P.cellsOf e) (cs := cs) n 0 (by omega) (fun i hi => by
    have h1 := hf i hi
    rw [List.getElem?_eq_getElem (by omega)] at h1
    simp only [Nat.zero_add]
    exact ih e E hE hl1 _ _ _ h1)
   simpa using this
  ·simp at h

theorem notAgg {t : TypeId} {v : Value} {r : Reach} {b : Nat} (h : Value.okWide P w r b t v) (hu : (match P.underlying t with | some (.struct _) | some (.array _ _) => false | _ => true) = true) : v.cells.toList = [v] := by
 unfold Value.okWide at h
 split at h
 ·rename_i hu'; rw [hu'] at hu; simp at hu
 ·rename_i hu'; rw [hu'] at hu; simp at hu
 ·cases v <;> first | rfl | (exfalso; unfold Cell.okWide at h; split at h <;> simp_all [Cell.ok])

theorem arg_one {t : TypeId} {v : Value} {d : DataW H} {ps : List MemPlace} {r : Reach} {b : Nat} (h : DataW.Trod enc P w 0 (fun _ => true) true t v d ps) (hv : Value.okWide P w r b t v) (T : Ty) (hT : tyOf P tyD t = some T) (hl : layT P tyD t = true)
  (hu : (match P.underlying t with | some (.struct _) | some (.array _ _) => false | _ => true) = true) : ∃ x : T.den, Fit T x ∧ RepTV w (Sz w) (fun _ => none) (.v (.one (.d T x))) v := by
 obtain ⟨fuel, h⟩ := h
 obtain ⟨x, hx, fx⟩ := rd_of_trod _ _ T hT hl _ _ _ h
 rw [notAgg hv hu] at hx
 exact ⟨x, fx, hx⟩
theorem arg_agg {t : TypeId} {v : Value} {d : DataW H} {ps : List MemPlace} {r : Reach} {b : Nat} (h : DataW.Trod enc P w 0 (fun _ => true) true t v d ps) (hv : Value.okWide P w r b t v) (T : Ty) (hT : tyOf P tyD t = some T) (hl : layT P tyD t = true)
  (hu : (match P.underlying t with | some (.struct _) | some (.array _ _) => true | _ => false) = true) : ∃ x : T.den, Fit T x ∧ RepTV w (Sz w) (fun _ => none) (.v (.agg (flat T x))) v := by
 obtain ⟨fuel, h⟩ := h
 obtain ⟨x, hx, fx⟩ := rd_of_trod _ _ T hT hl _ _ _ h
 obtain ⟨cs, rfl⟩ : ∃ cs, v = .agg cs := by
  unfold Value.okWide at hv
  split at hv
  ·obtain ⟨cs, e, _⟩ := hv; exact ⟨cs, e⟩
  ·obtain ⟨cs, e, _⟩ := hv; exact ⟨cs, e⟩
  ·rename_i h1 h2
   split at hu
   ·rename_i hu'; exact (h1 _ hu').elim
   ·rename_i hu'; exact (h2 _ _ hu').elim
   ·simp at hu
 exact ⟨x, fx, cs, rfl, flat_rep T _ x hx⟩
end

theorem law_calls {P : Program} {f : FuncId} {c : Ct} {w : World} {args : Array Value} {tvs : List TV} (hok : CtOK P f c) (hF : c.F tvs [] some = some ⟨.v (.one (.d .bool true)), []⟩) (hin : c.nin = 0) (hgl : Gl w (Sz w))
  (he : (callFunc f args).run P w = .ok (.enter f args) w) (hr : All2 (RepTV w (Sz w) (fun _ => none)) tvs args.toList) :
  Calls P f args w fun e w' => e = .returned (.bool true) ∧ Below w.heap.size w w' := by
 have hm : Mem (pkgCx w (Sz w) (fun _ => none) (fun _ => none) [] c.nin) w (Sz w) (fun _ => none) (fun _ => none) (live []) := by
  refine ⟨?_, ?_, ?_, ?_, fun b h => h, fun _ _ => rfl, fun b h => h, fun b h => .inl h, ?_, rfl, rfl, rfl, Nat.le_refl _, fun _ _ _ => rfl, hgl⟩
  ·intro n B h; simp [live] at h
  ·intro n m B C b h; simp [live] at h
  ·intro n B b h; simp [live] at h
  ·intro n B b h; simp [live] at h
  ·intro n v h; simp [pkgCx] at h
 have := hok _ _ _ hF w _ _ _ args.toList hm hr
 simp only [Array.toArray_toList] at this
 rcases this with ⟨_, h⟩ | ⟨v, w', h, _⟩
 ·refine h.mono fun e w' ⟨v, S', ρ', H', h1, h2, h3⟩ => ?_
  have hv : v = .bool true := by simpa [RepTV, RepVV, RepAV, Rd] using h3
  subst hv
  refine ⟨h1, h2.os, h2.tape, h2.output, h2.size, fun k hk => h2.same k hk ?_⟩
  rintro ⟨m, C, hC, _⟩
  simp at hC
 ·rw [he] at h; simp at h
end Go.Proofs.YtijjlpgcpdapnaaGreatDoor.Aev
