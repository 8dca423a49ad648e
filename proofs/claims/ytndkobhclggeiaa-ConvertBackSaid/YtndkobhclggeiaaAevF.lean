/- AEV: each operation does what the evaluator says (1). -/
import Derived.Test.YtndkobhclggeiaaAevE
namespace Go.Proofs.Ytndkobhclggeiaa.Aev
set_option linter.unusedVariables false
set_option linter.unusedSimpArgs false
open Go

section
variable {P : Program} {sg : FuncId → Option (Nat × List Nat)} {fresh : Nat} {X : Cx} {w : World} {S : Nat → Prop} {ρ : Nat → Option Value} {H : Nat → Option Nat} {N : Nat} {st : St} {a : Act} {o : Oper} {x : Out} {lg lg' : List Loc}

theorem out_eq {tv : TV} (h : (out tv).run st lg = some (.out x, lg')) : x = { tv := tv } := by
  have := run_pure' h; simp at this; exact this.1
theorem outA_eq {c : AV} (h : (outA c).run st lg = some (.out x, lg')) : x = { tv := .v (.one c) } := out_eq h
theorem semV_inv {s : Sem Value} {r : AV × List Loc} (h : (semV s).run st lg = some r) : ∃ v, s = .pure v ∧ ofValue v = some r.1 := by
  unfold semV at h
  split at h
  · exact ⟨_, rfl, run_ofO h⟩
  · exact (run_fail h).elim

theorem does_move {y : Operand} (ho : o.op = .move y ∨ o.op = .assign y) (h : (do out (← opd y) : AM Eff).run st lg = some (.out x, lg')) (hR : Rep X w S ρ H N st a) : Does P X N st a w S ρ (execOp a.eval o) x := by
  obtain ⟨v, lg1, h1, h2⟩ := run_bind_some h
  obtain rfl := out_eq h2
  refine Does.value hR ?_ (opd_rep hR h1)
  rcases ho with ho | ho <;> simp [execOp, ho]

theorem mergeVV_rep {c : Bool} {p q r : VV} {u v : Value} (h : (mergeVV c p q).run st lg = some (r, lg')) (hp : RepVV w S ρ p u) (hq : RepVV w S ρ q v) : RepVV w S ρ r (if c then u else v) := by
  unfold mergeVV at h
  split at h
  · rename_i t y t' z
    split at h
    · rename_i e; subst e
      have := run_pure' h; simp at this; obtain ⟨rfl, _⟩ := this
      cases c
      · exact hq
      · exact hp
    · exact (run_fail h).elim
  · have := run_brb h
    cases c
    · have := run_pure' (by simpa using this); simp at this; obtain ⟨rfl, _⟩ := this; exact hq
    · have := run_pure' (by simpa using this); simp at this; obtain ⟨rfl, _⟩ := this; exact hp

theorem does_pick {c y z : Operand} (ho : o.op = .pick c y z) (h : (opA P sg fresh o).run st lg = some (.out x, lg')) (hR : Rep X w S ρ H N st a) : Does P X N st a w S ρ (execOp a.eval o) x := by
  simp only [opA, ho] at h
  obtain ⟨cv, lg1, h1, h⟩ := run_bind_some h
  obtain ⟨b, lg2, h2, h⟩ := run_bind_some h
  obtain ⟨yv, lg3, h3, h⟩ := run_bind_some h
  obtain ⟨zv, lg4, h4, h⟩ := run_bind_some h
  have hc := opd_rep hR h1
  rw [asB_inv h2] at hc
  have hc := rep_b hc
  have hy := opd_rep hR h3
  have hz := opd_rep hR h4
  have hs : (execOp a.eval o).run P w = .ok (.value (if b then a.eval y else a.eval z)) w := by
    simp only [execOp, ho, hc, asBool]
    cases b <;> simp
  simp only at h hy hz hs
  split at h
  · obtain ⟨r, lg5, h5, h6⟩ := run_bind_some h
    obtain rfl := out_eq h6
    exact Does.value hR hs (mergeVV_rep h5 hy hz)
  · have h := run_brb h
    cases b
    · obtain rfl := out_eq (by simpa using h)
      exact Does.value hR hs (by simpa using hz)
    · obtain rfl := out_eq (by simpa using h)
      exact Does.value hR hs (by simpa using hy)

theorem newBox_does {cs : List AV} {vs : Array Value} {e : TypeId} (h : (newBox fresh cs).run st lg = some (.out x, lg')) (hR : Rep X w S ρ H N st a) (hc : All2 (RepAV w S ρ) cs vs.toList)
    {s : Sem Next} (hs : s.run P w = .ok (.value (Ptr w.heap.size 0)) { w with heap := w.heap.push (.cells vs e (0, 0)) }) : Does P X N st a w S ρ s x := by
  have h := run_rdB h
  split at h
  · rename_i hn
    have := run_pure' h; simp at this; obtain ⟨rfl, _⟩ := this
    have hlt : ∀ b, S b → ({ w with heap := w.heap.push (.cells vs e (0, 0)) } : World).heap[b]? = w.heap[b]? := fun b hb => by
      have := hR.mem.old b hb
      show (w.heap.push _)[b]? = _
      rw [Array.getElem?_push, if_neg (by omega)]
    have hρ := upd_le (v := Ptr w.heap.size 0) (hR.mem.never fresh hn)
    have hm := hR.mem.alloc hn (o := .cells vs e (0, 0)) (v := Ptr w.heap.size 0) (B := .box cs)
      ⟨w.heap.size, vs, e, rfl, by rw [upd_same], by simp, hc.imp fun _ _ => RepAV.mono (fun _ x => x) hlt hρ⟩
    have hmore : More w { w with heap := w.heap.push (.cells vs e (0, 0)) } S S ρ (upd ρ fresh (some (Ptr w.heap.size 0))) := ⟨fun _ x => x, hlt, hρ⟩
    exact ⟨_, _, S, _, _, .inl hs, hR.of_mem hm hmore rfl, ⟨w.heap.size, by rw [upd_same], rfl⟩, hmore⟩
  · exact (run_fail h).elim

theorem does_box {t : TypeId} {y : Operand} (ho : o.op = .box t y) (h : (opA P sg fresh o).run st lg = some (.out x, lg')) (hR : Rep X w S ρ H N st a) : Does P X N st a w S ρ (execOp a.eval o) x := by
  simp only [opA, ho] at h
  obtain ⟨yv, lg1, h1, h⟩ := run_bind_some h
  have hy := opd_rep hR h1
  simp only at h hy
  split at h
  · exact newBox_does (e := t) h hR (RepVV.cells hy) (by simp [execOp, ho, Instr.box, newVar, newRow])
  · exact (run_fail h).elim

theorem loadE_val {t : TypeId} {e : Ty} {l : List e.den} {i : Int} {b q : Nat} {us : List Value} (h : (loadE P t e l i).run st lg = some (.out x, lg')) (hlt : i.toNat < l.length) (hc : cellsAt w b q e.size us) (hr : Rd w S e us l[i.toNat]) :
    ∃ v, (loadVar t ⟨b, q, none⟩).run P w = .ok v w ∧ x = { tv := x.tv } ∧ RepTV w S ρ x.tv v := by
  unfold loadE at h
  have hel : elem e l i = l[i.toNat] := by simp [elem, List.getD, List.getElem?_eq_getElem hlt]
  rw [← hel] at hr
  have hf := flat_rep (ρ := ρ) e us _ hr
  split at h
  · rename_i n hg
    split at h
    · rename_i hn
      obtain rfl := out_eq h
      exact ⟨_, loadVar_cells hg (us := us) (by simpa [hn] using hc), rfl, us.toArray, rfl, by simpa using hf⟩
    · exact (run_fail h).elim
  · rename_i n hg
    split at h
    · rename_i c hcf
      obtain rfl := outA_eq h
      rw [hcf] at hf
      obtain ⟨u, m, rfl, hu, hm⟩ := hf.cons_left
      have hm := hm.nil_left
      subst hm
      have hsz : e.size = 1 := by have := hc.length; simpa using this.symm
      have := loadVar_cells (P := P) hg (us := [u]) (b := b) (off := q) (by rw [hsz] at hc; simpa using hc)
      exact ⟨u, by simpa using this, rfl, hu⟩
    · exact (run_fail h).elim
  · exact (run_fail h).elim

theorem loadF_val {t : TypeId} {e : Ty} {l : List e.den} {i : Int} {o b q : Nat} {us : List Value} (h : (loadF P t e l i o).run st lg = some (.out x, lg')) (hlt : i.toNat < l.length) (hc : cellsAt w b q e.size us) (hr : Rd w S e us l[i.toNat]) :
    ∃ v, (loadVar t ⟨b, q + o, none⟩).run P w = .ok v w ∧ x = { tv := x.tv } ∧ RepTV w S ρ x.tv v := by
  unfold loadF at h
  have hel : elem e l i = l[i.toNat] := by simp [elem, List.getD, List.getElem?_eq_getElem hlt]
  rw [← hel] at hr
  have hf := flat_rep (ρ := ρ) e us _ hr
  have hlen := hf.length
  have hul := hc.length
  split at h
  · rename_i v hv
    obtain rfl := out_eq h
    unfold partA at hv
    split at hv
    · rename_i n hg
      cases hcut : cut (flat e (elem e l i)) o n with
      | none => simp [hcut] at hv
      | some cs =>
        simp [hcut] at hv; subst hv
        obtain ⟨h1, rfl⟩ := cut_some hcut
        have hc' := hc.sub (off := o) (m := n) (by omega)
        exact ⟨_, loadVar_cells hg hc', rfl, _, rfl, by simpa using (hf.drop o).take n⟩
    · rename_i n hg
      split at hv
      · rename_i c hcut
        simp at hv; subst hv
        obtain ⟨h1, h2⟩ := cut_some hcut
        have hc' := hc.sub (off := o) (m := 1) (by omega)
        have hr := (hf.drop o).take 1
        rw [← h2] at hr
        obtain ⟨u, m, hu, hr', hn⟩ := hr.cons_left
        rw [hu] at hc'
        exact ⟨u, by have := loadVar_cells (P := P) hg (us := u :: m) (by simpa using hc'); simpa using this, rfl, hr'⟩
      · simp at hv
    · simp at hv
  · exact (run_fail h).elim

/-- An element's place in a row. -/
theorem place_cells {e : Ty} {xs : List e.den} {v : Value} {b off len cap : Nat} (h : (∃ home, RowOwn w S e v xs home) ∨ Rd w S (.sl e) [v] xs) (hv : v = .slice (some ⟨b, off, none⟩) len cap) {i : Nat} (hi : i < len) :
    ∃ h' : i < xs.length, ∃ us, cellsAt w b (off + i * e.size) e.size us ∧ Rd w S e us xs[i] := by
  subst hv
  rcases h with ⟨home, len', cap', vs, el, h1, h2, h3, h4, h5, h6⟩ | ⟨base, len', cap', h1, h2, h3, h4, h5, h6⟩
  · simp at h1
    obtain ⟨⟨rfl, rfl⟩, rfl, rfl⟩ := h1
    have hi' : i < xs.length := by omega
    obtain ⟨us, k1, k2⟩ := h6 i hi'
    exact ⟨hi', us, by simpa using k1, k2⟩
  · simp at h1
    obtain ⟨rfl, rfl, rfl⟩ := h1
    have h2 : len = List.length xs := h2
    have hi' : i < List.length xs := by omega
    obtain ⟨a', ha, hs, hr⟩ := h6 (by intro e; rw [e] at hi'; simp at hi')
    simp at ha; subst ha
    obtain ⟨us, k1, k2⟩ := hr i hi'
    exact ⟨hi', us, k1, k2⟩

theorem loadA_val {t : TypeId} {y : TV} {u : Value} (h : (loadA P t y).run st lg = some (.out x, lg')) (hR : Rep X w S ρ H N st a) (hy : RepTV w S ρ y u) :
    ∃ b off v, u = Ptr b off ∧ (loadVar t ⟨b, off, none⟩).run P w = .ok v w ∧ x = { tv := x.tv } ∧ RepTV w S ρ x.tv v := by
  unfold loadA at h
  split at h
  · rename_i n off
    obtain ⟨B, lg1, h1, h⟩ := run_bind_some h
    have hb := run_rB h1
    obtain ⟨b, hp, rfl⟩ := hy
    simp only at h hb
    split at h
    · rename_i cs
      split at h
      · rename_i v hv
        obtain rfl := out_eq h
        obtain ⟨b', vs, e, _, h2, h3, h4⟩ := hR.mem.rep n _ hb
        rw [hp] at h2; simp at h2; subst h2
        obtain ⟨u, hu, hr⟩ := loadVar_box hv h3 h4
        exact ⟨_, _, _, rfl, hu, rfl, hr⟩
      · exact (run_fail h).elim
    · exact (run_fail h).elim
  · rename_i e l i
    obtain ⟨hlt, b, off, rfl, hb, hl'⟩ := hy
    obtain ⟨us, hc, hr⟩ := hl' i.toNat hlt
    obtain ⟨v, k1, k2, k3⟩ := loadE_val (ρ := ρ) h hlt hc hr
    exact ⟨_, _, v, rfl, k1, k2, k3⟩
  · rename_i e n i
    obtain ⟨B, lg1, h1, h⟩ := run_bind_some h
    have hb := run_rB h1
    obtain ⟨h0, b, off, len, cap, hp, hlt, rfl⟩ := hy
    simp only at h hb
    split at h
    · rename_i u' excl xs
      split at h
      · rename_i e; subst e
        obtain ⟨v', h2, h3⟩ := hR.mem.rep n _ hb
        rw [hp] at h2; simp at h2; subst h2
        obtain ⟨hl', us, hc, hr⟩ := place_cells (xs := xs) (v := .slice (some ⟨b, off, none⟩) len cap) (h3.elim (fun ⟨b, _, h⟩ => .inl ⟨b, h⟩) (fun ⟨_, _, h, _⟩ => .inr h)) rfl hlt
        obtain ⟨v, k1, k2, k3⟩ := loadE_val (ρ := ρ) h hl' hc hr
        exact ⟨_, _, v, rfl, k1, k2, k3⟩
      · exact (run_fail h).elim
    · rename_i u' xs
      split at h
      · rename_i e; subst e
        obtain ⟨v', h2, _, h3⟩ := hR.mem.rep n _ hb
        rw [hp] at h2; simp at h2; subst h2
        obtain ⟨hl', us, hc, hr⟩ := place_cells (xs := xs) (v := .slice (some ⟨b, off, none⟩) len cap) (.inr h3) rfl hlt
        obtain ⟨v, k1, k2, k3⟩ := loadE_val (ρ := ρ) h hl' hc hr
        exact ⟨_, _, v, rfl, k1, k2, k3⟩
      · exact (run_fail h).elim
    · exact (run_fail h).elim
  · rename_i e l i o
    obtain ⟨hlt, b, off, rfl, hb, hl'⟩ := hy
    obtain ⟨us, hc, hr⟩ := hl' i.toNat hlt
    obtain ⟨v, k1, k2, k3⟩ := loadF_val (ρ := ρ) h hlt hc hr
    exact ⟨_, _, v, rfl, k1, k2, k3⟩
  · rename_i e n i o
    obtain ⟨B, lg1, h1, h⟩ := run_bind_some h
    have hb := run_rB h1
    obtain ⟨h0, b, off, len, cap, hp, hlt, rfl⟩ := hy
    simp only at h hb
    split at h
    · rename_i u' excl xs
      split at h
      · rename_i e; subst e
        obtain ⟨v', h2, h3⟩ := hR.mem.rep n _ hb
        rw [hp] at h2; simp at h2; subst h2
        obtain ⟨hl', us, hc, hr⟩ := place_cells (xs := xs) (v := .slice (some ⟨b, off, none⟩) len cap) (h3.elim (fun ⟨b, _, h⟩ => .inl ⟨b, h⟩) (fun ⟨_, _, h, _⟩ => .inr h)) rfl hlt
        obtain ⟨v, k1, k2, k3⟩ := loadF_val (ρ := ρ) h hl' hc hr
        exact ⟨_, _, v, rfl, k1, k2, k3⟩
      · exact (run_fail h).elim
    · rename_i u' xs
      split at h
      · rename_i e; subst e
        obtain ⟨v', h2, _, h3⟩ := hR.mem.rep n _ hb
        rw [hp] at h2; simp at h2; subst h2
        obtain ⟨hl', us, hc, hr⟩ := place_cells (xs := xs) (v := .slice (some ⟨b, off, none⟩) len cap) (.inr h3) rfl hlt
        obtain ⟨v, k1, k2, k3⟩ := loadF_val (ρ := ρ) h hl' hc hr
        exact ⟨_, _, v, rfl, k1, k2, k3⟩
      · exact (run_fail h).elim
    · exact (run_fail h).elim
  · exact (run_fail h).elim
theorem loadA_does {t : TypeId} {y : TV} {u : Value} {s : Sem Next} (h : (loadA P t y).run st lg = some (.out x, lg')) (hR : Rep X w S ρ H N st a) (hy : RepTV w S ρ y u)
    (hs : ∀ b off v, u = Ptr b off → (loadVar t ⟨b, off, none⟩).run P w = .ok v w → s.run P w = .ok (.value v) w) : Does P X N st a w S ρ s x := by
  obtain ⟨b, off, v, hu, hl, hx, hr⟩ := loadA_val h hR hy
  rw [hx]
  exact Does.value hR (hs b off v hu hl) hr
end
end Go.Proofs.Ytndkobhclggeiaa.Aev
