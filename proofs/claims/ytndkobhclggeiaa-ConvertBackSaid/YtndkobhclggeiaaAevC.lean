/- AEV: what an abstract state allows to be done to memory. -/
import Derived.Test.YtndkobhclggeiaaAevB
namespace Go.Proofs.Ytndkobhclggeiaa.Aev
set_option linter.unusedVariables false
set_option linter.unusedSimpArgs false
open Go

/-! ### runs of AM -/
section runs
variable {α β : Type} {st : St}
theorem run_bind (m : AM α) (f : α → AM β) : ∀ lg, (m.bind f).run st lg = (m.run st lg).bind fun p => (f p.1).run st p.2 := by
  induction m with
  | pure a => intro lg; rfl
  | rdT n k ih => intro lg; exact ih _ _
  | rdB n k ih => intro lg; exact ih _ _
  | grd c k ih => intro lg; cases c <;> simp [AM.bind, AM.run, ih]
  | brb c x y ihx ihy => intro lg; cases c <;> simp [AM.bind, AM.run, ihx, ihy]
  | fail => intro lg; rfl
theorem run_bind_some {m : AM α} {f : α → AM β} {lg : List Loc} {r : β × List Loc} (h : (m >>= f).run st lg = some r) :
    ∃ x lg1, m.run st lg = some (x, lg1) ∧ (f x).run st lg1 = some r := by
  have h : (m.bind f).run st lg = some r := h
  rw [run_bind] at h
  cases hm : m.run st lg with
  | none => simp [hm] at h
  | some p => simp [hm] at h; exact ⟨p.1, p.2, rfl, h⟩
theorem run_pure {a : α} {lg : List Loc} {r : α × List Loc} (h : (pure a : AM α).run st lg = some r) : r = (a, lg) := by
  have h : (AM.pure a).run st lg = some r := h
  simpa [AM.run, eq_comm] using h
theorem run_pure' {a : α} {lg : List Loc} {r : α × List Loc} (h : (AM.pure a).run st lg = some r) : r = (a, lg) := run_pure h
theorem run_fail {lg : List Loc} {r : α × List Loc} (h : (AM.fail : AM α).run st lg = some r) : False := by simp [AM.run] at h
theorem run_rT {n : Nat} {lg : List Loc} {r : TV × List Loc} (h : (AM.rT n).run st lg = some r) : st.tmp n = some r.1 := by
  simp only [AM.rT, AM.run] at h
  cases ht : st.tmp n with
  | none => simp [ht, AM.run] at h
  | some v => simp [ht, AM.run] at h; subst h; rfl
theorem run_rB {n : Nat} {lg : List Loc} {r : Blk × List Loc} (h : (AM.rB n).run st lg = some r) : st.blk n = some (some r.1) := by
  simp only [AM.rB, AM.run] at h
  cases ht : st.blk n with
  | none => simp [ht, AM.run] at h
  | some v =>
    cases v with
    | none => simp [ht, AM.run] at h
    | some b => simp [ht, AM.run] at h; subst h; rfl
theorem run_ofO {o : Option α} {lg : List Loc} {r : α × List Loc} (h : (AM.ofO o).run st lg = some r) : o = some r.1 := by
  cases o with
  | none => simp [AM.ofO, AM.run] at h
  | some a => simp [AM.ofO, AM.run] at h; subst h; rfl
theorem run_guard {c : Bool} {lg : List Loc} {r : Unit × List Loc} (h : (AM.guard c).run st lg = some r) : c = true := by
  cases c with
  | true => rfl
  | false => simp [AM.guard, AM.run] at h
theorem run_grd {c : Bool} {m : AM α} {lg : List Loc} {r : α × List Loc} (h : (AM.grd c m).run st lg = some r) : c = true ∧ m.run st lg = some r := by
  cases c with
  | true => exact ⟨rfl, by simpa [AM.run] using h⟩
  | false => simp [AM.run] at h
theorem run_brb {c : Bool} {x y : AM α} {lg : List Loc} {r : α × List Loc} (h : (AM.brb c x y).run st lg = some r) : (if c then x else y).run st lg = some r := by
  cases c <;> simpa [AM.run] using h
theorem run_rdB {n : Nat} {k : Option (Option Blk) → AM α} {lg : List Loc} {r : α × List Loc} (h : (AM.rdB n k).run st lg = some r) : (k (st.blk n)).run st (.b n :: lg) = some r := h

theorem AM.bind_pure' (m : AM α) : m.bind AM.pure = m := by
  induction m with
  | pure a => rfl
  | rdT n k ih => simp only [AM.bind]; congr 1; funext x; exact ih x
  | rdB n k ih => simp only [AM.bind]; congr 1; funext x; exact ih x
  | grd c k ih => simp only [AM.bind, ih]
  | brb c x y ihx ihy => simp only [AM.bind, ihx, ihy]
  | fail => rfl
theorem AM.bind_assoc' {γ : Type} (m : AM α) (f : α → AM β) (g : β → AM γ) : (m.bind f).bind g = m.bind fun a => (f a).bind g := by
  induction m with
  | pure a => rfl
  | rdT n k ih => simp only [AM.bind]; congr 1; funext x; exact ih x
  | rdB n k ih => simp only [AM.bind]; congr 1; funext x; exact ih x
  | grd c k ih => simp only [AM.bind, ih]
  | brb c x y ihx ihy => simp only [AM.bind, ihx, ihy]
  | fail => rfl
instance : LawfulMonad AM := LawfulMonad.mk'
  (id_map := fun x => AM.bind_pure' x)
  (pure_bind := fun _ _ => rfl)
  (bind_assoc := fun x f g => AM.bind_assoc' x f g)

theorem run_mapM {f : α → AM β} : ∀ {l : List α} {lg : List Loc} {r : List β × List Loc}, (l.mapM f).run st lg = some r →
    All2 (fun x y => ∃ lg1 lg2, (f x).run st lg1 = some (y, lg2)) l r.1
  | [], lg, r, h => by rw [List.mapM_nil] at h; have := run_pure h; subst this; trivial
  | x :: l, lg, r, h => by
    rw [List.mapM_cons] at h
    obtain ⟨y, lg1, h1, h⟩ := run_bind_some h
    obtain ⟨ys, lg2, h2, h⟩ := run_bind_some h
    have := run_pure h; subst this
    exact ⟨⟨_, _, h1⟩, run_mapM h2⟩

/-- By continuation: the same. -/
theorem runK_eq (m : AM α) (K : α → List Loc → Option β) : ∀ lg, m.runK st lg K = (m.run st lg).bind fun p => K p.1 p.2 := by
  induction m with
  | pure a => intro lg; rfl
  | rdT n k ih => intro lg; exact ih _ _
  | rdB n k ih => intro lg; exact ih _ _
  | grd c k ih => intro lg; cases c <;> simp [AM.runK, AM.run, ih]
  | brb c x y ihx ihy => intro lg; cases c <;> simp [AM.runK, AM.run, ihx, ihy]
  | fail => intro lg; rfl
theorem runK_some {m : AM α} {K : α → List Loc → Option β} {lg : List Loc} {r : β} (h : m.runK st lg K = some r) : ∃ a lg', m.run st lg = some (a, lg') ∧ K a lg' = some r := by
  rw [runK_eq] at h
  cases hm : m.run st lg with
  | none => simp [hm] at h
  | some p => simp [hm] at h; exact ⟨p.1, p.2, rfl, h⟩

/-- What it reads decides. -/
theorem run_local {s s' : St} (m : AM α) : ∀ lg a lg', m.run s lg = some (a, lg') →
    ∃ rd, lg' = rd ++ lg ∧ ((∀ n, Loc.t n ∈ rd → s'.tmp n = s.tmp n) → (∀ n, Loc.b n ∈ rd → s'.blk n = s.blk n) → ∀ l2, m.run s' l2 = some (a, rd ++ l2)) := by
  induction m with
  | pure a => intro lg a' lg' h; simp [AM.run] at h; obtain ⟨rfl, rfl⟩ := h; exact ⟨[], rfl, fun _ _ l2 => rfl⟩
  | rdT n k ih =>
    intro lg a lg' h
    obtain ⟨rd, rfl, hr⟩ := ih _ _ _ _ (show (k (s.tmp n)).run s (.t n :: lg) = some (a, lg') from h)
    refine ⟨rd ++ [.t n], by simp, fun ht hb l2 => ?_⟩
    have e : s'.tmp n = s.tmp n := ht n (by simp)
    have := hr (fun m hm => ht m (by simp [hm])) (fun m hm => hb m (by simp [hm])) (.t n :: l2)
    simp only [AM.run, e, this, List.append_assoc, List.singleton_append]
  | rdB n k ih =>
    intro lg a lg' h
    obtain ⟨rd, rfl, hr⟩ := ih _ _ _ _ (show (k (s.blk n)).run s (.b n :: lg) = some (a, lg') from h)
    refine ⟨rd ++ [.b n], by simp, fun ht hb l2 => ?_⟩
    have e : s'.blk n = s.blk n := hb n (by simp)
    have := hr (fun m hm => ht m (by simp [hm])) (fun m hm => hb m (by simp [hm])) (.b n :: l2)
    simp only [AM.run, e, this, List.append_assoc, List.singleton_append]
  | grd c k ih =>
    intro lg a lg' h
    cases c with
    | false => simp [AM.run] at h
    | true =>
      obtain ⟨rd, e, hr⟩ := ih _ _ _ (by simpa [AM.run] using h)
      exact ⟨rd, e, fun ht hb l2 => by simpa [AM.run] using hr ht hb l2⟩
  | brb c x y ihx ihy =>
    intro lg a lg' h
    cases c with
    | false =>
      obtain ⟨rd, e, hr⟩ := ihy _ _ _ (by simpa [AM.run] using h)
      exact ⟨rd, e, fun ht hb l2 => by simpa [AM.run] using hr ht hb l2⟩
    | true =>
      obtain ⟨rd, e, hr⟩ := ihx _ _ _ (by simpa [AM.run] using h)
      exact ⟨rd, e, fun ht hb l2 => by simpa [AM.run] using hr ht hb l2⟩
  | fail => intro lg a lg' h; simp [AM.run] at h
end runs

/-! ### memory -/
section mem
variable {X : Cx} {w w' : World} {S S' : Nat → Prop} {ρ : Nat → Option Value} {H : Nat → Option Nat} {blk : Nat → Option (Option Blk)}

/-- A world with the same memory. -/
theorem Mem.world (h : Mem X w S ρ H blk) (hh : w'.heap = w.heap) (ho : w'.os = w.os) (ht : w'.tape = w.tape) (hp : w'.output = w.output) : Mem X w' S ρ H blk :=
  { rep := fun n B hB => (h.rep n B hB).mono (fun _ x => x) (fun _ _ => by rw [hh]) (fun _ _ x => x) (fun _ _ => by rw [hh])
    sep := h.sep, apart := h.apart, homes := h.homes
    old := fun b hb => by rw [hh]; exact h.old b hb
    never := h.never, s0 := h.s0, smine := h.smine, names := h.names
    os := ho.trans h.os, tape := ht.trans h.tape, output := hp.trans h.output
    size := by rw [hh]; exact h.size
    same := fun b hb hm => by rw [hh]; exact h.same b hb hm }

/-- A new block under a new name. -/
theorem Mem.alloc (h : Mem X w S ρ H blk) {n : Nat} (hn : blk n = none) {o : Obj} {v : Value} {B : Blk}
    (hB : RepBlk { w with heap := w.heap.push o } S (upd ρ n (some v)) n (some w.heap.size) B) :
    Mem X { w with heap := w.heap.push o } S (upd ρ n (some v)) (upd H n (some w.heap.size)) (upd blk n (some (some B))) := by
  have hρ := upd_le (v := v) (h.never n hn)
  have hlt : ∀ b, b < w.heap.size → ({ w with heap := w.heap.push o } : World).heap[b]? = w.heap[b]? := fun b hb => by
    show (w.heap.push o)[b]? = _
    rw [Array.getElem?_push, if_neg (by omega)]
  have other : ∀ m C, m ≠ n → upd blk n (some (some B)) m = some (some C) → blk m = some (some C) := fun m C e hm => by rwa [upd_other _ _ e] at hm
  refine { rep := ?_, sep := ?_, apart := ?_, homes := ?_, old := ?_, never := ?_, s0 := h.s0, smine := h.smine, names := fun m u hm => hρ _ _ (h.names m u hm), os := h.os, tape := h.tape, output := h.output, size := ?_, same := ?_ }
  · intro m C hm
    by_cases e : m = n
    · subst e
      rw [upd_same] at hm ⊢
      obtain rfl : B = C := by simpa using hm
      exact hB
    · rw [upd_other _ _ e]
      have hr := h.rep m C (other m C e hm)
      exact hr.mono (fun _ x => x) (fun b hb => hlt b (h.old b hb)) hρ (fun b hb => hlt b (hr.home_lt hb))
  · intro m k C D b hm hk h1 h2
    by_cases e : m = n
    · by_cases e' : k = n
      · rw [e, e']
      · subst e
        rw [upd_same] at h1
        rw [upd_other _ _ e'] at h2
        have := (h.rep k D (other k D e' hk)).home_lt h2
        simp at h1; omega
    · by_cases e' : k = n
      · subst e'
        rw [upd_same] at h2
        rw [upd_other _ _ e] at h1
        have := (h.rep m C (other m C e hm)).home_lt h1
        simp at h2; omega
      · rw [upd_other _ _ e] at h1
        rw [upd_other _ _ e'] at h2
        exact h.sep m k C D b (other m C e hm) (other k D e' hk) h1 h2
  · intro m C b hm h1 hs
    by_cases e : m = n
    · subst e
      rw [upd_same] at h1
      have := h.old b hs
      simp at h1; omega
    · rw [upd_other _ _ e] at h1
      exact h.apart m C b (other m C e hm) h1 hs
  · intro m C b hm h1
    by_cases e : m = n
    · subst e
      rw [upd_same] at h1
      simp at h1
      exact .inr (by have := h.size; omega)
    · rw [upd_other _ _ e] at h1
      exact h.homes m C b (other m C e hm) h1
  · intro b hb
    have := h.old b hb
    show b < (w.heap.push o).size
    simp; omega
  · intro m hm
    by_cases e : m = n
    · subst e; rw [upd_same] at hm; simp at hm
    · rw [upd_other _ _ e] at hm ⊢
      exact h.never m hm
  · have := h.size
    show _ ≤ (w.heap.push o).size
    simp; omega
  · intro b hb hm
    have := h.size
    exact (hlt b (by omega)).trans (h.same b hb hm)

/-- A block of the function's own is written. -/
theorem Mem.write (h : Mem X w S ρ H blk) {n b : Nat} {B B' : Blk} (hn : blk n = some (some B)) (hb : H n = some b)
    (hsz : w'.heap.size = w.heap.size) (hk : ∀ k, k ≠ b → w'.heap[k]? = w.heap[k]?) (ho : w'.os = w.os) (ht : w'.tape = w.tape) (hp : w'.output = w.output)
    (hB : RepBlk w' S ρ n (some b) B') : Mem X w' S ρ H (upd blk n (some (some B'))) := by
  have other : ∀ m C, m ≠ n → upd blk n (some (some B')) m = some (some C) → blk m = some (some C) := fun m C e hm => by rwa [upd_other _ _ e] at hm
  have live : ∀ m C, upd blk n (some (some B')) m = some (some C) → ∃ D, blk m = some (some D) := fun m C hm => by
    by_cases e : m = n
    · exact ⟨B, e ▸ hn⟩
    · exact ⟨C, other m C e hm⟩
  have hS : ∀ k, S k → w'.heap[k]? = w.heap[k]? := fun k hs => hk k (fun e => h.apart n B b hn hb (e ▸ hs))
  refine { rep := ?_, sep := ?_, apart := ?_, homes := ?_, old := fun k hs => hsz ▸ h.old k hs, never := ?_, s0 := h.s0, smine := h.smine, names := h.names, os := ho.trans h.os, tape := ht.trans h.tape, output := hp.trans h.output, size := hsz ▸ h.size, same := ?_ }
  · intro m C hm
    by_cases e : m = n
    · subst e
      rw [upd_same] at hm
      obtain rfl : B' = C := by simpa using hm
      rw [hb]; exact hB
    · have hC := other m C e hm
      exact (h.rep m C hC).mono (fun _ x => x) hS (fun _ _ x => x) (fun k hk' => hk k (fun e' => e (h.sep m n C B b hC hn (e' ▸ hk') hb)))
  · intro m k C D c hm hk' h1 h2
    obtain ⟨C', hC'⟩ := live m C hm
    obtain ⟨D', hD'⟩ := live k D hk'
    exact h.sep m k C' D' c hC' hD' h1 h2
  · intro m C c hm h1
    obtain ⟨C', hC'⟩ := live m C hm
    exact h.apart m C' c hC' h1
  · intro m C c hm h1
    obtain ⟨C', hC'⟩ := live m C hm
    exact h.homes m C' c hC' h1
  · intro m hm
    by_cases e : m = n
    · subst e; rw [upd_same] at hm; simp at hm
    · rw [upd_other _ _ e] at hm; exact h.never m hm
  · intro k hk' hm
    rw [hk k (fun e => ?_)]
    · exact h.same k hk' hm
    · rcases h.homes n B b hn hb with h1 | h1
      · exact hm (e ▸ h1)
      · omega

/-- A name is given up. -/
theorem Mem.drop (h : Mem X w S ρ H blk) {n : Nat} {x : Option Blk} (hn : blk n = some x) : Mem X w S ρ H (upd blk n (some none)) := by
  have other : ∀ m C, upd blk n (some none) m = some (some C) → blk m = some (some C) := fun m C hm => by
    by_cases e : m = n
    · subst e; rw [upd_same] at hm; simp at hm
    · rwa [upd_other _ _ e] at hm
  refine { h with rep := fun m C hm => h.rep m C (other m C hm), sep := fun m k C D b hm hk => h.sep m k C D b (other m C hm) (other k D hk), apart := fun m C b hm => h.apart m C b (other m C hm), homes := fun m C b hm => h.homes m C b (other m C hm), never := fun m hm => ?_ }
  by_cases e : m = n
  · subst e; rw [upd_same] at hm; simp at hm
  · rw [upd_other _ _ e] at hm; exact h.never m hm

/-- A block is told otherwise, at the same home, in the same world. -/
theorem Mem.retell (h : Mem X w S ρ H blk) {n : Nat} {B B' : Blk} (hn : blk n = some (some B)) (hB : RepBlk w S ρ n (H n) B') : Mem X w S ρ H (upd blk n (some (some B'))) := by
  have other : ∀ m C, m ≠ n → upd blk n (some (some B')) m = some (some C) → blk m = some (some C) := fun m C e hm => by rwa [upd_other _ _ e] at hm
  have live : ∀ m C, upd blk n (some (some B')) m = some (some C) → ∃ D, blk m = some (some D) := fun m C hm => by
    by_cases e : m = n
    · exact ⟨B, e ▸ hn⟩
    · exact ⟨C, other m C e hm⟩
  refine { h with rep := ?_, sep := ?_, apart := ?_, homes := ?_, never := ?_ }
  · intro m C hm
    by_cases e : m = n
    · subst e
      rw [upd_same] at hm
      obtain rfl : B' = C := by simpa using hm
      exact hB
    · exact h.rep m C (other m C e hm)
  · intro m k C D c hm hk' h1 h2
    obtain ⟨C', hC'⟩ := live m C hm
    obtain ⟨D', hD'⟩ := live k D hk'
    exact h.sep m k C' D' c hC' hD' h1 h2
  · intro m C c hm h1
    obtain ⟨C', hC'⟩ := live m C hm
    exact h.apart m C' c hC' h1
  · intro m C c hm h1
    obtain ⟨C', hC'⟩ := live m C hm
    exact h.homes m C' c hC' h1
  · intro m hm
    by_cases e : m = n
    · subst e; rw [upd_same] at hm; simp at hm
    · rw [upd_other _ _ e] at hm; exact h.never m hm

/-- What is known of the world behind a step: what is settled stays so; names stand. -/
structure More (w w' : World) (S S' : Nat → Prop) (ρ ρ' : Nat → Option Value) : Prop where
  s : ∀ b, S b → S' b
  heap : ∀ b, S b → w'.heap[b]? = w.heap[b]?
  names : ∀ n v, ρ n = some v → ρ' n = some v
theorem More.refl (w : World) (S : Nat → Prop) (ρ : Nat → Option Value) : More w w S S ρ ρ := ⟨fun _ x => x, fun _ _ => rfl, fun _ _ x => x⟩
theorem More.trans {w1 w2 w3 : World} {S1 S2 S3 : Nat → Prop} {ρ1 ρ2 ρ3 : Nat → Option Value} (h : More w1 w2 S1 S2 ρ1 ρ2) (k : More w2 w3 S2 S3 ρ2 ρ3) : More w1 w3 S1 S3 ρ1 ρ3 :=
  ⟨fun b x => k.s b (h.s b x), fun b x => (k.heap b (h.s b x)).trans (h.heap b x), fun n v x => k.names n v (h.names n v x)⟩

theorem rd_of_row {w : World} {S : Nat → Prop} {t : Ty} {v : Value} {xs : List t.den} {b : Nat} (h : RowOwn w S t v xs b) (hs : S b) : Rd w S (.sl t) [v] xs := by
  obtain ⟨len, cap, vs, e, rfl, h1, h2, h3, h4, h5⟩ := h
  refine ⟨_, _, _, rfl, h1, h2, fun a ha _ => by simp at ha; rw [← ha], by simp, fun hx => ⟨_, rfl, hs, fun i hi => ?_⟩⟩
  simpa using h5 i hi

/-- A row becomes settled. -/
theorem Mem.settle (h : Mem X w S ρ H blk) {n : Nat} {t : Ty} {excl : Bool} {xs : List t.den} (hn : blk n = some (some (.own t excl xs))) :
    ∃ S' H', Mem X w S' ρ H' (upd blk n (some (some (.settled t xs)))) ∧ More w w S S' ρ ρ ∧ ∃ v, ρ n = some v ∧ Rd w S' (.sl t) [v] xs := by
  obtain ⟨v, hv, hrow⟩ := h.rep n _ hn
  have other : ∀ m C, m ≠ n → upd blk n (some (some (.settled t xs))) m = some (some C) → blk m = some (some C) := fun m C e hm => by rwa [upd_other _ _ e] at hm
  rcases hrow with ⟨b, hb, hrow⟩ | ⟨he, hb, hfull⟩
  · have hS : ∀ k, S k → (S k ∨ k = b) := fun k hk => .inl hk
    have hrd : Rd w (fun k => S k ∨ k = b) (.sl t) [v] xs := by
      refine rd_of_row (b := b) ?_ (.inr rfl)
      obtain ⟨len, cap, vs, e, h1, h2, h3, h4, h5, h6⟩ := hrow
      refine ⟨len, cap, vs, e, h1, h2, h3, h4, h5, fun i hi => ?_⟩
      obtain ⟨us, h7, h8⟩ := h6 i hi
      exact ⟨us, h7, Rd.mono hS (fun _ _ => rfl) _ _ _ h8⟩
    refine ⟨fun k => S k ∨ k = b, upd H n none, ?_, ⟨hS, fun _ _ => rfl, fun _ _ x => x⟩, v, hv, hrd⟩
    refine { h with rep := ?_, sep := ?_, apart := ?_, homes := ?_, old := ?_, never := ?_, s0 := fun k hk => .inl (h.s0 k hk), smine := ?_ }
    · intro m C hm
      by_cases e : m = n
      · subst e
        rw [upd_same] at hm
        obtain rfl : Blk.settled t xs = C := by simpa using hm
        exact ⟨v, hv, by rw [upd_same], hrd⟩
      · rw [upd_other _ _ e]
        exact (h.rep m C (other m C e hm)).mono hS (fun _ _ => rfl) (fun _ _ x => x) (fun _ _ => rfl)
    · intro m k C D c hm hk h1 h2
      by_cases e : m = n
      · subst e; rw [upd_same] at h1; simp at h1
      · by_cases e' : k = n
        · subst e'; rw [upd_same] at h2; simp at h2
        · rw [upd_other _ _ e] at h1; rw [upd_other _ _ e'] at h2
          exact h.sep m k C D c (other m C e hm) (other k D e' hk) h1 h2
    · intro m C c hm h1 hs
      by_cases e : m = n
      · subst e; rw [upd_same] at h1; simp at h1
      · rw [upd_other _ _ e] at h1
        have hC := other m C e hm
        rcases hs with hs | rfl
        · exact h.apart m C c hC h1 hs
        · exact e (h.sep m n C _ c hC hn h1 hb)
    · intro m C c hm h1
      by_cases e : m = n
      · subst e; rw [upd_same] at h1; simp at h1
      · rw [upd_other _ _ e] at h1
        exact h.homes m C c (other m C e hm) h1
    · intro k hk
      rcases hk with hk | rfl
      · exact h.old k hk
      · exact (h.rep n _ hn).home_lt hb
    · intro m hm
      by_cases e : m = n
      · subst e; rw [upd_same] at hm; simp at hm
      · rw [upd_other _ _ e] at hm; exact h.never m hm
    · intro k hk
      rcases hk with hk | rfl
      · exact h.smine k hk
      · exact .inr (h.homes n _ k hn hb)
  · refine ⟨S, H, h.retell hn ⟨v, hv, hb, hfull.1⟩, More.refl _ _ _, v, hv, hfull.1⟩
end mem

theorem Rep.of_mem {X : Cx} {w w' : World} {S S' : Nat → Prop} {ρ ρ' : Nat → Option Value} {H H' : Nat → Option Nat} {N : Nat} {st st' : St} {a : Act}
    (h : Rep X w S ρ H N st a) (hm : Mem X w' S' ρ' H' st'.blk) (hmore : More w w' S S' ρ ρ') (ht : st'.tmp = st.tmp) : Rep X w' S' ρ' H' N st' a :=
  { mem := hm, tmp := fun t v hv => (h.tmp t v (ht ▸ hv)).mono hmore.s hmore.heap hmore.names, size := h.size, defers := h.defers }

theorem Rep.put {X : Cx} {w : World} {S : Nat → Prop} {ρ : Nat → Option Value} {H : Nat → Option Nat} {N : Nat} {st : St} {a : Act}
    (h : Rep X w S ρ H N st a) {dst : Option Nat} (hd : dstOk N dst = true) {tv : TV} {v : Value} (hv : RepTV w S ρ tv v) : Rep X w S ρ H N (st.put dst tv) (a.put dst v) := by
  cases dst with
  | none => exact h
  | some d =>
    have hd : d < N := by simpa [dstOk] using hd
    refine { mem := h.mem, tmp := ?_, size := by simpa [Act.put] using h.size, defers := by simpa [Act.put] using h.defers }
    intro t u hu
    simp only [St.put] at hu
    simp only [Act.put]
    by_cases e : t = d
    · subst e
      rw [if_pos rfl] at hu
      obtain rfl : tv = u := by simpa using hu
      have : (a.tmps.setIfInBounds t v).getD t undef = v := by
        simp [Array.getD_eq_getD_getElem?, Array.getElem?_setIfInBounds]
        rw [if_pos (by have := h.size; omega)]; rfl
      rw [this]; exact hv
    · rw [if_neg e] at hu
      have : (a.tmps.setIfInBounds d v).getD t undef = a.tmps.getD t undef := by
        simp [Array.getD_eq_getD_getElem?, Array.getElem?_setIfInBounds, Ne.symm e]
      rw [this]; exact h.tmp t u hu

theorem ofValue_rep {w : World} {S : Nat → Prop} {ρ : Nat → Option Value} {v : Value} {a : AV} (h : ofValue v = some a) : RepAV w S ρ a v := by
  unfold ofValue at h
  split at h
  · simp at h; subst h; rfl
  · simp at h; subst h; rfl
  · simp at h; subst h; rfl
  · simp at h; subst h; rfl
  · simp at h; subst h; exact ⟨rfl, rfl⟩
  · simp at h; subst h; exact ⟨rfl, rfl⟩
  · simp at h; subst h; exact ⟨rfl, rfl⟩
  · simp at h; subst h; exact ⟨rfl, rfl⟩
  · rename_i f first caps
    split at h
    · rename_i e1 e2
      simp at h; subst h
      have e1 : first = #[] := by simpa using e1
      subst e1
      exact ⟨caps, rfl, by rw [e2]; trivial⟩
    · simp at h
  · simp at h
theorem ofValues_rep {w : World} {S : Nat → Prop} {ρ : Nat → Option Value} : ∀ {vs : List Value} {l : List AV}, ofValues vs = some l → All2 (RepAV w S ρ) l vs
  | [], l, h => by simp [ofValues] at h; subst h; trivial
  | v :: vs, l, h => by
    simp only [ofValues] at h
    split at h
    · rename_i a ha
      cases hr : ofValues vs with
      | none => simp [hr] at h
      | some l' => simp [hr] at h; subst h; exact ⟨ofValue_rep ha, ofValues_rep hr⟩
    · simp at h
theorem ofConst_rep {w : World} {S : Nat → Prop} {ρ : Nat → Option Value} {v : Value} {x : TV} (h : ofConst v = some x) : RepTV w S ρ x v := by
  unfold ofConst at h
  split at h
  · rename_i cs
    cases hr : ofValues cs.toList with
    | none => simp [hr] at h
    | some l => simp [hr] at h; subst h; exact ⟨cs, rfl, ofValues_rep hr⟩
  · rename_i cs
    split at h
    · rename_i e
      simp at h; subst h
      exact ⟨cs, rfl, by rw [e]; trivial⟩
    · simp at h
  · cases hr : ofValue v with
    | none => simp [hr] at h
    | some a => simp [hr] at h; subst h; exact ofValue_rep hr
theorem opd_rep {X : Cx} {w : World} {S : Nat → Prop} {ρ : Nat → Option Value} {H : Nat → Option Nat} {N : Nat} {st : St} {a : Act}
    (h : Rep X w S ρ H N st a) {x : Operand} {lg : List Loc} {r : TV × List Loc} (hr : (opd x).run st lg = some r) : RepTV w S ρ r.1 (a.eval x) := by
  cases x with
  | tmp t => exact h.tmp _ _ (run_rT hr)
  | const v => exact ofConst_rep (run_ofO hr)
  | global g => exact (run_fail hr).elim
  | func f => have := run_pure' hr; subst this; exact ⟨#[], rfl, trivial⟩

/-! ### inversions -/
section inv
variable {w : World} {S : Nat → Prop} {ρ : Nat → Option Value} {v : Value}
theorem rep_i {k : IntKind} {n : Int} (h : RepTV w S ρ (.v (.one (.d (.int k) n))) v) : v = .int k n := by
  have h : [v] = [Value.int k n] := h
  simpa using h
theorem rep_b {b : Bool} (h : RepTV w S ρ (.v (.one (.d .bool b))) v) : v = .bool b := by
  have h : [v] = [Value.bool b] := h
  simpa using h
theorem rep_s {s : ByteArray} (h : RepTV w S ρ (.v (.one (.d .str s))) v) : v = .string s := by
  have h : [v] = [Value.string s] := h
  simpa using h
theorem asI_inv {st : St} {x : TV} {lg : List Loc} {r : (IntKind × Int) × List Loc} (h : (asI x).run st lg = some r) : x = .v (.one (.d (.int r.1.1) r.1.2)) := by
  unfold asI at h
  split at h
  · have := run_pure' h; subst this; rfl
  · exact (run_fail h).elim
theorem asB_inv {st : St} {x : TV} {lg : List Loc} {r : Bool × List Loc} (h : (asB x).run st lg = some r) : x = .v (.one (.d .bool r.1)) := by
  unfold asB at h
  split at h
  · have := run_pure' h; subst this; rfl
  · exact (run_fail h).elim
theorem asP_inv {st : St} {x : TV} {lg : List Loc} {r : (Nat × Nat) × List Loc} (h : (asP x).run st lg = some r) : x = .v (.one (.ptr r.1.1 r.1.2)) := by
  unfold asP at h
  split at h
  · have := run_pure' h; subst this; rfl
  · exact (run_fail h).elim
theorem out_inv {st : St} {tv : TV} {lg : List Loc} {r : Eff × List Loc} (h : (out tv).run st lg = some r) : r.1 = .out { tv := tv } := by
  have := run_pure' h; subst this; rfl
theorem outA_inv {st : St} {a : AV} {lg : List Loc} {r : Eff × List Loc} (h : (outA a).run st lg = some r) : r.1 = .out { tv := .v (.one a) } := by
  have := run_pure' h; subst this; rfl
end inv

/-- What an operation owes: a value, and a memory that is told by the new state. -/
def Does (P : Program) (X : Cx) (N : Nat) (st : St) (a : Act) (w : World) (S : Nat → Prop) (ρ : Nat → Option Value) (s : Sem Next) (x : Out) : Prop :=
  ∃ v w' S' ρ' H', (s.run P w = .ok (.value v) w' ∨ (s.run P w = .ok .skip w' ∧ v = undef)) ∧ Rep X w' S' ρ' H' N (st.sets x.wr) a ∧ RepTV w' S' ρ' x.tv v ∧ More w w' S S' ρ ρ'

theorem Does.value {P : Program} {X : Cx} {N : Nat} {st : St} {a : Act} {w : World} {S : Nat → Prop} {ρ : Nat → Option Value} {H : Nat → Option Nat} {s : Sem Next} {tv : TV} {v : Value}
    (h : Rep X w S ρ H N st a) (hs : s.run P w = .ok (.value v) w) (hv : RepTV w S ρ tv v) : Does P X N st a w S ρ s { tv := tv } :=
  ⟨v, w, S, ρ, H, .inl hs, h, hv, More.refl _ _ _⟩

end Go.Proofs.Ytndkobhclggeiaa.Aev
