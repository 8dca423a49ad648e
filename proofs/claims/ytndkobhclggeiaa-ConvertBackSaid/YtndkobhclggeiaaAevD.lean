/- AEV: data out of cells, cells out of data, and what loads and stores do. -/
import Derived.Test.YtndkobhclggeiaaAevC
namespace Go.Proofs.Ytndkobhclggeiaa.Aev
set_option linter.unusedVariables false
set_option linter.unusedSimpArgs false
open Go

theorem castD_self {t : Ty} (h : t = t) (x : t.den) : castD h x = x := rfl

theorem Rd.oneCell {w : World} {S : Nat → Prop} : ∀ (t : Ty) (vs : List Value) (x : t.den), Rd w S t vs x → ∀ v ∈ vs, v.oneCell' = true := by
  intro t
  induction t with
  | unit => intro vs x h; simp [Rd] at h; simp [h]
  | bool => intro vs x h; simp [Rd] at h; simp [h, Value.oneCell']
  | int k => intro vs x h; simp [Rd] at h; simp [h, Value.oneCell']
  | str => intro vs x h; simp [Rd] at h; simp [h, Value.oneCell']
  | flt => intro vs x h; simp [Rd] at h; simp [h, Value.oneCell']
  | pair a b iha ihb =>
    rintro vs x ⟨v1, v2, rfl, h1, h2⟩ v hv
    rcases List.mem_append.1 hv with hv | hv
    · exact iha _ _ h1 v hv
    · exact ihb _ _ h2 v hv
  | sl e ih =>
    rintro vs x ⟨base, len, cap, rfl, _⟩ v hv
    simp at hv; simp [hv, Value.oneCell']

section
variable {w : World} {S : Nat → Prop} {ρ : Nat → Option Value}
theorem RepAV.oneCell {a : AV} {v : Value} (h : RepAV w S ρ a v) : v.oneCell' = true := by
  cases a with
  | d t x => exact Rd.oneCell t _ x h v (by simp)
  | raw u => obtain ⟨rfl, h⟩ := h; exact h
  | ptr n off => obtain ⟨b, _, rfl⟩ := h; rfl
  | own n => obtain ⟨_, base, len, cap, rfl⟩ := h; rfl
  | fn f caps => obtain ⟨vs, rfl, _⟩ := h; rfl
  | arr n m => obtain ⟨b, _, rfl⟩ := h; rfl
theorem cells_one {v : Value} (h : v.oneCell' = true) : v.cells = #[v] := by cases v <;> first | rfl | simp [Value.oneCell'] at h
theorem RepVV.cells {x : VV} {v : Value} (h : RepVV w S ρ x v) : All2 (RepAV w S ρ) x.cells v.cells.toList := by
  cases x with
  | one a => rw [cells_one (RepAV.oneCell h)]; exact ⟨h, trivial⟩
  | agg cs => obtain ⟨vs, rfl, h⟩ := h; exact h

/-- A datum's cells, abstractly. -/
theorem flat_rep : ∀ (t : Ty) (us : List Value) (x : t.den), Rd w S t us x → All2 (RepAV w S ρ) (flat t x) us := by
  intro t
  induction t with
  | unit => intro us x h; simp [Rd] at h; subst h; exact trivial
  | bool => intro us x h; have e := h; simp [Rd] at e; subst e; exact ⟨h, trivial⟩
  | int k => intro us x h; have e := h; simp [Rd] at e; subst e; exact ⟨h, trivial⟩
  | str => intro us x h; have e := h; simp [Rd] at e; subst e; exact ⟨h, trivial⟩
  | flt => intro us x h; have e := h; simp [Rd] at e; subst e; exact ⟨h, trivial⟩
  | pair a b iha ihb =>
    rintro us x ⟨v1, v2, rfl, h1, h2⟩
    exact All2.append (iha _ _ h1) (ihb _ _ h2)
  | sl e ih =>
    intro us x h
    obtain ⟨base, len, cap, rfl, h'⟩ := h
    exact ⟨⟨base, len, cap, rfl, h'⟩, trivial⟩

theorem rd_nil {e : Ty} : Rd w S (.sl e) [.slice none 0 0] ([] : List e.den) := ⟨none, 0, 0, rfl, rfl, Nat.le_refl _, by simp, by simp, fun h => (h rfl).elim⟩
end

/-! ### settling -/
/-- Rows that are to be settled, as the state has them. -/
def ToSettle (st : St) (wr : List (Nat × Option Blk)) : Prop :=
  ∀ p ∈ wr, ∃ t excl xs, p.2 = some (.settled t xs) ∧ st.blk p.1 = some (some (.own t excl xs))
def Settled (w : World) (S : Nat → Prop) (ρ : Nat → Option Value) (wr : List (Nat × Option Blk)) : Prop :=
  ∀ p ∈ wr, ∃ t xs v, p.2 = some (.settled t xs) ∧ ρ p.1 = some v ∧ Rd w S (.sl t) [v] xs

theorem set_blk (st : St) (n : Nat) (b : Option Blk) : (st.set n b).blk = upd st.blk n (some b) := rfl
theorem set_tmp (st : St) (n : Nat) (b : Option Blk) : (st.set n b).tmp = st.tmp := rfl
theorem sets_tmp : ∀ (wr : List (Nat × Option Blk)) (st : St), (st.sets wr).tmp = st.tmp
  | [], st => rfl
  | (n, b) :: l, st => by rw [St.sets, sets_tmp l, set_tmp]
theorem sets_append : ∀ (wr wr' : List (Nat × Option Blk)) (st : St), st.sets (wr ++ wr') = (st.sets wr).sets wr'
  | [], _, st => rfl
  | (n, b) :: l, wr', st => by simp [St.sets, sets_append l]
theorem sets_other : ∀ (wr : List (Nat × Option Blk)) (st : St) (n : Nat), (∀ p ∈ wr, p.1 ≠ n) → (st.sets wr).blk n = st.blk n
  | [], st, n, h => rfl
  | (m, b) :: l, st, n, h => by
    rw [St.sets, sets_other l _ n (fun p hp => h p (by simp [hp])), set_blk, upd_other]
    exact (h (m, b) (by simp)).symm

theorem settle_all {X : Cx} {w : World} {ρ : Nat → Option Value} : ∀ (wr : List (Nat × Option Blk)) {S : Nat → Prop} {H : Nat → Option Nat} {st : St}, Mem X w S ρ H st.blk →
    (∀ p ∈ wr, ∃ t xs, p.2 = some (.settled t xs) ∧ ((∃ excl, st.blk p.1 = some (some (.own t excl xs))) ∨ (st.blk p.1 = some (some (.settled t xs))))) →
    ∃ S' H', Mem X w S' ρ H' (st.sets wr).blk ∧ More w w S S' ρ ρ ∧ Settled w S' ρ wr
  | [], S, H, st, h, _ => ⟨S, H, h, More.refl _ _ _, fun p hp => by simp at hp⟩
  | (n, b) :: wr, S, H, st, h, hw => by
    obtain ⟨t, xs, rfl, hb⟩ := hw (n, b) (by simp)
    obtain ⟨S1, H1, h1, m1, v, hv, hr⟩ : ∃ S' H', Mem X w S' ρ H' (upd st.blk n (some (some (.settled t xs)))) ∧ More w w S S' ρ ρ ∧ ∃ v, ρ n = some v ∧ Rd w S' (.sl t) [v] xs := by
      rcases hb with ⟨excl, hb⟩ | hb
      · exact h.settle hb
      · obtain ⟨v, hv, hh, hr⟩ := h.rep n _ hb
        exact ⟨S, H, h.retell hb ⟨v, hv, hh, hr⟩, More.refl _ _ _, v, hv, hr⟩
    obtain ⟨S2, H2, h2, m2, s2⟩ := settle_all wr (S := S1) (H := H1) (st := st.set n (some (.settled t xs))) h1 (by
      intro p hp
      obtain ⟨t', xs', e, h'⟩ := hw p (by simp [hp])
      refine ⟨t', xs', e, ?_⟩
      rw [set_blk]
      by_cases en : p.1 = n
      · right
        rw [en, upd_same]
        rw [en] at h'
        rcases hb with ⟨excl, hb⟩ | hb
        · rcases h' with ⟨excl', h'⟩ | h'
          · rw [hb] at h'; simp at h'; obtain ⟨rfl, _, h'⟩ := h'; cases h'; rfl
          · rw [hb] at h'; simp at h'
        · rcases h' with ⟨excl', h'⟩ | h'
          · rw [hb] at h'; simp at h'
          · rw [hb] at h'; simp at h'; obtain ⟨rfl, h'⟩ := h'; cases h'; rfl
      · rw [upd_other _ _ en]; exact h')
    refine ⟨S2, H2, h2, m1.trans m2, fun p hp => ?_⟩
    simp only [List.mem_cons] at hp
    rcases hp with rfl | hp
    · exact ⟨t, xs, v, rfl, hv, Rd.mono m2.s m2.heap _ _ _ hr⟩
    · exact s2 p hp

theorem ToSettle.all {st : St} {wr : List (Nat × Option Blk)} (h : ToSettle st wr) :
    ∀ p ∈ wr, ∃ t xs, p.2 = some (.settled t xs) ∧ ((∃ excl, st.blk p.1 = some (some (.own t excl xs))) ∨ (st.blk p.1 = some (some (.settled t xs)))) := by
  intro p hp
  obtain ⟨t, excl, xs, h1, h2⟩ := h p hp
  exact ⟨t, xs, h1, .inl ⟨excl, h2⟩⟩
theorem ToSettle.nil {st : St} : ToSettle st [] := fun p hp => by simp at hp
theorem ToSettle.append {st : St} {l m : List (Nat × Option Blk)} (h : ToSettle st l) (k : ToSettle st m) : ToSettle st (l ++ m) := by
  intro p hp
  rcases List.mem_append.1 hp with hp | hp
  · exact h p hp
  · exact k p hp
theorem Settled.left {w : World} {S : Nat → Prop} {ρ : Nat → Option Value} {l m : List (Nat × Option Blk)} (h : Settled w S ρ (l ++ m)) : Settled w S ρ l := fun p hp => h p (by simp [hp])
theorem Settled.right {w : World} {S : Nat → Prop} {ρ : Nat → Option Value} {l m : List (Nat × Option Blk)} (h : Settled w S ρ (l ++ m)) : Settled w S ρ m := fun p hp => h p (by simp [hp])

section
variable {X : Cx} {w : World} {S : Nat → Prop} {ρ : Nat → Option Value} {H : Nat → Option Nat} {st : St}

theorem toD_spec {t : Ty} {a : AV} {lg : List Loc} {r : (t.den × List (Nat × Option Blk)) × List Loc} (h : (toD t a).run st lg = some r) (hm : Mem X w S ρ H st.blk) :
    ToSettle st r.1.2 ∧ ∀ {S' : Nat → Prop} {v : Value}, (∀ b, S b → S' b) → Settled w S' ρ r.1.2 → RepAV w S ρ a v → Rd w S' t [v] r.1.1 := by
  cases a with
  | d u x =>
    simp only [toD] at h
    split at h
    · rename_i e
      subst e
      have := run_pure' h; subst this
      exact ⟨ToSettle.nil, fun hS _ hv => Rd.mono hS (fun _ _ => rfl) _ _ _ hv⟩
    · exact (run_fail h).elim
  | raw u =>
    simp only [toD] at h
    split at h
    · have := run_pure' h; subst this
      exact ⟨ToSettle.nil, fun hS _ hv => by obtain ⟨rfl, _⟩ := hv; exact rd_nil⟩
    · exact (run_fail h).elim
  | ptr n off => exact (run_fail h).elim
  | fn f caps => exact (run_fail h).elim
  | arr n m => exact (run_fail h).elim
  | own n =>
    simp only [toD] at h
    split at h
    · rename_i e
      obtain ⟨B, lg1, h1, h2⟩ := run_bind_some h
      have hb := run_rB h1
      simp only at hb
      split at h2
      · rename_i u excl xs
        split at h2
        · rename_i e'; subst e'
          have := run_pure' h2; subst this
          refine ⟨fun p hp => ?_, fun hS hs hv => ?_⟩
          · simp at hp; subst hp; exact ⟨_, _, _, rfl, hb⟩
          · obtain ⟨t', xs', v', e1, e2, e3⟩ := hs (n, some (.settled u xs)) (by simp)
            simp at e1; obtain ⟨rfl, e1⟩ := e1; cases e1
            obtain ⟨hv, _⟩ := hv
            rw [hv] at e2; cases e2
            exact e3
        · exact (run_fail h2).elim
      · rename_i u xs
        split at h2
        · rename_i e'; subst e'
          have := run_pure' h2; subst this
          refine ⟨ToSettle.nil, fun hS hs hv => ?_⟩
          obtain ⟨v', e2, _, e3⟩ := hm.rep n _ hb
          obtain ⟨hv, _⟩ := hv
          rw [hv] at e2; cases e2
          exact Rd.mono hS (fun _ _ => rfl) _ _ _ e3
        · exact (run_fail h2).elim
      · exact (run_fail h2).elim
    · exact (run_fail h).elim

theorem asm_spec : ∀ (t : Ty) {l : List AV} {lg : List Loc} {r : (t.den × List (Nat × Option Blk) × List AV) × List Loc}, (asm t l).run st lg = some r → Mem X w S ρ H st.blk →
    ToSettle st r.1.2.1 ∧ ∃ l1, l = l1 ++ r.1.2.2 ∧ l1.length = t.size ∧ ∀ {S' : Nat → Prop} {vs : List Value}, (∀ b, S b → S' b) → Settled w S' ρ r.1.2.1 → All2 (RepAV w S ρ) l1 vs → Rd w S' t vs r.1.1 := by
  intro t
  have atom : ∀ (t : Ty), t.size = 1 → ∀ {c : AV} {l : List AV} {lg : List Loc} {r : (t.den × List (Nat × Option Blk) × List AV) × List Loc},
      (do let (x, wr) ← toD t c; pure (x, wr, l) : AM (t.den × List (Nat × Option Blk) × List AV)).run st lg = some r → Mem X w S ρ H st.blk →
      ToSettle st r.1.2.1 ∧ ∃ l1, c :: l = l1 ++ r.1.2.2 ∧ l1.length = t.size ∧ ∀ {S' : Nat → Prop} {vs : List Value}, (∀ b, S b → S' b) → Settled w S' ρ r.1.2.1 → All2 (RepAV w S ρ) l1 vs → Rd w S' t vs r.1.1 := by
    intro t ht c l lg r h hm
    obtain ⟨⟨x, wr⟩, lg1, h1, h2⟩ := run_bind_some h
    have := run_pure h2; subst this
    obtain ⟨h3, h4⟩ := toD_spec h1 hm
    refine ⟨h3, [c], rfl, by simp [ht], fun hS hs hv => ?_⟩
    obtain ⟨v, m, rfl, hv, hm'⟩ := hv.cons_left
    rw [hm'.nil_left]
    exact h4 hS hs hv
  induction t with
  | unit =>
    intro l lg r h hm
    simp only [asm] at h
    have := run_pure' h; subst this
    exact ⟨ToSettle.nil, [], rfl, rfl, fun _ _ hv => hv.nil_left⟩
  | pair a b iha ihb =>
    intro l lg r h hm
    simp only [asm] at h
    obtain ⟨⟨x, wr, l1⟩, lg1, h1, h⟩ := run_bind_some h
    obtain ⟨⟨y, wr', l2⟩, lg2, h2, h⟩ := run_bind_some h
    have := run_pure h; subst this
    obtain ⟨s1, p1, e1, n1, r1⟩ := iha h1 hm
    obtain ⟨s2, p2, e2, n2, r2⟩ := ihb h2 hm
    simp only at s1 e1 r1 s2 e2 r2
    refine ⟨s1.append s2, p1 ++ p2, by rw [e1, e2, List.append_assoc], by simp [n1, n2, Ty.size], fun hS hs hv => ?_⟩
    obtain ⟨m1, m2, rfl, hv1, hv2⟩ := hv.split
    exact ⟨m1, m2, rfl, r1 hS hs.left hv1, r2 hS hs.right hv2⟩
  | bool => intro l lg r h hm; cases l with
    | nil => exact (run_fail h).elim
    | cons c l => exact atom .bool rfl h hm
  | int k => intro l lg r h hm; cases l with
    | nil => exact (run_fail h).elim
    | cons c l => exact atom (.int k) rfl h hm
  | str => intro l lg r h hm; cases l with
    | nil => exact (run_fail h).elim
    | cons c l => exact atom .str rfl h hm
  | flt => intro l lg r h hm; cases l with
    | nil => exact (run_fail h).elim
    | cons c l => exact atom .flt rfl h hm
  | sl e ih => intro l lg r h hm; cases l with
    | nil => exact (run_fail h).elim
    | cons c l => exact atom (.sl e) rfl h hm

theorem normVV_spec {t : Ty} {x : VV} {lg : List Loc} {r : (VV × List (Nat × Option Blk)) × List Loc} (h : (normVV t x).run st lg = some r) (hm : Mem X w S ρ H st.blk) :
    ToSettle st r.1.2 ∧ ∀ {S' : Nat → Prop} {v : Value}, (∀ b, S b → S' b) → Settled w S' ρ r.1.2 → RepVV w S ρ x v → RepVV w S' ρ r.1.1 v := by
  cases x with
  | one a =>
    simp only [normVV] at h
    obtain ⟨⟨x, wr, l⟩, lg1, h1, h⟩ := run_bind_some h
    obtain ⟨s1, p1, e1, n1, r1⟩ := asm_spec t h1 hm
    simp only at h e1 r1 s1
    split at h
    · rename_i c hc
      have := run_pure h; subst this
      refine ⟨s1, fun hS hs hv => ?_⟩
      have e1 : p1 = [a] := by simpa using e1.symm
      subst e1
      have hr := r1 (vs := [_]) hS hs ⟨hv, trivial⟩
      have := flat_rep (ρ := ρ) t _ x hr
      rw [hc] at this
      exact this.1
    · exact (run_fail h).elim
  | agg cs =>
    simp only [normVV] at h
    obtain ⟨⟨x, wr, l⟩, lg1, h1, h⟩ := run_bind_some h
    obtain ⟨s1, p1, e1, n1, r1⟩ := asm_spec t h1 hm
    simp only at h e1 r1 s1
    split at h
    · have := run_pure h; subst this
      refine ⟨s1, fun hS hs hv => ?_⟩
      obtain ⟨vs, rfl, hv⟩ := hv
      have e1 : p1 = cs := by simpa using e1.symm
      subst e1
      exact ⟨vs, rfl, flat_rep t _ x (r1 hS hs hv)⟩
    · exact (run_fail h).elim
end

end Go.Proofs.Ytndkobhclggeiaa.Aev
