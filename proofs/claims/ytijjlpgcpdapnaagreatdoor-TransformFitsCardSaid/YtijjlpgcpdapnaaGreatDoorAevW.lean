import Derived.Test.YtijjlpgcpdapnaaGreatDoorAevV
/- AEV: words for the printed functions. -/
namespace Go.Proofs.YtijjlpgcpdapnaaGreatDoor.Aev
theorem bo {α β : Type} (c : Bool) (x y : Option α) (f : α → Option β) : (bif c then x else y).bind f = bif c then x.bind f else y.bind f := by cases c <;> rfl
theorem so {α β γ δ : Type} (x : Sum α β) (f : α → Option γ) (g : β → Option γ) (h : γ → Option δ) : (Sum.elim f g x).bind h = Sum.elim (fun a => (f a).bind h) (fun b => (g b).bind h) x := by cases x <;> rfl
theorem ct_extern {P : Program} {f : FuncId} {c : Ct} (h : ∀ tvs blks res, c.F tvs blks some = some res → ∃ v, (∀ (w : World) S ρ H vals, Mem (pkgCx w S ρ H blks c.nin) w S ρ H (live blks) → All2 (RepTV w S ρ) tvs vals → (callFunc f vals.toArray).run P w = .ok (.value v) w ∧ RepTV w S ρ res.tv v) ∧ blks = [] ∧ res.blks = []) : CtOK P f c := by
 intro tvs blks res hF w S ρ H vals hm hv
 obtain ⟨v, h1, h2, h3⟩ := h tvs blks res hF
 obtain ⟨h4, h5⟩ := h1 w S ρ H vals hm hv
 right
 refine ⟨v, w, h4, v, S, ρ, H, rfl, ?_, h5⟩
 subst h2
 rw [h3]
 have : (fun n => ([] : List (Option Blk))[n]?) = live [] := by funext n; simp [live]
 rw [this]; exact hm
end Go.Proofs.YtijjlpgcpdapnaaGreatDoor.Aev
