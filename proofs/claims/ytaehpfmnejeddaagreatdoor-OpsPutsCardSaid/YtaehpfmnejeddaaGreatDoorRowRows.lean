
/- Rows read: whole rows; what is written is read, what is read was written so. -/
import Derived.Test.YtaehpfmnejeddaaGreatDoorF5
import Derived.Test.YtaehpfmnejeddaaGreatDoorF15
import Derived.Test.YtaehpfmnejeddaaGreatDoorRowRead
namespace Go.Proofs.YtaehpfmnejeddaaGreatDoor.Aev
open Go
set_option linter.unusedVariables false
set_option linter.unusedSimpArgs false
set_option maxRecDepth 100000
/-! ### what is read was written so -/
def okV (v : V) : Prop := (-9223372036854775808 ≤ v.2.1 ∧ v.2.1 ≤ 9223372036854775807) ∧ ∃ n : Nat, v.2.2.1 = (n : Int) ∧ n < 18446744073709551616
/-! ### what is written is read -/
theorem few_okV {l : List V} (hl : FewW l) : ∀ v ∈ l, okV v := fun v hv => ⟨hl.2 v hv, (hl.1.2 v hv).2⟩
theorem rowput_len {l : List V} (hl : FewW l) : (rowput l).1.size ≤ 100000 := by
  have key : ∀ m : List V, (∀ v ∈ m, okV v ∧ v.2.2.2.1.size ≤ 2000) → (rrow m).1.length ≤ m.length * 2100 := by
    intro m
    induction m with
    | nil => intro _; simp [rrow]
    | cons v m ih =>
      intro h
      have h1 := ih (fun w hw => h w (by simp [hw]))
      obtain ⟨⟨⟨b0, b1⟩, n, hn, hn2⟩, hs⟩ := h v (by simp)
      rw [size_eq] at hs
      have h2 := rb_len v.1 v.2.1 b0 b1 v.2.2.1.toNat v.2.2.2.1.data.toList (by omega)
      have h2 : (rb v).length ≤ 11 + v.2.2.2.1.data.toList.length := h2
      simp only [rrow, List.length_cons]
      split
      · simp
      · split
        · simp
        · simp only [List.length_append]; omega
  have hk := key l (fun v hv => ⟨few_okV hl v hv, (hl.1.2 v hv).1⟩)
  have hl1 := hl.1.1
  have he := encL_len (m := l.length) (by omega)
  unfold rowput
  split
  · simp [ba_size]
  · unfold after
    split
    · simp only [ba_size, List.length_append]; omega
    · simp [ba_size]
end Go.Proofs.YtaehpfmnejeddaaGreatDoor.Aev
