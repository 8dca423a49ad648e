import Derived.Test.YtaehpfmnejeddaaGreatDoorF4
import Derived.Test.YtaehpfmnejeddaaGreatDoorKeyRd
import Derived.Test.YtaehpfmnejeddaaGreatDoorF12

/- How long what is read is. -/
namespace Go.Proofs.YtaehpfmnejeddaaGreatDoor.Aev
open Go
set_option linter.unusedVariables false
set_option linter.unusedSimpArgs false
set_option maxRecDepth 100000
theorem plainS_len : ∀ (n : Nat) (t : List UInt8), t.length ≤ n → (plainS t).2.1.length ≤ t.length := by
 intro n
 induction n with
 | zero => intro t h; obtain rfl : t = [] := List.eq_nil_of_length_eq_zero (by omega); simp [plainS]
 | succ n ih =>
  intro t h
  cases t with
  | nil => simp [plainS]
  | cons c t =>
   have h' : t.length ≤ n := by simpa using h
   unfold plainS
   split
   ·split
    ·simp
    ·rename_i d r
     have hr := ih r (by simp at h'; omega)
     split
     ·simp; omega
     ·split
      ·generalize plainS r = q at hr
       obtain ⟨x, y, e⟩ := q
       simp only at hr ⊢
       split
       ·simp; omega
       ·simp
      ·simp
   ·have ht := ih t h'
    generalize plainS t = q at ht
    obtain ⟨x, y, e⟩ := q
    simp only at ht ⊢
    split
    ·simp; omega
    ·simp
theorem kread_len {l : List UInt8} (h : (kread l).2.2.2.2.2 = 0) : (kread l).2.2.2.2.1.length < l.length := by
 cases l with
 | nil => simp [kread] at h
 | cons c t =>
  have key : (kraw (c.toNat : Int) t).2.2.2.1.length ≤ t.length := by
   unfold kraw
   have hp := plainS_len t.length t (Nat.le_refl _)
   split
   ·split <;> simp
   ·split
    ·split <;> simp
    ·split
     ·split
      ·simp
      ·split <;> simp
     ·split
      ·exact hp
      ·simp
  simp only [kread] at h ⊢
  split at h
  ·simp at h
  ·rename_i h5
   rw [if_neg h5]
   unfold kdone at h ⊢
   split at h
   ·rename_i he; simp only at h; exact absurd h he
   ·rename_i he
    rw [if_neg he]
    split at h
    ·simp at h
    ·rename_i hc
     rw [if_neg hc]
     simp only [List.length_cons]; omega
theorem backS_lt' {m : Nat} (h : m < 18446744073709551616) : (backS m).1 < 18446744073709551616 := by
 have := backR_lt h
 unfold backS; split
 ·exact this
 ·simp
theorem kread_lt (l : List UInt8) : (kread l).2.2.1 < 18446744073709551616 := by
 cases l with
 | nil => simp [kread]
 | cons c t =>
  have key : (kraw (c.toNat : Int) t).2.1 < 18446744073709551616 := by
   unfold kraw
   split
   ·split <;> simp
   ·split
    ·split <;> simp
    ·split
     ·split
      ·simp
      ·rename_i h8
       have hn := numB_lt (t.take 8)
       have : (t.take 8).length = 8 := by simp; omega
       rw [this] at hn
       split
       ·exact backS_lt' (by omega)
       ·simp
     ·split <;> simp
  simp only [kread]
  split
  ·simp
  ·unfold kdone
   split
   ·simp
   ·split
    ·simp
    ·exact key
end Go.Proofs.YtaehpfmnejeddaaGreatDoor.Aev

/- Values read: the document's way. -/
namespace Go.Proofs.YtaehpfmnejeddaaGreatDoor.Aev
open Go
set_option linter.unusedVariables false
set_option linter.unusedSimpArgs false
set_option maxRecDepth 100000
end Go.Proofs.YtaehpfmnejeddaaGreatDoor.Aev
