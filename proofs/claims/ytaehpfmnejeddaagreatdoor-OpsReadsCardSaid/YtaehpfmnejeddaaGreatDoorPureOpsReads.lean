import Derived.Test.YtaehpfmnejeddaaGreatDoorF6
import Derived.Test.YtaehpfmnejeddaaGreatDoorPl
import Derived.Test.YtaehpfmnejeddaaGreatDoorOpsReadR

/- OpsReads: what any bytes ask first, and what is behind, or the error; and that these are its bytes: what the document says. For every input; no conditions. -/
namespace Go.Proofs.YtaehpfmnejeddaaGreatDoor.Aev
open Go
set_option linter.unusedVariables false
set_option linter.unusedSimpArgs false
set_option maxRecDepth 100000
theorem awake_all (k : Nat) : transomlaw14_awake.f (k + 100) = some true := by kernel_rfl
def GoodO (l : List UInt8) (q : QR3) : Prop := (∃ e, e ≠ 0 ∧ q = badQ e) ∨ (FewO q.1 ∧ q.2.2 = 0 ∧ ∃ r, q.2.1 = mL r ∧ r <:+ l ∧ (putO q.1).2 = 0 ∧ (putO q.1).1 = mL (l.take (l.length - r.length)))
theorem good_fin {l : List UInt8} {o : Oq} {r : List UInt8} (ho : FewO o) (hr : r <:+ l) : GoodO l (finO l o r) := by
 unfold finO
 split
 ·exact .inl ⟨4, by decide, rfl⟩
 ·rename_i h
  have h1 : (putO o).2 = 0 := by
   by_cases e : (putO o).2 = 0
   ·exact e
   ·exact absurd (.inl e) h
  have h2 : (putO o).1 = mL (l.take (l.length - r.length)) := by
   by_cases e : (putO o).1 = mL (l.take (l.length - r.length))
   ·exact e
   ·exact absurd (.inr e) h
  exact .inr ⟨ho, rfl, r, rfl, hr, h1, h2⟩
theorem good_end {l : List UInt8} {kd : Int} {t : ByteArray} {a b c : List V} (ha : FewW a) (hb : FewW b) (hc : FewW c) {m : Int} {r : List UInt8} (hr : r <:+ l) : GoodO l (endQ l kd t a b c m r) := by
 unfold endQ
 split
 ·split
  ·rename_i h; exact .inl ⟨_, h, rfl⟩
  ·obtain ⟨q, e, hs⟩ := rdC_suf r
   rw [e]
   exact good_fin (few_end ha hb hc (few_rd r)) (hs.trans hr)
 ·exact good_fin (few_end ha hb hc few_z0) hr
theorem good_rd (l : List UInt8) : GoodO l (rdO l) := by
 unfold rdO
 split
 ·rename_i h; exact .inl ⟨_, h, rfl⟩
 ·split
  ·rename_i h; exact .inl ⟨_, h, rfl⟩
  ·split
   ·rename_i h; exact .inl ⟨_, h, rfl⟩
   ·rename_i h3
    split
    ·rename_i h; exact .inl ⟨_, h, rfl⟩
    ·rename_i h4
     split
     ·rename_i h; exact .inl ⟨_, h, rfl⟩
     ·rename_i h5
      split
      ·rename_i h; exact .inl ⟨_, h, rfl⟩
      ·exact good_end (rowS_few (by simpa using h3)) (rowS_few (by simpa using h4)) (rowS_few (by simpa using h5)) ((numS_suf _ _ _).trans ((rowS_suf _).trans ((rowS_suf _).trans ((rowS_suf _).trans ((rdT_suf _).trans (numS_suf _ _ l))))))
theorem few_zo : FewO Z_api_Op := { r1 := ⟨⟨by simp, by simp⟩, by simp⟩, r2 := ⟨⟨by simp, by simp⟩, by simp⟩, r3 := ⟨⟨by simp, by simp⟩, by simp⟩, ch := few_z0 }
theorem putO_ch {o : Oq} (h : (putO o).2 = 0) (h6 : o.1 = 6) : (putC o.2.2.2.2.2.2.1).2 = 0 := by
 unfold putO at h
 split at h
 ·cases h
 ·split at h
  ·cases h
  ·split at h
   ·rename_i g; exact absurd h g
   ·split at h
    ·rename_i g; exact absurd h g
    ·split at h
     ·rename_i g; exact absurd h g
     ·split at h
      ·rename_i g; exact absurd h6 g
      ·split at h
       ·rename_i g; exact absurd h g
       ·rename_i g; simpa using g
theorem sameO_refl {o : Oq} (h : o.1 = 6 → (putC o.2.2.2.2.2.2.1).2 = 0) : sameO o o = true := by
 unfold sameO
 by_cases h6 : o.1 = 6
 ·simp [h6, h h6]
 ·simp [h6]
theorem Pure.OpsReads (x0 : ByteArray) (h0 : Fit .str x0) : ∃ k, transomlaw14_OpsReads.f k x0 = some true := by
 obtain ⟨k, hk⟩ : ∃ k, 300000 ≤ k := ⟨300000, Nat.le_refl _⟩
 refine ⟨k + 1 + 1 + 1, ?_⟩
 have aw : ∀ j, 100 ≤ j → transomlaw14_awake.f j = some true := fun j hj => by
  obtain ⟨i, rfl⟩ : ∃ i, j = i + 100 := ⟨j - 100, by omega⟩
  exact awake_all i
 have aw3 := aw (k + 1 + 1 + 1) (by omega)
 have aw1 := aw (k + 1) (by omega)
 simp only [transomlaw14_OpsReads.f, transomlaw14_OpsReads.c]
 by_cases d : (x0.size : Int) > 3000
 ·simp only [d, decide_true, cond_true, aw3, Option.bind_some]
 ·have hx : x0 = mL x0.data.toList := ba_of x0
  have hl : x0.data.toList.length ≤ 90000 := by rw [← size_eq]; omega
  have r1 := readO_f x0.data.toList hl (k + 1 + 1 + 1) (by omega)
  have r2 := rreadO_f x0.data.toList hl (k + 1 + 1 + 1) (by omega)
  rw [← hx] at r1 r2
  simp only [d, decide_false, cond_false, r1, r2, Option.bind_some]
  rcases good_rd x0.data.toList with ⟨e, he, hq⟩ | ⟨ho, he, r, hr, hs, p1, p2⟩
  ·have hsame := rsameO_f few_zo few_zo (k + 1 + 1 + 1) (by omega)
   rw [sameO_refl (by intro h; cases h)] at hsame
   rw [hq]
   have hZ : (Z_api_Op.1 == (0 : Int)) = true := rfl
   simp only [badQ, hsame, beq_self_eq_true, Bool.not_true, cond_false, bne_self_eq_false, transomlaw14_OpsReads.s0, transomlaw14_OpsReads.s0c, transomlaw14_OpsReads.s1, transomlaw14_OpsReads.s1c, bne_iff_ne.2 he, cond_true, hZ, aw1, transomlaw14_OpsReads.s2, transomlaw14_OpsReads.s2c, Option.bind_some, Option.bind_fun_some]
  ·have hsame := rsameO_f ho ho (k + 1 + 1 + 1) (by omega)
   rw [sameO_refl (putO_ch p1)] at hsame
   have hp := putO_f ho (k + 1) (by omega)
   obtain ⟨c1, c2⟩ := pre_suf hs
   have hcat : (putO (rdO x0.data.toList).1).1 ++ mL r = x0 := by
    rw [p2, ba_append, c1]
   have hsz : ((putO (rdO x0.data.toList).1).1.size) ≤ 100000000 := by
    rw [p2, ba_size, List.length_take]; omega
   have hsz2 : (mL r).size ≤ 100000000 := by rw [ba_size]; omega
   simp only [hsame, beq_self_eq_true, Bool.not_true, cond_false, bne_self_eq_false, transomlaw14_OpsReads.s0, transomlaw14_OpsReads.s0c, transomlaw14_OpsReads.s1, transomlaw14_OpsReads.s1c, he, hp, hr, le62 hsz, le62 hsz2, Bool.and_self, cond_true, hcat, p1, aw1, Option.bind_some, Option.bind_fun_some]
end Go.Proofs.YtaehpfmnejeddaaGreatDoor.Aev
