import Derived.Test.YtaehpfmnejeddaaGreatDoorF6
import Derived.Test.YtaehpfmnejeddaaGreatDoorPl
import Derived.Test.YtaehpfmnejeddaaGreatDoorOpsBk
/- OpsBack: what is asked, as bytes, is read as it was, whatever is behind. For every input; no conditions. -/
namespace Go.Proofs.YtaehpfmnejeddaaGreatDoor.Aev
open Go
set_option linter.unusedVariables false
set_option linter.unusedSimpArgs false
set_option maxRecDepth 100000
theorem awake_all (k : Nat) : transomlaw14_awake.f (k + 100) = some true := by kernel_rfl
theorem rrow_small : ∀ {l : List V}, (∀ v ∈ l, okV v) → (rrow l).2 = 0 → (rrow l).1.length ≤ l.length * 80
 | [], _, _ => by simp [rrow]
 | v :: l, h, h0 => by
  simp only [rrow] at h0 ⊢
  by_cases c : chk v = 0
  ·rw [if_neg (show ¬ chk v ≠ 0 from fun g => g c)] at h0 ⊢
   by_cases d : (rrow l).2 = 0
   ·rw [if_neg (show ¬ (rrow l).2 ≠ 0 from fun g => g d)]
    have ih := rrow_small (fun w hw => h w (List.mem_cons_of_mem _ hw)) d
    obtain ⟨⟨b0, b1⟩, _⟩ := h v (List.mem_cons_self ..)
    have hs := chk_size c
    rw [size_eq] at hs
    have h2 := rb_len v.1 v.2.1 b0 b1 v.2.2.1.toNat v.2.2.2.1.data.toList (by omega)
    have h3 : (rb v).length ≤ 11 + v.2.2.2.1.data.toList.length := h2
    rw [List.length_append, List.length_cons]; omega
   ·rw [if_pos d] at h0; exact absurd h0 d
  ·rw [if_pos c] at h0; exact absurd h0 c
theorem rowput_small {l : List V} (hl : FewW l) (h : (rowput l).2 = 0) : (rowput l).1.size ≤ 1000 := by
 unfold rowput at *
 by_cases c : 8 < l.length
 ·rw [if_pos c] at h; cases h
 ·rw [if_neg c] at h ⊢
  unfold after at *
  by_cases d : (rrow l).2 = 0
  ·rw [if_pos d]
   have h1 := rrow_small (few_okV hl) d
   have h2 := encL_len (m := l.length) (by omega)
   simp only [ba_size, List.length_append]; omega
  ·rw [if_neg d] at h; exact absurd h d
theorem colB_small {c : C} (h : colS c = 0) : (colB c).length ≤ 4100 := by
 obtain ⟨h1, h2⟩ := colS_sz h
 have g1 := encL_len (m := c.1.size) (by omega)
 have g2 := encL_len (m := c.2.1.toNat) (by have := colS_0 h; omega)
 have g3 := kput_len c.2.2.2.1.1 c.2.2.2.1.2.1 c.2.2.2.1.2.2.1.toNat c.2.2.2.1.2.2.2.1.data.toList
 rw [← size_eq] at g3
 have g4 : ((kb c.2.2.2.1).map b8).length ≤ 4012 := by rw [List.length_map]; unfold kb; omega
 have g5 : c.1.data.toList.length = c.1.size := rfl
 unfold colB
 simp only [List.length_append, List.length_cons, List.length_nil]; omega
theorem cols_small : ∀ {m : List C}, (∀ c ∈ m, colS c = 0) → (m.flatMap colB).length ≤ m.length * 4100
 | [], _ => by simp
 | c :: m, h => by
  have h1 := cols_small fun d hd => h d (List.mem_cons_of_mem _ hd)
  have h2 := colB_small (h c (List.mem_cons_self ..))
  rw [List.flatMap_cons, List.length_append, List.length_cons]; omega
theorem tab_small {nm : ByteArray} {a : Int} {l : List C} (hn : nm.size ≤ 2000) (h : tabS nm a l = 0) : (tabB nm a l).length ≤ 40000 := by
 obtain ⟨h1, h2, h3, h4⟩ := tabS_0 h
 have g1 := cols_small (colsS_0 h1)
 have e1 := encL_len (m := nm.size) (by omega)
 have e2 := encL_len (m := a.toNat) (by omega)
 have e3 := encL_len (m := l.length) (by omega)
 have e4 : nm.data.toList.length = nm.size := rfl
 unfold tabB headB
 simp only [List.length_append]; omega
theorem names_small : ∀ {m : List ByteArray}, (∀ s ∈ m, s.size ≤ 16) → (m.flatMap tB).length ≤ m.length * 26
 | [], _ => by simp
 | s :: m, h => by
  have h1 := names_small fun d hd => h d (List.mem_cons_of_mem _ hd)
  have h2 := h s (List.mem_cons_self ..)
  have h3 := tB_len (s := s) (by omega)
  rw [List.flatMap_cons, List.length_append, List.length_cons]; omega
theorem putC_small {c : Ch} (h : FewCh c) : (putC c).1.size ≤ 50000 := by
 unfold putC
 by_cases h0 : chkC c = 0
 ·rw [if_neg (show ¬ chkC c ≠ 0 from fun g => g h0)]
  obtain ⟨a1, a2, a3, a4, a5, a6, a7, a8, a9, a10, a11⟩ := chkC_0 h0
  obtain ⟨g1, g2, g3⟩ := defS_few h
  have l1 := encL_len (m := c.1.toNat) (by omega)
  have l2 := encL_len (m := c.2.2.2.2.2.2.1.toNat) (by omega)
  have l3 := encL_len (m := c.2.2.2.2.2.2.2.1.length) (by omega)
  have b1 := tB_len (s := c.2.1) (by omega)
  have b2 := tB_len (s := c.2.2.1) (by omega)
  have b3 := tB_len (s := c.2.2.2.1) (by omega)
  have b4 := tB_len (s := c.2.2.2.2.1) (by omega)
  have b5 := tB_len (s := c.2.2.2.2.2.1) (by omega)
  have b6 := names_small a11
  have hB : (chB c).length ≤ 1000 := by unfold chB; simp only [List.length_append]; omega
  split
  ·split
   ·simp only [ba_size]; decide
   ·rename_i h1
    have := tab_small g2 (by simpa using h1)
    simp only [ba_size, List.length_append]; omega
  ·simp only [ba_size]; omega
 ·rw [if_pos h0]; simp only [ba_size]; decide
theorem putO_small {o : Oq} (h : FewO o) (h0 : (putO o).2 = 0) : (putO o).1.size ≤ 80000 := by
 have sc := putC_small h.ch
 rw [size_eq] at sc
 unfold putO at h0 ⊢
 split
 ·simp only [ba_size]; decide
 ·rename_i c0
  unfold badO at c0
  split
  ·simp only [ba_size]; decide
  ·rename_i c1
   have htb : o.2.1.size ≤ 16 := by unfold longB at c1; simp at c1; omega
   split
   ·simp only [ba_size]; decide
   ·rename_i c2
    split
    ·simp only [ba_size]; decide
    ·rename_i c3
     split
     ·simp only [ba_size]; decide
     ·rename_i c4
      have r1 := rowput_small h.r1 (by simpa using c2)
      have r2 := rowput_small h.r2 (by simpa using c3)
      have r3 := rowput_small h.r3 (by simpa using c4)
      have l1 := encL_len (m := o.1.toNat) (by omega)
      have l2 := encL_len (m := o.2.2.2.2.2.1.toNat) (by omega)
      have b0 := tB_len (s := o.2.1) (by omega)
      have b1 := tB_len (s := (rowput o.2.2.1).1) (by omega)
      have b2 := tB_len (s := (rowput o.2.2.2.1).1) (by omega)
      have b3 := tB_len (s := (rowput o.2.2.2.2.1).1) (by omega)
      have hB : (opB o).length ≤ 5000 := by unfold opB; simp only [List.length_append]; omega
      split
      ·simp only [ba_size]; omega
      ·split
       ·simp only [ba_size]; decide
       ·simp only [ba_size, List.length_append]; omega
theorem putO_nil {o : Oq} (h : (putO o).2 ≠ 0) : (putO o).1 = mL [] := by
 unfold putO at h ⊢
 split
 ·rfl
 ·rename_i c0
  rw [if_neg c0] at h
  split
  ·rfl
  ·rename_i c1
   rw [if_neg c1] at h
   split
   ·rfl
   ·rename_i c2
    rw [if_neg c2] at h
    split
    ·rfl
    ·rename_i c3
     rw [if_neg c3] at h
     split
     ·rfl
     ·rename_i c4
      rw [if_neg c4] at h
      split
      ·rename_i c5; rw [if_pos c5] at h; exact absurd rfl h
      ·rename_i c5
       rw [if_neg c5] at h
       split
       ·rfl
       ·rename_i c6; rw [if_neg c6] at h; exact absurd rfl h
theorem putO_ch {o : Oq} (h : (putO o).2 = 0) (h6 : o.1 = 6) : (putC o.2.2.2.2.2.2.1).2 = 0 := by
 unfold putO at h
 split at h
 ·cases h
 ·split at h
  ·cases h
  ·split at h
   ·rename_i g; exact absurd h g
   ·split at h
    ·rename_i g; exact absurd h g
    ·split at h
     ·rename_i g; exact absurd h g
     ·split at h
      ·rename_i g; exact absurd h6 g
      ·split at h
       ·rename_i g; exact absurd h g
       ·rename_i g; simpa using g
theorem Pure.OpsBack (x0 : D_api_Op) (x1 : ByteArray) (h0 : Fit T_api_Op x0) (h1 : Fit .str x1) : ∃ k, transomlaw14_OpsBack.f k x0 x1 = some true := by
 obtain ⟨k, hk⟩ : ∃ k, 300000 ≤ k := ⟨300000, Nat.le_refl _⟩
 refine ⟨k + 1 + 1, ?_⟩
 obtain ⟨r, g1, g2⟩ := few13 x0 h0 (k + 1 + 1) (by omega)
 have aw : ∀ j, 100 ≤ j → transomlaw14_awake.f j = some true := fun j hj => by
  obtain ⟨i, rfl⟩ : ∃ i, j = i + 100 := ⟨j - 100, by omega⟩
  exact awake_all i
 have aw1 := aw (k + 1) (by omega)
 have aw0 := aw k (by omega)
 simp only [transomlaw14_OpsBack.f, transomlaw14_OpsBack.c, g1, Option.bind_some]
 by_cases c : r = 0
 ·simp only [c, beq_self_eq_true, cond_true, transomlaw14_OpsBack.s0, transomlaw14_OpsBack.s0c, aw1, Option.bind_some]
 ·have hf := g2.resolve_left c
  have h64 := fit_ch h0.2.2.2.2.2.2.1
  simp only [beq_eq_false_iff_ne.2 c, cond_false]
  by_cases d : (x1.size : Int) > 2000
  ·simp only [d, decide_true, cond_true, transomlaw14_OpsBack.s0, transomlaw14_OpsBack.s0c, aw1, Option.bind_some]
  ·have p := putO_f hf k (by omega)
   by_cases e : (putO x0).2 = 0
   ·have hsz := putO_small hf e
    have hb := rdO_back hf h64 e x1.data.toList
    have hx : mL x1.data.toList = x1 := ba_self x1
    have hcat : (putO x0).1 ++ x1 = mL ((putO x0).1.data.toList ++ x1.data.toList) := by
     conv => lhs; rw [← ba_self (putO x0).1, ← ba_self x1]
     rw [ba_append]
    have hR := readO_f ((putO x0).1.data.toList ++ x1.data.toList) (by rw [List.length_append, ← size_eq, ← size_eq]; omega) k (by omega)
    rw [hb] at hR
    have s1 := sameO_f hf (few_backO hf) k (by omega)
    have s2 := rsameO_f hf (few_backO hf) k (by omega)
    rw [sameO_back e (putO_ch e)] at s1 s2
    have b1 : (putO x0).1.size ≤ 100000000 := by omega
    have b2 : x1.size ≤ 100000000 := by omega
    simp only [d, decide_false, cond_false, transomlaw14_OpsBack.s0, transomlaw14_OpsBack.s0c, transomlaw14_OpsBack.s1, transomlaw14_OpsBack.s1c, p, e, bne_self_eq_false, le62 b1, le62 b2, Bool.and_self, cond_true, hcat, hR, hx, beq_self_eq_true, s1, s2, aw0, Option.bind_some, Option.bind_fun_some]
   ·have hn : (putO x0).1 = mL [] := putO_nil e
    obtain ⟨k, rfl⟩ : ∃ q, k = q + 1 := ⟨k - 1, by omega⟩
    simp only [d, decide_false, cond_false, transomlaw14_OpsBack.s0, transomlaw14_OpsBack.s0c, transomlaw14_OpsBack.s1, transomlaw14_OpsBack.s1c, p, bne_iff_ne.2 e, hn, beq_self_eq_true, cond_true, aw0, transomlaw14_OpsBack.s2, transomlaw14_OpsBack.s2c, Option.bind_some, Option.bind_fun_some]
end Go.Proofs.YtaehpfmnejeddaaGreatDoor.Aev
