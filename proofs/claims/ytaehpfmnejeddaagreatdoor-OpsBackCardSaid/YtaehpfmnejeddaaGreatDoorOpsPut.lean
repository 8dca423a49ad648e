import Derived.Test.YtaehpfmnejeddaaGreatDoorF4
import Derived.Test.YtaehpfmnejeddaaGreatDoorF5
import Derived.Test.YtaehpfmnejeddaaGreatDoorF12
import Derived.Test.YtaehpfmnejeddaaGreatDoorF14
import Derived.Test.YtaehpfmnejeddaaGreatDoorOps
import Derived.Test.YtaehpfmnejeddaaGreatDoorRowRows

/- What is asked, as bytes: the program's and the document's ways. -/
namespace Go.Proofs.YtaehpfmnejeddaaGreatDoor.Aev
open Go
set_option linter.unusedVariables false
set_option linter.unusedSimpArgs false
set_option maxRecDepth 100000
abbrev Oq : Type := D_api_Op
structure FewO (o : Oq) : Prop where
 r1 : FewW o.2.2.1
 r2 : FewW o.2.2.2.1
 r3 : FewW o.2.2.2.2.1
 ch : FewCh o.2.2.2.2.2.2.1
theorem few13 (o : Oq) (hf : Fit T_api_Op o) (k : Nat) (hk : 200 ≤ k) : ∃ r, transomlaw13_FewOp.f k o = some r ∧ (r = 0 ∨ FewO o) := by
 obtain ⟨f1, f2, f3, f4, f5, f6, f7, _⟩ := hf
 have h1 := few05 o.2.2.1 k (by omega)
 have h2 := few05 o.2.2.2.1 k (by omega)
 have h3 := few05 o.2.2.2.2.1 k (by omega)
 obtain ⟨r, h4, g4⟩ := few10 o.2.2.2.2.2.2.1 f7 k hk
 have z1 : ((1 : Int) == 0) = false := rfl
 have z0 : ((0 : Int) == 0) = true := rfl
 simp only [transomlaw13_FewOp.f, transomlaw13_FewOp.c, h1, h2, h3, h4, Option.bind_some]
 by_cases c0 : (o.2.1.size : Int) > 500
 ·simp only [c0, decide_true, cond_true]; exact ⟨0, rfl, .inl rfl⟩
 ·simp only [c0, decide_false, cond_false]
  by_cases c1 : o.2.2.1.length ≤ 30 ∧ ∀ v ∈ o.2.2.1, v.2.2.2.1.size ≤ 2000
  ·rw [if_pos c1]
   by_cases c2 : o.2.2.2.1.length ≤ 30 ∧ ∀ v ∈ o.2.2.2.1, v.2.2.2.1.size ≤ 2000
   ·rw [if_pos c2]
    by_cases c3 : o.2.2.2.2.1.length ≤ 30 ∧ ∀ v ∈ o.2.2.2.2.1, v.2.2.2.1.size ≤ 2000
    ·rw [if_pos c3]
     by_cases c4 : r = 0
     ·simp only [z1, c4, z0, cond_false, cond_true]; exact ⟨0, rfl, .inl rfl⟩
     ·simp only [z1, beq_eq_false_iff_ne.2 c4, cond_false]
      exact ⟨1, rfl, .inr { r1 := fit_w f3 c1, r2 := fit_w f4 c2, r3 := fit_w f5 c3, ch := g4.resolve_left c4 }⟩
    ·rw [if_neg c3]; simp only [z1, z0, cond_false, cond_true]; exact ⟨0, rfl, .inl rfl⟩
   ·rw [if_neg c2]; simp only [z1, z0, cond_false, cond_true]; exact ⟨0, rfl, .inl rfl⟩
  ·rw [if_neg c1]; simp only [z1, z0, cond_false, cond_true]; exact ⟨0, rfl, .inl rfl⟩
def badO (o : Oq) : Prop := o.1 < 1 ∨ o.1 > 9 ∨ o.2.2.2.2.2.1 < 0 ∨ o.2.2.2.2.2.1 > 64
instance (o : Oq) : Decidable (badO o) := by unfold badO; infer_instance
noncomputable def opB (o : Oq) : List UInt8 := encL o.1.toNat ++ (tB o.2.1 ++ (tB (rowput o.2.2.1).1 ++ (tB (rowput o.2.2.2.1).1 ++ (tB (rowput o.2.2.2.2.1).1 ++ encL o.2.2.2.2.2.1.toNat))))
noncomputable def putO (o : Oq) : ByteArray × Int :=
 if badO o then (mL [], 1)
 else if longB o.2.1 = true then (mL [], 8)
 else if (rowput o.2.2.1).2 ≠ 0 then (mL [], (rowput o.2.2.1).2)
 else if (rowput o.2.2.2.1).2 ≠ 0 then (mL [], (rowput o.2.2.2.1).2)
 else if (rowput o.2.2.2.2.1).2 ≠ 0 then (mL [], (rowput o.2.2.2.2.1).2)
 else if o.1 ≠ 6 then (mL (opB o), 0)
 else if (putC o.2.2.2.2.2.2.1).2 ≠ 0 then (mL [], (putC o.2.2.2.2.2.2.1).2)
 else (mL (opB o ++ (putC o.2.2.2.2.2.2.1).1.data.toList), 0)
theorem putC_len {c : Ch} (h : FewCh c) : (putC c).1.size ≤ 200000 := by
 unfold putC
 split
 ·simp only [ba_size]; decide
 ·rename_i h0
  obtain ⟨a1, a2, a3, a4, a5, a6, a7, a8, a9, a10, a11⟩ := chkC_0 (c := c) (by simpa using h0)
  obtain ⟨g1, g2, g3⟩ := defS_few h
  have l1 := encL_len (m := c.1.toNat) (by omega)
  have l2 := encL_len (m := c.2.2.2.2.2.2.1.toNat) (by omega)
  have l3 := encL_len (m := c.2.2.2.2.2.2.2.1.length) (by omega)
  have b1 := tB_len (s := c.2.1) (by omega)
  have b2 := tB_len (s := c.2.2.1) (by omega)
  have b3 := tB_len (s := c.2.2.2.1) (by omega)
  have b4 := tB_len (s := c.2.2.2.2.1) (by omega)
  have b5 := tB_len (s := c.2.2.2.2.2.1) (by omega)
  have key : ∀ m : List ByteArray, (∀ s ∈ m, s.size ≤ 16) → (m.flatMap tB).length ≤ m.length * 26 := by
   intro m
   induction m with
   | nil => intro _; simp
   | cons s m ih =>
    intro h
    have h1 := ih fun d hd => h d (List.mem_cons_of_mem _ hd)
    have h2 := h s (List.mem_cons_self ..)
    have h3 := tB_len (s := s) (by omega)
    rw [List.flatMap_cons, List.length_append, List.length_cons]; omega
  have b6 := key _ a11
  have hB : (chB c).length ≤ 1000 := by unfold chB; simp only [List.length_append]; omega
  split
  ·split
   ·simp only [ba_size]; decide
   ·rename_i h1
    have := tabB_len g2 g3 (by simpa using h1)
    simp only [ba_size, List.length_append]; omega
  ·simp only [ba_size]; omega
theorem ba_self (s : ByteArray) : mL s.data.toList = s := (ba_of s).symm
theorem putO_f {o : Oq} (h : FewO o) (k : Nat) (hk : 9000 ≤ k) : ops_Put.f k o = some (putO o) := by
 obtain ⟨k, rfl⟩ : ∃ q, k = q + 1 + 1 := ⟨k - 2, by omega⟩
 have t : ∀ j, ops_lists.f0 j o = some o := fun j => rfl
 simp only [ops_Put.f, ops_Put.c]
 unfold putO
 by_cases hb : badO o
 ·rw [if_pos hb]
  by_cases h0 : o.1 < 1
  ·simp only [h0, decide_true, cond_true, ops_Put.s0, ops_Put.s0c, Option.bind_some]
  ·by_cases h1 : o.1 > 9
   ·simp only [h0, h1, decide_true, decide_false, cond_true, cond_false, ops_Put.s0, ops_Put.s0c, Option.bind_some]
   ·by_cases h2 : o.2.2.2.2.2.1 < 0
    ·simp only [h0, h1, h2, decide_true, decide_false, cond_true, cond_false, ops_Put.s0, ops_Put.s0c, Option.bind_some]
    ·have h3 : o.2.2.2.2.2.1 > 64 := by unfold badO at hb; omega
     simp only [h0, h1, h2, h3, decide_true, decide_false, cond_true, cond_false, ops_Put.s0, ops_Put.s0c, Option.bind_some]
 ·rw [if_neg hb]
  unfold badO at hb
  have h0 : ¬ o.1 < 1 := by omega
  have h1 : ¬ o.1 > 9 := by omega
  have h2 : ¬ o.2.2.2.2.2.1 < 0 := by omega
  have h3 : ¬ o.2.2.2.2.2.1 > 64 := by omega
  simp only [h0, h1, h2, h3, decide_false, cond_false, ops_Put.s0, ops_Put.s0c, long_f, Option.bind_some, Option.bind_fun_some]
  cases hl : longB o.2.1 with
  | true => simp only [cond_true, if_true]
  | false =>
   have htb : o.2.1.size ≤ 16 := by unfold longB at hl; have := of_decide_eq_false hl; omega
   obtain ⟨n, hn⟩ := Int.eq_ofNat_of_zero_le (show 0 ≤ o.1 by omega)
   obtain ⟨y, hy⟩ := Int.eq_ofNat_of_zero_le (show 0 ≤ o.2.2.2.2.2.1 by omega)
   have u1 := uint_f (m := n) (k := k) (by omega) (by omega)
   have u2 := uint_f (m := y) (k := k) (by omega) (by omega)
   have w1 : IntKind.wrap .u64 o.1 = (n : Int) := by rw [hn]; exact u64w (by omega) (by omega)
   have w2 : IntKind.wrap .u64 o.2.2.2.2.2.1 = (y : Int) := by rw [hy]; exact u64w (by omega) (by omega)
   have l1 := encL_len (m := n) (by omega)
   have l2 := encL_len (m := y) (by omega)
   have p1 := rowsPut_eq h.r1 k (by omega)
   have p2 := rowsPut_eq h.r2 k (by omega)
   have p3 := rowsPut_eq h.r3 k (by omega)
   have s1 := rowput_len h.r1
   have s2 := rowput_len h.r2
   have s3 := rowput_len h.r3
   have b0 := tB_len (s := o.2.1) (by omega)
   have b1 := tB_len (s := (rowput o.2.2.1).1) (by omega)
   have b2 := tB_len (s := (rowput o.2.2.2.1).1) (by omega)
   have b3 := tB_len (s := (rowput o.2.2.2.2.1).1) (by omega)
   have pc := putC_f h.ch k (by omega)
   have sc := putC_len h.ch
   simp (disch := (first | omega | (simp only [List.length_append]; omega))) only [cond_false, Bool.false_eq_true, if_false, ops_Put.s1, ops_Put.s1c, w1, w2, u1, u2, t, ptext, p1, p2, p3, ba_append, ba_size, List.length_append, le62, Bool.and_self, cond_true, Option.bind_some, Option.bind_fun_some]
   by_cases c1 : (rowput o.2.2.1).2 = 0
   ·by_cases c2 : (rowput o.2.2.2.1).2 = 0
    ·by_cases c3 : (rowput o.2.2.2.2.1).2 = 0
     ·have hB : opB o = encL n ++ (tB o.2.1 ++ (tB (rowput o.2.2.1).1 ++ (tB (rowput o.2.2.2.1).1 ++ (tB (rowput o.2.2.2.2.1).1 ++ encL y)))) := by
       unfold opB; rw [hn, hy, Int.toNat_natCast, Int.toNat_natCast]
      by_cases c4 : o.1 = 6
      ·have e1 : ((n : Int) != 6) = false := by rw [← hn, c4]; rfl
       simp only [c1, c2, c3, c4, bne_self_eq_false, cond_false, ne_eq, not_true_eq_false, if_false, pc, Option.bind_some]
       by_cases c5 : (putC o.2.2.2.2.2.2.1).2 = 0
       ·have hcat : ∀ l : List UInt8, mL l ++ (putC o.2.2.2.2.2.2.1).1 = mL (l ++ (putC o.2.2.2.2.2.2.1).1.data.toList) := fun l => by
         conv => lhs; rw [← ba_self (putC o.2.2.2.2.2.2.1).1]
         rw [ba_append]
        simp (disch := omega) only [c5, bne_self_eq_false, cond_false, not_true_eq_false, if_false, hcat, le62, Bool.and_self, cond_true]
        rw [hB]
        simp only [List.append_assoc]
       ·simp only [bne_iff_ne.2 c5, c5, not_false_eq_true, if_true, cond_true]
      ·simp only [c1, c2, c3, bne_self_eq_false, cond_false, ne_eq, not_true_eq_false, if_false, bne_iff_ne.2 c4, c4, not_false_eq_true, if_true, cond_true]
       rw [hB]
       simp only [List.append_assoc]
     ·simp only [c1, c2, bne_self_eq_false, cond_false, ne_eq, not_true_eq_false, if_false, bne_iff_ne.2 c3, c3, not_false_eq_true, if_true, cond_true]
    ·simp only [c1, bne_self_eq_false, cond_false, ne_eq, not_true_eq_false, if_false, bne_iff_ne.2 c2, c2, not_false_eq_true, if_true, cond_true]
   ·simp only [bne_iff_ne.2 c1, c1, ne_eq, not_false_eq_true, if_true, cond_true]
end Go.Proofs.YtaehpfmnejeddaaGreatDoor.Aev
