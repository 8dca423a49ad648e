import Derived.Test.YtaehpfmnejeddaaGreatDoorOpsRead
import Derived.Test.YtaehpfmnejeddaaGreatDoorTabBk
/- What is asked, as bytes, is read as what asks the same. -/
namespace Go.Proofs.YtaehpfmnejeddaaGreatDoor.Aev
open Go
set_option linter.unusedVariables false
set_option linter.unusedSimpArgs false
set_option maxRecDepth 100000
theorem numS_enc {lo hi m : Nat} (h : lo ≤ m) (h' : m ≤ hi) (hm : m ≤ 1000000) (r : List UInt8) : numS lo hi (encL m ++ r) = (m, r, 0) := by
 have e := rdL_enc (m := m) (by omega) r
 have h1 : (rdL (encL m ++ r) 0 0).2.2 = 0 := by rw [e]
 rw [numS_in h1 (by rw [e]; simp only; omega), e]
theorem rdT_tB {s : ByteArray} (h : s.size ≤ 1000000) (r : List UInt8) : rdT (tB s ++ r) = (s.data.toList, r, 0) := by
 have e := rdT_enc (s := s.data.toList) (by rw [← size_eq]; omega) r
 unfold tB
 rw [size_eq]; exact e
theorem txR_tB : ∀ (ts : List ByteArray), (∀ s ∈ ts, s.size ≤ 1000000) → ∀ r, txR ts.length (ts.flatMap tB ++ r) = (ts, r, 0)
 | [], _, r => rfl
 | s :: ts, h, r => by
  have h1 := rdT_tB (h s (List.mem_cons_self ..)) (ts.flatMap tB ++ r)
  have h2 := txR_tB ts (fun t ht => h t (List.mem_cons_of_mem _ ht)) r
  rw [List.flatMap_cons, List.append_assoc, List.length_cons]
  conv => lhs; unfold txR
  rw [h1]
  simp only [ne_eq, not_true_eq_false, if_false, h2, ba_self]
theorem rowS_tB {v : List V} (hv : FewW v) (h : (rowput v).2 = 0) (r : List UInt8) : rowS (tB (rowput v).1 ++ r) = (v, r, 0) := by
 have hl := rowput_len hv
 have h1 := rdT_tB (s := (rowput v).1) (by omega) r
 have h2 := readRow_back hv h
 unfold rowS
 rw [h1]
 simp only [ne_eq, not_true_eq_false, if_false, h2]
structure Ch64 (c : Ch) : Prop where
 col : In64 c.2.2.2.2.2.2.2.2.1
 dc : ∀ d ∈ c.2.2.2.2.2.2.2.2.2.1.2.2.1, In64 d
theorem fit_ch {c : Ch} (h : Fit T_api_Change c) : Ch64 c := by
 obtain ⟨f1, f2, f3, f4, f5, f6, f7, f8, f9, f10, _⟩ := h
 obtain ⟨_, _, _, ⟨_, v, _⟩, _⟩ := f9
 exact { col := fit_i64 v, dc := fit_in f10.2.2.1 }
noncomputable def backC (c : Ch) : Ch :=
 if c.1 = 1 then chOf c.1 c.2.1 c.2.2.1 c.2.2.2.1 c.2.2.2.2.1 c.2.2.2.2.2.1 c.2.2.2.2.2.2.1 c.2.2.2.2.2.2.2.1 c0 (c.2.2.2.2.2.2.2.2.2.1.1, c.2.2.2.2.2.2.2.2.2.1.2.1, c.2.2.2.2.2.2.2.2.2.1.2.2.1, ())
 else if c.1 = 2 then chOf c.1 c.2.1 c.2.2.1 c.2.2.2.1 c.2.2.2.2.1 c.2.2.2.2.2.1 c.2.2.2.2.2.2.1 c.2.2.2.2.2.2.2.1 c.2.2.2.2.2.2.2.2.1 (mL [], 0, [], ())
 else chOf c.1 c.2.1 c.2.2.1 c.2.2.2.1 c.2.2.2.2.1 c.2.2.2.2.2.1 c.2.2.2.2.2.2.1 c.2.2.2.2.2.2.2.1 c0 (mL [], 0, [], ())
theorem putC_backC (c : Ch) : putC (backC c) = putC c := by
 have h1 : chkC (backC c) = chkC c := by
  unfold backC
  split
  ·rfl
  ·split <;> rfl
 have h2 : chB (backC c) = chB c := by
  unfold backC
  split
  ·rfl
  ·split <;> rfl
 have h3 : defS (backC c) = defS c := by
  unfold backC
  by_cases k1 : c.1 = 1
  ·rw [if_pos k1]; unfold defS; rw [if_pos k1]; simp only [k1, if_true]
  ·rw [if_neg k1]
   by_cases k2 : c.1 = 2
   ·rw [if_pos k2]; unfold defS; rw [if_neg k1, if_pos k2]; simp only [k2]; rfl
   ·rw [if_neg k2]; unfold defS; rw [if_neg k1, if_neg k2]; simp only [k1, k2, if_false]
 unfold putC
 rw [h1, h2, h3]
theorem few_backC {c : Ch} (h : FewCh c) : FewCh (backC c) := by
 unfold backC
 split
 ·exact { cn := by show (mL []).size ≤ 500; rw [ba_size]; decide, col := ⟨⟨0, rfl, by decide⟩, by show (mL []).size ≤ 2000; rw [ba_size]; decide⟩, dn := h.dn, dc := h.dc }
 ·split
  ·exact { cn := h.cn, col := h.col, dn := by show (mL []).size ≤ 500; rw [ba_size]; decide, dc := ⟨⟨by simp, by simp⟩, by simp [fewB]⟩ }
  ·exact few_z _ _ _ _ _ _ _ _
theorem fin_back {c c' : Ch} (h0 : (putC c).2 = 0) (e : putC c' = putC c) (b : List UInt8) : finC ((putC c).1.data.toList ++ b) c' b = (c', mL b, 0) := by
 unfold finC
 rw [if_neg]
 rw [e]
 rintro (h | h)
 ·exact h h0
 ·apply h
  have : ((putC c).1.data.toList ++ b).length - b.length = (putC c).1.data.toList.length := by rw [List.length_append]; omega
  rw [this, List.take_left', ba_self]
  rfl
theorem getD5 (a b c d e : ByteArray) : [a, b, c, d, e].getD 0 (mL []) = a ∧ [a, b, c, d, e].getD 1 (mL []) = b ∧ [a, b, c, d, e].getD 2 (mL []) = c ∧ [a, b, c, d, e].getD 3 (mL []) = d ∧ [a, b, c, d, e].getD 4 (mL []) = e := ⟨rfl, rfl, rfl, rfl, rfl⟩
theorem rdC_back {c : Ch} (h : FewCh c) (h64 : Ch64 c) (h0 : (putC c).2 = 0) (b : List UInt8) : rdC ((putC c).1.data.toList ++ b) = (backC c, mL b, 0) := by
 have hk : chkC c = 0 := by
  by_cases e : chkC c = 0
  ·exact e
  ·unfold putC at h0; rw [if_pos e] at h0; exact absurd h0 e
 obtain ⟨a1, a2, a3, a4, a5, a6, a7, a8, a9, a10, a11⟩ := chkC_0 hk
 obtain ⟨g1, g2, g3⟩ := defS_few h
 obtain ⟨d0, d1, d2, d3, d4⟩ := getD5 c.2.1 c.2.2.1 c.2.2.2.1 c.2.2.2.2.1 c.2.2.2.2.2.1
 have hputC : ∃ tb, (putC c).1.data.toList = chB c ++ tb ∧ ((defS c).2.2.2 = true → tabS (defS c).1 (defS c).2.1 (defS c).2.2.1 = 0 ∧ tb = tabB (defS c).1 (defS c).2.1 (defS c).2.2.1) ∧ ((defS c).2.2.2 = false → tb = []) := by
  unfold putC at h0 ⊢
  rw [if_neg (show ¬ chkC c ≠ 0 from fun g => g hk)] at h0 ⊢
  cases k1 : (defS c).2.2.2 with
  | true =>
   rw [k1, if_pos rfl] at h0
   rw [if_pos rfl]
   by_cases k2 : tabS (defS c).1 (defS c).2.1 (defS c).2.2.1 = 0
   ·rw [if_neg (show ¬ tabS (defS c).1 (defS c).2.1 (defS c).2.2.1 ≠ 0 from fun g => g k2)]
    exact ⟨_, rfl, fun _ => ⟨k2, rfl⟩, fun g => by cases g⟩
   ·rw [if_pos k2] at h0; exact absurd h0 k2
  | false =>
   rw [if_neg (by simp)]
   exact ⟨[], (List.append_nil _).symm, fun g => (by cases g), fun _ => rfl⟩
 obtain ⟨tb, ht, t1, t2⟩ := hputC
 have hfin := fun c' e => fin_back (c := c) (c' := c') h0 e b
 have eb := putC_backC c
 rw [ht] at hfin ⊢
 have hl : chB c ++ tb ++ b = encL c.1.toNat ++ ([c.2.1, c.2.2.1, c.2.2.2.1, c.2.2.2.2.1, c.2.2.2.2.2.1].flatMap tB ++ (encL c.2.2.2.2.2.2.1.toNat ++ (encL c.2.2.2.2.2.2.2.1.length ++ (c.2.2.2.2.2.2.2.1.flatMap tB ++ (tb ++ b))))) := by
  unfold chB
  simp only [List.flatMap_cons, List.flatMap_nil, List.append_nil, List.append_assoc]
 have e1 := numS_enc (lo := 1) (hi := 6) (m := c.1.toNat) (by omega) (by omega) (by omega) ([c.2.1, c.2.2.1, c.2.2.2.1, c.2.2.2.2.1, c.2.2.2.2.2.1].flatMap tB ++ (encL c.2.2.2.2.2.2.1.toNat ++ (encL c.2.2.2.2.2.2.2.1.length ++ (c.2.2.2.2.2.2.2.1.flatMap tB ++ (tb ++ b)))))
 have e2 : txR 5 ([c.2.1, c.2.2.1, c.2.2.2.1, c.2.2.2.2.1, c.2.2.2.2.2.1].flatMap tB ++ (encL c.2.2.2.2.2.2.1.toNat ++ (encL c.2.2.2.2.2.2.2.1.length ++ (c.2.2.2.2.2.2.2.1.flatMap tB ++ (tb ++ b))))) = _ := txR_tB [c.2.1, c.2.2.1, c.2.2.2.1, c.2.2.2.2.1, c.2.2.2.2.2.1] (by simp only [List.forall_mem_cons]; exact ⟨by omega, by omega, by omega, by omega, by omega, by simp⟩) _
 have e3 := numS_enc (lo := 0) (hi := 100) (m := c.2.2.2.2.2.2.1.toNat) (by omega) (by omega) (by omega) (encL c.2.2.2.2.2.2.2.1.length ++ (c.2.2.2.2.2.2.2.1.flatMap tB ++ (tb ++ b)))
 have e4 := numS_enc (lo := 0) (hi := 8) (m := c.2.2.2.2.2.2.2.1.length) (by omega) (by omega) (by omega) (c.2.2.2.2.2.2.2.1.flatMap tB ++ (tb ++ b))
 have e5 := txR_tB c.2.2.2.2.2.2.2.1 (fun s hs => by have := a11 s hs; omega) (tb ++ b)
 have n1 : ((c.1.toNat : Nat) : Int) = c.1 := by omega
 have n2 : ((c.2.2.2.2.2.2.1.toNat : Nat) : Int) = c.2.2.2.2.2.2.1 := by omega
 generalize hL : chB c ++ tb ++ b = L at *
 have hstep : rdC L = tailC L c.1 c.2.1 c.2.2.1 c.2.2.2.1 c.2.2.2.2.1 c.2.2.2.2.2.1 c.2.2.2.2.2.2.1 c.2.2.2.2.2.2.2.1 (tb ++ b) := by
  unfold rdC
  rw [hl]
  simp only [e1, e2, e3, e4, e5, ne_eq, not_true_eq_false, if_false, n1, n2, d0, d1, d2, d3, d4]
 rw [hstep]
 unfold tailC backC
 unfold backC at eb
 by_cases k1 : c.1 = 1
 ·have hd : defS c = (c.2.2.2.2.2.2.2.2.2.1.1, c.2.2.2.2.2.2.2.2.2.1.2.1, c.2.2.2.2.2.2.2.2.2.1.2.2.1, true) := by unfold defS; rw [if_pos k1]
  rw [hd] at t1 g1 g2 g3
  obtain ⟨q1, q2⟩ := t1 rfl
  simp only at q1 q2 g1 g2 g3
  have hR := tabR_back c.2.2.2.2.2.2.2.2.2.1.1 c.2.2.2.2.2.2.2.2.2.1.2.1 c.2.2.2.2.2.2.2.2.2.1.2.2.1 g2 (fun d hd => ⟨g1.2 d hd, h64.dc d hd, g3 d hd⟩) q1 b
  rw [if_pos k1] at eb
  rw [if_pos k1, if_pos k1, q2, hR]
  simp only [ne_eq, not_true_eq_false, if_false]
  exact hfin _ eb
 ·rw [if_neg k1] at eb
  rw [if_neg k1, if_neg k1]
  by_cases k2 : c.1 = 2
  ·have hd : defS c = (mL [120], 1, [(keyNm c.2.2.2.2.2.2.2.2.1.1, 2, false, (0, 0, 0, mL [], ()), ()), c.2.2.2.2.2.2.2.2.1], true) := by unfold defS; rw [if_neg k1, if_pos k2]
   rw [hd] at t1 g1 g2 g3
   obtain ⟨q1, q2⟩ := t1 rfl
   simp only at q1 q2 g1 g2 g3
   have hR := tabR_back (mL [120]) 1 [(keyNm c.2.2.2.2.2.2.2.2.1.1, 2, false, (0, 0, 0, mL [], ()), ()), c.2.2.2.2.2.2.2.2.1] g2 (fun d hd => ⟨g1.2 d hd, by
    rcases List.mem_cons.1 hd with rfl | hd
    ·exact ⟨(by decide : (-9223372036854775808 : Int) ≤ 0), (by decide : (0 : Int) ≤ 9223372036854775807)⟩
    ·rw [List.mem_singleton.1 hd]; exact h64.col, g3 d hd⟩) q1 b
   rw [if_pos k2] at eb
   rw [if_pos k2, if_pos k2, q2, hR]
   simp only [ne_eq, not_true_eq_false, if_false]
   exact hfin _ eb
  ·have hd : (defS c).2.2.2 = false := by unfold defS; rw [if_neg k1, if_neg k2]
   rw [if_neg k2] at eb
   rw [if_neg k2, if_neg k2, t2 hd, List.nil_append]
   exact hfin _ eb
noncomputable def backO (o : Oq) : Oq := (o.1, o.2.1, o.2.2.1, o.2.2.2.1, o.2.2.2.2.1, o.2.2.2.2.2.1, (if o.1 = 6 then backC o.2.2.2.2.2.2.1 else Z_api_Change), ())
theorem putO_backO (o : Oq) : putO (backO o) = putO o := by
 have hb : badO (backO o) ↔ badO o := Iff.rfl
 have h1 : opB (backO o) = opB o := rfl
 have h2 : o.1 = 6 → putC (backO o).2.2.2.2.2.2.1 = putC o.2.2.2.2.2.2.1 := by
  intro h
  show putC (if o.1 = 6 then backC o.2.2.2.2.2.2.1 else Z_api_Change) = _
  rw [if_pos h]; exact putC_backC _
 unfold putO
 rw [h1]
 by_cases b0 : badO o
 ·rw [if_pos (hb.2 b0), if_pos b0]
 ·rw [if_neg (fun g => b0 (hb.1 g)), if_neg b0]
  show (if longB o.2.1 = true then _ else if (rowput o.2.2.1).2 ≠ 0 then _ else if (rowput o.2.2.2.1).2 ≠ 0 then _ else if (rowput o.2.2.2.2.1).2 ≠ 0 then _ else if o.1 ≠ 6 then _ else _) = _
  by_cases h6 : o.1 = 6
  ·rw [h2 h6]; rfl
  ·rw [if_pos h6, if_pos h6]; rfl
theorem few_backO {o : Oq} (h : FewO o) : FewO (backO o) := by
 have hc : FewCh (if o.1 = 6 then backC o.2.2.2.2.2.2.1 else Z_api_Change) := by
  split
  ·exact few_backC h.ch
  ·exact few_z0
 exact { r1 := h.r1, r2 := h.r2, r3 := h.r3, ch := hc }
theorem finO_back {o o' : Oq} (h0 : (putO o).2 = 0) (e : putO o' = putO o) (b : List UInt8) : finO ((putO o).1.data.toList ++ b) o' b = (o', mL b, 0) := by
 unfold finO
 rw [if_neg]
 rw [e]
 rintro (h | h)
 ·exact h h0
 ·apply h
  have : ((putO o).1.data.toList ++ b).length - b.length = (putO o).1.data.toList.length := by rw [List.length_append]; omega
  rw [this, List.take_left', ba_self]
  rfl
theorem rdO_back {o : Oq} (h : FewO o) (h64 : Ch64 o.2.2.2.2.2.2.1) (h0 : (putO o).2 = 0) (b : List UInt8) : rdO ((putO o).1.data.toList ++ b) = (backO o, mL b, 0) := by
 have hfin := fun o' e => finO_back (o := o) (o' := o') h0 e b
 have eb := putO_backO o
 have key : ¬ badO o ∧ longB o.2.1 = false ∧ (rowput o.2.2.1).2 = 0 ∧ (rowput o.2.2.2.1).2 = 0 ∧ (rowput o.2.2.2.2.1).2 = 0 ∧ (o.1 = 6 → (putC o.2.2.2.2.2.2.1).2 = 0) ∧ (putO o).1.data.toList = opB o ++ (if o.1 = 6 then (putC o.2.2.2.2.2.2.1).1.data.toList else []) := by
  unfold putO at h0 ⊢
  by_cases c0 : badO o
  ·rw [if_pos c0] at h0; cases h0
  ·rw [if_neg c0] at h0 ⊢
   cases c1 : longB o.2.1 with
   | true => rw [c1, if_pos rfl] at h0; cases h0
   | false =>
    rw [c1, if_neg (by simp)] at h0
    rw [if_neg (by simp)]
    by_cases c2 : (rowput o.2.2.1).2 = 0
    ·rw [if_neg (show ¬ (rowput o.2.2.1).2 ≠ 0 from fun g => g c2)] at h0 ⊢
     by_cases c3 : (rowput o.2.2.2.1).2 = 0
     ·rw [if_neg (show ¬ (rowput o.2.2.2.1).2 ≠ 0 from fun g => g c3)] at h0 ⊢
      by_cases c4 : (rowput o.2.2.2.2.1).2 = 0
      ·rw [if_neg (show ¬ (rowput o.2.2.2.2.1).2 ≠ 0 from fun g => g c4)] at h0 ⊢
       by_cases c5 : o.1 = 6
       ·rw [if_neg (show ¬ o.1 ≠ 6 from fun g => g c5)] at h0 ⊢
        by_cases c6 : (putC o.2.2.2.2.2.2.1).2 = 0
        ·rw [if_neg (show ¬ (putC o.2.2.2.2.2.2.1).2 ≠ 0 from fun g => g c6)]
         rw [if_pos c5]
         exact ⟨c0, rfl, c2, c3, c4, fun _ => c6, rfl⟩
        ·rw [if_pos c6] at h0; exact absurd h0 c6
       ·rw [if_pos c5, if_neg c5]
        exact ⟨c0, rfl, c2, c3, c4, fun g => absurd g c5, (List.append_nil _).symm⟩
      ·rw [if_pos c4] at h0; exact absurd h0 c4
     ·rw [if_pos c3] at h0; exact absurd h0 c3
    ·rw [if_pos c2] at h0; exact absurd h0 c2
 obtain ⟨c0, c1, c2, c3, c4, c6, hp⟩ := key
 unfold badO at c0
 have htb : o.2.1.size ≤ 16 := by unfold longB at c1; have := of_decide_eq_false c1; omega
 rw [hp] at hfin ⊢
 generalize hcb : (if o.1 = 6 then (putC o.2.2.2.2.2.2.1).1.data.toList else []) = cb at *
 have hl : opB o ++ cb ++ b = encL o.1.toNat ++ (tB o.2.1 ++ (tB (rowput o.2.2.1).1 ++ (tB (rowput o.2.2.2.1).1 ++ (tB (rowput o.2.2.2.2.1).1 ++ (encL o.2.2.2.2.2.1.toNat ++ (cb ++ b)))))) := by
  unfold opB
  simp only [List.append_assoc]
 have e1 := numS_enc (lo := 1) (hi := 9) (m := o.1.toNat) (by omega) (by omega) (by omega) (tB o.2.1 ++ (tB (rowput o.2.2.1).1 ++ (tB (rowput o.2.2.2.1).1 ++ (tB (rowput o.2.2.2.2.1).1 ++ (encL o.2.2.2.2.2.1.toNat ++ (cb ++ b))))))
 have e2 := rdT_tB (s := o.2.1) (by omega) (tB (rowput o.2.2.1).1 ++ (tB (rowput o.2.2.2.1).1 ++ (tB (rowput o.2.2.2.2.1).1 ++ (encL o.2.2.2.2.2.1.toNat ++ (cb ++ b)))))
 have e3 := rowS_tB h.r1 c2 (tB (rowput o.2.2.2.1).1 ++ (tB (rowput o.2.2.2.2.1).1 ++ (encL o.2.2.2.2.2.1.toNat ++ (cb ++ b))))
 have e4 := rowS_tB h.r2 c3 (tB (rowput o.2.2.2.2.1).1 ++ (encL o.2.2.2.2.2.1.toNat ++ (cb ++ b)))
 have e5 := rowS_tB h.r3 c4 (encL o.2.2.2.2.2.1.toNat ++ (cb ++ b))
 have e6 := numS_enc (lo := 0) (hi := 64) (m := o.2.2.2.2.2.1.toNat) (by omega) (by omega) (by omega) (cb ++ b)
 have n1 : ((o.1.toNat : Nat) : Int) = o.1 := by omega
 have n2 : ((o.2.2.2.2.2.1.toNat : Nat) : Int) = o.2.2.2.2.2.1 := by omega
 generalize hL : opB o ++ cb ++ b = L at *
 have hstep : rdO L = endQ L o.1 o.2.1 o.2.2.1 o.2.2.2.1 o.2.2.2.2.1 o.2.2.2.2.2.1 (cb ++ b) := by
  unfold rdO
  rw [hl]
  simp only [e1, e2, e3, e4, e5, e6, ne_eq, not_true_eq_false, if_false, n1, n2, ba_self]
 rw [hstep]
 unfold endQ
 unfold backO at eb ⊢
 by_cases k : o.1 = 6
 ·rw [if_pos k] at hcb
  have hR := rdC_back h.ch h64 (c6 k) b
  rw [if_pos k] at eb ⊢
  rw [if_pos k, ← hcb, hR]
  simp only [ne_eq, not_true_eq_false, if_false]
  exact hfin _ eb
 ·rw [if_neg k] at hcb
  rw [if_neg k] at eb ⊢
  rw [if_neg k, ← hcb, List.nil_append]
  exact hfin _ eb
theorem sameO_back {o : Oq} (h0 : (putO o).2 = 0) (h : o.1 = 6 → (putC o.2.2.2.2.2.2.1).2 = 0) : sameO o (backO o) = true := by
 have h2 : o.1 = 6 → putC (backO o).2.2.2.2.2.2.1 = putC o.2.2.2.2.2.2.1 := by
  intro h
  show putC (if o.1 = 6 then backC o.2.2.2.2.2.2.1 else Z_api_Change) = _
  rw [if_pos h]; exact putC_backC _
 unfold sameO
 by_cases h6 : o.1 = 6
 ·rw [h2 h6]
  simp [h6, h h6, backO]
 ·simp [h6, backO]
end Go.Proofs.YtaehpfmnejeddaaGreatDoor.Aev
