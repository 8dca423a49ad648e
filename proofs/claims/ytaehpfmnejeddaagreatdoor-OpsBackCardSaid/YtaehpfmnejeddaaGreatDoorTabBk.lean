import Derived.Test.YtaehpfmnejeddaaGreatDoorTabRd
import Derived.Test.YtaehpfmnejeddaaGreatDoorKeyBk

/- Tables that may be are read as they were. -/
namespace Go.Proofs.YtaehpfmnejeddaaGreatDoor.Aev
open Go
set_option linter.unusedVariables false
set_option linter.unusedSimpArgs false
set_option maxRecDepth 100000
def In64 (c : C) : Prop := -9223372036854775808 ≤ c.2.2.2.1.2.1 ∧ c.2.2.2.1.2.1 ≤ 9223372036854775807
theorem fit_in {l : List C} (h : Fit (.sl T_api_Col) l) : ∀ c ∈ l, In64 c := by
 intro c hc
 obtain ⟨_, h3⟩ := h
 obtain ⟨_, _, _, ⟨_, f4, _⟩, _⟩ := h3 c hc
 exact fit_i64 f4
theorem flag_nat (b : Bool) : ¬ 1 < (flagB b).toNat ∧ (((flagB b).toNat : Int) == 1) = b := by cases b <;> decide
theorem colR_back {c : C} (h : FewC c) (hi : In64 c) (hz : c.1.size ≤ 2000 ∧ c.2.2.2.1.2.2.2.1.size ≤ 2000) (h0 : colS c = 0) (r : List UInt8) : colR (colB c ++ r) = (c, r, 0) := by
 obtain ⟨a1, a2, a3⟩ := colS_0 h0
 obtain ⟨n, hn, hn2⟩ := h
 have hv : checkS c.2.2.2.1.1 c.2.2.2.1.2.1 n (mL c.2.2.2.1.2.2.2.1.data.toList) = 0 := by
  have a4 := a3
  unfold vchk at a4; rw [hn] at a4; rw [mL, ← ba_of c.2.2.2.1.2.2.2.1]; exact a4
 have hb : kb c.2.2.2.1 = kputI c.2.2.2.1.1 c.2.2.2.1.2.1 n c.2.2.2.1.2.2.2.1.data.toList := by unfold kb; rw [hn]; rfl
 have hk := (kread_back hn2 hi hv).1 r
 rw [← hb] at hk
 have e : colB c ++ r = encL c.1.data.toList.length ++ c.1.data.toList ++ (encL c.2.1.toNat ++ (flagB c.2.2.1 :: ((kb c.2.2.2.1).map b8 ++ r))) := by
  unfold colB
  simp only [List.append_assoc, List.cons_append, List.nil_append]
  rfl
 have ht := rdT_enc (s := c.1.data.toList) (by rw [← size_eq]; omega) (encL c.2.1.toNat ++ (flagB c.2.2.1 :: ((kb c.2.2.2.1).map b8 ++ r)))
 have hu := rdL_enc (m := c.2.1.toNat) (by omega) (flagB c.2.2.1 :: ((kb c.2.2.2.1).map b8 ++ r))
 obtain ⟨g1, g2⟩ := flag_nat c.2.2.1
 rw [e]
 unfold colR
 rw [ht]
 simp only [ne_eq, not_true, if_false]
 unfold colR2
 rw [hu]
 have g3 : ¬ 100 < c.2.1.toNat := by omega
 simp only [ne_eq, not_true, if_false, g3, colR3, g1, hk, colV, g2]
 obtain ⟨nm, kd, nl, ⟨v0, v1, v2, v3, ⟨⟩⟩, ⟨⟩⟩ := c
 simp only at hn a1 ⊢
 subst hn
 have e1 : ((kd.toNat : Nat) : Int) = kd := by omega
 rw [e1, mL, mL, ← ba_of nm, ← ba_of v3]
theorem colsR_back : ∀ (l : List C), (∀ c ∈ l, FewC c ∧ In64 c ∧ (c.1.size ≤ 2000 ∧ c.2.2.2.1.2.2.2.1.size ≤ 2000) ∧ colS c = 0) → ∀ r, colsR l.length (l.flatMap colB ++ r) = (l, r, 0)
 | [], _, r => rfl
 | c :: l, h, r => by
  obtain ⟨h1, h2, h3, h4⟩ := h c (by simp)
  have ih := colsR_back l (fun d hd => h d (by simp [hd])) r
  rw [List.flatMap_cons, List.append_assoc, List.length_cons]
  simp only [colsR, colR_back h1 h2 h3 h4, ih, ne_eq, not_true, if_false]
theorem tabR_back (nm : ByteArray) (a : Int) (l : List C) (hn : nm.size ≤ 2000) (h : ∀ c ∈ l, FewC c ∧ In64 c ∧ (c.1.size ≤ 2000 ∧ c.2.2.2.1.2.2.2.1.size ≤ 2000)) (h0 : tabS nm a l = 0) (r : List UInt8) : tabR (tabB nm a l ++ r) = (nm, a, l, mL r, 0) := by
 obtain ⟨hc, a1, a2, a3⟩ := tabS_0 h0
 have e : tabB nm a l ++ r = encL nm.data.toList.length ++ nm.data.toList ++ (encL a.toNat ++ (encL l.length ++ (l.flatMap colB ++ r))) := by
  unfold tabB headB
  simp only [List.append_assoc]
  rfl
 have ht := rdT_enc (s := nm.data.toList) (by rw [← size_eq]; omega) (encL a.toNat ++ (encL l.length ++ (l.flatMap colB ++ r)))
 have hu := rdL_enc (m := a.toNat) (by omega) (encL l.length ++ (l.flatMap colB ++ r))
 have hu2 := rdL_enc (m := l.length) (by omega) (l.flatMap colB ++ r)
 have hcs := colsR_back l (fun c hm => ⟨(h c hm).1, (h c hm).2.1, (h c hm).2.2, colsS_0 hc c hm⟩) r
 have g1 : ¬ 100 < a.toNat := by omega
 have g2 : ¬ 8 < l.length := by omega
 have e1 : ((a.toNat : Nat) : Int) = a := by omega
 have e2 : mL nm.data.toList = nm := (ba_of nm).symm
 rw [e]
 unfold tabR
 simp only [ht, hu, hu2, hcs, ne_eq, not_true, if_false, g1, g2, fin, e1, e2, List.nil_append, h0]
end Go.Proofs.YtaehpfmnejeddaaGreatDoor.Aev
