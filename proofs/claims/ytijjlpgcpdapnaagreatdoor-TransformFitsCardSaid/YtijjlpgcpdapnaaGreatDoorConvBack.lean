import Derived.Test.YtijjlpgcpdapnaaGreatDoorConv

/- What becomes of a value may be; made one of its own kind again it is the value. No program here. -/
namespace Go.Proofs.YtijjlpgcpdapnaaGreatDoor.Aev
open Go
set_option linter.unusedVariables false
set_option linter.unusedSimpArgs false
set_option maxRecDepth 100000
theorem numL_in (l : List UInt8) : -9223372036854775808 ≤ (numL l).1 ∧ (numL l).1 ≤ 9223372036854775807 := by
 have key : ∀ s b, -9223372036854775808 ≤ (numS s b l).1 ∧ (numS s b l).1 ≤ 9223372036854775807 := by
  intro s b
  have := wrapS_in s (valL 0 b)
  unfold numS
  split
  ·split
   ·exact this
   ·simp
  ·simp
 cases l with
 | nil => simp [numL]
 | cons c t =>
  simp only [numL]
  split
  ·split
   ·simp
   ·exact key _ _
  ·split
   ·simp
   ·exact key _ _
theorem numB_l8 {l : List UInt8} (h : l.length = 8) : numB l < 18446744073709551616 := by
 have := numB8_lt l
 rwa [List.take_of_length_le (by omega)] at this
theorem toC_open {a0 a1 : Int} {n : Nat} {s : List UInt8} {t : Int} {p c : Int} {q : Nat} {w : List UInt8} (hne : ¬ (a0 = 0 ∨ a0 = t)) (h : toC a0 a1 n s t = .ok p c q w) :
  checkS a0 a1 n (mkB s) = 0 ∧ canB a0 t = true ∧ (if a0 = 1 then cBool a1 t else if a0 = 2 then cInt a1 t else if a0 = 3 then cReal n t else if a0 = 4 then cBytes s t else cText s t) = .ok p c q w := by
 unfold toC at h
 split at h
 ·simp at h
 ·rename_i hc
  split at h
  ·simp at h
  ·split at h
   ·simp at h
   ·rename_i hb
    exact ⟨by simpa using hc, by simpa using hb, h⟩
theorem toC_no {a0 a1 : Int} {n : Nat} {s : List UInt8} {t e : Int} (h : toC a0 a1 n s t = .no e) : e ≠ 0 := by
 have i : ∀ n t e, cInt n t = .no e → e ≠ 0 := by
  intro n t e h
  unfold cInt at h
  repeat' split at h
  all_goals first | (simp at h; done) | (simp at h; omega)
 unfold toC at h
 split at h
 ·rename_i hc; simp at h; subst h; exact hc
 ·split at h
  ·simp at h; omega
  ·split at h
   ·simp at h
   ·split at h
    ·simp at h; omega
    ·split at h
     ·unfold cBool at h
      split at h
      ·simp at h
      ·exact i _ _ _ h
     ·split at h
      ·exact i _ _ _ h
      ·split at h
       ·unfold cReal at h
        split at h
        ·simp at h
        ·split at h
         ·exact i _ _ _ h
         ·simp at h; omega
       ·split at h
        ·unfold cBytes at h
         repeat' split at h
         all_goals first | (simp at h; done) | (simp at h; omega)
        ·unfold cText at h
         split at h
         ·simp at h
         ·split at h
          ·repeat' split at h
           all_goals first | (simp at h; done) | (simp at h; omega)
          ·split at h
           ·simp at h
           ·rename_i hz; simp at h; subst h; exact hz
/-! ### it may be -/
theorem validU_of {l : List UInt8} (hl : l.length ≤ 100000) {rs : List Int} {b : Bool} (h : Rdc l rs b) : validU l = b := by
 have h1 := valid_f (mkB l) (l.length + 30) (by rw [ba_size]; omega) (by rw [ba_size]; omega)
 have h2 := valid_eq (s := mkB l) (k := l.length + 30) h (by rw [ba_size]; omega) (by rw [ba_size]; omega)
 rw [h1] at h2
 simpa using h2
theorem rd_ascii : ∀ l : List UInt8, (∀ c ∈ l, c.toNat < 128) → ∃ rs, Rdc l rs true
 | [], _ => ⟨[], .nil⟩
 | c :: t, h => by
  obtain ⟨rs, hr⟩ := rd_ascii t (fun d hd => h d (by simp [hd]))
  have hc := h c (by simp)
  have hn : nextS (c :: t) = ((c.toNat : Int), 1, 0) := by
   have hf : firstS c.toNat = (1, c.toNat, 0, 0) := by unfold firstS; rw [if_pos hc]
   simp only [nextS, hf]; rfl
  exact ⟨_, .cons (by simp) hn hr⟩
theorem validU_ascii {l : List UInt8} (hl : l.length ≤ 100000) (h : ∀ c ∈ l, c.toNat < 128) : validU l = true := by
 obtain ⟨rs, hr⟩ := rd_ascii l h
 exact validU_of hl hr
theorem decL_dg (m : Nat) : ∀ c ∈ decL m, 48 ≤ c.toNat ∧ c.toNat ≤ 57 := by
 induction m using Nat.strongRecOn with
 | _ m ih =>
  intro c hc
  by_cases h : m < 10
  ·rw [decL_lt h] at hc; simp at hc; subst hc; rw [dg_nat]; omega
  ·rw [decL_ge h] at hc
   rcases List.mem_append.1 hc with hc | hc
   ·exact ih _ (by omega) c hc
   ·simp at hc; subst hc; rw [dg_nat]; omega
theorem digL_ascii (n : Int) : ∀ c ∈ digL n, c.toNat < 128 := by
 intro c hc
 unfold digL at hc
 split at hc
 ·rcases List.mem_cons.1 hc with rfl | hc
  ·decide
  ·have := decL_dg _ c hc; omega
 ·have := decL_dg _ c hc; omega
theorem canon_wd {n : Int} (h : n.natAbs < 18446744073709551616) : canon (wd n) = wd n := by
 have h1 := near_inf h
 have h2 := (wd_rung h).1
 unfold canon
 rw [if_neg (by rw [h2]; unfold Fl.inf; omega)]
theorem canon_canon (n : Nat) : canon (canon n) = canon n := by
 unfold canon
 split
 ·decide
 ·rfl
theorem chk_ok {t a : Int} {n : Nat} {s : List UInt8} (h1 : 0 ≤ t ∧ t ≤ 5) (h2 : a = 0 ∨ t = 1 ∨ t = 2) (h3 : n = 0 ∨ t = 3) (h4 : s = [] ∨ t = 4 ∨ t = 5) (h5 : t = 1 → a = 0 ∨ a = 1) (h6 : canon n = n) (h7 : s.length ≤ 64) (h8 : t = 5 → validU s = true) : checkS t a n (mkB s) = 0 :=
 check_0.2 ⟨h1, ⟨h2, h3, h4⟩, h5, h6, h7, h8⟩
theorem fits_int {x t : Int} (hx : x.natAbs < 18446744073709551616) (ht : 1 ≤ t ∧ t ≤ 5) (h0 : -9223372036854775808 ≤ x) (h1 : x ≤ 9223372036854775807) {t' b : Int} {m : Nat} {u : List UInt8} (h : cInt x t = .ok t' b m u) : checkS t' b m (mkB u) = 0 ∧ t' = t := by
 unfold cInt at h
 split at h
 ·rename_i q; subst q
  split at h
  ·rename_i q2
   injection h with e1 e2 e3 e4
   subst e1; subst e2; subst e3; subst e4
   exact ⟨chk_ok (by omega) (by omega) (by omega) (Or.inl rfl) (fun _ => q2) canon_0 (by simp) (by omega), rfl⟩
  ·simp at h
 ·split at h
  ·rename_i q; subst q
   split at h
   ·injection h with e1 e2 e3 e4
    subst e1; subst e2; subst e3; subst e4
    exact ⟨chk_ok (by omega) (by omega) (by omega) (Or.inl rfl) (by omega) (canon_wd hx) (by simp) (by omega), rfl⟩
   ·simp at h
  ·split at h
   ·rename_i q; subst q
    injection h with e1 e2 e3 e4
    subst e1; subst e2; subst e3; subst e4
    exact ⟨chk_ok (by omega) (by omega) (by omega) (by omega) (by omega) canon_0 (by rw [eight_len]; omega) (by omega), rfl⟩
   ·split at h
    ·rename_i q; subst q
     injection h with e1 e2 e3 e4
     subst e1; subst e2; subst e3; subst e4
     have hl := (digL_len x h0 h1).1
     exact ⟨chk_ok (by omega) (by omega) (by omega) (by omega) (by omega) canon_0 (by omega) (fun _ => validU_ascii (by omega) (digL_ascii x)), rfl⟩
    ·injection h with e1 e2 e3 e4
     subst e1; subst e2; subst e3; subst e4
     exact ⟨chk_ok (by omega) (by omega) (by omega) (Or.inl rfl) (by omega) canon_0 (by simp) (by omega), rfl⟩
theorem fits_core {a0 a1 : Int} {n : Nat} {s : List UInt8} {t t' b : Int} {m : Nat} {u : List UInt8} (h0 : -9223372036854775808 ≤ a1) (h1 : a1 ≤ 9223372036854775807) (hs : s.length ≤ 100000)
  (h : toC a0 a1 n s t = .ok t' b m u) : checkS t' b m (mkB u) = 0 ∧ (t' = t ∨ (t' = 0 ∧ a0 = 0)) := by
 by_cases hz : a0 = 0 ∨ a0 = t
 ·unfold toC at h
  split at h
  ·simp at h
  ·rename_i hc
   split at h
   ·simp at h
   ·injection h with e1 e2 e3 e4
    subst e1; subst e2; subst e3; subst e4
    exact ⟨by simpa using hc, by omega⟩
 ·have hO := toC_open hz h
  clear h
  obtain ⟨hc, hb, h⟩ := hO
  obtain ⟨⟨p0, p5⟩, ⟨f1, f2, f3⟩, pb, pn, ps, pv⟩ := check_0.1 hc
  simp only [ba_data] at f3 pv
  rw [ba_size] at ps
  have ht : 1 ≤ t ∧ t ≤ 5 := by unfold canB at hb; rw [decide_eq_true_eq] at hb; omega
  suffices checkS t' b m (mkB u) = 0 ∧ t' = t from ⟨this.1, Or.inl this.2⟩
  split at h
  ·rename_i q; subst q
   unfold cBool at h
   split at h
   ·rename_i q; subst q
    injection h with e1 e2 e3 e4
    subst e1; subst e2; subst e3
    have ha : u = tFalse ∨ u = tTrue := by
     split at e4
     ·left; exact e4.symm
     ·right; exact e4.symm
    refine ⟨chk_ok (by omega) (by omega) (by omega) (by omega) (by omega) canon_0 (by rcases ha with rfl | rfl <;> simp) (fun _ => ?_), rfl⟩
    rcases ha with rfl | rfl
    ·exact validU_ascii (by simp) (by decide)
    ·exact validU_ascii (by simp) (by decide)
   ·exact fits_int (by omega) ht h0 h1 h
  ·split at h
   ·exact fits_int (by omega) ht h0 h1 h
   ·split at h
    ·rename_i q; subst q
     unfold cReal at h
     split at h
     ·rename_i q; subst q
      injection h with e1 e2 e3 e4
      subst e1; subst e2; subst e3; subst e4
      exact ⟨chk_ok (by omega) (by omega) (by omega) (by omega) (by omega) canon_0 (by rw [eight_len]; omega) (by omega), rfl⟩
     ·split at h
      ·rename_i hi
       obtain ⟨c0, c1⟩ := toI_in hi
       exact fits_int (by omega) ht c0 c1 h
      ·simp at h
    ·split at h
     ·unfold cBytes at h
      split at h
      ·rename_i q; subst q
       split at h
       ·rename_i hv
        injection h with e1 e2 e3 e4
        subst e1; subst e2; subst e3; subst e4
        exact ⟨chk_ok (by omega) (by omega) (by omega) (by omega) (by omega) canon_0 ps (fun _ => hv), rfl⟩
       ·simp at h
      ·split at h
       ·simp at h
       ·split at h
        ·rename_i q; subst q
         injection h with e1 e2 e3 e4
         subst e1; subst e2; subst e3; subst e4
         exact ⟨chk_ok (by omega) (by omega) (by omega) (Or.inl rfl) (by omega) (canon_canon _) (by simp) (by omega), rfl⟩
        ·rename_i n1 n2 n3 n4 n5
         have h2 : t = 2 := by
          unfold canB at hb; rw [decide_eq_true_eq] at hb; omega
         subst h2
         injection h with e1 e2 e3 e4
         subst e1; subst e2; subst e3; subst e4
         exact ⟨chk_ok (by omega) (by omega) (by omega) (Or.inl rfl) (by omega) canon_0 (by simp) (by omega), rfl⟩
     ·have k5 : a0 = 5 := by unfold canB at hb; rw [decide_eq_true_eq] at hb; omega
      subst k5
      unfold cText at h
      split at h
      ·rename_i q; subst q
       injection h with e1 e2 e3 e4
       subst e1; subst e2; subst e3; subst e4
       exact ⟨chk_ok (by omega) (by omega) (by omega) (by omega) (by omega) canon_0 ps (by omega), rfl⟩
      ·split at h
       ·rename_i q; subst q
        split at h
        ·injection h with e1 e2 e3 e4
         subst e1; subst e2; subst e3; subst e4
         exact ⟨chk_ok (by omega) (by omega) (by omega) (Or.inl rfl) (by omega) canon_0 (by simp) (by omega), rfl⟩
        ·split at h
         ·injection h with e1 e2 e3 e4
          subst e1; subst e2; subst e3; subst e4
          exact ⟨chk_ok (by omega) (by omega) (by omega) (Or.inl rfl) (by omega) canon_0 (by simp) (by omega), rfl⟩
         ·simp at h
       ·split at h
        ·have h2 : t = 2 := by
          unfold canB at hb; rw [decide_eq_true_eq] at hb; omega
         subst h2
         injection h with e1 e2 e3 e4
         subst e1; subst e2; subst e3; subst e4
         exact ⟨chk_ok (by omega) (by omega) (by omega) (Or.inl rfl) (by omega) canon_0 (by simp) (by omega), rfl⟩
        ·simp at h
theorem toC_in {a0 a1 : Int} {n : Nat} {s : List UInt8} {t t' b : Int} {m : Nat} {u : List UInt8} (h0 : -9223372036854775808 ≤ a1) (h1 : a1 ≤ 9223372036854775807) (hn : n < 18446744073709551616) (hs : s.length ≤ 100000)
  (h : toC a0 a1 n s t = .ok t' b m u) : (-9223372036854775808 ≤ b ∧ b ≤ 9223372036854775807) ∧ m < 18446744073709551616 ∧ u.length ≤ 64 := by
 have hf := (fits_core h0 h1 hs h).1
 have hu : u.length ≤ 64 := by have := (check_0.1 hf).2.2.2.2.1; rwa [ba_size] at this
 refine ⟨?_, ?_, hu⟩
 ·have i : ∀ x t, (-9223372036854775808 ≤ x ∧ x ≤ 9223372036854775807) → cInt x t = .ok t' b m u → (-9223372036854775808 ≤ b ∧ b ≤ 9223372036854775807) := by
   intro x t hx h
   unfold cInt at h
   repeat' split at h
   all_goals first | (simp at h; done) | (injection h with e1 e2 e3 e4; omega)
  unfold toC at h
  repeat' split at h
  all_goals first
   | (simp at h; done)
   | (injection h with e1 e2 e3 e4; omega)
   | exact i _ _ ⟨h0, h1⟩ h
   | skip
  ·unfold cBool at h
   split at h
   ·injection h with e1 e2 e3 e4; omega
   ·exact i _ _ ⟨h0, h1⟩ h
  ·unfold cReal at h
   split at h
   ·injection h with e1 e2 e3 e4; omega
   ·split at h
    ·rename_i hi; exact i _ _ (toI_in hi) h
    ·simp at h
  ·unfold cBytes at h
   repeat' split at h
   all_goals first | (simp at h; done) | (injection h with e1 e2 e3 e4; omega) | skip
   rename_i h8 _
   have h8 : s.length = 8 := by simpa using h8
   have := numB_l8 h8
   injection h with e1 e2 e3 e4
   subst e2
   unfold sgn; split <;> omega
  ·unfold cText at h
   have := numL_in s
   repeat' split at h
   all_goals first | (simp at h; done) | (injection h with e1 e2 e3 e4; omega)
 ·have i : ∀ x t, x.natAbs < 18446744073709551616 → cInt x t = .ok t' b m u → m < 18446744073709551616 := by
   intro x t hx h
   have := wd_lt hx
   unfold cInt at h
   repeat' split at h
   all_goals first | (simp at h; done) | (injection h with e1 e2 e3 e4; omega)
  unfold toC at h
  repeat' split at h
  all_goals first
   | (simp at h; done)
   | (injection h with e1 e2 e3 e4; omega)
   | exact i _ _ (by omega) h
   | skip
  ·unfold cBool at h
   split at h
   ·injection h with e1 e2 e3 e4; omega
   ·exact i _ _ (by omega) h
  ·unfold cReal at h
   split at h
   ·injection h with e1 e2 e3 e4; omega
   ·split at h
    ·rename_i hi; have := toI_in hi; exact i _ _ (by omega) h
    ·simp at h
  ·unfold cBytes at h
   repeat' split at h
   all_goals first | (simp at h; done) | (injection h with e1 e2 e3 e4; omega) | skip
   rename_i h8 _
   have h8 : s.length = 8 := by simpa using h8
   have := canon_lt (numB_l8 h8)
   injection h with e1 e2 e3 e4
   omega
  ·unfold cText at h
   repeat' split at h
   all_goals first | (simp at h; done) | (injection h with e1 e2 e3 e4; omega)
end Go.Proofs.YtijjlpgcpdapnaaGreatDoor.Aev
