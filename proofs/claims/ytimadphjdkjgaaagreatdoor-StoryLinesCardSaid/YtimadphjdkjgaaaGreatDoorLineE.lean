
/- Steps as lines: where there is an error there is no text; changes' words. -/
import Derived.Test.YtimadphjdkjgaaaGreatDoorF2
import Derived.Test.YtimadphjdkjgaaaGreatDoorF7
import Derived.Test.YtimadphjdkjgaaaGreatDoorF10
import Derived.Test.YtimadphjdkjgaaaGreatDoorLineT
namespace Go.Proofs.YtimadphjdkjgaaaGreatDoor.Aev
open Go
set_option linter.unusedVariables false
set_option linter.unusedSimpArgs false
set_option maxRecDepth 100000
theorem fin_err {r : Option (ByteArray × Int)} {t : ByteArray × Int} (h : (r.bind fun r0 => (bif (r0.2 != (0 : Int)) then (some ((ByteArray.mk (List.toArray []) : ByteArray), r0.2)) else (some (r0.1, (0 : Int))))) = some t) (he : t.2 ≠ 0) : t.1 = mkW [] := by
  obtain ⟨r0, h1, h2⟩ := Option.bind_eq_some_iff.1 h
  cases hb : (r0.2 != (0 : Int)) with
  | true => rw [hb] at h2; cases h2; rfl
  | false => rw [hb] at h2; cases h2; exact absurd rfl he
theorem more_err {r t : Option (ByteArray × Int)} {u : ByteArray × Int} (h : (r.bind fun r1 => (bif (r1.2 == (0 : Int)) then (t.bind fun r2 => (bif ((decide (r1.1.size ≤ 4611686018427387903)) && (decide (r2.1.size ≤ 4611686018427387903))) then (bif (r2.2 != (0 : Int)) then (some ((ByteArray.mk (List.toArray []) : ByteArray), r2.2)) else (some ((r1.1 ++ r2.1), (0 : Int)))) else none)) else (bif (r1.2 != (0 : Int)) then (some ((ByteArray.mk (List.toArray []) : ByteArray), r1.2)) else (some (r1.1, (0 : Int)))))) = some u) (he : u.2 ≠ 0) : u.1 = mkW [] := by
  obtain ⟨r1, h1, h2⟩ := Option.bind_eq_some_iff.1 h
  cases hb : (r1.2 == (0 : Int)) with
  | true =>
    rw [hb] at h2
    obtain ⟨r2, h3, h4⟩ := Option.bind_eq_some_iff.1 h2
    cases hg : ((decide (r1.1.size ≤ 4611686018427387903)) && (decide (r2.1.size ≤ 4611686018427387903))) with
    | true =>
      rw [hg] at h4
      cases hc : (r2.2 != (0 : Int)) with
      | true => rw [hc] at h4; cases h4; rfl
      | false => rw [hc] at h4; cases h4; exact absurd rfl he
    | false => rw [hg] at h4; cases h4
  | false =>
    rw [hb] at h2
    cases hc : (r1.2 != (0 : Int)) with
    | true => rw [hc] at h2; cases h2; rfl
    | false => rw [hc] at h2; cases h2; exact absurd rfl he
theorem rchange_err {c : Ch} {k : Nat} {t : ByteArray × Int} (h : transomref37_Change.f k c = some t) (he : t.2 ≠ 0) : t.1 = mkW [] := by
  simp only [transomref37_Change.f, transomref37_Change.c] at h
  by_cases q1 : c.1 = 1
  · rw [beq_iff_eq.2 q1, cond_true] at h; exact fin_err h he
  · rw [beq_eq_false_iff_ne.2 q1, cond_false] at h
    by_cases q2 : c.1 = 2
    · rw [beq_iff_eq.2 q2, cond_true] at h; exact more_err h he
    · rw [beq_eq_false_iff_ne.2 q2, cond_false] at h
      by_cases q3 : c.1 = 3
      · rw [beq_iff_eq.2 q3, cond_true] at h; exact fin_err h he
      · rw [beq_eq_false_iff_ne.2 q3, cond_false] at h
        by_cases q4 : c.1 = 4
        · rw [beq_iff_eq.2 q4, cond_true] at h; exact more_err h he
        · rw [beq_eq_false_iff_ne.2 q4, cond_false] at h
          by_cases q5 : c.1 = 5
          · rw [beq_iff_eq.2 q5, cond_true] at h; exact fin_err h he
          · rw [beq_eq_false_iff_ne.2 q5, cond_false] at h
            by_cases q6 : c.1 = 6
            · rw [beq_iff_eq.2 q6, cond_true] at h; exact fin_err h he
            · rw [beq_eq_false_iff_ne.2 q6, cond_false] at h
              cases h; rfl
theorem rline_err {s : Sp} {k : Nat} {t : ByteArray × Int} (h : transomref37_Line.f (k + 2) s = some t) (he : t.2 ≠ 0) : t.1 = mkW [] := by
  have S1 : ∀ {t}, transomref37_Line.s1 (k + 1) s = some t → t.2 ≠ 0 → t.1 = mkW [] := by
    intro t h he
    simp only [transomref37_Line.s1, transomref37_Line.s1c] at h
    obtain ⟨r0, h1, h2⟩ := Option.bind_eq_some_iff.1 h
    cases hb : (r0.2 != (0 : Int)) with
    | true => rw [hb] at h2; cases h2; rfl
    | false =>
      rw [hb, cond_false] at h2
      cases hc : (s.1 == (2 : Int)) with
      | true =>
        rw [hc, cond_true] at h2
        cases hd : (true && (decide (r0.1.size ≤ 4611686018427387903))) with
        | true => rw [hd] at h2; cases h2; exact absurd rfl he
        | false => rw [hd] at h2; cases h2
      | false =>
        rw [hc, cond_false] at h2
        obtain ⟨r1, h3, h4⟩ := Option.bind_eq_some_iff.1 h2
        cases hd : (r1.2 != (0 : Int)) with
        | true => rw [hd] at h4; cases h4; rfl
        | false =>
          rw [hd, cond_false] at h4
          revert h4
          generalize (true && (decide (r0.1.size ≤ 4611686018427387903))) = b1
          generalize ((decide ((ByteArray.size ((ByteArray.mk (List.toArray [(97 : UInt8), (115 : UInt8), (107 : UInt8)])) ++ r0.1)) ≤ 4611686018427387903)) && true) = b2
          generalize ((decide ((ByteArray.size (((ByteArray.mk (List.toArray [(97 : UInt8), (115 : UInt8), (107 : UInt8)])) ++ r0.1) ++ (ByteArray.mk (List.toArray [(32 : UInt8)])))) ≤ 4611686018427387903)) && (decide (r1.1.size ≤ 4611686018427387903))) = b3
          intro h4
          cases b1 <;> cases b2 <;> cases b3 <;> first | (cases h4; done) | (cases h4; exact absurd rfl he)
  have S0 : ∀ {b t}, transomref37_Line.s0 (k + 2) b s = some t → t.2 ≠ 0 → t.1 = mkW [] := by
    intro b t h he
    simp only [transomref37_Line.s0, transomref37_Line.s0c, Option.bind_fun_some] at h
    cases b with
    | true => exact S1 h he
    | false => cases h; rfl
  simp only [transomref37_Line.f, transomref37_Line.c, Option.bind_fun_some] at h
  revert h
  cases (s.1 == (3 : Int)) with
  | true => intro h; cases h; exact absurd rfl he
  | false =>
    cases (s.1 == (4 : Int)) with
    | true => intro h; cases h; exact absurd rfl he
    | false =>
      cases (s.1 == (5 : Int)) with
      | true => intro h; cases h; exact absurd rfl he
      | false =>
        cases (s.1 == (6 : Int)) with
        | true => intro h; cases h; exact absurd rfl he
        | false =>
          intro h
          simp only [cond_false] at h
          cases hb : (s.1 == (1 : Int)) with
          | true => rw [hb] at h; exact S0 (b := true) h he
          | false => rw [hb] at h; simp only [cond_false] at h; exact S0 h he
end Go.Proofs.YtimadphjdkjgaaaGreatDoor.Aev
